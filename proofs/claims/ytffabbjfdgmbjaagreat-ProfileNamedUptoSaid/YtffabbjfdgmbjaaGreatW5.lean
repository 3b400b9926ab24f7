/-
  The statements inside one; scopes' counts in the reference.
-/
import Derived.Test.YtffabbjfdgmbjaaGreatW4
import Derived.Test.YtffabbjfdgmbjaaGreatW3
set_option linter.all false
set_option linter.deprecated false
set_option maxHeartbeats 4000000
namespace Go.ah
def OS{p:Prop}(h:p:=by rw [h,h2,h3];rfl):p:=h
end Go.ah
namespace Go.Proofs.B.C
open Go Go.ah
def NK(k:Int):Prop:=k<=15∨k=20
theorem NK.no{k:Int}(h:NK k)(c:Int)(hc:16<=c:=by omega)(h2:c≠20:=by omega):(k==c)=false:=by unfold NK at h;simp;omega
section
variable (f:gp) (L D H A:aE)
def IT(k:Int):Bool:=bif k==16 then true else bif k==17 then true else bif k==18 then true else bif k==19 then true else bif k==15 then true else bif k==11 then true else bif k==12 then true else bif k==22 then true else k==21
def yJ(f:gp):Bool:=bif IT f.kind then true else bif f.kind==9 then decide (0<ln (ints f.Ts))else false
theorem aZW(k:Int):bY aa0 [cu k] (0,[av (IT k)]):=by
 refine bX aEm ?_;refine ax (λh=>ab ?_) λh=>ax (λh2=>ab ?_) λh2=>ax (λh3=>ab ?_) λh3=>ax (λh4=>ab ?_) λh4=>ax (λh5=>ab ?_) λh5=>ax (λh6=>ab ?_) λh6=>ax (λh7=>ab ?_) λh7=>ax (λh8=>ab ?_) λh8=>ab ?_<;>(try simp only [IT,h,bT,bM])<;>(try simp only [h2,bT,bM])<;>(try simp only [h3,bT,bM])<;>(try simp only [h4,bT,bM])<;>(try simp only [h5,bT,bM])<;>(try simp only [h6,bT,bM])<;>(try simp only [h7,bT,bM])<;>(try simp only [h8,bT,bM])
theorem blC:Ev S4 [SF f L D H A] (0,[av (yJ f)]):=by
 refine bj aHB (ae (aZW f.kind) (ax (c:=IT f.kind) (λh=>ab ?_) λh=>ax (c:=f.kind==9) (λg=>ab ?_) λg=>ab ?_))
 ·unfold yJ;rw [h];rfl
 ·unfold yJ;rw [h,g];rfl
 ·unfold yJ;rw [h,g];rfl
end
section
variable {p:PG} {ts:List TK} {ro:List RO} (ct:CT p ts ro) {w:WH} (hw:w.Ok) {cn:aE} (hc:bz (aJ cn)=cn) {lf:Int} (hE:pD)
variable (f:gp) (L D H A:aE)
def D4(k:Int):Bool:=bif k==18 then true else bif k==19 then true else k==21
def H7(w:WH)(f:gp):Bool:=bif decide (0<ln (ints w.kX))then !yJ f else true
def BQ(w:WH)(f:gp):Bool:=
 H7 w f&&bif D4 f.kind then(!w.tO&& !w.sr)else bif f.kind==11 then true else bif f.kind==12 then true else bif !w.sr then true else !yJ f
include hc in
theorem stC:Ev Z7 [aa (aZ 0 w),SF f L D H A,K0 p lf,ay (aP ro),.aj 0 cn] (0,av (BQ w f)::iQ p ro lf cn):=by
 have j6:bY ZK [K0 p lf,ay (aP ro),.aj 0 cn,aa (aZ 0 w),SF f L D H A] (bif H7 w f then(0,[K0 p lf,ay (aP ro),.aj 0 cn,aa (aZ 0 w),SF f L D H A])else(1,[aT,K0 p lf,ay (aP ro),.aj 0 cn,aa (aZ 0 w),SF f L D H A])):=by
  refine bX aAm ?_;rw [hc];refine ax (c:=decide (0<ln (ints w.kX))) (λh=>ae (blC f L D H A) (ax (c:=yJ f) (λg=>ab ?_) λg=>ab ?_)) λh=>ab ?_
  ·unfold H7;rw [h,g];rfl
  ·unfold H7;rw [h,g];rfl
  ·unfold H7;rw [h];rfl
 have ag7:bY Zs [cu f.kind,K0 p lf,ay (aP ro),.aj 0 cn] (0,av (D4 f.kind)::iQ p ro lf cn):=by
  refine bX azi ?_;rw [hc];refine ax (c:=f.kind==18) (λh=>ab ?_) λh=>ax (c:=f.kind==19) (λh2=>ab ?_) λh2=>ab ?_
  ·unfold D4;rw [h];rfl
  ·unfold D4;rw [h,h2];rfl
  ·unfold D4;rw [h,h2];rfl
 let dr:UO:=bif D4 f.kind then(1,[av (!w.tO&& !w.sr),K0 p lf,ay (aP ro),.aj 0 cn,aa (aZ 0 w),SF f L D H A])else bif f.kind==11 then(1,[c5,K0 p lf,ay (aP ro),.aj 0 cn,aa (aZ 0 w),SF f L D H A])else bif f.kind==12 then(1,[c5,K0 p lf,ay (aP ro),.aj 0 cn,aa (aZ 0 w),SF f L D H A])else(0,[K0 p lf,ay (aP ro),.aj 0 cn,aa (aZ 0 w),SF f L D H A])
 have Iv:bY ZA [K0 p lf,ay (aP ro),.aj 0 cn,aa (aZ 0 w),SF f L D H A] dr:=by
  refine bX azI ?_;rw [hc];refine ae ag7 ?_;erw [hc];refine ax (c:=D4 f.kind) (λh=>ax (c:= !w.tO) (λg=>ab ?_) λg=>ab ?_) λh=>ax (c:=f.kind==11) (λg=>ab ?_) λg=>ax (c:=f.kind==12) (λi=>ab ?_) λi=>ab ?_
  ·simp only [dr,h,g,bT,wM];rfl
  ·simp only [dr,h,g,bT,tC];rfl
  ·simp only [dr,h,g,bT,bM];rfl
  ·simp only [dr,h,g,i,bT,bM];rfl
  ·simp only [dr,h,g,i,bM];rfl
 refine bj aBP ?_;rw [hc];refine ae j6 ?_;cases h1:H7 w f with
 |false=>refine bm (ab ?_);erw [hc];unfold BQ;rw [h1];rfl
 |true=>
  refine bh ?_;simp only [bT];erw [hc];refine ae Iv ?_;cases h2:D4 f.kind with
  |true=>
   simp only [dr,h2,bT];refine bm (ab ?_);erw [hc];unfold BQ;rw [h1,h2];rfl
  |false=>
   cases h3:f.kind==11 with
   |true=>
    simp only [dr,h2,h3,bT,bM];refine bm (ab ?_);erw [hc];unfold BQ;rw [h1,h2,h3];rfl
   |false=>
    cases h4:f.kind==12 with
    |true=>
     simp only [dr,h2,h3,h4,bT,bM];refine bm (ab ?_);erw [hc];unfold BQ;rw [h1,h2,h3,h4];rfl
    |false=>
     simp only [dr,h2,h3,h4,bM];refine bh ?_;erw [hc];refine ax (c:= !w.sr) (λh=>ab ?_) λh=>ae (blC f L D H A) (ab ?_)
     ·unfold BQ;rw [h1,h2,h3,h4,h];rfl
     ·unfold BQ;rw [h1,h2,h3,h4,h];rfl
theorem blR(nk:NK f.kind):Ev Tg [SF f L D H A] (0,[av (yJ f)]):=by
 have j:bY abx [SF f L D H A] (bif IT f.kind then(1,[c5,SF f L D H A])else(0,[SF f L D H A])):=by
  unfold IT;rw [nk.no 16,nk.no 17,nk.no 18,nk.no 19,nk.no 22,nk.no 21];exact bX aGA (au (nk.no 16)<|au (nk.no 17)<|au (nk.no 18)<|au (nk.no 19)<|ax (c:=f.kind==15) (λh=>ab (iW)) λh=>ax (c:=f.kind==11) (λh2=>ab (wW)) λh2=>ax (c:=f.kind==12) (λh3=>ab (OS)) λh3=>au (nk.no 22)<|au (nk.no 21)<|ab (OS))
 refine bj aId (ae j ?_);cases h:IT f.kind with
 |true=>exact bm (ab (by unfold yJ;rw [h];rfl))
 |false=>
  refine bh (ax (c:=f.kind==9) (λg=>ab ?_) λg=>ab ?_)
  ·unfold yJ;rw [h,g];rfl
  ·unfold yJ;rw [h,g];rfl
theorem stR(nk:NK f.kind)(h:BQ w f=true):Ev aaI [dY p ts ro w,SF f L D H A] (0,[c5]):=by
 unfold BQ D4 at h;rw [nk.no 18,nk.no 19,nk.no 21]at h;have h:=(bA _ _).mp h;have j6:bY aat [dY p ts ro w,SF f L D H A] (0,[dY p ts ro w,SF f L D H A]):=by
  refine bX aCm (ax (c:=decide (0<ln (ints w.kX))) (λg=>ae (blR f L D H A nk) (au ?_ aD)) λ_=>aD);have:=h.1;unfold H7 at this;rw [g]at this;show yJ f=false;exact uj
 have Iv:bY aac [dY p ts ro w,SF f L D H A] (0,[dY p ts ro w,SF f L D H A]):=
  bX aBG (ax (c:=w.tO) (λ_=>au (nk.no 18)<|au (nk.no 19)<|au (nk.no 21)<|aD) λ_=>ax (c:=w.sr) (λ_=>au (nk.no 18)<|au (nk.no 19)<|au (nk.no 21)<|aD) λ_=>aD)
 refine bj aEo (ae j6 (bh (ae Iv (bh (ax (c:= !w.sr) (λ_=>aD) λhu=>ae (blR f L D H A nk) (ax (c:= !yJ f) (λ_=>aD) λg=>ax (c:=f.kind==11) (λ_=>aD) λi=>ab ?_))))));have h2:=h.2;rw [i,hu,g]at h2;show(0,[av (f.kind==12)])=_;cases a:f.kind==12 with
 |true=>rfl
 |false=>rw [a]at h2;cases h2
end
end Go.Proofs.B.C
namespace Go.ah
def ast{p:Prop}(h:p:=by
 match l,ok with
 | [e],ok=>
   obtain⟨b,h,_⟩:=W9 ct hw hc (lf:=lf) hE e (ok e (by simp));exact⟨b,λe' h'=>by injection h' with h';subst h';exact h⟩
 | [],_=>exact⟨false,λe h=>by cases h⟩
 |_::_::_,_=>exact⟨false,λe h=>by cases h⟩):p:=h
def apD{p:Prop}(h:p:=by refine⟨false,C _ (bh (au hl (ab ?_)))⟩;erw [hc];rfl):p:=h
def aew{p:Prop}(h:p:=by rw [eq_of_beq hl];rfl):p:=h
def apn{p:Prop}(h:p:=by simp only [dr,ht,hm,hb,bT,bM]):p:=h
end Go.ah
namespace Go.Proofs.B.C
open Go Go.ah
def xj(s:CS):Bool:=H6 s.f (s.L.map encS) (s.D.map eu) (s.H.map dj) (s.A.map fa) 1 xz
theorem Hq(s:CS):Ev zV [aa (encS s)] (0,[av (xj s)]):=by rw [OG];exact aOO _ _ _ _ _
theorem aob(l:aE)(k j:Nat):gA (l.drop k) j=gA l (k+j):=by simp [gA,List.getD]
section
variable {p:PG} {ts:List TK} {ro:List RO} (ct:CT p ts ro) {w:WH} (hw:w.Ok) {cn:aE} (hc:bz (aJ cn)=cn) {lf:Int} (hE:pD)
include ct hw hc hE in
theorem aot{f:gp}(hf:f.Ok){n:Nat}(h2:2<=n)(h3:n<=3):∀{Ls:List CS} {D H A:aE},Ls.length=n->∃b,
 Ev Gj [aa (aZ 0 w),SF f (Ls.map encS) D H A,K0 p lf,ay (aP ro),.aj 0 cn] (0,av b::iQ p ro lf cn):=by
 obtain⟨nb,IC⟩:∃nb:Bool,∀e,f.E=[e]->Ev AZ [aa (aZ 0 w),aa (aH e),aa (ep 1 2 p lf),ay (aP ro),.aj 0 cn] (0,av nb::iQ p ro lf cn):=by
  have ok:=hf.E.2;generalize f.E=l at ok;exact ast
 intro Ls D H A hn;have i0:n- 2<Ls.length:=by omega
 have i1:n- 1<Ls.length:=by omega
 let tB:Bool:=xj Ls[n- 2]&&xj Ls[n- 1]
 let tm:Bool:=bif f.mode==2 then true else f.mode==3
 have hk:aU (ln (Ls.map encS)- 2)=((n- 2:Nat):Int):=by rw [c9,hn,mi (by omega) (by omega)];omega
 have g0:aF fC 0 (gA ((Ls.map encS).drop (n- 2)) 0)=encS Ls[n- 2]:=by rw [aob,CB,wR i0,kZ]
 have g1:aF fC 0 (gA ((Ls.map encS).drop (n- 2)) 1)=encS Ls[n- 1]:=by
  rw [aob,show n- 2+1=n- 1 by omega,wR i1,kZ]
 have ag7:bY Zz [cu f.mode,K0 p lf,ay (aP ro),.aj 0 cn] (0,av tm::iQ p ro lf cn):=by
  refine bX azH ?_;rw [hc];refine ax (c:=f.mode==2) (λh=>ab ?_) λh=>ab ?_
  ·simp only [tm,h,bT];rfl
  ·simp only [tm,h,bM];rfl
 let dr:UO:=bif tm then(0,[iI 1,K0 p lf,ay (aP ro),.aj 0 cn,SF f (Ls.map encS) D H A])else bif f.mode==0 then bif tB then(0,[iI 0,K0 p lf,ay (aP ro),.aj 0 cn,SF f (Ls.map encS) D H A])else(1,[aT,K0 p lf,ay (aP ro),.aj 0 cn,SF f (Ls.map encS) D H A])else bif f.mode==1 then(0,[iI 0,K0 p lf,ay (aP ro),.aj 0 cn,SF f (Ls.map encS) D H A])else(1,[aT,K0 p lf,ay (aP ro),.aj 0 cn,SF f (Ls.map encS) D H A])
 have Iv:bY ZJ [iI 0,K0 p lf,ay (aP ro),.aj 0 cn,SF f (Ls.map encS) D H A] dr:=by
  refine bX aAl ?_;rw [hc];refine ae ag7 ?_;erw [hc];refine ax (c:=tm) (λh=>ab (by simp only [dr,h,bT];rfl)) λh=>ax (c:=f.mode==0) (λg=> ?_) λg=>ax (c:=f.mode==1) (λi=>ab (by simp only [dr,h,g,i,bT,bM];rfl)) λi=>ab (by simp only [dr,h,g,i,bM];rfl)
  ·have uV:gR (fX f (Ls.map encS) D H A) 17=Ls.map encS:=rfl;refine az (c:=decide (0<=aU (ln (Ls.map encS)- 2))&&decide (aU (ln (Ls.map encS)- 2)<=ln (Ls.map encS))&&decide (ln (Ls.map encS)<=ln (Ls.map encS))&&decide (ln (Ls.map encS)<=ln (Ls.map encS))) (by rw [hk,c9,hn];simp<;>omega) ?_;refine az (c:=decide (0<ln ((Ls.map encS).drop (aU (ln (Ls.map encS)- 2)).toNat))) (by rw [hk];simp [ln,hn]<;>omega) ?_;have n0:Ev zV [aa (aF fC 0 (gA ((Ls.map encS).drop (aU (ln (Ls.map encS)- 2)).toNat) 0))] (0,[av (xj Ls[n- 2])]):=by rw [hk,ow,g0];exact Hq _
   have n1:Ev zV [aa (aF fC 0 (gA ((Ls.map encS).drop (aU (ln (Ls.map encS)- 2)).toNat) 1))] (0,[av (xj Ls[n- 1])]):=by rw [hk,ow,g1];exact Hq _
   refine ae n0 (ax (c:= !xj Ls[n- 2]) (λi=>ab ?_) λi=>az (c:=decide (1<ln ((Ls.map encS).drop (aU (ln (Ls.map encS)- 2)).toNat))) (by rw [hk];simp [ln,hn]<;>omega) (ae n1 (ax (c:= !xj Ls[n- 1]) (λj=>ab ?_) λj=>ab ?_)))
   ·simp only [iy]at i;simp only [dr,tB,h,g,i,bT,bM,tC];rfl
   ·simp only [iy,iS]at i j;simp only [dr,tB,h,g,i,j,bT,bM,wM];rfl
   ·simp only [iS]at i j;simp only [dr,tB,h,g,i,j,bT,bM,wM];rfl
 have C:∀r:UO,_->Ev Gj [aa (aZ 0 w),SF f (Ls.map encS) D H A,K0 p lf,ay (aP ro),.aj 0 cn] r:=λr h=>by
  refine bj aCs ?_;rw [hc];refine ae Iv ?_;exact h
 have F0:dr=(0,[iI 0,K0 p lf,ay (aP ro),.aj 0 cn,SF f (Ls.map encS) D H A])->∃b,
  Ev Gj [aa (aZ 0 w),SF f (Ls.map encS) D H A,K0 p lf,ay (aP ro),.aj 0 cn] (0,av b::iQ p ro lf cn):=λho=>by
  rw [ho]at C;cases hl:ln (f.E.map aH)==0 with
  |false=>exact apD
  |true=>refine⟨true,C _ (bh (aV hl (bh (ab ?_))))⟩;erw [hc];rfl
 have F1:dr=(1,[aT,K0 p lf,ay (aP ro),.aj 0 cn,SF f (Ls.map encS) D H A])->∃b,
  Ev Gj [aa (aZ 0 w),SF f (Ls.map encS) D H A,K0 p lf,ay (aP ro),.aj 0 cn] (0,av b::iQ p ro lf cn):=λho=>by
  rw [ho]at C;refine⟨false,C _ (bm (ab ?_))⟩;erw [hc];rfl
 cases ht:tm with
 |true=>
  have ho:dr=(0,[iI 1,K0 p lf,ay (aP ro),.aj 0 cn,SF f (Ls.map encS) D H A]):=by simp only [dr,ht,bT]
  rw [ho]at C;cases hl:ln (f.E.map aH)==1 with
  |false=>exact apD
  |true=>
   obtain⟨e,he⟩:∃e,f.E=[e]:=by
    have:=eq_of_beq hl;rw [c9]at this
    match hE':f.E,this with
    | [e],_=>exact⟨e,rfl⟩
    | [],h=>exact jY
    |_::_::_,h=>simp at h;omega
   have b1:=IC e he;have IE:decide (0<ln (f.E.map aH))=true:=aew;rw [<-Aa e,<-he]at b1;refine⟨nb,C _ (bh (aV hl (bm (az IE ?_))))⟩;erw [hc];refine ae b1 (ab ?_);exact qn
 |false=>
  cases hm:f.mode==0 with
  |true=>
   cases hb:tB with
   |false=>exact F1 (apn)
   |true=>exact F0 (apn)
  |false=>
   cases DR:f.mode==1 with
   |true=>exact F0 (by simp only [dr,ht,hm,DR,bT,bM])
   |false=>exact F1 (by simp only [dr,ht,hm,DR,bM])
end
section
variable{l:cj}
structure WH.In(p:PG)(w:WH):Prop where
 XJ:w.sl<0∨rU p w.task w.sl=true
 act:∀a∈w.kX,ib a p.bW.length=true
 task:ib w.task p.tasks.length=true
section
variable {p:PG} {ts:List TK} {ro:List RO} (ct:CT p ts ro) {w:WH} (hw:w.Ok) (hi:w.In p) {cn:aE} (hc:bz (aJ cn)=cn) {lf:Int} (hE:pD)
def Rh(p:PG)(a b:Int):Bool:=zm (cW p.bq a) (cW p.bq b)&&zm (cW p.bq b) (cW p.bq a)
def akP(p:PG)(l m:cj)(i:Nat):Bool:= !Rh p (l.getD i 0) (m.getD i 0)
def Mg(p:PG)(l m:cj):Bool:=(l.length==m.length)&& !((List.range l.length).any (akP p l m))
theorem avy(a b:cj):(ln (ints a) != ln (ints b))= !(a.length==b.length):=afA
theorem anv{i:Nat}(h:i<l.length):l.getD i 0∈l:=by
 rw [pA,c8 h];exact cY h
include ct hc in
theorem avp{m:cj}(hl:l.length<=8)(h1:∀x∈l,ib x p.bq.length=true)(h2:∀x∈m,ib x p.bq.length=true):
 Ev Ru [aw (ints l),aw (ints m),aa (aZ 1 w),aa (ep 2 3 p lf),ay (aP ro),.aj 0 cn] (0,[av (Mg p l m),aa (aZ 1 w),aa (ep 2 3 p lf),ay (aP ro),.aj 0 cn]):=by
 refine bj axf ?_;rw [hc];refine ax (c:=ln (ints l) != ln (ints m)) (λh=>ab ?_) λh=> ?_
 ·rw [avy]at h;simp only [iy]at h;unfold Mg;rw [h];rfl
 ·rw [avy]at h;simp only [iS]at h;have hlen:l.length=m.length:=mU;have k:=Hl (m:=l.length) (p:=akP p l m) (hit:=(0,[aT,aa (aZ 1 w),aa (ep 2 3 p lf),ay (aP ro),.aj 0 cn])) (done:=(1,[aa (aZ 1 w),aa (ep 2 3 p lf),ay (aP ro),.aj 0 cn]))
   (LF:=λi N n=>Rp (FU CX EE N) N n [aw (ints m),aw (ints l),iI (ln (ints l)),iI (i:Int),aa (aZ 1 w),aa (ep 2 3 p lf),ay (aP ro),.aj 0 cn])
   (aY ahR (au dw (ab (EB))))
   λi hi r q1 q2=>aY ahR<|aV (cZ hi)<|az (cw hi)<|az (cw (f:=λn=>[iI n]) (l:=m) (by omega))<|by
    have eJ:i<m.length:=by omega
    rw [hc,pO hi,pO eJ,ix hi (G9)];have a1:=h1 _ (anv hi);have a2:=h2 _ (anv eJ);have b1:ib (l.getD i 0) (cg p.bq).length =true:=by rw [yd];exact a1
    have b2:ib (m.getD i 0) (cg p.bq).length =true:=by rw [yd];exact a2
    have q:Ev ZV [iI (l.getD i 0),iI (m.getD i 0),aa (aZ 1 w),aa (ep 2 3 p lf),ay (aP ro),.aj 0 cn] (0,[av (Rh p (l.getD i 0) (m.getD i 0)),aa (aZ 1 w),aa (ep 2 3 p lf),ay (aP ro),.aj 0 cn]):=by
     refine bj aA7 (az b1 (az b2 ?_));rw [hc];erw [qX a1,qX a2];refine ae (ag3 (ct.ol.ok (Ct a1)) (ct.ol.ok (Ct a2))) (ax (c:=zm (cW p.bq (l.getD i 0)) (cW p.bq (m.getD i 0))) (λg=>az b2 (az b1 (ae (ag3 (ct.ol.ok (Ct a2)) (ct.ol.ok (Ct a1))) (ab ?_)))) λg=>ab ?_)
     ·unfold Rh;rw [g];rfl
     ·unfold Rh;rw [g];rfl
    refine ae q ?_;erw [hc];exact ax (c:= !Rh p (l.getD i 0) (m.getD i 0)) (λg=>ab (q1 g)) λg=>q2 g
  refine ae k.diag ?_;unfold Mg;rw [h];cases(List.range l.length).any (akP p l m)with
  |true=>exact Vk
  |false=>exact Ht
theorem w2i{a b:cj}(ha:a.length<=8)(hb:b.length<=8):(aU (ln (ints a)+ln (ints b))==0)=(ln (ints a)==0&&ln (ints b)==0):=by
 rw [c9,c9,mi (n:=(a.length:Int)+(b.length:Int)) (by omega) (by omega)];rw [TT,bA,iA,iA,iA];omega
include ct hi hc in
theorem aYD{f:gp}:∃b,∀{L D H A:aE},
 Ev aal [aa (aZ 0 w),SF f L D H A,K0 p lf,ay (aP ro),.aj 0 cn] (0,av b::iQ p ro lf cn):=by
 let Ga:Bool:= !decide (w.sl<0)&&(rU p f.T f.entry&& !((f.T==w.task)&&(f.entry==w.sl)))
 have jc:∀{L D H A:aE},bY ZZ [K0 p lf,ay (aP ro),.aj 0 cn,aa (aZ 0 w),SF f L D H A]
  (bif Ga then(0,[K0 p lf,ay (aP ro),.aj 0 cn,aa (aZ 0 w),SF f L D H A])else(1,[aT,K0 p lf,ay (aP ro),.aj 0 cn,aa (aZ 0 w),SF f L D H A])):=by
  intro L D H A;refine bX aAX ?_;rw [hc];refine ax (c:=decide (w.sl<0)) (λh=>ab (by simp only [Ga,h];rfl)) λh=>ae (Xt (lf:=lf) hc f.T f.entry) ?_;erw [hc];refine ax (c:= !rU p f.T f.entry) (λh2=>ab ?_) λh2=>ax (c:=f.T==w.task) (λh3=>ax (c:=f.entry==w.sl) (λh4=>ab ?_) λh4=>ab ?_) λh3=>ab ?_
  ·simp only [iy]at h2;simp only [Ga,h,h2];rfl
  ·simp only [iS]at h2;simp only [Ga,h,h2,h3,h4];rfl
  ·simp only [iS]at h2;simp only [Ga,h,h2,h3,h4];rfl
  ·simp only [iS]at h2;simp only [Ga,h,h2,h3];rfl
 cases hg:Ga with
 |false=>
  rw [hg]at jc;refine⟨false,λ{L D H A}=>bj ajy ?_⟩;exact apj
 |true=>
 rw [hg]at jc;simp only [Ga,bA]at hg;have aYW:rU p w.task w.sl=true:=by
  rcases hi.XJ with h|h
  ·have:=hg.1;simp at this;omega
  ·exact h
 obtain⟨ta,ea⟩:=UG aYW;obtain⟨tb,eb⟩:=UG hg.2.1;generalize LR:H0 (dH p.tasks w.task).aJ w.sl=a;generalize hxb:H0 (dH p.tasks f.T).aJ f.entry=b;have ga:=C6 ta;have gb:=C6 tb;have na:=afZ ea;have nb:=afZ eb;rw [LR]at na;rw [hxb]at nb;obtain⟨ai,ao,al1,al2⟩:=ct.ent _ (GQ ta) _ (adA ea);obtain⟨bi,bo,bl1,bl2⟩:=ct.ent _ (GQ tb) _ (adA eb);rw [LR]at ai ao al1 al2;rw [hxb]at bi bo bl1 bl2;have t1:ib w.task (p.tasks.map cA).length =true:=by rw [dW];exact ta
 have t2:ib w.sl ((gR (gA (p.tasks.map cA) w.task.toNat) 1).length)=true:=by rw [ga];show ib w.sl ((dH p.tasks w.task).aJ.map nM).length =true;rw [dW];exact ea
 have t3:ib f.T (p.tasks.map cA).length =true:=by rw [dW];exact tb
 have t4:ib f.entry ((gR (gA (p.tasks.map cA) f.T.toNat) 1).length)=true:=by rw [gb];show ib f.entry ((dH p.tasks f.T).aJ.map nM).length =true;rw [dW];exact eb
 have ra:gA (gR (gA (p.tasks.map cA) w.task.toNat) 1) w.sl.toNat=nM a:=by rw [ga];exact na
 have rb:gA (gR (gA (p.tasks.map cA) f.T.toNat) 1) f.entry.toNat=nM b:=by rw [gb];exact nb
 have zB:=w2i bl1 bl2;have hb:∃v,v=bif (ln (ints b.ins)==0&&ln (ints b.outs)==0)then true else(Mg p a.ins b.ins&&Mg p a.outs b.outs):=⟨_,rfl⟩;obtain⟨v,hv⟩:=hb;refine⟨v,λ{L D H A}=>bj ajy ?_⟩
 ·rw [hc];refine ae jc (bh (az t1 (az t2 (az t3 (az t4 ?_)))));erw [hc,ra,rb];refine ax (c:=aU (ln (ints b.ins)+ln (ints b.outs))==0) (λh=>ab ?_) λh=> ?_
  ·rw [zB]at h;rw [hv,h];rfl
  ·rw [zB]at h;refine ae (avp ct hc al1 ai bi) (ax (c:=Mg p a.ins b.ins) (λg=> ?_) λg=>ab ?_)
   ·erw [hc];refine ae (avp ct hc al2 ao bo) (ab ?_);erw [hc];rw [hv,h,g];rfl
   ·erw [hc];rw [hv,h,g];rfl
end
end
end Go.Proofs.B.C
namespace Go.ah
def CW{p:Prop}(h:p:=by rw [c9];simp;omega):p:=h
def afz{p:Prop}(h:p:=by show ib f.P (p.bW.map il).length =true;rw [dW];exact hp):p:=h
def U9{p:Prop}(h:p:=by unfold Lk;rw [h];rfl):p:=h
def U5{p:Prop}(h:p:=by unfold LN;rw [h];rfl):p:=h
def Kr{p:Prop}(h:p:=by
 erw [hc];exact h):p:=h
def aev{p:Prop}(h:p:=by unfold NK at nk;omega):p:=h
def aoW{p:Prop}(h:p:=by simp only [iS]at j;unfold BJ;rw [h,g,i,j,k];rfl):p:=h
def aoU{p:Prop}(h:p:=by have:=hw.oy;simp only [mx];omega):p:=h
end Go.ah
namespace Go.Proofs.B.C
open Go Go.ah
section
variable{f:gp}{k:Int}{α:Type}{l:List α}{A D H L:aE}
theorem yc{f:α->Row}(h:ln (l.map f)=1):∃x,l=[x]:=by
 rw [c9]at h
 match l,h with
 | [x],_=>exact⟨x,rfl⟩
 | [],h=>exact jY
 |_::_::_,h=>simp at h;omega
theorem aOb{f:α->Row}(h:ln (l.map f)=2):∃x y,l=[x,y]:=by
 rw [c9]at h
 match l,h with
 | [x,y],_=>exact⟨x,y,rfl⟩
 | [],h=>exact jY
 | [_],h=>exact jY
 |_::_::_::_,h=>simp at h;omega
theorem ae5(q:PL):aF Nw 0 (gA ([q].map dc) 0)=dc q:=rfl
theorem aMu(e e1:CE):aF qP 0 (gA ([e,e1].map aH) 0)=aH e:=e7 e
theorem aMt(e e1:CE):aF qP 0 (gA ([e,e1].map aH) 1)=aH e1:=e7 e1
def LN(k:Int):Bool:=bif k==11 then true else k==15
def Lk(k:Int):Bool:=bif k==12 then true else k==13
theorem are(h:LN k=true):k=11∨k=15:=by
 unfold LN at h;cases h1:k==11 with
 |true=>exact .inl (eq_of_beq h1)
 |false=>rw [h1]at h;exact .inr (eq_of_beq h)
theorem an7(h:Lk k=true):k=12∨k=13:=by
 unfold Lk at h;exact aqQ
section
variable {p:PG} {ts:List TK} {ro:List RO} (ct:CT p ts ro) {w:WH} (hw:w.Ok) (hi:w.In p) {cn:aE} (hc:bz (aJ cn)=cn) {lf:Int} (hE:pD)
theorem aX1(k:Int):bY Zr [cu k] (0,[av (LN k)]):=
 bX azf (ax (λh=>ab (U5)) λh=>ab (U5))
theorem aX0(k:Int):bY Zi [cu k] (0,[av (Lk k)]):=
 bX ayR (ax (λh=>ab (U9)) λh=>ab (U9))
include hc in
theorem rJ1(k:Int):bY Zd [cu k,K0 p lf,ay (aP ro),.aj 0 cn] (0,av (LN k)::iQ p ro lf cn):=by
 refine bX ayz ?_;rw [hc];refine ax (c:=k==11) (λh=>ab ?_) λh=>ab ?_
 ·exact U5
 ·exact U5
include hc in
theorem rJ2(k:Int):bY Y7 [cu k,K0 p lf,ay (aP ro),.aj 0 cn] (0,av (Lk k)::iQ p ro lf cn):=by
 refine bX ayi ?_;rw [hc];refine ax (c:=k==12) (λh=>ab ?_) λh=>ab ?_
 ·exact U9
 ·exact U9
def BJ(p:PG)(ro:List RO)(w:WH)(o:Int):Bool:=bif lV p.bq o 0 then bif (cW p.bq o).ptr then false else bif (cW p.bq o).size != 1 then false else bif oa ro w o then !ei w.loops o else false else false
include ct hw hc in
theorem aX2:bY Zl [K0 p lf,ay (aP ro),.aj 0 cn,aa (aZ 0 w),SF f L D H A]
 (bif BJ p ro w f.O then(0,[K0 p lf,ay (aP ro),.aj 0 cn,aa (aZ 0 w),SF f L D H A])else(1,[aT,K0 p lf,ay (aP ro),.aj 0 cn,aa (aZ 0 w),SF f L D H A])):=by
 refine bX ayU ?_;rw [hc];refine ae (VD (l:=p.bq) (en:= -1) (o:=f.O) (off:=0)) (ax (c:= !lV p.bq f.O 0) (λh=>ab ?_) λh=> ?_)
 ·simp only [iy]at h;unfold BJ;rw [h];rfl
 ·simp only [iS]at h;have ho:=Ot h;have jJ:ib f.O (cg p.bq).length =true:=by rw [yd];exact ho
  refine az jJ ?_;erw [qX ho];refine ax (c:=(cW p.bq f.O).ptr) (λg=>ab (by unfold BJ;rw [h,g];rfl)) λg=>az jJ (ax (c:=(cW p.bq f.O).size != 1) (λi=>ab (by unfold BJ;rw [h,g,i];rfl)) λi=>ae (PZ hw hc (by rw [ct.len];exact ho)) ?_);erw [hc];refine ax (c:= !oa ro w f.O) (λj=>ab ?_) λj=>ae (yP (l:=w.loops) f.O (Vu)) (ax (c:=ei w.loops f.O) (λk=>ab ?_) λk=>ab ?_)
  ·simp only [iy]at j;unfold BJ;rw [h,g,i,j];rfl
  ·exact aoW
  ·exact aoW
include ct hw in
theorem aOu(h:BJ p ro w f.O=true):bY Zy [dY p ts ro w,SF f L D H A] (0,[dY p ts ro w,SF f L D H A]):=by
 unfold BJ at h;cases hs:lV p.bq f.O 0 with
 |false=>rw [hs]at h;cases h
 |true=>
 have ho:=Ot hs;have jJ:ib f.O (cg p.bq).length =true:=by rw [yd];exact ho
 have hb:=mR.1 ho;cases hp:(cW p.bq f.O).ptr with
 |true=>rw [hs,hp]at h;cases h
 |false=>
 cases hz:(cW p.bq f.O).size != 1 with
 |true=>rw [hs,hp,hz]at h;cases h
 |false=>
 cases hm:oa ro w f.O with
 |false=>rw [hs,hp,hz,hm]at h;cases h
 |true=>
 rw [hs,hp,hz,hm]at h;have h:(!ei w.loops f.O)=true:=h;refine bX azG (au (c:=decide (f.O<0)) (eE) (au (c:=decide (ln (cg p.bq)<=f.O)) (CW) (az jJ ?_)));erw [qX ho];refine au hp (az jJ (au hz (ae (Xc hw (by rw [ct.len];exact ho)) (au (by show(!oa ro w f.O)=false;rw [hm];rfl) (ae (AD (l:=w.loops) f.O (Vu)) (au (by show ei w.loops f.O=false;simpa using h) aD))))))
structure Ml(p:PG)(w:WH)(f:gp):Prop where
 k2:f.kind=2->∀e,f.E=[e]->vO p.bq.length e
 AB:f.kind=15->∀e,f.E=[e]->vO p.bq.length e
 QD:f.kind=18->rU p w.task f.entry=true
 kP:f.kind=17∨f.kind=20->ib f.P p.bW.length=true
theorem Ml.no{p:PG}{w:WH}(h:f.kind≠2/\f.kind≠15/\f.kind≠18/\f.kind≠17/\f.kind≠20):Ml p w f:=⟨λk=>absurd k h.1,λk=>absurd k h.2.1,λk=>absurd k h.2.2.1,λk=>absurd k (by omega)⟩
theorem aLr{t e:Int}(h:Bq p t e=true):ib t p.bW.length=true:=by
 unfold Bq at h;cases a:decide (0<=t)with
 |false=>rw [a]at h;cases h
 |true=>cases b:decide (t<(p.bW.length:Int))with
  |false=>rw [a,b]at h;cases h
  |true=>exact zd a b
include ct hw hi hc hE in
theorem aNd(hf:f.Ok){Ls:List CS}(hs0:zx f (Ls.map encS) D H A=true):∃b,
 Ev MW [aa (aZ 0 w),SF f (Ls.map encS) D H A,K0 p lf,ay (aP ro),.aj 0 cn] (0,av b::iQ p ro lf cn)/\(b=true->Ml p w f/\(NK f.kind->(∀t∈p.tasks,t.aJ=[])->Ev M8 [dY p ts ro w,SF f (Ls.map encS) D H A] (0,[c5]))):=by
 obtain⟨jg,ki,uR⟩:=UA f (Ls.map encS) D H A hs0;have kk:∀{k:Int},(f.kind==k)=true->f.kind=k:=λh=>eq_of_beq h;have C0:∀r:UO,_->Ev MW [aa (aZ 0 w),SF f (Ls.map encS) D H A,K0 p lf,ay (aP ro),.aj 0 cn] r:=λr h=>by
  refine bj aCt ?_;rw [hc];exact h
 have R0:∀r:UO,_->Ev M8 [dY p ts ro w,SF f (Ls.map encS) D H A] r:=λr h=>by
  refine bj aEp ?_;exact h
 cases h2:f.kind==2 with
 |true=>
  have ek:=kk h2;rw [ek]at jg ki;obtain⟨e,he⟩:=yc (show ln (f.E.map aH)=1 from jg);obtain⟨q,hq⟩:=yc (show ln (f.To.map dc)=1 from ki);obtain⟨l,b1,b,s1,s2,s3⟩:=aQw ct hw hc (lf:=lf) hE (hf.To.2 q (UY)) (hf.E.2 e (G2)) hq he;have sL:decide (0<ln (f.E.map aH))=true:=Bc;have AT:decide (0<ln (f.To.map dc))=true:=by rw [hq];rfl
  rw [<-ae5 q,<-hq]at s1;rw [<-Aa e,<-he]at s2;refine⟨b1&&b,C0 _ (aV h2<|az AT (ae s1 ?_)),λh=>⟨⟨λ_ e' h'=> ?_,λk=>by omega,λk=>by omega,λk=>by omega⟩,λ_ _=>R0 _ (aV h2 (ae (s3 h).2 aD))⟩⟩
  ·erw [hc];cases b1 with
   |false=>exact rI
   |true=>
    refine bh (az sL (ae (s2 rfl) (ab ?_)));exact qn
  ·rw [he]at h';injection h' with h';subst h';exact(s3 h).1
 |false=>
 cases h4:f.kind==4 with
 |true=>
  have ek:=kk h4;rw [ek]at jg ki;obtain⟨e,he⟩:=yc (show ln (f.E.map aH)=1 from jg);obtain⟨b,s1,s2⟩:=af3 ct hw hc (lf:=lf) hE e (hf.E.2 e (G2));have sL:decide (0<ln (f.E.map aH))=true:=Bc;rw [<-Aa e,<-he]at s1 s2;refine⟨b,C0 _ (au h2<|aV h4<|az sL (ae s1 (ab ?_))),λh=>⟨.no (by omega),λ_ _=>R0 _ (au h2<|aV h4<|az sL (ae (s2 h) aD))⟩⟩;exact qn
 |false=>
 cases h5:f.kind==5 with
 |true=>
  have ek:=kk h5;rw [ek]at jg ki;obtain⟨e,he⟩:=yc (show ln (f.E.map aH)=1 from jg);obtain⟨b,s1,s2⟩:=af3 ct hw hc (lf:=lf) hE e (hf.E.2 e (G2));have sL:decide (0<ln (f.E.map aH))=true:=Bc;rw [<-Aa e,<-he]at s1 s2;refine⟨b,C0 _ (au h2<|au h4<|aV h5<|az sL (ae s1 (ab ?_))),λh=>⟨.no (by omega),λ_ _=>R0 _ (au h2<|au h4<|aV h5<|az sL (ae (s2 h) aD))⟩⟩;exact qn
 |false=>
 cases h6:f.kind==6 with
 |true=>
  have ek:=kk h6;rw [ek]at jg ki;obtain⟨e,e1,he⟩:=aOb (show ln (f.E.map aH)=2 from jg);have o1:=hf.E.2 e (G2);have o2:=hf.E.2 e1 (G2);obtain⟨b,s1,s2⟩:=W9 ct hw hc (lf:=lf) hE e o1;obtain⟨c,u1,u2⟩:=W9 ct hw hc (lf:=lf) hE e1 o2;have jc:=aX2 (f:=f) (L:=Ls.map encS) (D:=D) (H:=H) (A:=A) ct hw hc (lf:=lf);have sL:decide (0<ln (f.E.map aH))=true:=Bc;have Xu:decide (1<ln (f.E.map aH))=true:=Bc;cases rC:BJ p ro w f.O with
  |false=>
   rw [rC]at jc;refine⟨false,C0 _ (au h2<|au h4<|au h5<|aV h6<|ae jc (bm (ab ?_))),λh=>aM⟩;exact qn
  |true=>
   rw [rC]at jc;have ho:ib f.O p.bq.length=true:=by
    unfold BJ at rC;cases hs:lV p.bq f.O 0 with
    |true=>exact Ot hs
    |false=>rw [hs]at rC;cases rC
   obtain⟨x,v,g1,g3⟩:=Hy ct hw hc (lf:=lf) hE e o1;obtain⟨x1,v1,i1,i3⟩:=Hy ct hw hc (lf:=lf) hE e1 o2;have hof:∀z∈ [f.O],ib z p.bq.length=true:=λz hz=>by simp at hz;subst hz;exact ho
   have f1:=Xp ct hc g1 (λh=>ao6) (one_le f.O) hof;have f2:=Xp ct hc i1 (λh=>by obtain⟨_,_,_,ri,_⟩:=i3 h;exact ri.l) (one_le f.O) hof;have ft:∀{e:CE} {x:SO} {v:Bool},(v=true->∃t,Ev Es [pw p.bq [] (-1),aa (aH e)] (0,[aa (bJ t),c5])/\Ev xv [dY p ts ro w,aa (aH e)] (0,[c5])/\RI p.bq.length x t/\vO p.bq.length e)->fitAll p x v [f.O]=true->Ev Jr [dY p ts ro w,aa (aH e),iI f.O] (0,[c5]):=λ{e x v} g h=>by
    unfold fitAll at h;rw [bA]at h;obtain⟨t,q1,q2,ri,_⟩:=g h.1;refine E.to (awh ct (Wg q1 q2) ri.r ho) ?_;rw [<-ri.rel.re,show re x (cW p.bq f.O)=true by simpa using h.2]
   have r1:=ft g3;have r2:=ft i3;generalize fitAll p x v [f.O]=m1 at f1 r1;generalize fitAll p x1 v1 [f.O]=m2 at f2 r2;rw [<-aMu e e1,<-he]at s1 s2 f1 r1;rw [<-aMt e e1,<-he]at u1 u2 f2 r2;refine⟨b&&(c&&(m1&&m2)),C0 _ (au h2<|au h4<|au h5<|aV h6<|ae jc (bh (az sL ?_))),λh=>⟨.no (by omega),λ_ _=> ?_⟩⟩
   rotate_left
   ·simp only [bA]at h;obtain⟨q1,q2,q3,q4⟩:=h;exact R0 _ (au h2<|au h4<|au h5<|aV h6<|ae (aOu ct hw rC) (bh (az sL (ae (s2 q1).1 (bh (az Xu (ae (u2 q2).1 (bh (az sL (ae (r1 q3) (bh (az Xu (ae (r2 q4) aD)))))))))))))
   erw [hc];refine ae s1 ?_;erw [hc];cases b with
   |false=>exact rI
   |true=>
    refine bh (az Xu (ae u1 ?_));erw [hc];cases c with
    |false=>exact rI
    |true=>
     refine bh (az sL (ae f1 ?_));erw [hc];cases m1 with
     |false=>exact rI
     |true=>
      refine bh (az Xu (ae f2 (ab ?_)));exact qn
 |false=>
 cases h7:f.kind==7 with
 |true=>
  have ek:=kk h7;refine⟨bif decide (1<=f.N)then bif decide (f.N<=8192)then !ei w.oy f.N else false else false,C0 _ ?_,λh=>⟨.no (by omega),λ_ _=> ?_⟩⟩
  rotate_left
  ·cases a:decide (1<=f.N)<;>rw [a]at h
   ·exact aM
   cases b:decide (f.N<=8192)<;>rw [b]at h
   ·exact aM
   exact R0 _ (au h2<|au h4<|au h5<|au h6<|aV h7<|aV a<|aV b<|ae (AD (l:=w.oy) f.N (aoU)) (ab (by unfold c5;rw [<-show(!ei w.oy f.N)=true from h];rfl)))
  refine au h2<|au h4<|au h5<|au h6<|aV h7<|ax (c:=decide (1<=f.N)) (λa=>ax (c:=decide (f.N<=8192)) (λb=>ae (yP (l:=w.oy) f.N (aoU)) (ab ?_)) λb=>ab ?_) λa=>ab ?_
  ·rw [a,b];rfl
  ·rw [a,b];rfl
  ·rw [a];rfl
 |false=>
 cases h8:f.kind==8 with
 |true=>
  have ek:=kk h8;exact⟨ei w.marks f.N,C0 _ (au h2<|au h4<|au h5<|au h6<|au h7<|aV h8<|ae (yP (l:=w.marks) f.N (by have:=hw.marks;simp only [mx];omega)) aD),λh=>⟨.no (by omega),λ_ _=>R0 _ (au h2<|au h4<|au h5<|au h6<|au h7<|aV h8<|ae (AD (l:=w.marks) f.N (by have:=hw.marks;simp only [mx];omega)) (ab (iW)))⟩⟩
 |false=>
 cases mK:f.kind==10 with
 |true=>
  have ek:=kk mK;refine⟨bif f.N==0 then(w.Et||(bif decide (1<=f.N)then decide (f.N<=p.gv)else false))else(bif decide (1<=f.N)then decide (f.N<=p.gv)else false),C0 _ ?_,λh=>⟨.no (by omega),λ_ _=>R0 _ (au h2<|au h4<|au h5<|au h6<|au h7<|au h8<|aV mK<| ?_)⟩⟩
  rotate_left
  ·refine ax (c:=decide (1<=f.N)) (λc=>ax (c:=decide (f.N<=p.gv)) (λd=>aD) λd=>ax (c:=f.N==0) (λa=>ab ?_) λa=>ab ?_) λc=>ax (c:=f.N==0) (λa=>ab ?_) λa=>ab ?_
   ·rw [eq_of_beq a]at c;cases c
   ·rw [a,c,d]at h;cases h
   ·rw [a,c]at h;unfold c5;rw [<-show(w.Et||false)=true from h,TU];rfl
   ·rw [a,c]at h;cases h
  refine au h2<|au h4<|au h5<|au h6<|au h7<|au h8<|aV mK<|ax (c:=f.N==0) (λa=>ax (c:=w.Et) (λb=>ab ?_) λb=>ax (c:=decide (1<=f.N)) (λc=>ab ?_) λc=>ab ?_) λa=>ax (c:=decide (1<=f.N)) (λc=>ab ?_) λc=>ab ?_
  ·rw [a,b];rfl
  ·rw [a,b,c];rfl
  ·rw [a,b,c];rfl
  ·rw [a,c];rfl
  ·rw [a,c];rfl
 |false=>
 have j1:=rJ1 (p:=p) (ro:=ro) hc (lf:=lf) f.kind;have j2:=rJ2 (p:=p) (ro:=ro) hc (lf:=lf) f.kind;have QE:=aX1 f.kind;have XW:=aX0 f.kind;cases Ma:LN f.kind with
 |true=>
  rw [Ma]at j1 QE;have le:ln (f.E.map aH)=1:=by rcases are Ma with h|h<;>rw [h]at jg<;>exact jg
  obtain⟨e,he⟩:=yc le;obtain⟨b,s1,s3⟩:=W9 ct hw hc (lf:=lf) hE e (hf.E.2 e (G2));have sL:decide (0<ln (f.E.map aH))=true:=Bc;rw [<-Aa e,<-he]at s1;have k0:=are Ma;refine⟨b,C0 _ (au h2<|au h4<|au h5<|au h6<|au h7<|au h8<|au mK<|ae j1 (bh (az sL ?_))),λh=>⟨⟨λk=>by omega,λ_ e' h'=> ?_,λk=>by omega,λk=>by omega⟩,λ_ _=>R0 _ (au h2<|au h4<|au h5<|au h6<|au h7<|au h8<|au mK<|ae QE (bh (az sL ?_)))⟩⟩
  ·erw [hc];refine ae s1 (ab ?_);exact qn
  ·rw [he]at h';injection h' with h';subst h';exact(s3 h).2
  ·have:=(s3 h).1;rw [<-Aa e,<-he]at this;exact ae this aD
 |false=>
 rw [Ma]at j1 QE;have AB:f.kind≠15:=λh=>by rw [h]at Ma;cases Ma
 have k2':f.kind≠2:=λh=>by rw [h]at h2;cases h2
 cases Yi:Lk f.kind with
 |true=>
  rw [Yi]at j2 XW;have k0:=an7 Yi;have le:ln (f.To.map dc)=1:=by rcases an7 Yi with h|h<;>rw [h]at ki<;>exact ki
  obtain⟨q,hq⟩:=yc le;obtain⟨b,s1,s2⟩:=arW ct hw hc (lf:=lf) hE (hf.To.2 q (UY));have AT:decide (0<ln (f.To.map dc))=true:=by rw [hq];rfl
  rw [<-ae5 q,<-hq]at s1 s2;refine⟨b,C0 _ (au h2<|au h4<|au h5<|au h6<|au h7<|au h8<|au mK<|ae j1 (bm ?_)),λh=>⟨.no (by omega),λ_ _=>R0 _ (au h2<|au h4<|au h5<|au h6<|au h7<|au h8<|au mK<|ae QE (bm (ae XW (bh (az AT (ae (s2 h) aD))))))⟩⟩;erw [hc];refine ae j2 (bh (az AT ?_));erw [hc];refine ae s1 (ab ?_);exact qn
 |false=>
 rw [Yi]at j2 XW;have R:∀r:UO,_->Ev M8 [dY p ts ro w,SF f (Ls.map encS) D H A] r:=λr h=>by
  refine R0 r (au h2<|au h4<|au h5<|au h6<|au h7<|au h8<|au mK<|ae QE (bm (ae XW (bm ?_))));exact h
 have C:∀r:UO,_->Ev MW [aa (aZ 0 w),SF f (Ls.map encS) D H A,K0 p lf,ay (aP ro),.aj 0 cn] r:=λr h=>by
  refine C0 r (au h2<|au h4<|au h5<|au h6<|au h7<|au h8<|au mK<|ae j1 (bm ?_));erw [hc];refine ae j2 (bm ?_);exact Kr
 cases qK:f.kind==14 with
 |true=>
  have ek:=kk qK;rw [ek]at jg ki;obtain⟨q,hq⟩:=yc (show ln (f.To.map dc)=1 from ki);obtain⟨b,s1,s2⟩:=arW ct hw hc (lf:=lf) hE (hf.To.2 q (UY));have AT:decide (0<ln (f.To.map dc))=true:=by rw [hq];rfl
  rw [<-ae5 q,<-hq]at s1 s2;cases hIn:f.In with
  |true=>
   refine⟨b&&(ei w.kX f.P&&Bq p f.P f.entry),C _ (aV qK<|aV hIn (az AT (ae s1 ?_))),λh=>⟨.no (by omega),λ_ _=> ?_⟩⟩
   rotate_left
   ·simp only [bA]at h;obtain⟨q1,q2,q3⟩:=h;have hp:=hi.act f.P (GW.1 q2);have hd:decide (0<=f.entry)=true/\decide (f.entry<((yh p.bW f.P).bars.length :Int))=true:=by
     have hh:=mR.1 hp;unfold Bq at q3;rw [show decide (0<=f.P)=true by simpa using hh.1,show decide (f.P<(p.bW.length:Int))=true by simpa using hh.2]at q3;cases a:decide (0<=f.entry)<;>rw [a]at q3
     ·cases q3
     ·exact⟨rfl,q3⟩
    refine R _ (aV qK<|aV hIn (az AT (ae (s2 q1) (bh (ae (AD (l:=w.kX) f.P (KR)) (aV q2 (aV hd.1 (az (afz) (ab ?_)))))))));show(0,[av (decide (f.entry<ln (gR (gA (p.bW.map il) f.P.toNat) 2)))])=_;rw [We hp];show(0,[av (decide (f.entry<ln ((yh p.bW f.P).bars.map aH)))])=_;rw [c9,hd.2]
   erw [hc];cases b with
   |false=>exact rI
   |true=>
    refine bh (ae (yP (l:=w.kX) f.P (KR)) (ax (c:=ei w.kX f.P) (λg=>ae (asY (lf:=lf) hc f.P f.entry) (ab ?_)) λg=>ab ?_))
    ·erw [hc];rw [g];rfl
    ·rw [g];rfl
  |false=>
   refine⟨b&&rU p w.task f.entry,C _ (aV qK<|au hIn (az AT (ae s1 ?_))),λh=>⟨.no (by omega),λ_ ne=> ?_⟩⟩
   rotate_left
   ·obtain⟨i1,i2⟩:=UG ((bA _ _).mp h).2;rw [ne _ (GQ i1)]at i2;have:=mR.1 i2;simp at this;omega
   erw [hc];cases b with
   |false=>exact rI
   |true=>
    refine bh (ae (Xt (lf:=lf) hc w.task f.entry) (ab ?_));exact qn
 |false=>
 cases qJ:f.kind==16 with
 |true=>
  have ek:=kk qJ;rw [ek]at uR;have hL:Ls.length=2:=by have:ln (Ls.map encS)=2:=uR;rw [c9]at this;omega
  obtain⟨b,s1⟩:=aot ct hw hc (lf:=lf) hE hf (n:=2) (by omega) (by omega) (D:=D) (H:=H) (A:=A) hL;obtain⟨c,iJ⟩:=aPU ct hw hc (lf:=lf) hE hf;have u1:=iJ (L:=Ls.map encS) (D:=D) (H:=H) (A:=A);refine⟨b&&c,C _ (au qK<|aV qJ<|ae s1 ?_),λ_=>⟨.no (by omega),λnk=>aev⟩⟩;erw [hc];cases b with
  |false=>exact rI
  |true=>
   refine bh (ae u1 (ab ?_));exact qn
 |false=>
 cases se:f.kind==17 with
 |true=>
  have ek:=kk se;rw [ek]at uR;have hL:Ls.length=3:=by have:ln (Ls.map encS)=3:=uR;rw [c9]at this;omega
  obtain⟨b,s1⟩:=aot ct hw hc (lf:=lf) hE hf (n:=3) (by omega) (by omega) (D:=D) (H:=H) (A:=A) hL;refine⟨b&&Bq p f.P f.entry,C _ (au qK<|au qJ<|aV se<|ae s1 ?_),λh=>⟨⟨λk=>by omega,λk=>by omega,λk=>by omega,λ_=>aLr (bA _ _▸h).2⟩,λnk=>aev⟩⟩;erw [hc];cases b with
  |false=>exact rI
  |true=>
   refine bh (ae (asY (lf:=lf) hc f.P f.entry) (ab ?_));exact qn
 |false=>
 cases km:f.kind==18 with
 |true=>
  have ek:=kk km;refine⟨HN p w f.entry,C _ (au qK<|au qJ<|au se<|aV km<|ae (avh (lf:=lf) hw hc f.entry) (ab ?_)),λh=>⟨⟨λk=>by omega,λk=>by omega,λ_=>(bA _ _▸h).1,λk=>by omega⟩,λnk=>aev⟩⟩;exact qn
 |false=>
 cases ot:f.kind==20 with
 |true=>
  have ek:=kk ot;refine⟨bif decide (0<=f.P)then bif decide (f.P<(p.bW.length:Int))then bif !ei w.kX f.P then bif ln (ints w.kX)==0 then true else(ln ((yh p.bW f.P).bars.map aH)==0)else false else false else false,C _ (au qK<|au qJ<|au se<|au km<|aV ot<|ax (c:=decide (0<=f.P)) (λa0=>ax (c:=decide (f.P<ln (p.bW.map il))) (λa1=>ae (yP (l:=w.kX) f.P (KR)) (ax (c:= !ei w.kX f.P) (λg=>ax (c:=ln (ints w.kX)==0) (λi=>ab ?_) λi=> ?_) λg=>ab ?_)) λa1=>ab ?_) λa0=>ab ?_),λh=> ?_⟩
  ·rw [c9]at a1;rw [a0,a1,g,i];rfl
  ·rw [c9]at a1;have hp:=zd a0 a1;refine az (afz) (ab ?_);show(0,[av (ln (gR (gA (p.bW.map il) f.P.toNat) 2)==0),_,_,_])=_;rw [We hp,a0,a1,g,i];rfl
  ·rw [c9]at a1;rw [a0,a1,g];rfl
  ·rw [c9]at a1;rw [a0,a1];rfl
  ·rw [a0];rfl
  ·cases a0:decide (0<=f.P)<;>rw [a0]at h
   ·exact aM
   cases a1:decide (f.P<(p.bW.length:Int))<;>rw [a1]at h
   ·exact aM
   have hp:=zd a0 a1;refine⟨⟨λk=>by omega,λk=>by omega,λk=>by omega,λ_=>hp⟩,λnk _=>R _ (au qK<|au qJ<|au se<|au km<|aV ot<|aV a0<|aV (c:=decide (f.P<ln (p.bW.map il))) (by rw [c9];exact a1)<|ae (AD (l:=w.kX) f.P (KR)) ?_)⟩;cases g: !ei w.kX f.P<;>rw [g]at h
   ·exact aM
   refine aV g (ax (c:=ln (ints w.kX)==0) (λi=>aD) λi=>az (afz) (ab ?_));rw [i]at h;show(0,[av (ln (gR (gA (p.bW.map il) f.P.toNat) 2)==0)])=_;unfold c5;rw [We hp,<-show(ln ((yh p.bW f.P).bars.map aH)==0)=true from h];rfl
 |false=>
 have k17:f.kind≠17:=λh=>by rw [h]at se;cases se
 have QD:f.kind≠18:=λh=>by rw [h]at km;cases km
 have Iu:f.kind≠20:=λh=>by rw [h]at ot;cases ot
 have nf:Ml p w f:= .no ⟨k2',AB,QD,k17,Iu⟩;cases wD:f.kind==21 with
 |true=>
  obtain⟨b,hm⟩:=aYD ct hi hc (lf:=lf) (f:=f);refine⟨b,C _ (au qK<|au qJ<|au se<|au km<|au ot<|aV wD<|ae hm (ab ?_)),λ_=>⟨nf,λnk=>by have:=eq_of_beq wD;unfold NK at nk;omega⟩⟩;exact qn
 |false=>
 cases vM:f.kind==22 with
 |true=>
  refine⟨bif decide (1<=ln (ints f.Ts))then bif decide (ln (ints f.Ts)<=32)then oM f.Ts 1 (aU (ln (p.tasks.map cA)- 1))else false else false,C _ (au qK<|au qJ<|au se<|au km<|au ot<|au wD<|aV vM<|ax (c:=decide (1<=ln (ints f.Ts))) (λa=>ax (c:=decide (ln (ints f.Ts)<=32)) (λb=>ae (ags 1 (aU (ln (p.tasks.map cA)- 1)) hf.Ts) (ab ?_)) λb=>ab ?_) λa=>ab ?_),λ_=>⟨nf,λnk=>by have:=eq_of_beq vM;unfold NK at nk;omega⟩⟩
  ·rw [a,b];rfl
  ·rw [a,b];rfl
  ·rw [a];rfl
 |false=>
 exact⟨true,C _ (au qK<|au qJ<|au se<|au km<|au ot<|au wD<|au vM<|aD),λ_=>⟨nf,λ_ _=>R _ (au qK<|au qJ<|au se<|au km<|au ot<|au wD<|au vM<|aD)⟩⟩
end
end
def mZ(w:WH):WH:={w with marks:=[],Et:=false,sl:= -1}
def BN(w:WH)(e:Int):WH:={mZ w with rG:=w.rG++[e],sl:=e}
def Dw(w:WH)(q:Int):WH:={mZ w with kX:=w.kX++[q]}
theorem JZ(l:cj)(e:Int):ints (l++[e])=ints l++[[iI e]]:=sR
abbrev agT(p:PG)(ts:List TK)(ro:List RO)(w:WH):aq:=[dg (cg p.bq),iI p.gv,ng (ts.map cA),uf (p.bW.map il),sN (aP ro),iI w.task,aw (ints w.marks),aw (ints w.oy),aw (ints w.rG),aw (ints w.kX),aw (ints w.loops),av w.tO,av w.sr,av w.Et,iI w.sl,iI w.deep]
section
variable {p:PG} {ts:List TK} {ro:List RO} {w:WH} (hw:w.Ok) {cn:aE} (hc:bz (aJ cn)=cn) {lf:Int}
theorem O8{l:cj}(e:Int)(hl:l.length<=1000):Ev GA [aw (ints l),iI e] (0,[aw (ints (l++[e]))]):=by
 refine bj aIZ (ae (aNZ (ints l) (by rw [dW];omega)) (az ?_ (ab ?_)))
 ·show decide (((ints l).length +1)*8<=140737488355328)=true;exact EH
 ·rw [JZ];rfl
include hc in
theorem Xe:Ev Jm [aa (aZ 0 w),K0 p lf,ay (aP ro),.aj 0 cn] (0,aa (aZ 0 (mZ w))::iQ p ro lf cn):=by
 refine bj aCv (ab ?_);exact EB
include hw hc in
theorem awp(e:Int):Ev RS [aa (aZ 0 w),iI e,K0 p lf,ay (aP ro),.aj 0 cn] (0,[aa (sT (aZ 0 (BN w e)) aPO),K0 p lf,ay (aP ro),.aj 0 cn,aw (ints (w.rG++[e]))]):=by
 refine bj azO ?_;rw [hc];refine ae (Xe (lf:=lf) hc) (ae (O8 (l:=w.rG) e hw.rG) (ab ?_));exact qn
include hw hc in
theorem awo(q:Int):Ev Se [aa (aZ 0 w),iI q,K0 p lf,ay (aP ro),.aj 0 cn] (0,[aa (sT (aZ 0 (Dw w q)) aPN),K0 p lf,ay (aP ro),.aj 0 cn,aw (ints (w.kX++[q]))]):=by
 refine bj aBS ?_;rw [hc];refine ae (Xe (lf:=lf) hc) (ae (O8 (l:=w.kX) q hw.kX) (ab ?_));exact qn
theorem ag9:Ev Ni [dY p ts ro w] (0,[dY p ts ro (mZ w)]):=bj aFG aD
include hw in
theorem aZ3(q:Int):Ev aaJ [dY p ts ro w,iI q] (0,[aa (sT (agT p ts ro (Dw w q)) aPM),aw (ints (w.kX++[q]))]):=by
 have:=hw.kX;refine bj aEr (ae ag9 (az ?_ (az ?_ (ab ?_))))
 ·show decide ((0+(ints w.kX).length)*8<=140737488355328)=true;exact EH
 ·show decide ((([]++ints w.kX).length +1)*8<=140737488355328)=true;rw [rF,dW];simp;omega
 ·rw [JZ];rfl
end
structure WI(p:PG)(w:WH):Prop where
 ei:w.In p
 l1:(w.marks.length:Int)<=w.deep
 l2:(w.oy.length:Int)<=w.deep
 l3:(w.rG.length:Int)<=w.deep
 l4:(w.kX.length:Int)<=w.deep
 l5:(w.loops.length:Int)<=w.deep
 d:w.deep<=64
theorem WI.ok{p:PG}{w:WH}(h:WI p w):w.Ok:=by
 obtain⟨_,h1,h2,h3,h4,h5,d⟩:=h;exact⟨by omega,by omega,by omega,by omega,by omega⟩
mutual
def oH:CS->Int->Nat
 | .mk f l d h a,t=>(if f.kind=9 then f.Ts.count t else 0)+(y8 d t+(ml l t+(y7 h t+ER a t)))
def ml:List CS->Int->Nat
 | [],_=>0
 |s::ss,t=>oH s t+ml ss t
def avk:CD->Int->Nat
 | .mk d u,t=>oH d t+oH u t
def y8:List CD->Int->Nat
 | [],_=>0
 |s::ss,t=>avk s t+y8 ss t
def avj:CH->Int->Nat
 | .mk _ b,t=>oH b t
def y7:List CH->Int->Nat
 | [],_=>0
 |s::ss,t=>avj s t+y7 ss t
def avl:CA->Int->Nat
 | .mk _ _ _ _ b a,t=>oH b t+oH a t
def ER:List CA->Int->Nat
 | [],_=>0
 |s::ss,t=>avl s t+ER ss t
end
structure ST(p:PG)(lf:Int)(cn:aE)(c:Int->Nat):Prop where
 pk:bz (aJ cn)=cn
 rep:∀t,ew (aJ cn) (iI t)=if c t=0 then none else some (iI (c t:Int))
 le:∀t,(c t:Int)<=8192- lf
 lo:0<=lf
 hi:lf<=8192
 mX:∀t,c t≠0->1<=t/\t<(p.tasks.length:Int)
theorem anY(s:CS)(t:Int):oH s t=(if s.f.kind=9 then s.f.Ts.count t else 0)+(y8 s.D t+(ml s.L t+(y7 s.H t+ER s.A t))):=Bd
theorem an0(s:CD)(t:Int):avk s t=oH s.d t+oH s.u t:=Bd
theorem anZ(s:CH)(t:Int):avj s t=oH s.body t:=Bd
theorem aMc(s:CA)(t:Int):avl s t=oH s.body t+oH s.after t:=Bd
inductive gY:CS->Prop
 |mk(s:CS)(h:NK s.f.kind)(hk:∀y∈s.kids,gY y):gY s
def NE(p:PG):Prop:=∀t∈p.tasks,t.aJ=[]
def sB(p:PG)(ts:List TK)(ro:List RO)(F:CS->Prop)(s:CS):Prop:=∀w,WI p w->∀lf cn c,ST p lf cn c->∃b ev cQ,bz (aJ cQ)=cQ/\
 Ev nS [aa (aZ 0 w),aa (encS s),K0 p lf,ay (aP ro),.aj 0 cn] (0,av b::iQ p ro ev cQ)/\(b=true->(∃d,ST p ev cQ d/\(gY s->∀t,d t=c t+oH s t))/\F s/\(gY s->NE p->Ev A3 [dY p ts ro w,aa (encS s),iI lf] (0,[iI ev])))
end Go.Proofs.B.C
namespace Go.ah
def ae1{p:Prop}(h:p:=by
 rcases iz.1 hy with rfl|hy
 ·exact f1
 ·exact f2 y hy):p:=h
def OY{p:Prop}(h:p:=by rw [jE]at hy;cases hy):p:=h
def Kz{p:Prop}(h:p:=by rw [gf hi,kZ]):p:=h
end Go.ah
namespace Go.Proofs.B.C
open Go Go.ah
section
variable{b:Bool}{f:gp}{lf ev:Int}{Ls:List CS}{i:Nat}{ctx:Nat->WH}{c w:WH}{A D H cn cQ:aE}
def rq(w:WH):WH:={w with sl:= -1}
def Mi(c:WH)(f:gp)(i:Int):WH:=bif i==0 then bif f.kind==18 then BN c f.entry else c else c
def aB(f:gp)(i:Int):Bool:=bif i==0 then bif f.kind==20 then true else f.kind==17 else false
def D3(c:WH)(f:gp)(i:Int):WH:=bif aB f i then Dw c f.P else Mi c f i
def qB(f:gp)(i:Int):Bool:=bif f.kind==16 then true else bif f.kind==17 then decide (0<i)else bif f.kind==18 then decide (0<i)else false
def qh(c:WH)(f:gp)(i:Int):WH:=bif qB f i then rq (D3 c f i)else D3 c f i
inductive CR(p:PG)(ro:List RO)(ctx:Nat->WH)(Ls:List CS):Nat->Int->aE->Bool->Int->aE->Prop
 |done(i:Nat)(h:i=Ls.length)(lf:Int)(cn:aE)(pk:bz (aJ cn)=cn):CR p ro ctx Ls i lf cn true lf cn
 |no(i:Nat)(h:i<Ls.length)(lf:Int)(cn:aE)(pk:bz (aJ cn)=cn)(ev:Int)(cQ:aE)(po:bz (aJ cQ)=cQ)
   (e:Ev nS [aa (aZ 0 (ctx i)),aa (encS Ls[i]),K0 p lf,ay (aP ro),.aj 0 cn] (0,aT::iQ p ro ev cQ)):CR p ro ctx Ls i lf cn false ev cQ
 |yes(i:Nat)(h:i<Ls.length)(lf:Int)(cn:aE)(pk:bz (aJ cn)=cn)(l1:Int)(c1:aE)(lC:bz (aJ c1)=c1)
   (e:Ev nS [aa (aZ 0 (ctx i)),aa (encS Ls[i]),K0 p lf,ay (aP ro),.aj 0 cn] (0,c5::iQ p ro l1 c1)) (b:Bool) (ev:Int) (cQ:aE) (t:CR p ro ctx Ls (i+1) l1 c1 b ev cQ):CR p ro ctx Ls i lf cn b ev cQ
section
variable {p:PG} {ts:List TK} {ro:List RO} {F:CS->Prop}
abbrev uV(f:gp)(Ls:List CS)(D H A:aE):AV:= aa (fX f (Ls.map encS) D H A)
def aLV(hw:c.Ok)(nk:NK f.kind)(hi:i<Ls.length)(hl:Ls.length<=mx){n n':Int}(hn:0<=n)(h:Ev A3 [dY p ts ro (qh c f i),aa (encS Ls[i]),iI n] (0,[iI n'])){r:UO}
 (hr:bS Gv [iI n',iI ((i+1:Nat):Int),dY p ts ro c,uV f Ls D H A] r):
 bS Gv [iI n,iI (i:Int),dY p ts ro c,uV f Ls D H A] r:=by
 have ed:qh c f i=bif aB f i then Dw c f.P else c:=by
  unfold qh qB D3 Mi;rw [nk.no 16,nk.no 17,nk.no 18];cases(i:Int)==0<;>rfl
 have j0:bY abf [iI n,iI (i:Int),uV f Ls D H A] (0,[uV f Ls D H A]):=
  bX akm (aV (cZ (f:=encS) hi) (aV (by simpa using hn) aD))
 have j1:bY aaR [iI (i:Int),dY p ts ro c,uV f Ls D H A,dY p ts ro c] (0,[dY p ts ro c,uV f Ls D H A,dY p ts ro c]):=
  bX aEc (ax (c:=(i:Int)==0) (λ_=>au (nk.no 18) aD) λ_=>aD)
 have j2:bY aaA [iI (i:Int),uV f Ls D H A] (0,[av (aB f i),uV f Ls D H A]):=by
  refine bX aDf (ax (c:=(i:Int)==0) (λh=>ax (c:=f.kind==20) (λg=>ab ?_) λg=>ab ?_) λh=>ab ?_)
  ·unfold aB;rw [h,g];rfl
  ·unfold aB;rw [h,g];rfl
  ·unfold aB;rw [h];rfl
 have j3:bY aaQ [iI (i:Int),dY p ts ro c,uV f Ls D H A,dY p ts ro c] (0,[dY p ts ro c,uV f Ls D H A,dY p ts ro (qh c f i)]):=by
  rw [ed];refine bX aEb (ae j2 (ax (c:=aB f i) (λg=>ae (aZ3 (p:=p) (ts:=ts) (ro:=ro) hw f.P) (ab ?_)) λg=>ab ?_))<;>rw [g]<;>rfl
 have j4:bY aaz [iI (i:Int),uV f Ls D H A,dY p ts ro (qh c f i)] (0,[uV f Ls D H A,dY p ts ro (qh c f i)]):=
  bX aDe (au (nk.no 16) (au (nk.no 17) (au (nk.no 18) aD)))
 refine aY akA (ae j0 (bh (ae j1 (ae j3 (ae j4 (az (cw (f:=encS) hi) ?_))))));have hs:aF fC 0 (gA (Ls.map encS) ((i:Int).toNat))=encS Ls[i]:=Kz;rw [<-hs]at h;refine ae h ?_;rw [ix hi hl];exact hr
def aOA(hw:c.Ok)(hl:Ls.length<=mx)(hk:∀s∈Ls,sB p ts ro F s)(hx:∀i,i<Ls.length->WI p (qh c f (i:Nat))):
 ∀lf cn cc,ST p lf cn cc->∃b ev cQ,bz (aJ cQ)=cQ/\CR p ro (λi=>qh c f (i:Nat)) Ls 0 lf cn b ev cQ/\(b=true->(∃d,ST p ev cQ d/\((∀y∈Ls,gY y)->∀t,d t=cc t+ml Ls t))/\(∀y∈Ls,F y)/\(NK f.kind->(∀y∈Ls,gY y)->NE p->
  bS Gv [iI lf,iI 0,dY p ts ro c,uV f Ls D H A] (0,[iI ev,dY p ts ro c,uV f Ls D H A]))):=by
 have h:=fP (m:=Ls.length) (P:=λi=>∀lf cn cc,ST p lf cn cc->∃b ev cQ,bz (aJ cQ)=cQ/\CR p ro (λi=>qh c f (i:Nat)) Ls i lf cn b ev cQ/\(b=true->(∃d,ST p ev cQ d/\((∀y∈Ls,gY y)->∀t,d t=cc t+ml (Ls.drop i) t))/\(∀y∈Ls.drop i,F y)/\(NK f.kind->(∀y∈Ls,gY y)->NE p->
  bS Gv [iI lf,iI (i:Int),dY p ts ro c,uV f Ls D H A] (0,[iI ev,dY p ts ro c,uV f Ls D H A]))))
  (λlf cn cc st=>⟨true,lf,cn,st.pk,.done _ rfl _ _ st.pk,λ_=>⟨⟨_,st,λ_ t=>by rw [jE];simp [ml]⟩,(λy hy=>OY),λ_ _ _=>aY akA (ae (bX akm (au (c:=decide ((Ls.length:Int)<ln (Ls.map encS))) (by rw [c9];simp) aD)) (bm aD))⟩⟩)
  λi hi ih lf cn cc st=>by
   have hm:=cY hi;obtain⟨b,l1,c1,lC,e1,e3⟩:=hk Ls[i] hm _ (hx i hi) lf cn cc st;cases b with
   |false=>exact⟨false,l1,c1,lC,.no _ hi _ _ st.pk _ _ lC e1,λh=>aM⟩
   |true=>
    obtain⟨⟨d,s1,d1⟩,f1,g1⟩:=e3 rfl;obtain⟨b,l2,c2,mI,r1,r3⟩:=ih l1 c1 d s1;refine⟨b,l2,c2,mI,.yes _ hi _ _ st.pk _ _ lC e1 _ _ _ r1,λh=> ?_⟩;obtain⟨⟨d',s2,d2⟩,f2,g2⟩:=r3 h;rw [jj hi];refine⟨⟨d',s2,λka t=>by rw [d2 ka,d1 (ka _ hm)];simp only [ml];omega⟩,λy hy=> ?_,λnk ka ne=>aLV hw nk hi hl st.lo (g1 (ka _ hm) ne) (g2 nk ka ne)⟩;exact ae1
 intro lf cn cc st;exact h lf cn cc st
def aNX(Yb:∀i,ctx i=w)(hl:Ls.length<=mx)(h:CR p ro ctx Ls i lf cn b ev cQ):∃j:Nat,
 bS Rn [dv (Ls.map encS),iI (ln (Ls.map encS)),iI (i:Int),aa (aZ 1 w),aa (ep 2 3 p lf),ay (aP ro),.aj 0 cn]
  (bif b then(1,[aa (aZ 1 w),aa (ep 2 3 p ev),ay (aP ro),.aj 0 cQ])else(0,[iI (j:Int),aa (aZ 1 w),aa (ep 2 3 p ev),ay (aP ro),.aj 0 cQ])):=by
 have st1:∀{s:CS} {lf:Int} {cn:aE} (hc:bz (aJ cn)=cn) {b:Bool} {l1:Int} {c1:aE} (tu:bz (aJ c1)=c1),Ev nS [aa (aZ 0 w),aa (encS s),K0 p lf,ay (aP ro),.aj 0 cn] (0,av b::iQ p ro l1 c1)->
  Ev Z6 [aa (encS s),aa (aZ 1 w),aa (ep 2 3 p lf),ay (aP ro),.aj 0 cn] (0,[av (!b),aa (aZ 1 w),aa (ep 2 3 p l1),ay (aP ro),.aj 0 c1]):=λ{s lf cn} hc {b l1 c1} tu he=>by
  refine bj aBO ?_;rw [hc,kZ];refine ae he (ab ?_);erw [tu];rfl
 induction h with
 |done i h lf cn pk=>
  subst h;exact⟨0,aY YA (au dw (ab (by rw [pk];rfl)))⟩
 |no i h lf cn pk ev cQ po e=>
  rw [Yb]at e;refine⟨i,aY YA (aV (cZ h) (az (cw h) ?_))⟩;rw [pk,gf h,kZ];refine ae (st1 pk po e) ?_;erw [po];exact wQ
 |yes i h lf cn pk l1 c1 lC e b ev cQ t ih=>
  rw [Yb]at e;obtain⟨j,hj⟩:=ih;refine⟨j,aY YA (aV (cZ h) (az (cw h) ?_))⟩;rw [pk,gf h,kZ,ix h hl];refine ae (st1 pk lC e) ?_;erw [lC];exact bm hj
def CR.pk{ctx:Nat->WH}{Ls:List CS}{i:Nat}{lf:Int}{cn:aE}{b:Bool}{ev:Int}{cQ:aE}(h:CR p ro ctx Ls i lf cn b ev cQ):bz (aJ cn)=cn/\bz (aJ cQ)=cQ:=by
 induction h with
 |done _ _ _ _ pk=>exact⟨pk,pk⟩
 |no _ _ _ _ pk _ _ po _=>exact⟨pk,po⟩
 |yes _ _ _ _ pk _ _ _ _ _ _ _ _ ih=>exact⟨pk,ih.2⟩
def aPL(Yb:∀i,ctx i=w)(hl:Ls.length<=mx)(h:CR p ro ctx Ls 0 lf cn b ev cQ):
 Ev YC [dv (Ls.map encS),aa (aZ 1 w),aa (ep 2 3 p lf),ay (aP ro),.aj 0 cn] (0,[av (!b),aa (aZ 1 w),aa (ep 2 3 p ev),ay (aP ro),.aj 0 cQ]):=by
 obtain⟨j,hj⟩:=aNX Yb hl h;obtain⟨pk,po⟩:=h.pk;cases b with
 |true=>
  have a1:Ev Rr [dv (Ls.map encS),aa (aZ 1 w),aa (ep 2 3 p lf),ay (aP ro),.aj 0 cn] (0,[iI (-1),aa (aZ 1 w),aa (ep 2 3 p ev),ay (aP ro),.aj 0 cQ]):=by
   refine bj ahX ?_;rw [pk];refine ae hj.diag (bm (ab ?_));erw [po];rfl
  refine bj ahO ?_;rw [pk];refine ae a1 (ab ?_);erw [po];rfl
 |false=>
  have a1:Ev Rr [dv (Ls.map encS),aa (aZ 1 w),aa (ep 2 3 p lf),ay (aP ro),.aj 0 cn] (0,[iI (j:Int),aa (aZ 1 w),aa (ep 2 3 p ev),ay (aP ro),.aj 0 cQ]):=by
   refine bj ahX ?_;rw [pk];refine ae hj.diag (bh (ab ?_));erw [po];rfl
  refine bj ahO ?_;rw [pk];refine ae a1 (ab ?_);erw [po];show(0,[av (decide (0<=(j:Int))),_,_,_,_])=_;rw [show decide (0<=(j:Int))=true by simp];rfl
end
end
end Go.Proofs.B.C
namespace Go.ah
def Ah{p:Prop}(h:p:=by rw [pA,c8 hi];rfl):p:=h
def asf{p:Prop}(h:p:=by
 rw [hd]at hp;cases ha:decide (l[i]<lo)with
 |true=>rw [ha]at hp;cases hp
 |false=>
  cases hb:decide (hi<l[i])with
  |true=>rw [ha,hb]at hp;cases hp
  |false=>simp at ha hb;exact⟨ha,hb⟩):p:=h
def CJ{p:Prop}(h:p:=by rw [xI]):p:=h
def aqq{p:Prop}(h:p:=by
 simp only [iy]at h;rw [zY]at h;simpa using h i (by simpa using eJ)):p:=h
def Ve{p:Prop}(h:p:=by rw [gf hi,aQj]):p:=h
def Vd{p:Prop}(h:p:=by rw [gf hi,aQi]):p:=h
def Vb{p:Prop}(h:p:=by simpa using st.lo):p:=h
end Go.ah
namespace Go.ah
def Uo:=@List.count_cons
def yV:=@List.getElem_of_mem
def adh:=@List.take_length
end Go.ah
namespace Go.Proofs.B.C
open Go Go.ah
section
variable{hi lo:Int}{l:cj}
def aou(h:oM l lo hi=true){i:Nat}(eJ:i<l.length):tW l lo hi i=false:=by
 unfold oM at h;exact aqq
def aJN(h:oM l lo hi=true):l.Nodup:=by
 have:∀n,n<=l.length->(l.take n).Nodup :=by
  intro n
  induction n with
  |zero=>intro _;simp
  |succ n ih=>
   intro hn;have hp:=aou h (i:=n) (by omega);have hd:l.getD n 0=l[n]:=by rw [pA,c8 (by omega)];rfl
   rw [GR,c8 (by omega)];refine NT (ih (by omega)) λhm=> ?_;unfold tW at hp;cases ha:decide (l.getD n 0<lo)with
   |true=>rw [ha]at hp;cases hp
   |false=>
    cases hb:decide (hi<l.getD n 0)with
    |true=>rw [ha,hb]at hp;cases hp
    |false=>
     rw [ha,hb,hd]at hp;have:ei (l.take n) l[n]=true:=GW.2 hm;simp only [bM]at hp;rw [this]at hp;cases hp
 have h2:=this l.length (gQ _)
 rwa [adh]at h2
def anP(h:oM l lo hi=true):∀x∈l,lo<=x/\x<=hi:=by
 intro x hx;obtain⟨i,eJ,rfl⟩:=yV hx;have hp:=aou h eJ;have hd:l.getD i 0=l[i]:=by rw [pA,c8 eJ];rfl
 unfold tW at hp;exact asf
def adn(h:pg l lo hi=true):∀x∈l,lo<=x/\x<=hi:=by
 intro x hx;obtain⟨i,eJ,rfl⟩:=yV hx;unfold pg at h;simp only [iy]at h;rw [zY]at h;have hp:yf l lo hi i=false:=by simpa using h i (by simpa using eJ)
 have hd:l.getD i 0=l[i]:=by rw [pA,c8 eJ];rfl
 unfold yf at hp;exact asf
structure CN(cn:aE)(c:Int->Nat):Prop where
 pk:bz (aJ cn)=cn
 rep:∀t,ew (aJ cn) (iI t)=if c t=0 then none else some (iI (c t:Int))
section
variable {p:PG} {ts:List TK} {ro:List RO}
def aZO{w:WH}{Ts:cj}(hT:Ts.length<=mx){lf:Int}{cn:aE}{c:Int->Nat}(h:CN cn c)(hb:∀t,c t+Ts.count t<=100000):∃cQ,CN cQ (λt=>c t+Ts.count t)/\
 bS Jh [aw (ints Ts),iI (ln (ints Ts)),iI 0,K0 p lf,ay (aP ro),.aj 0 cn,aa (aZ 0 w)] (0,[K0 p lf,ay (aP ro),.aj 0 cQ,aa (aZ 0 w)]):=by
 have k:=fP (m:=Ts.length) (P:=λi=>∀cn,CN cn (λt=>c t+(Ts.take i).count t)->∃cQ,CN cQ (λt=>c t+Ts.count t)/\
  bS Jh [aw (ints Ts),iI (ln (ints Ts)),iI (i:Int),K0 p lf,ay (aP ro),.aj 0 cn,aa (aZ 0 w)] (0,[K0 p lf,ay (aP ro),.aj 0 cQ,aa (aZ 0 w)]))
  (λcn h=>⟨cn,by rw [adh]at h;exact h,aY ai4 (au dw (ab (by rw [h.pk];rfl)))⟩)
  λi hi ih cn h=>by
   have hd:Ts.getD i 0=Ts[i]:=Ah;have F4:∀t,(Ts.take (i+1)).count t=(Ts.take i).count t+if Ts[i]=t then 1 else 0:=λt=>by
    rw [GR,c8 hi,List.count_append];simp [Uo]
   have hle:∀t,(Ts.take i).count t<=Ts.count t:=λt=>List.Sublist.count_le _ (List.take_sublist _ _);have hr:=h.rep Ts[i];have zN:=hb Ts[i];have jg:=hle Ts[i]
   let v:Int:=((c Ts[i]+(Ts.take i).count Ts[i]+1:Nat):Int)
   obtain⟨cQ,h',e⟩:=ih (bz (lY (aJ cn) (iI Ts[i]) (iI v))) ⟨CJ,λt=>by
    rw [xI,Gz,h.rep,F4]
    by_cases ht:t=Ts[i]
    ·subst ht;simp [v];omega
    ·rw [if_neg ht];have:(if Ts[i]=t then 1 else 0:Nat)=0:=if_neg λh=>ht h.symm;rw [this,CB]⟩
   refine⟨cQ,h',aY ai4 (aV (cZ hi) (az (cw hi) ?_))⟩;rw [pO hi,ix hi hT,hd]
   by_cases h0:c Ts[i]+(Ts.take i).count Ts[i]=0
   ·rw [if_pos h0]at hr;rw [hr];have:v=1:=by simp only [v];omega
    rw [this]at e;exact e
   ·rw [if_neg h0]at hr;rw [hr];have:aU ((iI ((c Ts[i]+(Ts.take i).count Ts[i]:Nat):Int)).toI +1)=v:=by
     show aU (((c Ts[i]+(Ts.take i).count Ts[i]:Nat):Int)+1)=v;rw [mi (by omega) (by omega)];simp only [v];omega
    rw [<-this]at e;exact e
 exact k cn (mU)
def aOC{F:CS->Prop}{c:WH}(hd:WI p {mZ c with tO:=true})(hu:WI p {mZ c with sr:=true}){f:gp}{L H A:aE}{Ds:List CD}(hl:Ds.length<=mx)(hk:∀d∈Ds,sB p ts ro F d.d/\sB p ts ro F d.u):
 ∀lf cn cc,ST p lf cn cc->∃b ev cQ,bz (aJ cQ)=cQ/\
  bS MK [fO (Ds.map eu),iI (ln (Ds.map eu)),iI 0,K0 p lf,ay (aP ro),.aj 0 cn,aa (aZ 0 {mZ c with tO:=true}),aa (aZ 0 {mZ c with sr:=true})]
   (bif b then(1,[K0 p ev,ay (aP ro),.aj 0 cQ,aa (aZ 0 {mZ c with tO:=true}),aa (aZ 0 {mZ c with sr:=true})])else(0,[aT,K0 p ev,ay (aP ro),.aj 0 cQ,aa (aZ 0 {mZ c with tO:=true}),aa (aZ 0 {mZ c with sr:=true})]))/\(b=true->(∃d,ST p ev cQ d/\((∀d∈Ds,gY d.d/\gY d.u)->∀t,d t=cc t+y8 Ds t))/\(∀d∈Ds,F d.d/\F d.u)/\((∀d∈Ds,gY d.d/\gY d.u)->NE p->bS JH [iI lf,iI 0,dY p ts ro c,aa (fX f L (Ds.map eu) H A)] (0,[iI ev,dY p ts ro c,aa (fX f L (Ds.map eu) H A)]))):=by
 have k:=fP (m:=Ds.length) (P:=λi=>∀lf cn cc,ST p lf cn cc->∃b ev cQ,bz (aJ cQ)=cQ/\
  bS MK [fO (Ds.map eu),iI (ln (Ds.map eu)),iI (i:Int),K0 p lf,ay (aP ro),.aj 0 cn,aa (aZ 0 {mZ c with tO:=true}),aa (aZ 0 {mZ c with sr:=true})]
   (bif b then(1,[K0 p ev,ay (aP ro),.aj 0 cQ,aa (aZ 0 {mZ c with tO:=true}),aa (aZ 0 {mZ c with sr:=true})])else(0,[aT,K0 p ev,ay (aP ro),.aj 0 cQ,aa (aZ 0 {mZ c with tO:=true}),aa (aZ 0 {mZ c with sr:=true})]))/\(b=true->(∃d,ST p ev cQ d/\((∀d∈Ds,gY d.d/\gY d.u)->∀t,d t=cc t+y8 (Ds.drop i) t))/\(∀d∈Ds.drop i,F d.d/\F d.u)/\((∀d∈Ds,gY d.d/\gY d.u)->NE p->bS JH [iI lf,iI (i:Int),dY p ts ro c,aa (fX f L (Ds.map eu) H A)] (0,[iI ev,dY p ts ro c,aa (fX f L (Ds.map eu) H A)]))))
  (λlf cn cc st=>⟨true,lf,cn,st.pk,aY RJ (au dw (ab (by rw [st.pk];rfl))),λ_=>⟨⟨_,st,λ_ t=>by rw [jE];simp [y8]⟩,(λy hy=>OY),λ_ _=>aY aky (ae (bX akl (au (c:=decide ((Ds.length:Int)<ln (Ds.map eu))) (by rw [c9];simp) aD)) (bm aD))⟩⟩)
  λi hi ih lf cn cc st=>by
   obtain⟨ho,hv⟩:=hk Ds[i] (cY hi);have gd:aF fC 0 (gA (Ds.map eu) ((i:Int).toNat))=encS Ds[i].d :=Ve;have gu:aF fC 21 (gA (Ds.map eu) ((i:Int).toNat))=encS Ds[i].u :=Vd;obtain⟨b,l1,c1,lC,e1,e3⟩:=ho _ hd lf cn cc st;cases b with
   |false=>
    refine⟨false,l1,c1,lC,aY RJ (aV (cZ hi) (az (cw hi) ?_)),λh=>aM⟩;rw [st.pk,gd];refine ae e1 ?_;erw [lC];exact wQ
   |true=>
    obtain⟨⟨d1,st1,q1⟩,f1,k1⟩:=e3 rfl;obtain⟨b,l2,c2,mI,u1,u3⟩:=hv _ hu l1 c1 _ st1;cases b with
    |false=>
     refine⟨false,l2,c2,mI,aY RJ (aV (cZ hi) (az (cw hi) ?_)),λh=>aM⟩;rw [st.pk,gd,gu];refine ae e1 ?_;erw [lC];refine bm (ae u1 ?_);erw [mI];exact wQ
    |true=>
     obtain⟨⟨d2,mG,q2⟩,f2,k2⟩:=u3 rfl;obtain⟨b,l3,c3,FO,r1,r3⟩:=ih l2 c2 _ mG;have hm:=cY hi;refine⟨b,l3,c3,FO,aY RJ (aV (cZ hi) (az (cw hi) ?_)),λh=> ?_⟩
     ·rw [st.pk,gd,gu,ix hi hl];refine ae e1 ?_;erw [lC];refine bm (ae u1 ?_);erw [mI];exact bm r1
     ·obtain⟨⟨d3,H5,q3⟩,f3,k3⟩:=r3 h;rw [jj hi];refine⟨⟨d3,H5,λka t=>by rw [q3 ka,q2 (ka _ hm).2,q1 (ka _ hm).1];simp only [y8,an0];omega⟩,λy hy=> ?_,λka ne=> ?_⟩
      ·rcases iz.1 hy with rfl|hy
       ·exact⟨f1,f2⟩
       ·exact f3 y hy
      ·have j0:bY abb [iI lf,iI (i:Int),aa (fX f L (Ds.map eu) H A)] (0,[aa (fX f L (Ds.map eu) H A)]):=
        bX akl (aV (cZ (f:=eu) hi) (aV (Vb) aD))
       refine aY aky (ae j0 (bh (ae ag9 (ae ag9 (az (cw (f:=eu) hi) ?_)))));have h1:=k1 (ka _ hm).1 ne;have h2:=k2 (ka _ hm).2 ne;rw [<-gd]at h1;rw [<-gu]at h2;refine ae h1 ?_;rw [ix hi hl];exact aV (c:=decide (0<=l1)) (by simpa using st1.lo) (az (cw (f:=eu) hi) (ae h2 (k3 ka ne)))
 intro lf cn cc st;exact k lf cn cc st
end
end
end Go.Proofs.B.C
namespace Go.ah
def aeF{p:Prop}(h:p:=by simp only [mx]at hl;omega):p:=h
def aei{p:Prop}(h:p:=by simp at b⊢;omega):p:=h
end Go.ah
namespace Go.Proofs.B.C
open Go Go.ah
section
variable{sm:aE}{sn:cj}
def yX:cj->cj->Option cj
 | [],sn=>some sn
 |x::xs,sn=>bif ei sn x then none else yX xs (sn++[x])
structure SM(sm:aE)(sn:cj):Prop where
 pk:bz (aJ sm)=sm
 rep:∀x,ew (aJ sm) (iI x)=if ei sn x=true then some (c5)else none
def aKX(sn:cj)(y x:Int):ei (sn++[y]) x=(ei sn x||y==x):=by
 unfold ei;rw [List.any_append];simp
def SM.put(h:SM sm sn)(y:Int):SM (bz (lY (aJ sm) (iI y) (c5))) (sn++[y]):=
 ⟨CJ,λx=>by
   rw [xI,Gz,h.rep,aKX]
   by_cases hx:x=y
   ·subst hx;simp
   ·have:(y==x)=false:=by simpa using λh=>hx h.symm
    rw [if_neg hx,this,TU]⟩
section
variable {p:PG} {ts:List TK} {ro:List RO}
def aOr{xs:cj}(hx:xs.length<=mx){lf:Int}{cn:aE}(hc:bz (aJ cn)=cn)(h:SM sm sn):∃tg,bz (aJ tg)=tg/\(∀tX,yX xs sn=some tX->SM tg tX)/\
 bS I5 [aw (ints xs),iI (ln (ints xs)),iI 0,K0 p lf,ay (aP ro),.aj 0 cn,.aj 0 sm] (match yX xs sn with|some _=>(1,[K0 p lf,ay (aP ro),.aj 0 cn,.aj 0 tg])|none=>(0,[aT,K0 p lf,ay (aP ro),.aj 0 cn,.aj 0 tg])):=by
 have k:=fP (m:=xs.length) (P:=λi=>∀sm sn,SM sm sn->∃tg,bz (aJ tg)=tg/\(∀tX,yX (xs.drop i) sn=some tX->SM tg tX)/\
  bS I5 [aw (ints xs),iI (ln (ints xs)),iI (i:Int),K0 p lf,ay (aP ro),.aj 0 cn,.aj 0 sm] (match yX (xs.drop i) sn with|some _=>(1,[K0 p lf,ay (aP ro),.aj 0 cn,.aj 0 tg])|none=>(0,[aT,K0 p lf,ay (aP ro),.aj 0 cn,.aj 0 tg])))
  (λsm sn h=>⟨sm,h.pk,λtX hs=>by rw [jE]at hs;injection hs with hs;subst hs;exact h,by
    rw [jE];exact aY YY (au dw (ab (by rw [hc,h.pk];rfl)))⟩)
  λi hi ih sm sn h=>by
   have hd:xs.getD i 0=xs[i]:=Ah;have hr:=h.rep xs[i];rw [jj hi];simp only [yX];cases eT:ei sn xs[i]with
   |true=>
    rw [eT,if_pos rfl]at hr;simp only [bT];refine⟨sm,h.pk,(λtX hs=>by cases hs),aY YY (aV (cZ hi) (az (cw hi) ?_))⟩;rw [pO hi,hd,hr,hc,h.pk];exact wQ
   |false=>
    rw [eT,if_neg (by simp)]at hr;obtain⟨tg,q1,q2,q3⟩:=ih _ _ (h.put xs[i]);simp only [bM];refine⟨tg,q1,q2,aY YY (aV (cZ hi) (az (cw hi) ?_))⟩;rw [pO hi,hd,hr,hc,ix hi hx];exact q3
 have:=k sm sn h;rw [nU]at this;exact this
def aOZ(hn:sn.Nodup)(hr:∀x∈sn,1<=x/\x<=64):sn.length<=65:=N2 65 sn hn λx hx=>mR.2 (by have:=hr x hx;omega)
def al5:∀{xs sn tX:cj},yX xs sn=some tX->sn.Nodup->(∀x∈xs,1<=x/\x<=64)->(∀x∈sn,1<=x/\x<=64)->tX.Nodup/\∀x∈tX,1<=x/\x<=64
 | [],sn,tX,h,hn,_,hr=>by injection h with h;subst h;exact⟨hn,hr⟩
 |x::xs,sn,tX,h,hn,hx,hr=>by
  simp only [yX]at h;cases hi:ei sn x with
  |true=>rw [hi]at h;cases h
  |false=>
   rw [hi]at h;refine al5 h (NT hn λhm=>aeN) (λy hy=>hx y (by simp [hy])) λy hy=> ?_;rcases nA.1 hy with hy|hy
   ·exact hr y hy
   ·simp at hy;subst hy;exact hx _ (by simp)
def aOq{x:CH}(hx:x.gv.length<=mx)(hb:∀y∈x.gv,1<=y/\y<=64){tX:cj}(hn:sn.Nodup)(hr:∀y∈sn,1<=y/\y<=64)(h:yX x.gv sn=some tX):
 bS MT [iI 0,aa (dj x),aw (ints sn)] (1,[aa (dj x),aw (ints tX)]):=by
 have k:=fP (m:=x.gv.length) (P:=λi=>∀sn:cj,sn.Nodup->(∀y∈sn,1<=y/\y<=64)->yX (x.gv.drop i) sn=some tX->
  bS MT [iI (i:Int),aa (dj x),aw (ints sn)] (1,[aa (dj x),aw (ints tX)]))
  (λsn _ _ h=>by
    rw [jE]at h;injection h with h;subst h;refine aY ajh ?_;rw [P8,PH];exact au dw aD)
  λi hi ih sn hn hr h=>by
   have hl:=aOZ hn hr;have hd:x.gv.getD i 0=x.gv[i]:=Ah;rw [jj hi]at h;simp only [yX]at h;refine aY ajh ?_;rw [P8,PH];refine aV (cZ hi) (az (cw hi) ?_);rw [pO hi,hd,ix hi hx];refine ae (inV x.gv[i] (by show sn.length<=1048576;omega)) ?_;cases eT:ei sn x.gv[i]with
   |true=>rw [eT]at h;cases h
   |false=>
    rw [eT]at h;refine bm (az (cw hi) (az ?_ ?_))
    ·show decide (((ints sn).length +1)*8<=140737488355328)=true;exact EH
    ·have:=ih (sn++[x.gv[i]]) (NT hn λhm=>by rw [GW.2 hm]at eT;cases eT) (λy hy=>by
      rcases nA.1 hy with hy|hy
      ·exact hr y hy
      ·simp at hy;subst hy;exact hb _ (cY hi)) h
     rw [JZ]at this;exact iK
 exact k sn hn hr h
def hB(p:PG)(n:Nat)(i:Nat)(x:CH):Bool:=(bif x.gv.length==0 then(i+1==n)else true)&&pg x.gv 1 p.gv
def avw(l:cj):(ln (ints l)==0)=(l.length==0):=by rw [c9];cases h:l.length==0<;>simp at h⊢<;>omega
def aOB{F:CS->Prop}(hpe:p.gv<=64){c:WH}(hw:WI p c){f:gp}{L D A:aE}{Hs:List CH}(hl:Hs.length<=mx)(hx:∀x∈Hs,x.gv.length<=mx)(hk:∀x∈Hs,sB p ts ro F x.body):
 ∀lf cn cc,ST p lf cn cc->∃b ev cQ tg,bz (aJ cQ)=cQ/\
  bS I9 [fV (Hs.map dj),iI (ln (Hs.map dj)),iI 0,K0 p lf,ay (aP ro),.aj 0 cn,aa (aZ 0 c),aa (fX f L D (Hs.map dj) A),.aj 0 (bz [])]
   (bif b then(1,[K0 p ev,ay (aP ro),.aj 0 cQ,aa (aZ 0 c),aa (fX f L D (Hs.map dj) A),.aj 0 tg])else(0,[aT,K0 p ev,ay (aP ro),.aj 0 cQ,aa (aZ 0 c),aa (fX f L D (Hs.map dj) A),.aj 0 tg]))/\(b=true->(∃d,ST p ev cQ d/\((∀x∈Hs,gY x.body)->∀t,d t=cc t+y7 Hs t))/\(∀x∈Hs,F x.body)/\((∀x∈Hs,gY x.body)->NE p->bS Nc [iI lf,iI 0,dY p ts ro c,aa (fX f L D (Hs.map dj) A),aw []] (1,[iI ev,dY p ts ro c,aa (fX f L D (Hs.map dj) A)]))):=by
 have k:=fP (m:=Hs.length) (P:=λi=>∀lf cn cc,ST p lf cn cc->∀sm sn,SM sm sn->sn.Nodup->(∀y∈sn,1<=y/\y<=64)->∃b ev cQ tg,bz (aJ cQ)=cQ/\
  bS I9 [fV (Hs.map dj),iI (ln (Hs.map dj)),iI (i:Int),K0 p lf,ay (aP ro),.aj 0 cn,aa (aZ 0 c),aa (fX f L D (Hs.map dj) A),.aj 0 sm]
   (bif b then(1,[K0 p ev,ay (aP ro),.aj 0 cQ,aa (aZ 0 c),aa (fX f L D (Hs.map dj) A),.aj 0 tg])else(0,[aT,K0 p ev,ay (aP ro),.aj 0 cQ,aa (aZ 0 c),aa (fX f L D (Hs.map dj) A),.aj 0 tg]))/\
  (b=true->(∃d,ST p ev cQ d/\((∀x∈Hs,gY x.body)->∀t,d t=cc t+y7 (Hs.drop i) t))/\(∀x∈Hs.drop i,F x.body)/\((∀x∈Hs,gY x.body)->NE p->bS Nc [iI lf,iI (i:Int),dY p ts ro c,aa (fX f L D (Hs.map dj) A),aw (ints sn)] (1,[iI ev,dY p ts ro c,aa (fX f L D (Hs.map dj) A)]))))
  (λlf cn cc st sm sn hs _ _=>⟨true,lf,cn,sm,st.pk,aY aiH (au dw (ab (by rw [st.pk,hs.pk];rfl))),λ_=>⟨⟨_,st,λ_ t=>by rw [jE];simp [y7]⟩,(λy hy=>OY),λ_ _=>aY ajS (ae (bX aj4 (au (c:=decide ((Hs.length:Int)<ln (Hs.map dj))) (by rw [c9];simp) aD)) (bm aD))⟩⟩)
  λi hi ih lf cn cc st sm sn hs hn hr=>by
   have gH:aF aaH 0 (gA (Hs.map dj) ((i:Int).toNat))=dj Hs[i]:=by rw [gf hi,PH]
   have og:=hx _ (cY hi);have FZ:aU (ln (Hs.map dj)- 1)=(Hs.length:Int)- 1:=by rw [c9,mi (aeF) (aeF)]
   have jc:bY Y8 [iI (i:Int),K0 p lf,ay (aP ro),.aj 0 cn,aa (aZ 0 c),aa (fX f L D (Hs.map dj) A),aa (dj Hs[i])]
    (bif hB p Hs.length i Hs[i]then(0,[K0 p lf,ay (aP ro),.aj 0 cn,aa (aZ 0 c),aa (fX f L D (Hs.map dj) A),aa (dj Hs[i])])else(1,[aT,K0 p lf,ay (aP ro),.aj 0 cn,aa (aZ 0 c),aa (fX f L D (Hs.map dj) A),aa (dj Hs[i])])):=by
    refine bX ayk ?_;rw [st.pk,P8,PH,avw];refine ax (λa=>ax (c:=decide ((i:Int)<aU (ln (Hs.map dj)- 1))) (λb=>ab ?_) λb=>ae (W0 1 p.gv og) (ax (c:= !pg Hs[i].gv 1 p.gv) (λd=>ab ?_) λd=>ab ?_)) λa=>ae (W0 1 p.gv og) (ax (c:= !pg Hs[i].gv 1 p.gv) (λd=>ab ?_) λd=>ab ?_)
    ·rw [FZ]at b;have:(i+1==Hs.length)=false:=aei;unfold hB;rw [a,this];rfl
    ·rw [FZ]at b;have:(i+1==Hs.length)=true:=aei;simp only [iy]at d;unfold hB;rw [a,this,d];rfl
    ·rw [FZ]at b;have:(i+1==Hs.length)=true:=aei;simp only [iS]at d;unfold hB;rw [a,this,d];rfl
    ·simp only [iy]at d;unfold hB;rw [a,d];rfl
    ·simp only [iS]at d;unfold hB;rw [a,d];rfl
   have C:∀r:UO,_->bS I9 [fV (Hs.map dj),iI (ln (Hs.map dj)),iI (i:Int),K0 p lf,ay (aP ro),.aj 0 cn,aa (aZ 0 c),aa (fX f L D (Hs.map dj) A),.aj 0 sm] r:=λr h=>by
    refine aY aiH (aV (cZ hi) (az (cw hi) ?_));rw [st.pk,hs.pk,gH];refine ae jc ?_;exact h
   cases hb:hB p Hs.length i Hs[i]with
   |false=>
    rw [hb]at C;exact⟨false,lf,cn,sm,st.pk,C _ (bm (ab (by erw [st.pk];rfl))),λh=>aM⟩
   |true=>
    rw [hb]at C;simp only [bT]at C;have im:=(bA _ _).mp hb;have ry:∀y∈Hs[i].gv,1<=y/\y<=64:=λy hy=>by have:=adn im.2 y hy;omega
    obtain⟨sm1,lC,s1,s2⟩:=aOr (p:=p) (ro:=ro) og (lf:=lf) st.pk hs (xs:=Hs[i].gv);have ge:ints Hs[i].gv =gR (dj Hs[i]) 0:=(P8 _).symm;rw [ge]at s2;cases eG:yX Hs[i].gv sn with
    |none=>
     rw [eG]at s2;refine⟨false,lf,cn,sm1,st.pk,C _ (bh ?_),λh=>aM⟩;erw [st.pk];refine ae s2.diag (bh (ab ?_));erw [st.pk,lC];rfl
    |some sn1=>
     rw [eG]at s2;have sm2:=s1 sn1 eG;obtain⟨b,l1,c1,pc1,e1,e3⟩:=hk _ (cY hi) c hw lf cn cc st;have gb:encS Hs[i].body =aF fC 1 (dj Hs[i]):=(ats _).symm;rw [gb]at e1;cases b with
     |false=>
      refine⟨false,l1,c1,sm1,pc1,C _ (bh ?_),λh=>aM⟩;erw [st.pk];refine ae s2.diag (bm ?_);erw [st.pk];refine ae e1 ?_;erw [pc1,lC];exact wQ
     |true=>
      obtain⟨⟨d1,st1,q1⟩,f1,k1⟩:=e3 rfl;obtain⟨X5,yC⟩:=al5 eG hn ry hr;obtain⟨b,l2,c2,sm3,pc2,u1,u3⟩:=ih l1 c1 _ st1 sm1 sn1 sm2 X5 yC;have hm:=cY hi;refine⟨b,l2,c2,sm3,pc2,C _ (bh ?_),λh=> ?_⟩
      ·erw [st.pk];refine ae s2.diag (bm ?_);erw [st.pk];refine ae e1 ?_;erw [pc1,lC,ix hi hl];exact bm u1
      ·obtain⟨⟨d2,mG,q2⟩,f2,k2⟩:=u3 h;rw [jj hi];refine⟨⟨d2,mG,λka t=>by rw [q2 ka,q1 (ka _ hm)];simp only [y7,anZ];omega⟩,λy hy=> ?_,λka ne=> ?_⟩
       ·exact ae1
       ·have j0:bY aaO [iI lf,iI (i:Int),aa (fX f L D (Hs.map dj) A)] (0,[aa (fX f L D (Hs.map dj) A)]):=
         bX aj4 (aV (cZ (f:=dj) hi) (aV (Vb) aD))
        have jr:bY aas [iI (i:Int),dY p ts ro c,aa (fX f L D (Hs.map dj) A),aa (dj Hs[i])] (0,[dY p ts ro c,aa (fX f L D (Hs.map dj) A),aa (dj Hs[i])]):=by
         refine bX aCk ?_;rw [P8,PH,avw];have hn2:(!pg Hs[i].gv 1 p.gv)=false:=by rw [im.2];rfl
         refine ax (λa=>au (c:=(i:Int) != aU (ln (Hs.map dj)- 1)) ?_ (ae (WZ 1 p.gv og) (au hn2 aD))) λ_=>ae (WZ 1 p.gv og) (au hn2 aD);have e:=im.1;rw [a]at e;have e:i+1=Hs.length:=by simpa using e
         rw [FZ];simp;omega
        have k1:=k1 (ka _ hm) ne;rw [gb,<-gH]at k1;rw [<-gH]at jr;have r2:=aOq og ry hn hr eG;rw [<-gH]at r2;refine aY ajS (ae j0 (bh (az (cw (f:=dj) hi) (ae jr (bh (ae r2.diag (bm (ae k1 ?_))))))));rw [ix hi hl];exact k2 ka ne
 intro lf cn cc st;exact k lf cn cc st (bz []) [] ⟨CJ,λx=>by simp [xI,ew,ei]⟩ yQ (by simp)
end
end
end Go.Proofs.B.C
namespace Go.ah
def ET{p:Prop}(h:p:=by show(-1:Int)<0;omega):p:=h
end Go.ah
namespace Go.ah
def adE:=@List.count_pos_iff
end Go.ah
namespace Go.Proofs.B.C
open Go Go.ah
section
variable{f:gp}{lf:Int}{A cn:aE}
section
variable {p:PG} {ts:List TK} {ro:List RO}
def Fz(p:PG)(c:WH)(f:gp)(D H:aE):Bool:=bif decide (256<ln D)then false else bif decide (16<ln H)then false else oM f.Ts (aU (c.task+1)) (aU (ln (p.tasks.map cA)- 1))
variable (ct:CT p ts ro) {c:WH} (hw:WI p c)
include ct in
theorem scC(hf:f.Ok){L D H:aE}(hc:bz (aJ cn)=cn):
 bY Z1 [K0 p lf,ay (aP ro),.aj 0 cn,aa (aZ 0 c),SF f L D H A]
  (bif Fz p c f D H then(0,[K0 p lf,ay (aP ro),.aj 0 cn,aa (aZ 0 c),SF f L D H A])else(1,[aT,K0 p lf,ay (aP ro),.aj 0 cn,aa (aZ 0 c),SF f L D H A])):=by
 refine bX aA0 ?_;rw [hc];refine ax (c:=decide (256<ln D)) (λa=>ab (by unfold Fz;rw [a];rfl)) λa=>ax (c:=decide (16<ln H)) (λb=>ab (by unfold Fz;rw [a,b];rfl)) λb=>ae (ags (aU (c.task+1)) (aU (ln (p.tasks.map cA)- 1)) hf.Ts) (ax (c:= !oM f.Ts (aU (c.task+1)) (aU (ln (p.tasks.map cA)- 1))) (λd=>ab ?_) λd=>ab ?_)
 ·simp only [iy]at d;unfold Fz;rw [a,b,d];rfl
 ·simp only [iS]at d;unfold Fz;rw [a,b,d];rfl
theorem WI.of{w w':WH}(h:WI p w)(h1:w'.task=w.task)(h2:w'.sl<0∨w'.sl=w.sl)(h3:w'.kX=w.kX)(m:(w'.marks.length:Int)<=w.deep)(a:(w'.oy.length:Int)<=w.deep)(b:(w'.rG.length:Int)<=w.deep)(l:(w'.loops.length:Int)<=w.deep)(d:w'.deep=w.deep):WI p w':=
 ⟨⟨by rcases h2 with h2|h2
      ·exact .inl h2
      ·rw [h1,h2];exact h.ei.XJ,by rw [h3];exact h.ei.act,by rw [h1];exact h.ei.task⟩,by rw [d];exact m,by rw [d];exact a,by rw [d];exact b,by rw [d,h3];exact h.l4,by rw [d];exact l,by rw [d];exact h.d⟩
theorem acH:∀{l:cj},l.Nodup->∀t,l.count t<=1
 | [],_,_=>by simp
 |x::l,h,t=>by
  have ⟨h1,h2⟩:=Cq.1 h;rw [Uo]
  by_cases e:x=t
  ·subst e;have:=List.count_eq_zero.2 h1;simp;omega
  ·simp [e];exact acH h2 t
include ct hw in
theorem aZV{F:CS->Prop}(hf:f.Ok){s0:CS}{Ds:List CD}{Hs:List CH}(hD:Ds.length<=mx)(hH:Hs.length<=mx)(pq:0<=c.deep)(hx:∀x∈Hs,x.gv.length<=mx)
 (k0:sB p ts ro F s0) (kD:∀d∈Ds,sB p ts ro F d.d/\sB p ts ro F d.u) (kH:∀x∈Hs,sB p ts ro F x.body)   {cc:Int->Nat} (st:ST p lf cn cc) (hs:∀t,(cc t:Int)+1<=8192- lf):∃b ev cQ,bz (aJ cQ)=cQ/\
 Ev MX [aa (aZ 0 c),SF f [encS s0] (Ds.map eu) (Hs.map dj) A,K0 p lf,ay (aP ro),.aj 0 cn] (0,av b::iQ p ro ev cQ)/\(b=true->(∃d,ST p ev cQ d/\(gY s0->(∀d∈Ds,gY d.d/\gY d.u)->(∀x∈Hs,gY x.body)->∀t,d t=cc t+(f.Ts.count t+(y8 Ds t+(oH s0 t+y7 Hs t)))))/\F s0/\(∀d∈Ds,F d.d/\F d.u)/\(∀x∈Hs,F x.body)/\(gY s0->(∀d∈Ds,gY d.d/\gY d.u)->(∀x∈Hs,gY x.body)->NE p->Ev ace [dY p ts ro c,SF f [encS s0] (Ds.map eu) (Hs.map dj) A,iI lf] (0,[iI ev]))):=by
 have a1:=scC ct (c:=c) hf (L:=[encS s0]) (D:=Ds.map eu) (H:=Hs.map dj) (A:=A) (lf:=lf) st.pk;have C:∀r:UO,_->Ev MX [aa (aZ 0 c),SF f [encS s0] (Ds.map eu) (Hs.map dj) A,K0 p lf,ay (aP ro),.aj 0 cn] r:=λr h=>by
  refine bj aCy ?_;rw [st.pk];refine ae a1 ?_;exact h
 cases hb:Fz p c f (Ds.map eu) (Hs.map dj)with
 |false=>
  rw [hb]at C;refine⟨false,lf,cn,st.pk,C _ (bm (ab ?_)),λh=>aM⟩;erw [st.pk];rfl
 |true=>
  rw [hb]at C;simp only [bT]at C;have LW:oM f.Ts (aU (c.task+1)) (aU (ln (p.tasks.map cA)- 1))=true:=by
   unfold Fz at hb;cases h:decide (256<ln (Ds.map eu))with
   |true=>rw [h]at hb;cases hb
   |false=>
    cases h2:decide (16<ln (Hs.map dj))with
    |true=>rw [h,h2]at hb;cases hb
    |false=>rw [h,h2]at hb;exact hb
  have uP:=aJN LW;obtain⟨Ys,h1,e1⟩:=aZO (p:=p) (ro:=ro) (w:=c) hf.Ts (lf:=lf) ⟨st.pk,st.rep⟩ (c:=cc) λt=>by
   have:=acH uP t;have:=hs t;have:=st.lo;omega
  have trg:∀t∈f.Ts,1<=t/\t<(p.tasks.length:Int):=λt ht=>by
   have h1:=anP LW t ht;have h2:=mR.1 hw.ei.task;have h3:=ct.aOP;rw [c9,mi (by omega) (by omega),mi (by omega) (by omega)]at h1;omega
  have st1:ST p lf Ys λt=>cc t+f.Ts.count t:=⟨h1.pk,h1.rep,λt=>by
   have:=acH uP t;have:=hs t;omega,st.lo,st.hi,λt ht=>by
    by_cases h0:cc t=0
    ·exact trg t (adE.1 (by omega))
    ·exact st.mX t h0⟩
  have a14:bY ZO [K0 p lf,ay (aP ro),.aj 0 cn,aa (aZ 0 c),SF f [encS s0] (Ds.map eu) (Hs.map dj) A] (0,[K0 p lf,ay (aP ro),.aj 0 Ys,aa (aZ 0 c),SF f [encS s0] (Ds.map eu) (Hs.map dj) A]):=by
   refine bX aAq ?_;rw [st.pk];refine ae e1.diag (ab ?_);erw [h1.pk];rfl
  have l0:∀(w:WH),(([]:cj).length :Int)<=c.deep:=λ_=>by simpa using pq
  have wd:WI p {mZ c with tO:=true}:=hw.of rfl (.inl (ET)) rfl (l0 c) hw.l2 hw.l3 hw.l5 rfl;have wu:WI p {mZ c with sr:=true}:=hw.of rfl (.inl (ET)) rfl (l0 c) hw.l2 hw.l3 hw.l5 rfl;obtain⟨b,l2,c2,mI,e2,g2⟩:=aOC (c:=c) wd wu (f:=f) (L:=[encS s0]) (H:=Hs.map dj) (A:=A) hD kD lf Ys _ st1;have C2:∀r:UO,_->Ev MX [aa (aZ 0 c),SF f [encS s0] (Ds.map eu) (Hs.map dj) A,K0 p lf,ay (aP ro),.aj 0 cn] r:=λr h=>by
   refine C r (bh ?_);erw [st.pk];refine ae a14 ?_;erw [h1.pk];refine ae (Xe (w:=c) h1.pk) ?_;erw [h1.pk];refine ae (Xe (w:=c) h1.pk) ?_;erw [h1.pk];have aYL:bY ZB [K0 p lf,ay (aP ro),.aj 0 Ys,SF f [encS s0] (Ds.map eu) (Hs.map dj) A,aa (aZ 0 {mZ c with tO:=true}),aa (aZ 0 {mZ c with sr:=true})]
    (bif b then(0,[K0 p l2,ay (aP ro),.aj 0 c2,SF f [encS s0] (Ds.map eu) (Hs.map dj) A,aa (aZ 0 {mZ c with tO:=true}),aa (aZ 0 {mZ c with sr:=true})])else(1,[aT,K0 p l2,ay (aP ro),.aj 0 c2,SF f [encS s0] (Ds.map eu) (Hs.map dj) A,aa (aZ 0 {mZ c with tO:=true}),aa (aZ 0 {mZ c with sr:=true})])):=by
    refine bX azJ ?_;rw [h1.pk];refine ae e2.diag ?_;cases b with
    |false=>refine bh (ab ?_);erw [mI];rfl
    |true=>refine bm (ab ?_);erw [mI];rfl
   refine ae aYL ?_;exact h
  have wq:WI p (rq c):=hw.of rfl (.inl (ET)) rfl hw.l1 hw.l2 hw.l3 hw.l5 rfl;have wh:WI p {rq c with Et:=true}:=hw.of rfl (.inl (ET)) rfl hw.l1 hw.l2 hw.l3 hw.l5 rfl;cases b with
  |false=>
   refine⟨false,l2,c2,mI,C2 _ (bm (ab ?_)),λh=>aM⟩;erw [mI];rfl
  |true=>
   obtain⟨⟨d2,mG,q2⟩,fD,kR⟩:=g2 rfl;obtain⟨b,l3,c3,FO,e3,g3⟩:=k0 (rq c) wq l2 c2 _ mG;have u0:aF fC 0 (gA [encS s0] 0)=encS s0:=kZ s0;have e3':Ev nS [aa (aZ 0 (rq c)),aa (aF fC 0 (gA [encS s0] 0)),K0 p l2,ay (aP ro),.aj 0 c2] (0,av b::iQ p ro l3 c3):=by rw [u0];exact e3
   cases b with
   |false=>
    refine⟨false,l3,c3,FO,C2 _ (bh (az rfl ?_)),λh=>aM⟩;erw [mI];refine ae e3' (bh (ab ?_));erw [FO];rfl
   |true=>
    obtain⟨⟨d3,H5,q3⟩,f0,kR0⟩:=g3 rfl;obtain⟨b,l4,c4,sm,pk4,e4,g4⟩:=aOB (p:=p) (ts:=ts) (ro:=ro) ct.gv wh (f:=f) (L:=[encS s0]) (D:=Ds.map eu) (A:=A) hH hx kH l3 c3 _ H5;refine⟨b,l4,c4,pk4,C2 _ (bh (az rfl ?_)),λh=> ?_⟩
    ·erw [mI];refine ae e3' (bm ?_);erw [FO];refine ae e4.diag ?_;cases b with
     |false=>refine bh (ab ?_);erw [pk4];rfl
     |true=>refine bm (ab ?_);erw [pk4];rfl
    ·obtain⟨⟨d4,st4,q4⟩,fH,kRH⟩:=g4 h;refine⟨⟨d4,st4,λa1 a2 a3 t=>by rw [q4 a3,q3 a1,q2 a2];omega⟩,f0,fD,fH,λa1 a2 a3 ne=> ?_⟩;have r6:bY abL [dY p ts ro c,SF f [encS s0] (Ds.map eu) (Hs.map dj) A] (0,[dY p ts ro c,SF f [encS s0] (Ds.map eu) (Hs.map dj) A]):=by
      unfold Fz at hb;cases x1:decide (256<ln (Ds.map eu))<;>rw [x1]at hb
      ·cases x2:decide (16<ln (Hs.map dj))<;>rw [x2]at hb
       ·have u:=aQf (aU (c.task+1)) (aU (ln (ts.map cA)- 1)) hf.Ts;refine bX aHr (au x1 (au x2 (ae u (au ?_ aD))));show(!oM f.Ts (aU (c.task+1)) (aU (ln (ts.map cA)- 1)))=false;rw [aM2 ct,<-c9 (f:=cA),LW];rfl
       ·cases hb
      ·cases hb
     have e3:=kR0 a1 ne;rw [<-u0]at e3;exact bj aIQ (ae r6 (bh (ae (bX aGu (ae (kR a2 ne).diag aD)) (ae (bX aGt (aV (c:=decide (0<=l2)) (by simpa using mG.lo) (az rfl (ae e3 aD)))) (ae (kRH a3 ne).diag (bm aD))))))
end
end
end Go.Proofs.B.C
namespace Go.ah
def aoX{p:Prop}(h:p:=by show(!(x.entry==0))=false;rw [h3];rfl):p:=h
def aoS{p:Prop}(h:p:=by show(!(x.entry==0))=true;rw [h3];rfl):p:=h
end Go.ah
namespace Go.Proofs.B.C
open Go Go.ah
section
variable{k:Int}{l:List CE}{a e t:Nat}{mm:aE}
def LO(k:Int):Bool:=bif k==2 then true else k==3
def kk(k:Int):Int:=bif LO k then 2 else k
def dA(c:WH)(x:CA):WH:=bif x.kind==1 then BN c x.entry else c
def na(k:Int)(a:Nat):Nat:=if k=1 then a+1 else a
def ne'(k:Int)(e:Nat):Nat:=if k=4 then e+1 else e
def nt(k:Int)(t:Nat):Nat:=if k=1∨k=4 then t else t+1
def cur(k:Int)(a t e:Nat):Nat:=if k=1 then a else if k=4 then e else t
structure CM(mm:aE)(a t e:Nat):Prop where
 pk:bz (aJ mm)=mm
 f1:ew (aJ mm) (cu 1)=if a=0 then none else some (iI (a:Int))
 f2:ew (aJ mm) (cu 2)=if t=0 then none else some (iI (t:Int))
 f4:ew (aJ mm) (cu 4)=if e=0 then none else some (iI (e:Int))
theorem CM.look(h:CM mm a t e)(hk:k=1∨k=2∨k=3∨k=4):ew (aJ mm) (cu (kk k))=if cur k a t e=0 then none else some (iI (cur k a t e:Int)):=by
 rcases hk with rfl|rfl|rfl|rfl
 ·exact h.f1
 ·exact h.f2
 ·exact h.f2
 ·exact h.f4
theorem CM.put(h:CM mm a t e)(hk:k=1∨k=2∨k=3∨k=4):CM (bz (lY (aJ mm) (cu (kk k)) (iI ((cur k a t e+1:Nat):Int)))) (na k a) (nt k t) (ne' k e):=by
 rcases hk with rfl|rfl|rfl|rfl
 ·refine⟨CJ,?_,?_,?_⟩<;>rw [xI,Gz]<;>first|exact h.f2|exact h.f4|rfl
 ·refine⟨CJ,?_,?_,?_⟩<;>rw [xI,Gz]<;>first|exact h.f1|exact h.f4|rfl
 ·refine⟨CJ,?_,?_,?_⟩<;>rw [xI,Gz]<;>first|exact h.f1|exact h.f4|rfl
 ·refine⟨CJ,?_,?_,?_⟩<;>rw [xI,Gz]<;>first|exact h.f1|exact h.f2|rfl
section
variable {p:PG} {ts:List TK} {ro:List RO} (ct:CT p ts ro) {c:WH} (hw:c.Ok) {cn:aE} (hc:bz (aJ cn)=cn) {lf:Int} (hE:pD)
theorem aYF:(ln (l.map aH) != 1)= !(ln (l.map aH)==1):=rfl
theorem gt0:decide (0<ln (l.map aH))= !(ln (l.map aH)==0):=by rw [c9];cases l<;>simp;omega
abbrev A0(x:CA):AV:= aa (fa x)
include ct hw hc hE in
theorem aYz(l:List CE)(ok:∀e∈l,e.Ok):∃nb:Bool,∀e,l=[e]->Ev AZ [aa (aZ 0 c),aa (aH e),aa (ep 1 2 p lf),ay (aP ro),.aj 0 cn] (0,av nb::iQ p ro lf cn):=ast
include ct hw hc hE in
theorem aZZ(x:CA)(hx:x.B7){nb:Bool}(IC:∀e,x.E=[e]->Ev AZ [aa (aZ 0 c),aa (aH e),aa (ep 1 2 p lf),ay (aP ro),.aj 0 cn] (0,av nb::iQ p ro lf cn)):∃b,
 bY I7 [cu x.kind,K0 p lf,ay (aP ro),.aj 0 cn,aa (aZ 0 c),A0 x,aa (aZ 0 c)]
  (bif b then(0,[cu (kk x.kind),K0 p lf,ay (aP ro),.aj 0 cn,aa (aZ 0 c),A0 x,aa (aZ 0 (dA c x))])else(1,[aT,K0 p lf,ay (aP ro),.aj 0 cn,aa (aZ 0 c),A0 x,aa (aZ 0 c)]))/\
 (b=true->(x.kind=1∨x.kind=2∨x.kind=3∨x.kind=4)/\(x.kind=1->rU p c.task x.entry=true)):=by
 have j9:bY Y0 [cu x.kind,K0 p lf,ay (aP ro),.aj 0 cn] (0,av (LO x.kind)::iQ p ro lf cn):=by
  refine bX axV ?_;rw [hc];refine ax (c:=x.kind==2) (λh=>ab ?_) λh=>ab ?_
  ·unfold LO;rw [h];rfl
  ·unfold LO;rw [h];rfl
 have C:∀r:UO,_->bY I7 [cu x.kind,K0 p lf,ay (aP ro),.aj 0 cn,aa (aZ 0 c),A0 x,aa (aZ 0 c)] r:=λr h=>by
  refine bX ayj ?_;rw [hc,aZC,aZE,att,agt,agu,aYF,gt0];exact h
 by_cases h1:(x.kind==1)=true
 ·cases hl:ln (x.E.map aH)==0 with
  |false=>
   rw [hl]at C;exact⟨false,C _ (aV h1 (bh aD)),λh=>aM⟩
  |true=>
   rw [hl]at C;refine⟨HN p c x.entry,C _ (aV h1 (bm (ae (avh (lf:=lf) hw hc x.entry) ?_))),λh=>⟨.inl (eq_of_beq h1),λ_=>by unfold HN at h;rw [bA]at h;exact h.1⟩⟩;erw [hc];cases ho:HN p c x.entry with
   |false=>exact wQ
   |true=>
    refine bm (ae (awp (lf:=lf) hw hc x.entry) (ab ?_));erw [hc];have hd:dA c x=BN c x.entry:=by unfold dA;rw [h1];rfl
    have oQ:kk x.kind=x.kind:=aex;rw [hd,oQ];rfl
 ·have h1:(x.kind==1)=false:=by simpa using h1
  have hd:dA c x=c:=by unfold dA;rw [h1];rfl
  cases h2:LO x.kind with
  |true=>
   rw [h2]at j9;have oQ:kk x.kind=2:=by unfold kk;rw [h2];rfl
   have C2:∀r:UO,_->bY I7 [cu x.kind,K0 p lf,ay (aP ro),.aj 0 cn,aa (aZ 0 c),A0 x,aa (aZ 0 c)] r:=λr h=>by
    refine C r (au h1 (ae j9 (bh ?_)));exact Kr
   cases h3:x.entry==0 with
   |false=>
    refine⟨false,C2 _ (aV (c:=x.entry != 0) (aoS) aD),λh=>aM⟩
   |true=>
    have F9:(x.entry != 0)=false:=aoX;cases hl:ln (x.E.map aH)==1 with
    |false=>
     rw [hl]at C2;refine⟨false,C2 _ (au F9 (bh aD)),λh=>aM⟩
    |true=>
     rw [hl]at C2;obtain⟨e,he⟩:=yc (eq_of_beq hl);have hg:decide (0<ln (x.E.map aH))=true:=aew;have lx:(!(ln (x.E.map aH)==0))=true:=aew;have b1:=IC e he;rw [<-Aa e,<-he]at b1;cases nb with
     |false=>
      refine⟨false,C2 _ (au F9 (bm (az lx (ae b1 (bh (ab ?_)))))),λh=>aM⟩;exact qn
     |true=>
      refine⟨xj x.body,C2 _ (au F9 (bm (az lx (ae b1 (bm (ae (Hq x.body) ?_)))))),λ_=>⟨?_,λh=>by rw [h]at h1;cases h1⟩⟩
      ·cases xj x.body with
       |false=>exact Vk
       |true=>refine bm (ab ?_);erw [hc];rw [oQ,hd];rfl
      ·unfold LO at h2;cases h:x.kind==2 with
       |true=>exact .inr (.inl (eq_of_beq h))
       |false=>rw [h]at h2;exact .inr (.inr (.inl (eq_of_beq h2)))
  |false=>
   rw [h2]at j9;have oQ:kk x.kind=x.kind:=by unfold kk;rw [h2];rfl
   have C2:∀r:UO,_->bY I7 [cu x.kind,K0 p lf,ay (aP ro),.aj 0 cn,aa (aZ 0 c),A0 x,aa (aZ 0 c)] r:=λr h=>by
    refine C r (au h1 (ae j9 (bm ?_)));exact Kr
   cases h4:x.kind==4 with
   |false=>exact⟨false,C2 _ (au h4 aD),λh=>aM⟩
   |true=>
    cases h3:x.entry==0 with
    |false=>
     refine⟨false,C2 _ (aV h4 (aV (c:=x.entry != 0) (aoS) aD)),λh=>aM⟩
    |true=>
     have F9:(x.entry != 0)=false:=aoX;cases hl:ln (x.E.map aH)==0 with
     |false=>
      rw [hl]at C2;refine⟨false,C2 _ (aV h4 (au F9 (bh aD))),λh=>aM⟩
     |true=>
      rw [hl]at C2;cases hb:xj x.body with
      |false=>
       have n1:=Hq x.body;rw [hb]at n1;exact⟨false,C2 _ (aV h4 (au F9 (bm (ae n1 (bh aD))))),λh=>aM⟩
      |true=>
       have n1:=Hq x.body;rw [hb]at n1;refine⟨xj x.after,C2 _ (aV h4 (au F9 (bm (ae n1 (bm (ae (Hq x.after) ?_)))))),λ_=>⟨.inr (.inr (.inr (eq_of_beq h4))),λh=>by rw [h]at h1;cases h1⟩⟩;cases xj x.after with
       |false=>exact wQ
       |true=>refine bm (ab ?_);rw [oQ,hd];rfl
end
end
end Go.Proofs.B.C
namespace Go.ah
def Vc{p:Prop}(h:p:=by rw [xI];rfl):p:=h
end Go.ah
namespace Go.Proofs.B.C
open Go Go.ah
section
variable{As:List CA}{i:Nat}
section
variable {p:PG} {ts:List TK} {ro:List RO}
def ad4(h:i<As.length):aF Ef 0 (gA (As.map fa) ((i:Int).toNat))=fa As[i]:=by rw [gf h,att]
def aLL(h:i<As.length):aF qP 1 (gA (As.map fa) ((i:Int).toNat))=aH As[i].guard :=by rw [gf h,aQk]
def arn(h:i<As.length):gI (gA (As.map fa) ((i:Int).toNat)) 0=As[i].kind :=by rw [gf h,aZD]
def aOD{F:CS->Prop}(ct:CT p ts ro)(hE:pD){c:WH}(hw:WI p c)(h3:(c.rG.length:Int)+1<=c.deep)(hl:As.length<=mx)(hx:∀x∈As,x.B7)(hk:∀x∈As,sB p ts ro F x.body/\sB p ts ro F x.after):
 ∀lf cn cc,ST p lf cn cc->∃b ev cQ AA,bz (aJ cQ)=cQ/\bz (aJ AA)=AA/\
  bS Cc [fy (As.map fa),iI (ln (As.map fa)),iI 0,K0 p lf,ay (aP ro),.aj 0 cn,aa (aZ 0 c),.aj 0 (bz [])]
   (bif b then(1,[K0 p ev,ay (aP ro),.aj 0 cQ,aa (aZ 0 c),.aj 0 AA])else(0,[aT,K0 p ev,ay (aP ro),.aj 0 cQ,aa (aZ 0 c),.aj 0 AA]))/\(b=true->(∃d,ST p ev cQ d)/\(∃a t e,CM AA a t e/\a+t+e<=mx)/\∀x∈As,F x.body/\F x.after):=by
 have hwo:=hw.ok;have k:=fP (m:=As.length) (P:=λi=>∀lf cn cc,ST p lf cn cc->∀mm (a t e:Nat),CM mm a t e->a+t+e=i->∃b ev cQ AA,bz (aJ cQ)=cQ/\bz (aJ AA)=AA/\
  bS Cc [fy (As.map fa),iI (ln (As.map fa)),iI (i:Int),K0 p lf,ay (aP ro),.aj 0 cn,aa (aZ 0 c),.aj 0 mm]
   (bif b then(1,[K0 p ev,ay (aP ro),.aj 0 cQ,aa (aZ 0 c),.aj 0 AA])else(0,[aT,K0 p ev,ay (aP ro),.aj 0 cQ,aa (aZ 0 c),.aj 0 AA]))/\(b=true->(∃d,ST p ev cQ d)/\(∃a t e,CM AA a t e/\a+t+e<=mx)/\∀x∈As.drop i,F x.body/\F x.after))
  (λlf cn cc st mm a t e hm hs=>⟨true,lf,cn,mm,st.pk,hm.pk,aY aiK (au dw (ab (by rw [st.pk,hm.pk];rfl))),λ_=>⟨⟨_,st⟩,⟨a,t,e,hm,by omega⟩,λy hy=>OY⟩⟩)
  λi hi ih lf cn cc st mm a t e hm hs=>by
   have kM:=cY hi;have eA:A0 As[i]= aa (aF Ef 0 (gA (As.map fa) ((i:Int).toNat))):=by rw [ad4 hi]
   obtain⟨bc,q1,_⟩:=af3 ct hwo st.pk (lf:=lf) hE As[i].guard (hx _ kM).guard;obtain⟨nb,IC⟩:=aYz ct hwo st.pk (lf:=lf) hE As[i].E (hx _ kM).E.2;obtain⟨b,a1,a3⟩:=aZZ ct hwo st.pk (lf:=lf) hE As[i] (hx _ kM) IC;rw [<-aLL hi]at q1;have C:∀r:UO,_->bS Cc [fy (As.map fa),iI (ln (As.map fa)),iI (i:Int),K0 p lf,ay (aP ro),.aj 0 cn,aa (aZ 0 c),.aj 0 mm] r:=λr h=>by
    refine aY aiK (aV (cZ hi) (az (cw hi) ?_));rw [st.pk,hm.pk];refine ae q1 ?_;exact h
   cases bc with
   |false=>
    refine⟨false,lf,cn,mm,st.pk,hm.pk,C _ (bh (ab ?_)),λh=>aM⟩;erw [st.pk];rfl
   |true=>
    rw [eA,<-arn hi]at a1;cases b with
    |false=>
     refine⟨false,lf,cn,mm,st.pk,hm.pk,C _ (bm ?_),λh=>aM⟩;erw [st.pk];refine ae a1 (bm (ab ?_));erw [st.pk];rfl
    |true=>
     obtain⟨qe,aZd⟩:=a3 rfl;have hm2:=hm.put qe;have AQ:=hm.look qe;have avG:na As[i].kind a+nt As[i].kind t+ne' As[i].kind e=i+1:=by
      unfold na nt ne';rcases qe with h|h|h|h<;>rw [h]<;>simp<;>omega
     have wd:WI p (dA c As[i]):=by
      unfold dA;cases h1:As[i].kind ==1 with
      |false=>exact hw
      |true=>
       have pq:(0:Int)<=c.deep:=by have:=hw.l1;omega
       refine⟨⟨.inr (aZd (eq_of_beq h1)),hw.ei.act,hw.ei.task⟩,?_,hw.l2,?_,hw.l4,hw.l5,hw.d⟩
       ·simpa [BN,mZ]using pq
       ·simpa [BN,mZ]using h3
     obtain⟨ho,hv⟩:=hk _ kM;obtain⟨b,l1,c1,lC,e1,g1⟩:=ho _ wd lf cn cc st;have ub:encS As[i].body =aF fC 12 (aF Ef 0 (gA (As.map fa) ((i:Int).toNat))):=by rw [ad4 hi,agt]
     have ua:encS As[i].after =aF fC 33 (aF Ef 0 (gA (As.map fa) ((i:Int).toNat))):=by rw [ad4 hi,agu]
     rw [ub]at e1;have uQ:∃FQ:aE,CM FQ (na As[i].kind a) (nt As[i].kind t) (ne' As[i].kind e)/\(∀r:UO,E (λN m=>bO (FU CX EE N nS [aa (aZ 0 (dA c As[i])),aa (aF fC 12 (aF Ef 0 (gA (As.map fa) ((i:Int).toNat)))),K0 p lf,ay (aP ro),.aj 0 cn]) λ_ dr=>bif !(gB dr 0)then some (0,[aT,aa (sT (aF eC 0 (gC dr 1)) eY),ay (gR dr 2),.aj 0 (bz (aJ (gR dr 3))),aa (aZ 0 c),.aj 0 FQ])else bO (FU CX EE N nS [aa (aZ 0 c),aa (aF fC 33 (aF Ef 0 (gA (As.map fa) ((i:Int).toNat)))),aa (sT (aF eC 0 (gC dr 1)) eY),ay (gR dr 2),.aj 0 (bz (aJ (gR dr 3)))]) λ_ dI=>bif !(gB dI 0)then some (0,[aT,aa (sT (aF eC 0 (gC dI 1)) eY),ay (gR dI 2),.aj 0 (bz (aJ (gR dI 3))),aa (aZ 0 c),.aj 0 FQ])else Cc (FU CX EE N) N m [fy (As.map fa),iI (ln (As.map fa)),iI (aU ((i:Int)+1)),aa (sT (aF eC 0 (gC dI 1)) eY),ay (gR dI 2),.aj 0 (bz (aJ (gR dI 3))),aa (aZ 0 c),.aj 0 FQ]) r->
      bS Cc [fy (As.map fa),iI (ln (As.map fa)),iI (i:Int),K0 p lf,ay (aP ro),.aj 0 cn,aa (aZ 0 c),.aj 0 mm] r):=by
      refine⟨_,hm2,λr h=>C r (bm ?_)⟩;erw [st.pk];refine ae a1 (bh ?_);show E (λN m=>match ew (aJ mm) (cu (kk (gI (gA (As.map fa) ((i:Int).toNat)) 0)))with|some Io=>_|none=>_) r;rw [arn hi,AQ]
      by_cases h0:cur As[i].kind a t e=0
      ·rw [if_pos h0];rw [h0]at h;erw [st.pk];exact h
      ·rw [if_neg h0];have iJ:cur As[i].kind a t e<=mx:=by
        unfold cur;split
        ·omega
        ·split<;>omega
       have:aU ((iI ((cur As[i].kind a t e:Nat):Int)).toI +1)=((cur As[i].kind a t e+1:Nat):Int):=by
        show aU (((cur As[i].kind a t e:Nat):Int)+1)=_;simp only [mx]at iJ;exact zb
       rw [<-this]at h;erw [st.pk];exact h
     obtain⟨FQ,Q3,CC⟩:=uQ;rw [ix hi hl]at CC;cases b with
     |false=>
      refine⟨false,l1,c1,FQ,lC,Q3.pk,CC _ (ae e1 (bh (ab ?_))),λh=>aM⟩;erw [lC];rfl
     |true=>
      obtain⟨⟨_,st1,_⟩,F1,_⟩:=g1 rfl;obtain⟨b,l2,c2,mI,e2,g2⟩:=hv _ hw l1 c1 _ st1;rw [ua]at e2;cases b with
      |false=>
       refine⟨false,l2,c2,FQ,mI,Q3.pk,CC _ (ae e1 (bm ?_)),λh=>aM⟩;erw [lC];refine ae e2 (bh (ab ?_));erw [mI];rfl
      |true=>
       obtain⟨⟨_,mG,_⟩,F2,_⟩:=g2 rfl;obtain⟨b,l3,c3,m3,FO,pm3,u1,u4⟩:=ih l2 c2 _ mG FQ _ _ _ Q3 avG;refine⟨b,l3,c3,m3,FO,pm3,CC _ (ae e1 (bm ?_)),λh=>⟨(u4 h).1,(u4 h).2.1,λy hy=> ?_⟩⟩
       ·erw [lC];refine ae e2 (bm ?_);erw [mI];exact u1
       ·rw [jj hi]at hy;rcases iz.1 hy with rfl|hy
        ·exact⟨F1,F2⟩
        ·exact(u4 h).2.2 y hy
 intro lf cn cc st;exact k lf cn cc st (bz []) 0 0 0 ⟨CJ,Vc,Vc,Vc⟩ rfl
end
end
end Go.Proofs.B.C
namespace Go.ah
def aen{p:Prop}(h:p:=by
 refine ae e1 ?_;exact h):p:=h
end Go.ah
namespace Go.ah
def N7:=@Int.add_zero
end Go.ah
namespace Go.Proofs.B.C
open Go Go.ah
section
variable{s0:CS}{f:gp}{lf x:Int}{a e t:Nat}{D H cn mm:aE}
section
variable {p:PG} {ts:List TK} {ro:List RO}
def IS(f:gp)(s0:CS)(A:aE):Bool:=bif decide (ln A<1)then false else bif decide (16<ln A)then false else bif !f.els then xj s0 else true
def chC{A:aE}(hc:bz (aJ cn)=cn):
 bY ZN [K0 p lf,ay (aP ro),.aj 0 cn,SF f [encS s0] D H A]
  (bif IS f s0 A then(0,[K0 p lf,ay (aP ro),.aj 0 cn,SF f [encS s0] D H A])else(1,[aT,K0 p lf,ay (aP ro),.aj 0 cn,SF f [encS s0] D H A])):=by
 have u0:aF fC 0 (gA [encS s0] 0)=encS s0:=kZ s0;have n0:=Hq s0;rw [<-u0]at n0;refine bX aAp ?_;rw [hc];refine ax (c:=decide (ln A<1)) (λa=>ab (by unfold IS;rw [a];rfl)) λa=>ax (c:=decide (16<ln A)) (λb=>ab (by unfold IS;rw [a,b];rfl)) λb=>ax (c:= !f.els) (λd=>az rfl (ae n0 (ax (c:= !xj s0) (λg=>ab ?_) λg=>ab ?_))) λd=>ab ?_
 ·simp only [iy]at g;unfold IS;rw [a,b,d,g];rfl
 ·simp only [iS]at g;unfold IS;rw [a,b,d,g];rfl
 ·unfold IS;rw [a,b,d];rfl
def tb(t:Nat):Int:=if t=0 then 0 else 1
def LD(els:Bool)(a t e:Nat):Bool:=decide (0<a)&&decide ((e:Int)+tb t+(bif els then 1 else 0)<=1)
def aOc(t:Nat):0<=tb t/\tb t<=1:=by unfold tb;split<;>omega
def avC(h0:0<=x)(h1:x<=mx)(hc:bz (aJ cn)=cn)(hm:CM mm a t e):
 bY RQ [iI x,K0 p lf,ay (aP ro),.aj 0 cn,.aj 0 mm] (0,[iI (x+tb t),K0 p lf,ay (aP ro),.aj 0 cn,.aj 0 mm]):=by
 refine bX azk ?_;rw [hc,hm.pk,hm.f2];have hx:aU (x+1)=x+1:=by simp only [mx]at h1;rw [mi (by omega) (by omega)]
 unfold tb
 by_cases h:t=0
 ·rw [if_pos h,if_pos h,N7];exact aD
 ·rw [if_neg h,if_neg h];refine aV (c:=decide (0<(iI (t:Int)).toI)) ?_ (ab (by rw [hx];rfl));show decide (0<(t:Int))=true;exact eE
def awi{els:Bool}(hc:bz (aJ cn)=cn)(hm:CM mm a t e)(hx:x=(e:Int)+tb t)(h0:e<=mx):
 E (λ_ _=>bif els then match ew (aJ mm) (cu 1)with|some Qw=>(bif decide (0<Qw.toI)then some (0,[av (decide (aU (x+1)<=1)),K0 p lf,ay (aP ro),.aj 0 cn])else some (0,[aT,K0 p lf,ay (aP ro),.aj 0 cn]))|none=>(some (0,[aT,K0 p lf,ay (aP ro),.aj 0 cn]))else match ew (aJ mm) (cu 1)with|some Qv=>(bif decide (0<Qv.toI)then some (0,[av (decide (x<=1)),K0 p lf,ay (aP ro),.aj 0 cn])else some (0,[aT,K0 p lf,ay (aP ro),.aj 0 cn]))|none=>(some (0,[aT,K0 p lf,ay (aP ro),.aj 0 cn])))
  (0,av (LD els a t e)::iQ p ro lf cn):=by
 have ht:=aOc t;rw [hm.f1]
 by_cases h:a=0
 ·rw [if_pos h];have:LD els a t e=false:=by unfold LD;rw [h];rfl
  rw [this];cases els<;>exact aD
 ·rw [if_neg h];have hd:decide (0<(iI (a:Int)).toI)=true:=by
   show decide (0<(a:Int))=true;exact eE
  have ha:decide (0<a)=true:=eE;simp only [mx]at h0;cases els with
  |true=>
   refine bh (aV hd (ab ?_));have hw:aU (x+1)=(e:Int)+tb t+1:=by rw [mi (by omega) (by omega),hx]
   unfold LD;rw [ha,hw];rfl
  |false=>
   refine bm (aV hd (ab ?_));unfold LD;rw [ha,hx,bM,N7];rfl
def chE{F:CS->Prop}(ct:CT p ts ro)(hE:pD){c:WH}(hw:WI p c)(h3:(c.rG.length:Int)+1<=c.deep){As:List CA}(hl:As.length<=mx)(hx:∀x∈As,x.B7)(k0:sB p ts ro F s0)(hk:∀x∈As,sB p ts ro F x.body/\sB p ts ro F x.after){cc:Int->Nat}(st:ST p lf cn cc):∃b ev cQ,bz (aJ cQ)=cQ/\
 Ev MR [aa (aZ 0 c),SF f [encS s0] D H (As.map fa),K0 p lf,ay (aP ro),.aj 0 cn] (0,av b::iQ p ro ev cQ)/\(b=true->(∃d,ST p ev cQ d)/\F s0/\∀x∈As,F x.body/\F x.after):=by
 have u0:aF fC 0 (gA [encS s0] 0)=encS s0:=kZ s0;have a1:=chC (p:=p) (ro:=ro) (f:=f) (s0:=s0) (D:=D) (H:=H) (A:=As.map fa) (lf:=lf) st.pk;have C:∀r:UO,_->Ev MR [aa (aZ 0 c),SF f [encS s0] D H (As.map fa),K0 p lf,ay (aP ro),.aj 0 cn] r:=λr h=>by
  refine bj aBQ ?_;rw [st.pk];refine ae a1 ?_;exact h
 cases hb:IS f s0 (As.map fa)with
 |false=>
  rw [hb]at C;refine⟨false,lf,cn,st.pk,C _ (bm (ab ?_)),λh=>aM⟩;erw [st.pk];rfl
 |true=>
  rw [hb]at C;simp only [bT]at C;have wq:WI p (rq c):=hw.of rfl (.inl (ET)) rfl hw.l1 hw.l2 hw.l3 hw.l5 rfl;obtain⟨b,l1,c1,lC,e1,g1⟩:=k0 (rq c) wq lf cn cc st;rw [<-u0]at e1;have C2:∀r:UO,_->Ev MR [aa (aZ 0 c),SF f [encS s0] D H (As.map fa),K0 p lf,ay (aP ro),.aj 0 cn] r:=λr h=>by
   refine C r (bh (az rfl ?_));erw [st.pk];exact aen
  cases b with
  |false=>
   refine⟨false,l1,c1,lC,C2 _ (bh (ab ?_)),λh=>aM⟩;erw [lC];rfl
  |true=>
   obtain⟨⟨_,st1,_⟩,F0,_⟩:=g1 rfl;obtain⟨b,l2,c2,mm,mI,pm2,e2,g2⟩:=aOD ct hE (c:=rq c) wq h3 hl hx hk l1 c1 _ st1;cases b with
   |false=>
    refine⟨false,l2,c2,mI,C2 _ (bm ?_),λh=>aM⟩
    ·erw [lC];refine ae e2.diag (bh (ab ?_));erw [mI];rfl
   |true=>
    obtain⟨s3,⟨a,t,e,hm,avG⟩,F1⟩:=g2 rfl;refine⟨LD f.els a t e,l2,c2,mI,C2 _ (bm ?_),λ_=>⟨s3,F0,F1⟩⟩;erw [lC];refine ae e2.diag (bm ?_);have yD:e<=mx:=by omega
    show E (λN m=>match ew (aJ mm) (cu 4)with|some Io=>_|none=>_) _;rw [hm.f4]
    by_cases h0:e=0
    ·rw [if_pos h0];have j:=avC (p:=p) (ro:=ro) (x:=0) (by omega) (G9) (lf:=l2) mI hm;erw [mI,hm.pk];refine ae j ?_;erw [mI];exact awi (els:=f.els) mI hm (x:=0+tb t) (by rw [h0];rfl) yD
    ·rw [if_neg h0];have j:=avC (p:=p) (ro:=ro) (x:=(e:Int)) (by omega) (by simp only [mx]at yD⊢;omega) (lf:=l2) mI hm;erw [mI,hm.pk];refine ae j ?_;erw [mI];exact awi (els:=f.els) mI hm (x:=(e:Int)+tb t) rfl yD
end
end
end Go.Proofs.B.C
namespace Go.ah
def iv{p:Prop}(h:p:=by simp only [eo];omega):p:=h
def uv{p:Prop}(h:p:=by rw [OG];rfl):p:=h
def KO{p:Prop}(h:p:=by simp only [eo]at hb⊢;omega):p:=h
def apJ{p:Prop}(h:p:=by rw [jj hi];simp only [ph,aoQ,tF]):p:=h
def apI{p:Prop}(h:p:=by rw [jj hi];simp only [iG,aoP,tF]):p:=h
def aoZ{p:Prop}(h:p:=by rw [jj hi];simp only [pE,aoO]):p:=h
def ael{p:Prop}(h:p:=by rw [gf hi,agu]):p:=h
def aek{p:Prop}(h:p:=by rw [gf hi,agt]):p:=h
def aej{p:Prop}(h:p:=by rw [gf hi,ats]):p:=h
end Go.ah
namespace Go.Proofs.B
open Go Go.ah
mutual
def bw:CS->Nat
 | .mk _ l d h a=>1+(iG d+(fG l+(pE h+ph a)))
def fG:List CS->Nat
 | []=>0
 |s::ss=>bw s+fG ss
def ndD:CD->Nat
 | .mk d u=>bw d+bw u
def iG:List CD->Nat
 | []=>0
 |s::ss=>ndD s+iG ss
def ndH:CH->Nat
 | .mk _ b=>bw b
def pE:List CH->Nat
 | []=>0
 |s::ss=>ndH s+pE ss
def ndA:CA->Nat
 | .mk _ _ _ _ b a=>bw b+bw a
def ph:List CA->Nat
 | []=>0
 |s::ss=>ndA s+ph ss
end
def ON(s:CS):bw s=1+(iG s.D+(fG s.L+(pE s.H+ph s.A))):=by cases s;simp only [bw,CS.D,CS.L,CS.H,CS.A]
def aoP(s:CD):ndD s=bw s.d+bw s.u:=by cases s;simp only [ndD,CD.d,CD.u]
def aoO(s:CH):ndH s=bw s.body:=by cases s;simp only [ndH,CH.body]
def aoQ(s:CA):ndA s=bw s.body+bw s.after:=by cases s;simp only [ndA,CA.body,CA.after]
def vU(s:CS):1<=bw s:=by rw [ON];omega
def aKO(a b:List CS):fG (a++b)=fG a+fG b:=by
 induction a with
 |nil=>simp [fG]
 |cons x a ih=>simp only [pM,fG,ih];omega
def Kc(l:List CS):l.length<=fG l:=by
 induction l with
 |nil=>simp
 |cons x a ih=>have:=vU x;simp only [mh,fG];omega
def dK(D:List CD):List CS:=D.flatMap λd=>[d.d,d.u]
def aK(A:List CA):List CS:=A.flatMap λa=>[a.body,a.after]
def afw(D:List CD):fG (dK D)=iG D:=by
 induction D with
 |nil=>rfl
 |cons d D ih=>simp only [dK,lz,pM,rF,fG,iG,aoP]at ih⊢;omega
def aOR(D:List CA):fG (aK D)=ph D:=by
 induction D with
 |nil=>rfl
 |cons d D ih=>simp only [aK,lz,pM,rF,fG,ph,aoQ]at ih⊢;omega
def ag2(D:List CH):fG (D.map CH.body)=pE D:=by
 induction D with
 |nil=>rfl
 |cons d D ih=>simp only [my,fG,pE,aoO]at ih⊢;omega
def En(s:CS):bw s=1+fG s.kids:=by
 rw [ON];simp only [CS.kids,aKO,ag2];have a:=afw s.D;have b:=aOR s.A;simp only [dK,aK]at a b;rw [a,b]
abbrev eo:Nat:=100000000
def aMg{l:List CS}{s:CS}(h:s∈l):bw s<=fG l:=by
 induction l with
 |nil=>exact aM
 |cons x l ih=>
  simp only [fG];rcases iz.1 h with rfl|h
  ·omega
  ·have:=ih h;omega
def Ep{a b:Nat}(h:a+b<=2*eo):aU ((a:Int)+(b:Int))=((a+b:Nat):Int):=by
 simp only [eo]at h;exact zb
abbrev aS(s:CS):AV:= aa (encS s)
def aYO(s:CS):Ev abG [aS s] (0,[aS s]):=bj aHz (ab (by rw [kZ]))
def aoM:∀s:CS,s.Ok->bw s<=eo->Ev yN [aS s] (0,[iI (bw s:Int)]):=by
 refine CS.ind λs ih aX hb=> ?_;cases aX with|mk _ hf hL hD hH hA h1 h2 hk=>
 rw [ON]at hb;have kD:=fP (m:=s.D.length) (P:=λi=>∀c:Nat,c+iG (s.D.drop i)<=eo->bS RU [fO (s.D.map eu),iI (ln (s.D.map eu)),iI (i:Int),aa [.ptr 1 0 0],aa [iI (c:Int)]] (0,[aa [.ptr 1 0 0],aa [iI ((c+iG (s.D.drop i):Nat):Int)]]))
  (λc _=>by
    rw [jE];exact aY aiW (au dw aD))
  λi hi gN c im=>by
   have hm:=cY hi;have gd:aF fC 0 (gA (s.D.map eu) ((i:Int).toNat))=encS s.D[i].d :=Ve;have gu:aF fC 21 (gA (s.D.map eu) ((i:Int).toNat))=encS s.D[i].u :=Vd;have e:iG (s.D.drop i)=bw s.D[i].d +(bw s.D[i].u +iG (s.D.drop (i+1))):=apI;rw [e]at im⊢;simp only [eo]at im;have j1:=ih s.D[i].d (zn hm).1 (hk _ (zn hm).1) (iv);have j2:=ih s.D[i].u (zn hm).2 (hk _ (zn hm).2) (iv);refine aY aiW (aV (cZ hi) (az (cw hi) ?_));rw [gd,gu,ix hi hD];refine ae j1 (ae j2 ?_);have:=gN ((c+bw s.D[i].d)+bw s.D[i].u) (iv);rw [show c+bw s.D[i].d +bw s.D[i].u +iG (s.D.drop (i+1))=c+(bw s.D[i].d +(bw s.D[i].u +iG (s.D.drop (i+1))))by omega]at this;rw [<-Ep (a:=c+bw s.D[i].d) (b:=bw s.D[i].u) (iv),<-Ep (a:=c) (b:=bw s.D[i].d) (iv)]at this;exact iK
 have kL:=fP (m:=s.L.length) (P:=λi=>∀c:Nat,c+fG (s.L.drop i)<=eo->bS RT [dv (s.L.map encS),iI (ln (s.L.map encS)),iI (i:Int),aa [.ptr 1 0 0],aa [iI (c:Int)]] (0,[aa [.ptr 1 0 0],aa [iI ((c+fG (s.L.drop i):Nat):Int)]]))
  (λc _=>by
    rw [jE];exact aY aiV (au dw aD))
  λi hi gN c im=>by
   have hm:=cY hi;have gd:aF fC 0 (gA (s.L.map encS) ((i:Int).toNat))=encS s.L[i]:=Kz;have e:fG (s.L.drop i)=bw s.L[i]+fG (s.L.drop (i+1)):=by rw [jj hi];simp only [fG]
   rw [e]at im⊢;simp only [eo]at im;have j1:=ih s.L[i] (Fj hm) (hk _ (Fj hm)) (iv);refine aY aiV (aV (cZ hi) (az (cw hi) ?_));rw [gd,ix hi hL];refine ae j1 ?_;have:=gN (c+bw s.L[i]) (iv);rw [tF]at this;rw [<-Ep (a:=c) (b:=bw s.L[i]) (iv)]at this;exact iK
 have kH:=fP (m:=s.H.length) (P:=λi=>∀c:Nat,c+pE (s.H.drop i)<=eo->bS MM [fV (s.H.map dj),iI (ln (s.H.map dj)),iI (i:Int),aa [.ptr 1 0 0],aa [iI (c:Int)]] (0,[aa [.ptr 1 0 0],aa [iI ((c+pE (s.H.drop i):Nat):Int)]]))
  (λc _=>by
    rw [jE];exact aY aiU (au dw aD))
  λi hi gN c im=>by
   have hm:=cY hi;have gd:aF fC 1 (gA (s.H.map dj) ((i:Int).toNat))=encS s.H[i].body :=aej;have e:pE (s.H.drop i)=bw s.H[i].body +pE (s.H.drop (i+1)):=aoZ;rw [e]at im⊢;simp only [eo]at im;have j1:=ih s.H[i].body (Lj hm) (hk _ (Lj hm)) (iv);refine aY aiU (aV (cZ hi) (az (cw hi) ?_));rw [gd,ix hi hH];refine ae j1 ?_;have:=gN (c+bw s.H[i].body) (iv);rw [tF]at this;rw [<-Ep (a:=c) (b:=bw s.H[i].body) (iv)]at this;exact iK
 have kA:=fP (m:=s.A.length) (P:=λi=>∀c:Nat,c+ph (s.A.drop i)<=eo->bS ML [fy (s.A.map fa),iI (ln (s.A.map fa)),iI (i:Int),aa [.ptr 1 0 0],aa [iI (c:Int)]] (0,[aa [.ptr 1 0 0],aa [iI ((c+ph (s.A.drop i):Nat):Int)]]))
  (λc _=>by
    rw [jE];exact aY aiT (au dw aD))
  λi hi gN c im=>by
   have hm:=cY hi;have gd:aF fC 12 (gA (s.A.map fa) ((i:Int).toNat))=encS s.A[i].body :=aek;have gu:aF fC 33 (gA (s.A.map fa) ((i:Int).toNat))=encS s.A[i].after :=ael;have e:ph (s.A.drop i)=bw s.A[i].body +(bw s.A[i].after +ph (s.A.drop (i+1))):=apJ;rw [e]at im⊢;simp only [eo]at im;have j1:=ih s.A[i].body (Bz hm).1 (hk _ (Bz hm).1) (iv);have j2:=ih s.A[i].after (Bz hm).2 (hk _ (Bz hm).2) (iv);refine aY aiT (aV (cZ hi) (az (cw hi) ?_));rw [gd,gu,ix hi hA];refine ae j1 (ae j2 ?_);have:=gN ((c+bw s.A[i].body)+bw s.A[i].after) (iv);rw [show c+bw s.A[i].body +bw s.A[i].after +ph (s.A.drop (i+1))=c+(bw s.A[i].body +(bw s.A[i].after +ph (s.A.drop (i+1))))by omega]at this;rw [<-Ep (a:=c+bw s.A[i].body) (b:=bw s.A[i].after) (iv),<-Ep (a:=c) (b:=bw s.A[i].body) (iv)]at this;exact iK
 simp only [nU]at kD kL kH kA;have g18:gR (encS s) 18=s.D.map eu:=uv;have g17:gR (encS s) 17=s.L.map encS:=uv;have g19:gR (encS s) 19=s.H.map dj:=uv;have g20:gR (encS s) 20=s.A.map fa:=uv;have jD:bY ZS [aa [.ptr 2 0 0],aS s,aa [iI 1]] (0,[aa [.ptr 2 0 0],aS s,aa [iI ((1+iG s.D:Nat):Int)]]):=by
  refine bX aAu ?_;rw [g18,kZ];exact ae (kD 1 (KO)).diag aD
 have jL:bY ZR [aa [.ptr 2 0 0],aS s,aa [iI ((1+iG s.D:Nat):Int)]] (0,[aa [.ptr 2 0 0],aS s,aa [iI ((1+iG s.D+fG s.L:Nat):Int)]]):=by
  refine bX aAt ?_;rw [g17,kZ];exact ae (kL _ (KO)).diag aD
 refine bj aIk ?_;rw [kZ];refine ae (aYO s) ?_;erw [kZ];refine ae jD ?_;erw [kZ];refine ae jL ?_;show E (λN n=>bO (MM (FU CX EE N) N N [fV (gR (encS s) 19),iI (ln (gR (encS s) 19)),iI 0,aa [.ptr 1 0 0],aa [iI ((1+iG s.D+fG s.L:Nat):Int)]]) λ_ cO=>bO (ML (FU CX EE N) N N [fy (gR (encS s) 20),iI (ln (gR (encS s) 20)),iI 0,aa [.ptr 1 0 0],aa [iI (gI (gC cO 1) 0)]]) λ_ fr=>some (0,[iI (gI (gC fr 1) 0)])) _;rw [g19,g20];refine ae (kH _ (KO)).diag (ae (kA _ (KO)).diag (ab ?_));show(0,[iI ((1+iG s.D+fG s.L+pE s.H+ph s.A:Nat):Int)])=_;rw [ON]
 congr 4
 omega
end Go.Proofs.B
namespace Go.ah
def wX{p:Prop}(h:p:=by obtain⟨s,n⟩:=x;cases s;rfl):p:=h
def KS{p:Prop}(h:p:=by simp only [eo,fI,mh,tG];omega):p:=h
def za{p:Prop}(h:p:=by rw [adz];rfl):p:=h
def Vv{p:Prop}(h:p:=by
 have h0:=k;simp only [nU]at h0;exact h0):p:=h
def G8{p:Prop}(h:p:=by rw [jj hi];rfl):p:=h
end Go.ah
namespace Go.Proofs.B
open Go Go.ah
section
abbrev NB:=CS×Nat
variable{x:NB}
def cD(x:NB):Row:=encS x.1++[iI (x.2:Int)]
abbrev lN(l:List NB):AV:= hY (l.map cD)
abbrev aN(x:NB):AV:= aa (cD x)
def eN:Nat->List CS->List NB
 |_,[]=>[]
 |n,s::ss=>(s,n)::eN (n+bw s) ss
def cN(x:NB):List NB:=eN (x.2+1) x.1.kids
def T7(a b:List CS)(n:Nat):eN n (a++b)=eN n a++eN (n+fG a) b:=by
 induction a generalizing n with
 |nil=>simp [eN,fG]
 |cons x a ih=>simp only [pM,eN,ih,fG,tF]
def Ka(a:List CS)(n:Nat):(eN n a).length =a.length:=by
 induction a generalizing n with
 |nil=>rfl
 |cons x a ih=>simp only [eN,mh,ih]
def A5{a:List CS}{n:Nat}(h:x∈eN n a):x.1∈a:=by
 induction a generalizing n with
 |nil=>simp [eN]at h
 |cons y a ih=>
  simp only [eN,iz]at h;rcases h with rfl|h
  ·simp
  ·exact jV _ (ih h)
def sx(x:NB):aF wI 0 (cD x)=cD x:=wX
def atr(x:NB):aF fC 0 (cD x)=encS x.1:=wX
def aZx(x:NB):gI (cD x) 21=(x.2:Int):=wX
def adz(x:NB):cD x=fX x.1.f (x.1.L.map encS) (x.1.D.map eu) (x.1.H.map dj) (x.1.A.map fa)++[iI (x.2:Int)]:=by unfold cD;rw [OG]
def asN(x:NB):gR (cD x) 17=x.1.L.map encS:=za
def aPn(x:NB):gR (cD x) 18=x.1.D.map eu:=za
def aPm(x:NB):gR (cD x) 19=x.1.H.map dj:=za
def aPl(x:NB):gR (cD x) 20=x.1.A.map fa:=za
def Lr{s:CS}{acc:List NB}{c:Nat}{l1:aq}(aX:s.Ok)(h1:acc.length<=2*eo)(h2:bw s<=eo)(h3:c+bw s<=2*eo):
 Ev D5 [aS s,aa l1,aa [iI (c:Int)],lN acc] (0,[aa [.ak 3],aa [iI ((c+bw s:Nat):Int)],lN (acc++[(s,c)])]):=by
 refine bj aym (az (by rw [dW];simp [eo]at h1⊢;omega) ?_);rw [kZ];refine ae (aoM s aX h2) (ab ?_);show((0,[aa [.ak 3],aa [iI (aU ((c:Int)+(bw s:Int)))],hY (acc.map cD++[sT (aF wI 0 (encS s)) [(21,iI (c:Int))]])]):UO)=_;rw [Ep h3,show sT (aF wI 0 (encS s)) [(21,iI (c:Int))]=cD (s,c)by cases s;rfl];simp only [lN,sR,my,T2]
def inD{l:List CD}(hl:l.length<=mx)(aX:∀x∈l,x.d.Ok/\x.u.Ok):∀(acc:List NB) (c:Nat),acc.length+iG l<=2*eo->c+iG l<=2*eo->iG l<=eo->bS Mz [fO (l.map eu),iI (ln (l.map eu)),iI 0,aa [.ak 2],aa [iI (c:Int)],lN acc] (0,[aa [.ak 2],aa [iI ((c+iG l:Nat):Int)],lN (acc++eN c (dK l))]):=by
 have k:=fP (m:=l.length) (P:=λi=>∀(acc:List NB) (c:Nat),acc.length+iG (l.drop i)<=2*eo->c+iG (l.drop i)<=2*eo->iG (l.drop i)<=eo->bS Mz [fO (l.map eu),iI (ln (l.map eu)),iI (i:Int),aa [.ak 2],aa [iI (c:Int)],lN acc] (0,[aa [.ak 2],aa [iI ((c+iG (l.drop i):Nat):Int)],lN (acc++eN c (dK (l.drop i)))]))
  (λacc c _ _ _=>by
    rw [jE];exact aY aiw (au dw (ab (by simp [iG,eN,dK]<;>rfl))))
  λi hi gN acc c b1 b2 b3=>by
   have hm:=cY hi;have gd:aF fC 0 (gA (l.map eu) ((i:Int).toNat))=encS l[i].d :=Ve;have gu:aF fC 21 (gA (l.map eu) ((i:Int).toNat))=encS l[i].u :=Vd;have e:iG (l.drop i)=bw l[i].d +(bw l[i].u +iG (l.drop (i+1))):=apI;have e2:eN c (dK (l.drop i))=(l[i].d,c)::(l[i].u,c+bw l[i].d)::eN (c+bw l[i].d +bw l[i].u) (dK (l.drop (i+1))):=G8;have:=vU l[i].d;have:=vU l[i].u;rw [e]at b1 b2 b3;rw [e,e2];simp only [eo]at b1 b2 b3;have j1:=Lr (l1:=[.ak 2]) (s:=l[i].d) (acc:=acc) (c:=c) (aX _ hm).1 (iv) (iv) (iv);have j2:=Lr (l1:=[.ak 2]) (s:=l[i].u) (acc:=acc++[(l[i].d,c)]) (c:=c+bw l[i].d) (aX _ hm).2 (KS) (iv) (iv);refine aY aiw (aV (cZ hi) (az (cw hi) ?_));rw [gd,gu,ix hi hl];refine ae j1 (ae j2 ?_);have:=gN ((acc++[(l[i].d,c)])++[(l[i].u,c+bw l[i].d)]) (c+bw l[i].d +bw l[i].u) (KS) (iv) (iv);rw [show c+bw l[i].d +bw l[i].u +iG (l.drop (i+1))=c+(bw l[i].d +(bw l[i].u +iG (l.drop (i+1))))by omega,show∀(a b:NB) (r:List NB),acc++[a]++[b]++r=acc++a::b::r from λa b r=>by simp]at this;exact iK
 exact Vv
def inL{l:List CS}(hl:l.length<=mx)(aX:∀x∈l,x.Ok):∀(acc:List NB) (c:Nat),acc.length+fG l<=2*eo->c+fG l<=2*eo->fG l<=eo->bS My [dv (l.map encS),iI (ln (l.map encS)),iI 0,aa [.ak 2],aa [iI (c:Int)],lN acc] (0,[aa [.ak 2],aa [iI ((c+fG l:Nat):Int)],lN (acc++eN c (l))]):=by
 have k:=fP (m:=l.length) (P:=λi=>∀(acc:List NB) (c:Nat),acc.length+fG (l.drop i)<=2*eo->c+fG (l.drop i)<=2*eo->fG (l.drop i)<=eo->bS My [dv (l.map encS),iI (ln (l.map encS)),iI (i:Int),aa [.ak 2],aa [iI (c:Int)],lN acc] (0,[aa [.ak 2],aa [iI ((c+fG (l.drop i):Nat):Int)],lN (acc++eN c ((l.drop i)))]))
  (λacc c _ _ _=>by
    rw [jE];exact aY aiv (au dw (ab (by simp [fG,eN]<;>rfl))))
  λi hi gN acc c b1 b2 b3=>by
   have hm:=cY hi;have gd:aF fC 0 (gA (l.map encS) ((i:Int).toNat))=encS l[i]:=Kz;have e:fG (l.drop i)=bw l[i]+fG (l.drop (i+1)):=by rw [jj hi];simp only [fG]
   have e2:eN c ((l.drop i))=(l[i],c)::eN (c+bw l[i]) ((l.drop (i+1))):=G8;have:=vU l[i];rw [e]at b1 b2 b3;rw [e,e2];simp only [eo]at b1 b2 b3;have j1:=Lr (l1:=[.ak 2]) (s:=l[i]) (acc:=acc) (c:=c) (aX _ hm) (iv) (iv) (iv);refine aY aiv (aV (cZ hi) (az (cw hi) ?_));rw [gd,ix hi hl];refine ae j1 ?_;have:=gN (acc++[(l[i],c)]) (c+bw l[i]) (KS) (iv) (iv);rw [tF,pN]at this;exact iK
 exact Vv
def inH{l:List CH}(hl:l.length<=mx)(aX:∀x∈l,x.body.Ok):∀(acc:List NB) (c:Nat),acc.length+pE l<=2*eo->c+pE l<=2*eo->pE l<=eo->bS I4 [fV (l.map dj),iI (ln (l.map dj)),iI 0,aa [.ak 2],aa [iI (c:Int)],lN acc] (0,[aa [.ak 2],aa [iI ((c+pE l:Nat):Int)],lN (acc++eN c (l.map CH.body))]):=by
 have k:=fP (m:=l.length) (P:=λi=>∀(acc:List NB) (c:Nat),acc.length+pE (l.drop i)<=2*eo->c+pE (l.drop i)<=2*eo->pE (l.drop i)<=eo->bS I4 [fV (l.map dj),iI (ln (l.map dj)),iI (i:Int),aa [.ak 2],aa [iI (c:Int)],lN acc] (0,[aa [.ak 2],aa [iI ((c+pE (l.drop i):Nat):Int)],lN (acc++eN c ((l.drop i).map CH.body))]))
  (λacc c _ _ _=>by
    rw [jE];exact aY aiu (au dw (ab (by simp [pE,eN]<;>rfl))))
  λi hi gN acc c b1 b2 b3=>by
   have hm:=cY hi;have gd:aF fC 1 (gA (l.map dj) ((i:Int).toNat))=encS l[i].body :=aej;have e:pE (l.drop i)=bw l[i].body +pE (l.drop (i+1)):=aoZ;have e2:eN c ((l.drop i).map CH.body)=(l[i].body,c)::eN (c+bw l[i].body) ((l.drop (i+1)).map CH.body):=G8;have:=vU l[i].body;rw [e]at b1 b2 b3;rw [e,e2];simp only [eo]at b1 b2 b3;have j1:=Lr (l1:=[.ak 2]) (s:=l[i].body) (acc:=acc) (c:=c) (aX _ hm) (iv) (iv) (iv);refine aY aiu (aV (cZ hi) (az (cw hi) ?_));rw [gd,ix hi hl];refine ae j1 ?_;have:=gN (acc++[(l[i].body,c)]) (c+bw l[i].body) (KS) (iv) (iv);rw [tF,pN]at this;exact iK
 exact Vv
def inA{l:List CA}(hl:l.length<=mx)(aX:∀x∈l,x.body.Ok/\x.after.Ok):∀(acc:List NB) (c:Nat),acc.length+ph l<=2*eo->c+ph l<=2*eo->ph l<=eo->bS I3 [fy (l.map fa),iI (ln (l.map fa)),iI 0,aa [.ak 2],aa [iI (c:Int)],lN acc] (0,[aa [.ak 2],aa [iI ((c+ph l:Nat):Int)],lN (acc++eN c (aK l))]):=by
 have k:=fP (m:=l.length) (P:=λi=>∀(acc:List NB) (c:Nat),acc.length+ph (l.drop i)<=2*eo->c+ph (l.drop i)<=2*eo->ph (l.drop i)<=eo->bS I3 [fy (l.map fa),iI (ln (l.map fa)),iI (i:Int),aa [.ak 2],aa [iI (c:Int)],lN acc] (0,[aa [.ak 2],aa [iI ((c+ph (l.drop i):Nat):Int)],lN (acc++eN c (aK (l.drop i)))]))
  (λacc c _ _ _=>by
    rw [jE];exact aY ait (au dw (ab (by simp [ph,eN,aK]<;>rfl))))
  λi hi gN acc c b1 b2 b3=>by
   have hm:=cY hi;have gd:aF fC 12 (gA (l.map fa) ((i:Int).toNat))=encS l[i].body :=aek;have gu:aF fC 33 (gA (l.map fa) ((i:Int).toNat))=encS l[i].after :=ael;have e:ph (l.drop i)=bw l[i].body +(bw l[i].after +ph (l.drop (i+1))):=apJ;have e2:eN c (aK (l.drop i))=(l[i].body,c)::(l[i].after,c+bw l[i].body)::eN (c+bw l[i].body +bw l[i].after) (aK (l.drop (i+1))):=G8;have:=vU l[i].body;have:=vU l[i].after;rw [e]at b1 b2 b3;rw [e,e2];simp only [eo]at b1 b2 b3;have j1:=Lr (l1:=[.ak 2]) (s:=l[i].body) (acc:=acc) (c:=c) (aX _ hm).1 (iv) (iv) (iv);have j2:=Lr (l1:=[.ak 2]) (s:=l[i].after) (acc:=acc++[(l[i].body,c)]) (c:=c+bw l[i].body) (aX _ hm).2 (KS) (iv) (iv);refine aY ait (aV (cZ hi) (az (cw hi) ?_));rw [gd,gu,ix hi hl];refine ae j1 (ae j2 ?_);have:=gN ((acc++[(l[i].body,c)])++[(l[i].after,c+bw l[i].body)]) (c+bw l[i].body +bw l[i].after) (KS) (iv) (iv);rw [show c+bw l[i].body +bw l[i].after +ph (l.drop (i+1))=c+(bw l[i].body +(bw l[i].after +ph (l.drop (i+1))))by omega,show∀(a b:NB) (r:List NB),acc++[a]++[b]++r=acc++a::b::r from λa b r=>by simp]at this;exact iK
 exact Vv
def afH(s:CS):s.kids=dK s.D++(s.L++(s.H.map CH.body++aK s.A)):=rfl
def asE(aX:x.1.Ok)(h1:bw x.1<=eo)(h2:x.2+bw x.1<=2*eo):Ev Cb [aN x] (0,[lN (cN x)]):=by
 have hb:=h2;rw [ON]at h1 h2;simp only [eo]at h1 h2;obtain⟨hL,hD,hH,hA,hk⟩:x.1.L.length<=mx/\x.1.D.length<=mx/\x.1.H.length<=mx/\x.1.A.length<=mx/\∀y∈x.1.kids,CS.Ok y:=by
  cases aX with|mk _ hf hL hD hH hA _ _ hk=>exact⟨hL,hD,hH,hA,hk⟩
 have kD:=inD hD (λd hd=>⟨hk _ (zn hd).1,hk _ (zn hd).2⟩) [] (x.2+1) (by simp only [eo,tG];omega) (iv) (iv);rw [rF]at kD;have ld:(eN (x.2+1) (dK x.1.D)).length <=iG x.1.D:=by rw [Ka,<-afw];exact Kc _
 have kL:=inL hL (λd hd=>hk _ (Fj hd)) (eN (x.2+1) (dK x.1.D)) (x.2+1+iG x.1.D) (iv) (iv) (iv);have ll:(eN (x.2+1) (dK x.1.D)++eN (x.2+1+iG x.1.D) x.1.L).length <=iG x.1.D+fG x.1.L:=by
  rw [fI,Ka x.1.L];have:=Kc x.1.L;omega
 have kH:=inH hH (λd hd=>hk _ (Lj hd)) (eN (x.2+1) (dK x.1.D)++eN (x.2+1+iG x.1.D) x.1.L) (x.2+1+iG x.1.D+fG x.1.L) (iv) (iv) (iv);have lh:(eN (x.2+1) (dK x.1.D)++eN (x.2+1+iG x.1.D) x.1.L++eN (x.2+1+iG x.1.D+fG x.1.L) (x.1.H.map CH.body)).length <=iG x.1.D+fG x.1.L+pE x.1.H:=by
  rw [fI,Ka (x.1.H.map CH.body)];have:=Kc (x.1.H.map CH.body);rw [ag2]at this;omega
 have kA:=inA hA (λd hd=>⟨hk _ (Bz hd).1,hk _ (Bz hd).2⟩) (eN (x.2+1) (dK x.1.D)++eN (x.2+1+iG x.1.D) x.1.L++eN (x.2+1+iG x.1.D+fG x.1.L) (x.1.H.map CH.body)) (x.2+1+iG x.1.D+fG x.1.L+pE x.1.H) (iv) (iv) (iv);have e:cN x=eN (x.2+1) (dK x.1.D)++eN (x.2+1+iG x.1.D) x.1.L++eN (x.2+1+iG x.1.D+fG x.1.L) (x.1.H.map CH.body)++eN (x.2+1+iG x.1.D+fG x.1.L+pE x.1.H) (aK x.1.A):=by
  unfold cN;rw [afH,T7,T7,T7,afw,ag2];simp only [pN]
 rw [<-e]at kA;have jD:bY Y3 [aN x,aa [.ak 3],aa [iI ((x.2+1:Nat):Int)],lN []] (0,[aN x,aa [.ak 3],aa [iI ((x.2+1+iG x.1.D:Nat):Int)],lN (eN (x.2+1) (dK x.1.D))]):=by
  refine bX ax3 ?_;rw [aPn,sx];exact ae kD.diag aD
 have jL:bY Y2 [aN x,aa [.ak 3],aa [iI ((x.2+1+iG x.1.D:Nat):Int)],lN (eN (x.2+1) (dK x.1.D))] (0,[aN x,aa [.ak 3],aa [iI ((x.2+1+iG x.1.D+fG x.1.L:Nat):Int)],lN (eN (x.2+1) (dK x.1.D)++eN (x.2+1+iG x.1.D) x.1.L)]):=by
  refine bX ax2 ?_;rw [asN,sx];exact ae kL.diag aD
 refine bj ayV ?_;rw [sx,aZx,show aU ((x.2:Int)+1)=((x.2+1:Nat):Int)by rw [mi (by omega) (by omega)];omega];refine ae jD ?_;erw [sx];refine ae jL ?_;show E (λN n=>bO (I4 (FU CX EE N) N N [fV (gR (cD x) 19),iI (ln (gR (cD x) 19)),iI 0,aa [.ak 2],aa [iI ((x.2+1+iG x.1.D+fG x.1.L:Nat):Int)],lN (eN (x.2+1) (dK x.1.D)++eN (x.2+1+iG x.1.D) x.1.L)]) λ_ o9=>bO (I3 (FU CX EE N) N N [fy (gR (cD x) 20),iI (ln (gR (cD x) 20)),iI 0,aa [.ak 2],aa [iI (gI (gC o9 1) 0)],hY (gR o9 2)]) λ_ cq=>some (0,[hY (gR cq 2)])) _;rw [aPm,aPl];exact ae kH.diag (ae kA.diag aD)
end
end Go.Proofs.B
namespace Go.ah
def Vo{p:Prop}(h:p:=by exact ax (λh=>ab (q1 h)) q2):p:=h
def aeq{p:Prop}(h:p:=by rw [h,h2,h3,h4];rfl):p:=h
end Go.ah
namespace Go.ah
def adH:=@List.all_append
def Ut:=@Bool.not_not
end Go.ah
namespace Go.Proofs.B
open Go Go.ah
section
variable{s:CS}{l:List NB}{y:NB}{i:Nat}{α:Type}
def Br{l:List α}{p:α->Bool}{LF IX CT:Nat->Nat->Option UO}{st:aq}
 (h:(l.any p=false/\E LF (1,st))∨(l.any p=true/\∃i:Nat,i<l.length/\E LF (0,iI (i:Int)::st)))
 (h1:∀i:Int,E LF (0,iI i::st)->E IX (0,iI i::st)) (h2:E LF (1,st)->E IX (0,iI (-1)::st)) (h3:∀i:Int,E IX (0,iI i::st)->E CT (0,av (decide (0<=i))::st)):
 E CT (0,av (l.any p)::st):=by
 rcases h with⟨h,q⟩|⟨h,i,_,q⟩
 ·rw [h];exact h3 _ (h2 q)
 ·rw [h];have:=h3 _ (h1 _ q);exact aeY
def It(k:Int):Bool:=bif k==5 then true else bif k==15 then true else bif k==16 then true else bif k==17 then true else bif k==18 then true else bif k==19 then true else bif k==21 then true else k==22
def zk(q:Bool)(f:gp):Bool:=bif It f.kind then false else bif f.kind==20 then !q else bif f.kind==6 then !(f.E.any λe=>e.kind != 1)else bif f.kind==9 then !decide (0<f.Ts.length)else true
mutual
def jq(q:Bool):CS->Bool
 | .mk f l d h a=>zk q f&&(WC q d&&(WA q l&&(WB q h&&WD q a)))
def WA(q:Bool):List CS->Bool
 | []=>true
 |s::ss=>jq q s&&WA q ss
def smD(q:Bool):CD->Bool
 | .mk d u=>jq q d&&jq q u
def WC(q:Bool):List CD->Bool
 | []=>true
 |s::ss=>smD q s&&WC q ss
def smH(q:Bool):CH->Bool
 | .mk _ b=>jq q b
def WB(q:Bool):List CH->Bool
 | []=>true
 |s::ss=>smH q s&&WB q ss
def smA(q:Bool):CA->Bool
 | .mk _ _ _ _ b a=>jq q b&&jq q a
def WD(q:Bool):List CA->Bool
 | []=>true
 |s::ss=>smA q s&&WD q ss
end
def aKx(q:Bool)(l:List CS):WA q l=l.all (jq q):=by
 induction l with
 |nil=>rfl
 |cons x l ih=>simp only [WA,A8,ih]
def aKz(q:Bool)(l:List CD):WC q l=(dK l).all (jq q):=by
 induction l with
 |nil=>rfl
 |cons x l ih=>cases x;simp only [WC,smD,dK,lz,adH,A8,adG,ih,CD.d,CD.u,Uv,Uu]
def aKy(q:Bool)(l:List CH):WB q l=(l.map CH.body).all (jq q):=by
 induction l with
 |nil=>rfl
 |cons x l ih=>cases x;simp only [WB,smH,my,A8,ih,CH.body]
def aKA(q:Bool)(l:List CA):WD q l=(aK l).all (jq q):=by
 induction l with
 |nil=>rfl
 |cons x l ih=>cases x;simp only [WD,smA,aK,lz,adH,A8,adG,ih,CA.body,CA.after,Uv,Uu]
def aoC(q:Bool)(s:CS):jq q s=(zk q s.f&&s.kids.all (jq q)):=by
 cases s with
 |mk f l d h a=>
  simp only [jq,afH,adH,aKx,aKz,aKy,aKA,CS.f,CS.L,CS.D,CS.H,CS.A]
def c9(f:α->Row)(l:List α):ln (l.map f)=(l.length:Int):=by simp [ln]
def vW{l:List CE}(h:i<l.length):aF qP 0 (gA (l.map aH) ((i:Int).toNat))=aH l[i]:=by rw [gf h,e7]
def yk(e:CE):gI (aH e) 0=e.kind:=Bi
def aOL{l:List CE}(hl:l.length<=mx):Ev Yv [bR (l.map aH)] (0,[av (l.any λe=>e.kind != 1)]):=by
 refine Br (l:=l) (st:=[]) (LF:=λN m=>Mm (FU CX EE N) N m [bR (l.map aH),iI (ln (l.map aH)),iI 0])
  (IX:=λN _=>FU CX EE N Yw [bR (l.map aH)])
  (scan (LF:=λi N m=>Mm (FU CX EE N) N m [bR (l.map aH),iI (ln (l.map aH)),iI (i:Int)]) ?_ λi hi r q1 q2=> ?_) (λi hi=> ?_) (λhi=> ?_) λi hi=> ?_
 ·exact aY ahC (au dw aD)
 ·refine aY ahC (aV (cZ hi) (az (cw hi) ?_));rw [vW hi,ix hi hl];refine ae (bj ax4 (ab (by rw [yk]))) ?_;exact Vo
 ·exact bj ahE (ae hi.diag (bh aD))
 ·exact bj ahE (ae hi.diag (bm aD))
 ·exact bj awy (ae hi aD)
def HX(x:NB):gI (cD x) 0=x.1.f.kind:=za
def Wc(x:NB):gR (cD x) 12=x.1.f.E.map aH:=za
def aPo(x:NB):gR (cD x) 16=ints x.1.f.Ts:=za
def kdC(k:Int):bY YZ [cu k] (0,[av (It k)]):=by
 refine bX axU ?_;unfold It
 repeat' refine ax (λh=>ab (by simp only [*];rfl)) λh=> ?_
 exact ab (by simp only [*];rfl)
def aQu(x:NB)(q:Bool)(hE:x.1.f.E.length<=mx):bY Y1 [av q,aN x] (bif zk q x.1.f then(0,[aN x])else(1,[aT,aN x])):=by
 refine bX ax1 ?_;rw [HX,Wc,aPo,sx];unfold zk;refine ae (kdC _) (ax (c:=It x.1.f.kind) (λh=>ab (iW)) λh=> ?_);refine ax (c:=x.1.f.kind==20) (λh2=>ax (c:=q) (λh3=>ab (OS)) λh3=>ab (OS)) λh2=> ?_;refine ax (c:=x.1.f.kind==6) (λh3=>ae (aOL hE) (ax (c:=x.1.f.E.any λe=>e.kind != 1) (λh4=>ab (aeq)) λh4=>ab (aeq))) λh3=> ?_;refine ax (c:=x.1.f.kind==9) (λh4=> ?_) λh4=>ab (aeq);rw [c9,show decide ((0:Int)<((x.1.f.Ts.length:Nat):Int))=decide (0<x.1.f.Ts.length)by simp];exact ax (λh5=>ab (by rw [h,h2,h3,h4,h5];rfl)) λh5=>ab (by rw [h,h2,h3,h4,h5];rfl)
def aPt(h:i<l.length):aF wI 0 (gA (l.map cD) ((i:Int).toNat))=cD l[i]:=by rw [gf h,sx]
def aoI{q:Bool}(hl:l.length<=mx)(h:∀x∈l,Ev MC [aN x,av q] (0,[av (jq q x.1)])):Ev Gs [lN l,av q] (0,[av (l.all λx=>jq q x.1)]):=by
 have k:Ev Yz [lN l,aa [av q]] (0,[av (l.any λx=> !jq q x.1),aa [av q]]):=by
  refine Br (l:=l) (st:=[aa [av q]]) (LF:=λN m=>Mq (FU CX EE N) N m [lN l,iI (ln (l.map cD)),iI 0,aa [av q]])
   (IX:=λN _=>FU CX EE N YE [lN l,aa [av q]])
   (scan (LF:=λi N m=>Mq (FU CX EE N) N m [lN l,iI (ln (l.map cD)),iI (i:Int),aa [av q]]) ?_ λi hi r q1 q2=> ?_) (λi hi=> ?_) (λhi=> ?_) λi hi=> ?_
  ·exact aY ahK (au dw aD)
  ·refine aY ahK (aV (cZ hi) (az (cw hi) ?_));rw [aPt hi,ix hi hl];refine ae (o:=(0,[av (!jq q l[i].1),aa [av q]])) (bj aDo ?_) ?_
   ·rw [sx];exact ae (h _ (cY hi)) aD
   exact Vo
  ·exact bj ahV (ae hi.diag (bh aD))
  ·exact bj ahV (ae hi.diag (bm aD))
  ·exact bj awL (ae hi aD)
 refine bj aFH (ae k (ab ?_));show((0,[av (!(l.any λx=> !jq q x.1))]):UO)=_;rw [List.not_any_eq_all_not];simp only [Ut]
def CS.Ok.jt{y:CS}(h:s.Ok)(hy:y∈s.kids):y.Ok:=by cases h with|mk _ _ _ _ _ _ _ _ h=>exact h y hy
def CS.Ok.fE(h:s.Ok):s.f.Ok:=Vh
def aKV(x:NB)(q:Bool):((cN x).all λy=>jq q y.1)=x.1.kids.all (jq q):=by
 unfold cN;generalize x.1.kids=l;generalize x.2+1=n
 induction l generalizing n with
 |nil=>rfl
 |cons y l ih=>simp only [eN,A8,ih]
def Kd(x:NB):(cN x).length =x.1.kids.length:=Ka _ _
def aJU{l:List CS}{n:Nat}(h:y∈eN n l):y.2+bw y.1<=n+fG l/\n<=y.2:=by
 induction l generalizing n with
 |nil=>simp [eN]at h
 |cons x l ih=>
  simp only [eN,iz]at h;simp only [fG];rcases h with rfl|h
  ·simp only;omega
  ·have:=ih h;omega
def TH{x:NB}(h:y∈cN x):y.1∈x.1.kids/\y.2+bw y.1<=x.2+bw x.1/\x.2+1<=y.2/\bw y.1+1<=bw x.1:=by
 have h1:=A5 h;have h2:=aJU h;have h3:=aMg h1;have h4:=En x.1;exact⟨h1,by omega,h2.2,by omega⟩
abbrev md:Nat:=1000000
def an6(h:bw s<=md):s.kids.length<=mx:=by
 have:=Kc s.kids;rw [En]at h;simp only [md,mx]at h⊢;omega
def anT:∀s:CS,s.Ok->∀(n:Nat) (q:Bool),bw s<=md->n+bw s<=eo->Ev MC [aN (s,n),av q] (0,[av (jq q s)]):=by
 refine CS.ind λs ih aX n q h1 h2=> ?_;have zN:bw s<=eo:=by simp only [md,eo]at h1⊢;omega
 have im:n+bw s<=2*eo:=by simp only [eo]at h2⊢;omega
 refine bj ayC ?_;rw [sx];refine ae (aQu (s,n) q aX.fE.E.1) ?_;rw [aoC];cases hk:zk q s.f with
 |false=>exact rI
 |true=>
  refine bh ?_;erw [sx];refine ae (asE aX zN im) ?_;have hp:=aoI (l:=cN (s,n)) (q:=q) (by rw [Kd];exact an6 h1) (λy hy=>by
   obtain⟨r1,r2,r3,r4⟩:=TH hy;have r2:y.2+bw y.1<=n+bw s:=r2;have r4:bw y.1+1<=bw s:=r4;exact ih y.1 r1 (aX.jt r1) y.2 q (by simp only [md]at h1⊢;omega) (by simp only [eo]at h2⊢;omega))
  rw [aKV]at hp;exact ae hp aD
def aeb(q:Bool)(hl:l.length<=mx)(h:∀x∈l,x.1.Ok/\bw x.1<=md/\x.2+bw x.1<=eo):Ev Gs [lN l,av q] (0,[av (l.all λx=>jq q x.1)]):=
 aoI hl λx hx=>anT x.1 (h x hx).1 x.2 q (h x hx).2.1 (h x hx).2.2
end
section
variable{s:CS}{l:List NB}{i no np:Nat}
structure AW(no np:Nat)(s:CS):Prop where
 sc:s.f.kind=9->s.L.length=1
 wh:s.f.kind=5->s.f.E.length=1/\s.L.length=1
 st:s.f.kind=2->s.f.To.length=1/\s.f.E.length=1/\∀e∈s.f.E,(e.kind=9->e.L.length=1)/\(e.kind=5->e.L.length=2)/\∀y∈e.L,y.kind=5->y.L.length=2
 dl:s.f.kind=15->s.f.E.length=1/\∀e∈s.f.E,e.kind=2->0<=e.O/\e.O<(no:Int)
 lk:s.f.kind=20->0<=s.f.P/\s.f.P<(np:Int)
inductive CS.Sh(no np:Nat):CS->Prop
 |mk(s:CS)(h:AW no np s)(hk:∀y∈s.kids,CS.Sh no np y):CS.Sh no np s
def CS.Sh.one(h:s.Sh no np):AW no np s:=Vh
def CS.Sh.jt{y:CS}(h:s.Sh no np)(hy:y∈s.kids):y.Sh no np:=by cases h with|mk _ _ hk=>exact hk y hy
def Ik:NB:=(.mk ⟨0,0,0,0,0,0,false,false,false,false,false,0,[],[],[],[],[]⟩ [] [] [] [],0)
def fT(l:List NB)(i:Nat):NB:=l.getD i Ik
def KY(h:i<l.length):gA (l.map cD) i=cD (fT l i):=by simp [gA,fT,List.getD,h]
def A6(h:i<l.length):fT l i∈l:=by simp [fT,List.getD,h]
abbrev gr(j:Nat)(x:NB)(tk bd:Bool):aq:=cD x++[.ak j,av tk,av bd]
def Ad(j:Nat)(x:NB)(tk bd:Bool):aF ql 0 (gr j x tk bd)=gr j x tk bd:=wX
def Ey(j k:Nat)(x:NB)(tk bd:Bool):sT (gr j x tk bd) [(22,.ak k)]=gr k x tk bd:=wX
def ad6(j:Nat)(x:NB)(tk bd:Bool):aF wI 0 (gr j x tk bd)=cD x:=wX
def agv(x:NB)(tk bd:Bool):sT (aF ql 0 (cD x)) [(22,.ak 12),(23,av tk),(24,av bd)]=gr 12 x tk bd:=wX
def arN(j:Nat)(x:NB)(tk bd c:Bool):sT (gr j x tk bd) [(22,.ak 1),(23,av c)]=gr 1 x c bd:=wX
def VT(j:Nat)(x:NB)(tk bd c:Bool):sT (gr j x tk bd) [(22,.ak 1),(24,av c)]=gr 1 x tk c:=wX
def arM(j:Nat)(x:NB)(tk bd:Bool):gI (gr j x tk bd) 0=x.1.f.kind:=wX
def aM7(j:Nat)(x:NB)(tk bd:Bool):gR (gr j x tk bd) 16=ints x.1.f.Ts:=wX
def aM6(j:Nat)(x:NB)(tk bd:Bool):gR (gr j x tk bd) 18=x.1.D.map eu:=by
 rw [gr,adz];rfl
def aM5(j:Nat)(x:NB)(tk bd:Bool):gR (gr j x tk bd) 19=x.1.H.map dj:=by
 rw [gr,adz];rfl
def ad7(j:Nat)(x:NB)(tk bd:Bool):gB (gr j x tk bd) 23=tk:=wX
def OI(j:Nat)(x:NB)(tk bd:Bool):gB (gr j x tk bd) 24=bd:=wX
def aPs(d:CD):gI (eu d) 21=d.u.f.kind:=by
 cases d with
 |mk d u=>cases d;cases u;rfl
def aNL{l:List CD}(h:i<l.length):gI (gA (l.map eu) ((i:Int).toNat)) 21=l[i].u.f.kind :=by rw [gf h,aPs]
def zq(l:List NB)(i k:Nat):List NB:=(List.range' i k).map λj=>fT l (2*j)
def aKj(l:List NB)(i k:Nat):zq l i (k+1)=fT l (2*i)::zq l (i+1) k:=by simp [zq,ade]
def arI(h:i<=mx):aU (2*(i:Int))=((2*i:Nat):Int):=by
 simp only [mx]at h;rw [mi (by omega) (by omega)];omega
def aPG{D:List CD}(x:NB)(tk:Bool)(hl:2*D.length<=l.length)(hD:D.length<=mx):∀(bd:Bool) (st:List NB),st.length+D.length<=2*eo->
 bS Ge [lN l,fO (D.map eu),iI (ln (D.map eu)),iI 0,aa (gr 1 x tk bd),lN st] (0,[aa (gr 1 x tk (bd||D.any λd=>d.u.f.kind != 1)),lN (st++zq l 0 D.length)]):=by
 have k:=fP (m:=D.length) (P:=λi=>∀(bd:Bool) (st:List NB),st.length+(D.length- i)<=2*eo->
  bS Ge [lN l,fO (D.map eu),iI (ln (D.map eu)),iI (i:Int),aa (gr 1 x tk bd),lN st] (0,[aa (gr 1 x tk (bd||(D.drop i).any λd=>d.u.f.kind != 1)),lN (st++zq l i (D.length- i))]))
  (λbd st _=>by
    refine aY aiS (au dw (ab ?_));rw [Ad,Ey,jE,J3];simp [zq])
  λi hi ih bd st hb=>by
   have e:(D.drop i).any (λd=>d.u.f.kind != 1)=(D[i].u.f.kind != 1||(D.drop (i+1)).any λd=>d.u.f.kind != 1):=G8;have L9:2*i<l.length:=by omega
   have go:∀c:Bool,c=(bd||D[i].u.f.kind != 1)->E (λN n=>ah.a8 (ib (aU (2*(i:Int))) (l.map cD).length) (ah.a8 (decide (((st.map cD).length +1)*280<=140737488355328)) (Ge (FU CX EE N) N n [lN l,fO (D.map eu),iI (ln (D.map eu)),iI (aU ((i:Int)+1)),aa (gr 1 x tk c),hY (st.map cD++[aF wI 0 (gA (l.map cD) (aU (2*(i:Int))).toNat)])]))) (0,[aa (gr 1 x tk (bd||(D.drop i).any λd=>d.u.f.kind != 1)),lN (st++zq l i (D.length- i))]):=by
    intro c hc;rw [arI (by omega),ix hi hD];refine az (by rw [dW];exact u9 L9) (az (by rw [dW];simp only [eo]at hb;simp;omega) ?_);rw [show(((2*i:Nat):Int)).toNat =2*i from rfl,KY L9,sx];have:=ih c (st++[fT l (2*i)]) (by rw [fI];simp only [mh,tG,eo]at hb⊢;omega);rw [hc,Bool.or_assoc,<-e,pN,acS,<-aKj,show D.length-(i+1)+1=D.length- i by omega]at this;rw [<-hc]at this;simpa only [lN,sR,my,T2]using this
   refine aY aiS (aV (cZ hi) (az (cw hi) ?_));rw [OI,Ad,aNL hi,VT,VT];cases bd with
   |true=>exact bh (go true rfl)
   |false=>exact bm (go _ (by simp))
 intro bd st hb;have:=k bd st (by omega);simpa using this
end
end Go.Proofs.B
namespace Go.ah
def aq2{p:Prop}(h:p:=by
 induction D with
 |nil=>rfl
 |cons d D ih=>simp only [dK,lz,fI,mh,tG]at ih⊢;omega):p:=h
def aqH{p:Prop}(h:p:=by show ib _ ((cN s.e).map cD).length =true;rw [dW];exact u9 bI):p:=h
def aqk{p:Prop}(h:p:=by rw [bA,bA,iT]at h3;exact h3.2.2):p:=h
end Go.ah
namespace Go.Proofs.B
open Go Go.ah
section
variable{x:NB}
structure sM where
 e:NB
 st:List NB
 tk:Bool
 bd:Bool
def rD(q:Bool):Nat->sM->sM
 |0,s=>s
 |m+1,s=>
  bif s.e.1.f.kind==9 then rD q m ⟨fT (cN s.e) (2*s.e.1.D.length),s.st++zq (cN s.e) 0 s.e.1.D.length,s.tk||decide (0<s.e.1.f.Ts.length),s.bd||decide (0<s.e.1.H.length)||s.e.1.D.any λd=>d.u.f.kind != 1⟩
  else bif s.e.1.f.kind==3&&(q&&decide (0<(cN s.e).length))then rD q m ⟨fT (cN s.e) ((cN s.e).length - 1),s.st++(cN s.e).take ((cN s.e).length - 1),s.tk,s.bd⟩
  else s
abbrev zS:aq:=[cu 0,iI 0,iI 0,iI 0,iI 0,iI 0,aT,aT,aT,aT,aT,cu 0,.ak 2,.ak 3,.ak 4,.ak 5,.ak 6,.ak 7,.ak 8,.ak 9,.ak 10,iI 0,.ak 11,aT,aT]
def ary:sT (aF adj 0 zS) ahw=zS:=rfl
def fJ1(j:Nat)(x:NB)(tk bd:Bool)(st:List NB):bY ZI [aa (gr j x tk bd),lN st] (0,[aa (gr 1 x (tk||decide (0<x.1.f.Ts.length)) bd),lN st]):=by
 refine bX aAk ?_;rw [Ad,ad7,aM7,arN,arN,c9,show decide ((0:Int)<((x.1.f.Ts.length:Nat):Int))=decide (0<x.1.f.Ts.length)by simp];cases tk with
 |true=>exact wQ
 |false=>exact rI
def fJ2(j:Nat)(x:NB)(tk bd:Bool)(st:List NB):bY ZG [aa (gr j x tk bd),lN st] (0,[aa (gr 1 x tk (bd||decide (0<x.1.H.length))),lN st]):=by
 refine bX aAi ?_;rw [Ad,OI,aM5,VT,VT,c9,show decide ((0:Int)<((x.1.H.length:Nat):Int))=decide (0<x.1.H.length)by simp];cases bd with
 |true=>exact wQ
 |false=>exact rI
def fJ3(j:Nat)(q:Bool)(l:List NB)(x:NB)(tk bd:Bool)(st:List NB):bY ZH [av q,lN l,aa (gr j x tk bd),lN st] (0,[av (x.1.f.kind==3&&(q&&decide (0<l.length))),aa (gr 1 x tk bd),lN st]):=by
 refine bX aAj ?_;rw [Ad,arM,Ey,c9,show decide ((0:Int)<((l.length:Nat):Int))=decide (0<l.length)by simp];refine ax (c:=x.1.f.kind==3) (λh=> ?_) λh=>ab (iW);cases q with
 |true=>exact bh (ab (iW))
 |false=>exact bm (ab (iW))
def J0(hk:x.1.L.length=1):2*x.1.D.length<(cN x).length :=by
 rw [Kd,afH];have:(dK x.1.D).length =2*x.1.D.length:=by
  generalize x.1.D=D;exact aq2
 simp only [fI,this,hk];omega
def anI(l:List NB)(i k:Nat):(zq l i k).length =k:=by simp [zq]
def arY:∀(l:List CS) (n i:Nat),i<l.length->bw (fT (eN n l) i).1 +l.length<=fG l+1
 | [],_,_,h=>jY
 |x::l,n,0,_=>by
  have:=Kc l;show bw x+(l.length+1)<=bw x+fG l+1;omega
 |x::l,n,i+1,h=>by
  have:=arY l (n+bw x) i (mU);have:=vU x;show bw (fT (eN (n+bw x) l) i).1 +(l.length+1)<=bw x+fG l+1;omega
def Oy{i:Nat}(h:i<(cN x).length):bw (fT (cN x) i).1 +(cN x).length <=bw x.1:=by
 have:=arY x.1.kids (x.2+1) i (by rw [<-Kd];exact h);have e:=En x.1;rw [Kd];unfold cN;omega
structure Room(x:NB):Prop where
 ok:x.1.Ok
 md:bw x.1<=md
 rm:x.2+bw x.1<=eo
def Room.jt{x y:NB}(h:Room x)(hy:y∈cN x):Room y/\bw y.1+1<=bw x.1/\y.1∈x.1.kids:=by
 obtain⟨r1,r2,r3,r4⟩:=TH hy;have a:=h.md;have b:=h.rm;exact⟨⟨h.ok.jt r1,by omega,by omega⟩,r4,r1⟩
def Room.ei(h:Room x):Ev Cb [aN x] (0,[lN (cN x)])/\(cN x).length <=mx/\(cN x).length <=bw x.1:=by
 have a:=h.md;have b:=h.rm;refine⟨asE h.ok (by simp only [Go.Proofs.B.md,eo]at a⊢;omega) (by simp only [eo]at b⊢;omega),by rw [Kd];exact an6 a,?_⟩;rw [Kd,En];have:=Kc x.1.kids;omega
abbrev spO(s:sM):UO:=(0,[aa (gr 2 s.e s.tk s.bd),aa (gr 2 s.e s.tk s.bd),lN s.st])
def ahr{no np:Nat}(q:Bool):∀(m:Nat) (s:sM) (j:Nat),bw s.e.1<=m->Room s.e->s.e.1.Sh no np->s.st.length+bw s.e.1<=eo->
 bS MV [av q,aa zS,aa (gr j s.e s.tk s.bd),bR [],bR [],c7 [],c7 [],aw [],dv [],fO [],fV [],fy [],lN [],lN s.st] (spO (rD q m s))
 |0,s,j,h,_,_,_=>by have:=vU s.e.1;omega
 |m+1,s,j,h,hr,F5,hb=>by
  obtain⟨eT,yD,uP⟩:=hr.ei;refine aY aBC ?_;rw [ad6,arM];refine ae eT ?_;unfold rD;cases h9:s.e.1.f.kind==9 with
  |true=>
   rw [show(bif true then rD q m _ else _:sM)=_ from rfl];have hL:=F5.one.sc (eq_of_beq h9);have bI:=J0 hL;obtain⟨r1,r2,r3⟩:=hr.jt (A6 bI);refine bh ?_;rw [Ad,Ey];refine ae (fJ1 1 s.e s.tk s.bd s.st) ?_;erw [Ad,Ey];refine ae (fJ2 1 s.e _ s.bd s.st) ?_;erw [aM6,Ad,Ey];have hD:s.e.1.D.length<=mx:=by omega
   refine ae (aPG s.e _ (by omega) hD _ s.st (KO)).diag ?_;have e2:aU (2*ln (s.e.1.D.map eu))=((2*s.e.1.D.length:Nat):Int):=by rw [c9];exact arI hD
   erw [e2];refine az (aqH) ?_;have e3:gA ((cN s.e).map cD) (((2*s.e.1.D.length:Nat):Int)).toNat =cD (fT (cN s.e) (2*s.e.1.D.length)):=KY bI;erw [e3,ary,agv];erw [ad7,OI];refine ahr (no:=no) (np:=np) q m ⟨fT (cN s.e) (2*s.e.1.D.length),s.st++zq (cN s.e) 0 s.e.1.D.length,s.tk||decide (0<s.e.1.f.Ts.length),s.bd||decide (0<s.e.1.H.length)||s.e.1.D.any λd=>d.u.f.kind != 1⟩ 12 (by simp only;omega) r1 (F5.jt r3) ?_;simp only [fI,anI];have h2:bw (fT (cN s.e) (2*s.e.1.D.length)).1 +s.e.1.D.length+1<=bw s.e.1:=by
    have a:=Oy bI;omega
   exact KO
  |false=>
   rw [show(bif false then rD q m _ else _:sM)=_ from rfl];refine bm ?_;rw [Ad,Ey];refine ae (fJ3 1 q (cN s.e) s.e s.tk s.bd s.st) ?_;cases h3:s.e.1.f.kind==3&&(q&&decide (0<(cN s.e).length))with
   |false=>
    refine bm (ab ?_);erw [Ad,Ey];rfl
   |true=>
    rw [show(bif true then rD q m _ else _:sM)=_ from rfl];have h0:0<(cN s.e).length :=aqk;have bI:(cN s.e).length - 1<(cN s.e).length :=by omega
    obtain⟨r1,r2,r3⟩:=hr.jt (A6 bI);have e2:aU (ln ((cN s.e).map cD)- 1)=(((cN s.e).length - 1:Nat):Int):=by
     rw [c9];simp only [mx]at yD;rw [mi (by omega) (by omega)];omega
    refine bh ?_;erw [e2];have i1:=Oy bI;have e3:gA ((cN s.e).map cD) ((((cN s.e).length - 1:Nat):Int)).toNat =cD (fT (cN s.e) ((cN s.e).length - 1)):=KY bI;refine az (by show(decide (0<=(((cN s.e).length - 1:Nat):Int))&&decide ((((cN s.e).length - 1:Nat):Int)<=ln ((cN s.e).map cD))&&decide (ln ((cN s.e).map cD)<=ln ((cN s.e).map cD)))=true;rw [c9];simp<;>omega) (az (by show decide (((s.st.map cD).length +(((cN s.e).map cD).take ((cN s.e).length - 1)).length)*280<=140737488355328)=true;rw [sU,dW,dW];simp only [eo]at hb;simp;omega) (az (aqH) ?_));erw [e3,ary,agv];erw [ad7,OI];have:=ahr (no:=no) (np:=np) q m ⟨fT (cN s.e) ((cN s.e).length - 1),s.st++(cN s.e).take ((cN s.e).length - 1),s.tk,s.bd⟩ 12 (by simp only;omega) r1 (F5.jt r3) (by simp only [fI,sU];simp only [eo]at hb⊢;omega);simp only [lN,sR,adf]at this;exact iK
def nL(q:Bool)(x:NB):sM:=rD q (bw x.1) ⟨x,[],false,false⟩
def aOd(x:NB):sT (aF ql 0 (cD x)) [(22,.ak 12),(23,aT),(24,aT)]=gr 12 x false false:=agv x false false
def aoc{no np:Nat}{q:Bool}(hr:Room x)(F5:x.1.Sh no np):Ev Sr [aN x,av q] (0,[aa (gr 0 (nL q x).e (nL q x).tk (nL q x).bd),lN (nL q x).st]):=by
 refine bj aEs ?_;rw [aOd];refine ae (ahr (no:=no) (np:=np) q (bw x.1) ⟨x,[],false,false⟩ 12 (gQ _) hr F5 (by have:=hr.md;simp only [Go.Proofs.B.md,eo,tG]at this⊢;omega)).diag (ab ?_);erw [Ad,Ey];rfl
end
end Go.Proofs.B
namespace Go.ah
def uB{p:Prop}(h:p:=by obtain⟨p,t,fi,⟨e,en⟩,st,tk,bd,⟨d,dn⟩,_⟩:=f;cases e;cases d;rfl):p:=h
end Go.ah
namespace Go.Proofs.B
open Go Go.ah
section
variable{n u:aE}
structure FN where
 p:PG
 t:Nat
 first:Nat
 e:NB
 st:List NB
 tk:Bool
 bd:Bool
 dl:NB
 fJ:List NB
 o:Int
 rt:Int
 prio:Int
 period:Int
 dead:Int
 rQ:Int
 cost:Int
def ey(j k:Nat)(f:FN):aq:=
 [dg (f.p.bq.map iX),iI f.p.gv,ng (f.p.tasks.map cA),uf (f.p.bW.map il),iI (f.t:Int),iI (f.first:Int)]++(cD f.e++([lN f.st,av f.tk,av f.bd]++(cD f.dl++[lN f.fJ,iI f.o,iI f.rt,iI f.prio,iI f.period,iI f.dead,iI f.rQ,iI f.cost,.ak j,.ak k])))
section
variable (i j a b:Nat) (f:FN)
theorem dF:aF mN 0 (ey i j f)=ey i j f:=uB
theorem dM:sT (ey i j f) [(61,.ak a),(62,.ak b)]=ey a b f:=uB
theorem KZ:gI (ey i j f) 54=f.o:=uB
theorem asQ:gI (ey i j f) 57=f.period:=uB
theorem aPv:gI (ey i j f) 59=f.rQ:=uB
theorem awd:gI (ey i j f) 4=f.t:=rfl
theorem aZG:gI (ey i j f) 5=f.first:=rfl
theorem awf:gR (ey i j f) 0=f.p.bq.map iX:=rfl
theorem ahs:gR (ey i j f) 2=f.p.tasks.map cA:=rfl
theorem awe:gR (ey i j f) 3=f.p.bW.map il:=rfl
theorem asS:gR (ey i j f) 28=f.st.map cD:=uB
theorem asR:gR (ey i j f) 53=f.fJ.map cD:=uB
theorem aPy:gB (ey i j f) 29=f.tk:=uB
theorem aPx:gB (ey i j f) 30=f.bd:=uB
theorem aNR(v:Int):sT (ey i j f) [(57,iI v),(61,.ak a),(62,.ak b)]=ey a b {f with period:=v}:=uB
theorem aNQ(v:Int):sT (ey i j f) [(59,iI v),(61,.ak a),(62,.ak b)]=ey a b {f with rQ:=v}:=uB
end
abbrev mW(a b:Nat)(f:FN)(u n:aE):aq:=[aa (ey a b f),cF u,cp n]
def lV(o:Int)(e:CE):Bool:=bif e.kind==2 then bif e.O==o then e.off==0 else false else false
theorem Lp(e:CE):gI (aH e) 3=e.O:=Bi
theorem aNK(e:CE):gI (aH e) 4=e.off:=Bi
theorem P9(e:CE):gI (aH e) 2=e.N:=Bi
theorem aPr(e:CE):gI (aH e) 1=e.op:=Bi
theorem afp{i j:Nat}{f:FN}(e:CE):Ev Je [aa (aH e),aa (ey i j f),cF u,cp n] (0,av (lV f.o e)::mW 1 2 f u n):=by
 refine bj aAy ?_;rw [yk,Lp,aNK,KZ,dF,dM];unfold lV;exact ax (λh=>ax (λh2=>ab (wW)) λh2=>ab (wW)) λh=>ab (iW)
def pl0:PL:=⟨0,0,0,0,[]⟩
def HM(l:List PL)(i:Nat):PL:=l.getD i pl0
theorem asO{l:List PL}(h:0<l.length):gA (l.map dc) 0=dc (HM l 0):=by simp [gA,HM,List.getD,h]
theorem aZw(s:CS):gI (encS s) 0=s.f.kind:=uv
theorem aPi(s:CS):gR (encS s) 14=s.f.To.map dc:=uv
theorem aPj(s:CS):gR (encS s) 12=s.f.E.map aH:=uv
theorem vN{α:Type}{f:α->Row}{l:List α}{m:Nat}(h:m<l.length):decide ((m:Int)<ln (l.map f))=true:=by rw [c9];simpa using h
def Ae(o:Int)(s:CS):Bool:=bif s.f.kind==2 then bif (HM s.f.To 0).kind ==1 then(HM s.f.To 0).O ==o else false else false
theorem VV{i j no np:Nat}{f:FN}{s:CS}(hs:AW no np s):Ev RW [aS s,aa (ey i j f),cF u,cp n] (0,av (Ae f.o s)::mW 1 2 f u n):=by
 refine bj aAz ?_;rw [aZw,aPi,KZ,dF,dM];unfold Ae;refine ax (λh=> ?_) λh=>ab (iW);have hl:0<s.f.To.length:=by rw [(hs.st (eq_of_beq h)).1];omega
 rw [asO hl];refine az (vN (m:=0) hl) (ax (c:=(HM s.f.To 0).kind ==1) (λh2=>az (vN (m:=0) hl) (ab (wW))) λh2=>ab (wW))
end
end Go.Proofs.B
namespace Go.ah
def aeo{p:Prop}(h:p:=by
 erw [dF,dM];exact hr):p:=h
end Go.ah
namespace Go.Proofs.B
open Go Go.ah
section
variable{a b e:CE}{f:FN}{l:List CE}{i j:Nat}{n u:aE}
def Pt{α σ:Type}{l:List α}{LF:Nat->σ->Nat->Nat->Option UO}{g:σ->α->σ}{done:σ->UO}(hd:∀s,E (LF l.length s) (done s))
 (hs:∀(i:Nat) (h:i<l.length) (s:σ) (r:UO),E (LF (i+1) (g s l[i])) r->E (LF i s) r) (s:σ):E (LF 0 s) (done (l.foldl g s)):=by
 have k:=fP (P:=λi=>∀s,E (LF i s) (done ((l.drop i).foldl g s))) (m:=l.length) (λs=>by rw [jE];exact hd s) λi hi ih s=>by
  refine hs i hi s _ ?_;rw [jj hi,vS];exact ih _
 simpa using k s
def ce0:CE:= .mk 0 0 0 0 0 0 0 0 []
def kQ(l:List CE)(i:Nat):CE:=l.getD i ce0
def Hx(h:i<l.length):gA (l.map aH) i=aH (kQ l i):=by simp [gA,kQ,List.getD,h]
def adB(h:i<l.length):kQ l i∈l:=by simp [kQ,List.getD,h]
def vz(e:CE):CE:=bif e.kind==9 then kQ e.L 0 else e
def Am(o:Int)(a b:CE):Option Int:=bif lV o a then bif b.kind==1 then bif decide (0<=b.N)then some b.N else none else none else none
def Lf(o:Int)(e:CE):Option Int:=bif e.kind != 5 then none else bif e.op != 1 then none else bif lV o (kQ e.L 1)then Am o (kQ e.L 1) (kQ e.L 0)else Am o (kQ e.L 0) (kQ e.L 1)
def W4(o:Int)(s:CS):Option Int:=bif Ae o s then Lf o (vz (kQ s.f.E 0))else none
structure B6 where
 c:Int
 v:Int
def wm(o:Int)(s:B6)(x:NB):B6:=match W4 o x.1 with|some v=>⟨aU (s.c+1),v⟩|none=>s
def aYa(h:e.kind=9->e.L.length=1):bY YW [aa (ey i j f),cF u,cp n,aa (aH e)] (0,mW 1 2 f u n++[aa (aH (vz e))]):=by
 refine bX axM ?_;rw [yk,uD,dF,dM,e7];unfold vz;refine ax (λh2=> ?_) λh2=>ab (by rw [h2];rfl);have hl:=h (eq_of_beq h2);have hl:0<e.L.length:=by omega
 refine az (vN (m:=0) hl) (ab ?_);rw [Hx hl,e7,h2];rfl
def aX9:bY YV [aa (ey i j f),cF u,cp n,aa (aH e)] (bif (e.kind != 5)||(e.op != 1)then 1 else 0,mW 1 2 f u n++[aa (aH e)]):=by
 refine bX axL ?_;rw [yk,aPr,dF,dM,e7];exact ax (λh2=>ab (by rw [h2];rfl)) λh2=>ax (λh3=>ab (by rw [h2,h3];rfl)) λh3=>ab (by rw [h2,h3];rfl)
def aX8:bY Mw [aa (ey i j f),cF u,cp n,aa (aH a),aa (aH b)] (0,av (Am f.o a b).isSome ::mW 1 2 f u n++[aa (aH a),aa (aH b)]):=by
 refine bX axF ?_;rw [e7,e7,dF,dM,yk,P9];refine ae (afp a) ?_;erw [dF,dM];unfold Am;refine ax (c:=lV f.o a) (λh=>ax (c:=b.kind==1) (λh2=>ab ?_) λh2=>ab (wW)) λh=>ab (iW);rw [h,h2];cases decide (0<=b.N)<;>rfl
def aNk{o:Int}{v:Int}(h:Am o a b=some v):v=b.N:=by
 unfold Am at h;cases h1:lV o a<;>rw [h1]at h<;>first|cases h|skip
 cases h2:b.kind==1<;>rw [h2]at h<;>first|cases h|skip
 cases h3:decide (0<=b.N)<;>rw [h3]at h<;>first|cases h|skip
 rfl
def aYg{no np:Nat}(hl:f.fJ.length<=mx)(hs:∀x∈f.fJ,AW no np x.1):Ev RG [aa (ey i j f),cF u,cp n]
 (0,av ((f.fJ.foldl (wm f.o) ⟨0,f.period⟩).c ==1&&(decide (1<=(f.fJ.foldl (wm f.o) ⟨0,f.period⟩).v)&&decide ((f.fJ.foldl (wm f.o) ⟨0,f.period⟩).v <=2147483647)))::mW 1 2 {f with period:=(f.fJ.foldl (wm f.o) ⟨0,f.period⟩).v } u n):=by
 have rC:∀v:Int,({f with period:=v}:FN).o =f.o:=λ_=>rfl;have k:=Pt (l:=f.fJ) (g:=wm f.o) (LF:=λq s N m=>zQ (FU CX EE N) N m [iI (s.c:Int),lN f.fJ,iI (ln (f.fJ.map cD)),iI (q:Int),aa (ey 1 2 {f with period:=s.v}),cF u,cp n])
  (done:=λs=>(0,iI (s.c:Int)::mW 1 2 {f with period:=s.v} u n)) (λs=>by
    refine aY aiA (au dw (ab ?_));rw [dF,dM]) λq hq s r hr=>by
  have hm:=cY hq;have h1:=hs _ hm;generalize hx:f.fJ[q]=x at h1 hr;have gx:gA (f.fJ.map cD) ((q:Int).toNat)=cD x:=by rw [gf hq,hx]
  refine aY aiA (aV (cZ hq) (az (cw hq) ?_));rw [gx,atr,ix hq hl,Wc,dF,dM];refine ae (VV h1) ?_;erw [dF,dM];refine ax (c:= !Ae f.o x.1) (λhb=> ?_) λhb=> ?_
  ·have:wm f.o s x=s:=by unfold wm W4;rw [show Ae f.o x.1=false by simpa using hb];rfl
   rw [this]at hr;exact hr
  have hb:Ae f.o x.1=true:=G6;have k2:x.1.f.kind=2:=by
   unfold Ae at hb;cases h:x.1.f.kind==2 with
   |true=>exact eq_of_beq h
   |false=>rw [h]at hb;cases hb
  obtain⟨_,e1,e2⟩:=h1.st k2;have sG:0<x.1.f.E.length:=by omega
  obtain⟨e9,e5,ek⟩:=e2 _ (adB sG);refine az (vN (m:=0) sG) ?_;rw [Hx sG,e7];refine ae (aYa e9) ?_;erw [dF,dM,e7];refine ae aX9 ?_;have X3:W4 f.o x.1=Lf f.o (vz (kQ x.1.f.E 0)):=by unfold W4;rw [hb];rfl
  have hlen:(vz (kQ x.1.f.E 0)).kind =5->(vz (kQ x.1.f.E 0)).L.length =2:=by
   unfold vz;cases h9:(kQ x.1.f.E 0).kind ==9 with
   |true=>
    have:=e9 (eq_of_beq h9);exact ek _ (adB (by omega))
   |false=>exact e5
  generalize vz (kQ x.1.f.E 0)=e at X3 hlen⊢;cases hc:(e.kind != 5)||(e.op != 1)with
  |true=>
   refine bm ?_;erw [dF,dM];have:wm f.o s x=s:=by
    unfold wm;rw [X3];unfold Lf;cases h5:e.kind != 5 with
    |true=>rfl
    |false=>rw [h5]at hc;rw [show(e.op != 1)=true by simpa using hc];rfl
   rw [this]at hr;exact hr
  |false=>
   refine bh ?_;have h5:(e.kind != 5)=false:=by cases h:e.kind != 5<;>rw [h]at hc<;>first|rfl|cases hc
   have h6:(e.op != 1)=false:=by rw [h5]at hc;simpa using hc
   have ki:=hlen (by simpa using h5);have l0:0<e.L.length:=by omega
   have l1:1<e.L.length:=by omega
   have hpQ:Lf f.o e=bif lV f.o (kQ e.L 1)then Am f.o (kQ e.L 1) (kQ e.L 0)else Am f.o (kQ e.L 0) (kQ e.L 1):=by unfold Lf;rw [h5,h6];rfl
   refine az (by show decide ((0:Int)<ln (gR (aH e) 8))=true;rw [uD];exact vN (m:=0) l0) (az (by show decide ((1:Int)<ln (gR (aH e) 8))=true;rw [uD];exact vN (m:=1) l1) ?_);erw [uD,Hx l1,Hx l0,e7,e7,dF,dM];have fin:∀{a b:CE},Lf f.o e=Am f.o a b->E (λN m=>bO (Mw (FU CX EE N) N [aa (ey 1 2 {f with period:=s.v}),cF u,cp n,aa (aH a),aa (aH b)]) λ_ o6=>bif gB o6 0 then zQ (FU CX EE N) N m [iI (aU (s.c+1)),lN f.fJ,iI (ln (f.fJ.map cD)),iI ((q+1:Nat):Int),aa (sT (aF mN 0 (gC o6 1)) [(57,iI (gI (gC o6 5) 2)),(61,.ak 1),(62,.ak 2)]),cF (gR o6 2),cp (gR o6 3)]else zQ (FU CX EE N) N m [iI s.c,lN f.fJ,iI (ln (f.fJ.map cD)),iI ((q+1:Nat):Int),aa (sT (aF mN 0 (gC o6 1)) w4),cF (gR o6 2),cp (gR o6 3)]) r:=by
    intro a b he;refine ae aX8 ?_;refine ax (c:=(Am f.o a b).isSome) (λhp=> ?_) λhp=> ?_
    ·obtain⟨v,hv⟩:=acR.1 hp;have:wm f.o s x=⟨aU (s.c+1),v⟩:=by unfold wm;rw [X3,he,hv]
     rw [this]at hr;have e2:gI (aH b) 2=v:=by rw [P9,aNk hv]
     erw [dF,aNR];erw [e2];exact hr
    ·have:wm f.o s x=s:=by
      unfold wm;rw [X3,he];cases h:Am f.o a b with
      |none=>rfl
      |some v=>rw [h]at hp;cases hp
     rw [this]at hr;exact aeo
   refine ae (afp (kQ e.L 1)) ?_;erw [dF,dM];refine ax (c:=lV f.o (kQ e.L 1)) (λju=> ?_) λju=> ?_
   ·exact fin (by rw [hpQ,ju];rfl)
   ·exact fin (by rw [hpQ,ju];rfl)
 refine bj azp ?_;rw [asR,dF,dM];refine ae (k ⟨0,f.period⟩).diag ?_;generalize f.fJ.foldl (wm f.o) ⟨0,f.period⟩=s;erw [dF,dM,asQ];refine ax (c:=s.c==1) (λh=>ax (c:=decide (1<=s.v)) (λh2=>ab (wW)) λh2=>ab (wW)) λh=>ab (iW)
end
section
variable{f:FN}{i j no np:Nat}{n u:aE}
def W8(o:Int)(s:CS):Option Int:=bif Ae o s then bif (kQ s.f.E 0).kind ==1 then some (kQ s.f.E 0).N else none else none
def xh(o:Int)(s:B6)(x:CS):B6:=match W8 o x with|some v=>⟨aU (s.c+1),v⟩|none=>s
def FP(o:Int)(s:B6)(x:NB):B6:=bif x.1.f.kind==3 then x.1.L.foldl (xh o) (xh o s x.1)else xh o s x.1
def aLP{o:Int}{s:CS}(h:Ae o s=true):s.f.kind=2:=by
 unfold Ae at h;cases h2:s.f.kind==2 with
 |true=>exact eq_of_beq h2
 |false=>rw [h2]at h;cases h
def arX{l1:aq}{x:CS}{s:B6}(hs:AW no np x):Ev RC [aS x,aa l1,aa [iI s.c],aa (ey i j {f with rQ:=s.v}),cF u,cp n]
 (0,[aa [.ptr 2 0 0],aa [iI (xh f.o s x).c],aa (ey 3 4 {f with rQ:=(xh f.o s x).v }),cF u,cp n]):=by
 refine bj ayD ?_;rw [kZ,aPj,dF,dM];refine ae (VV hs) ?_;refine ax (c:=Ae f.o x) (λhb=> ?_) λhb=> ?_
 ·have sG:0<x.f.E.length:=by have:=(hs.st (aLP hb)).2.1;omega
  refine az (vN (m:=0) sG) ?_;rw [Hx sG,yk,P9];refine ax (c:=(kQ x.f.E 0).kind ==1) (λh2=>az (vN (m:=0) sG) (ab ?_)) λh2=>ab ?_
  ·erw [dF,aNQ];have:xh f.o s x=⟨aU (s.c+1),(kQ x.f.E 0).N⟩:=by unfold xh W8;rw [hb,h2];rfl
   exact iV
  ·erw [dF,dM];have:xh f.o s x=s:=by unfold xh W8;rw [hb,h2];rfl
   exact iV
 ·refine ab ?_;erw [dF,dM];have:xh f.o s x=s:=by unfold xh W8;rw [hb];rfl
  exact iV
def aYr(hl:f.st.length<=mx)(hs:∀x∈f.st,AW no np x.1/\x.1.L.length<=mx/\∀y∈x.1.L,AW no np y):Ev RH [aa (ey i j f),cF u,cp n]
 (0,av ((f.st.foldl (FP f.o) ⟨0,f.rQ⟩).c ==1&&(decide (0<=(f.st.foldl (FP f.o) ⟨0,f.rQ⟩).v)&&decide ((f.st.foldl (FP f.o) ⟨0,f.rQ⟩).v <=2147483647)))::mW 1 2 {f with rQ:=(f.st.foldl (FP f.o) ⟨0,f.rQ⟩).v } u n):=by
 have inner:∀(l:List CS),l.length<=mx->(∀y∈l,AW no np y)->∀s:B6,bS Mv [dv (l.map encS),iI (ln (l.map encS)),iI 0,aa (ey 1 2 {f with rQ:=s.v}),cF u,cp n,aa [.ptr 0 0 0],aa [iI s.c]]
  (0,[aa (ey 1 2 {f with rQ:=(l.foldl (xh f.o) s).v }),cF u,cp n,aa [.ptr 0 0 0],aa [iI (l.foldl (xh f.o) s).c]]):=by
  intro l hl hs s;refine Pt (l:=l) (g:=xh f.o) (LF:=λq s N m=>Mv (FU CX EE N) N m [dv (l.map encS),iI (ln (l.map encS)),iI (q:Int),aa (ey 1 2 {f with rQ:=s.v}),cF u,cp n,aa [.ptr 0 0 0],aa [iI s.c]])
   (done:=λs=>(0,[aa (ey 1 2 {f with rQ:=s.v}),cF u,cp n,aa [.ptr 0 0 0],aa [iI s.c]])) (λs=> ?_) (λq hq s r hr=> ?_) s
  ·refine aY air (au dw (ab ?_));rw [dF,dM];rfl
  ·refine aY air (aV (cZ hq) (az (cw hq) ?_));rw [gf hq,kZ,ix hq hl,dF,dM];refine ae (arX (hs _ (cY hq))) ?_;exact aeo
 have k:=Pt (l:=f.st) (g:=FP f.o) (LF:=λq s N m=>MA (FU CX EE N) N m [lN f.st,iI (ln (f.st.map cD)),iI (q:Int),aa (ey 1 2 {f with rQ:=s.v}),cF u,cp n,aa [.ptr 0 0 0],aa [iI s.c]])
  (done:=λs=>(0,[aa (ey 1 2 {f with rQ:=s.v}),cF u,cp n,aa [.ptr 0 0 0],aa [iI s.c]])) (λs=>by
    refine aY aix (au dw (ab ?_));rw [dF,dM];rfl) λq hq s r hr=>by
  obtain⟨h1,h2,h3⟩:=hs _ (cY hq);generalize hx:f.st[q]=x at h1 h2 h3 hr;have gx:gA (f.st.map cD) ((q:Int).toNat)=cD x:=by rw [gf hq,hx]
  refine aY aix (aV (cZ hq) (az (cw hq) ?_));rw [gx,atr,ix hq hl,HX,asN,dF,dM];refine ae (arX h1) ?_;erw [dF,dM];unfold FP at hr;refine ax (c:=x.1.f.kind==3) (λhb=> ?_) λhb=> ?_
  ·rw [hb]at hr;refine ae (inner x.1.L h2 h3 _).diag ?_;exact aeo
  ·rw [hb]at hr;exact hr
 refine bj azq ?_;rw [asS,dF,dM];refine ae (k ⟨0,f.rQ⟩).diag ?_;generalize f.st.foldl (FP f.o) ⟨0,f.rQ⟩=s;erw [dF,dM,aPv];exact ax (c:=s.c==1) (λh=>ax (c:=decide (0<=s.v)) (λh2=>ab (wW)) λh2=>ab (wW)) λh=>ab (iW)
end
end Go.Proofs.B
namespace Go.ah
def Vt{p:Prop}(h:p:=by obtain⟨a,b,c,d⟩:=t;cases c;rfl):p:=h
end Go.ah
namespace Go.ah
def T3:=@List.mem_of_mem_drop
def acL:=@List.length_pos_iff
end Go.ah
namespace Go.Proofs.B
open Go Go.ah Qm
section
variable{f:FN}{l:List NB}{i j:Nat}{n u:aE}
def aKZ(i j k:Nat)(f:FN)(s:sM):(sT (ey i j f) [(6,cu (gI (gr k s.e s.tk s.bd) 0)),(7,iI (gI (gr k s.e s.tk s.bd) 1)),(8,iI (gI (gr k s.e s.tk s.bd) 2)),(9,iI (gI (gr k s.e s.tk s.bd) 3)),(10,iI (gI (gr k s.e s.tk s.bd) 4)),(11,iI (gI (gr k s.e s.tk s.bd) 5)),(12,av (gB (gr k s.e s.tk s.bd) 6)),(13,av (gB (gr k s.e s.tk s.bd) 7)),(14,av (gB (gr k s.e s.tk s.bd) 8)),(15,av (gB (gr k s.e s.tk s.bd) 9)),(16,av (gB (gr k s.e s.tk s.bd) 10)),(17,cu (gI (gr k s.e s.tk s.bd) 11)),(18,bR (gR (gr k s.e s.tk s.bd) 12)),(19,bR (gR (gr k s.e s.tk s.bd) 13)),(20,c7 (gR (gr k s.e s.tk s.bd) 14)),(21,c7 (gR (gr k s.e s.tk s.bd) 15)),(22,aw (gR (gr k s.e s.tk s.bd) 16)),(23,dv (gR (gr k s.e s.tk s.bd) 17)),(24,fO (gR (gr k s.e s.tk s.bd) 18)),(25,fV (gR (gr k s.e s.tk s.bd) 19)),(26,fy (gR (gr k s.e s.tk s.bd) 20)),(27,iI (gI (gr k s.e s.tk s.bd) 21)),(28,hY (s.st.map cD)),(29,av (gB (gr k s.e s.tk s.bd) 23)),(30,av (gB (gr k s.e s.tk s.bd) 24)),(61,.ak 1),(62,.ak 2)])=ey 1 2 {f with e:=s.e,st:=s.st,tk:=s.tk,bd:=s.bd}:=by
 obtain⟨p,t,fi,⟨e,en⟩,st,tk,bd,⟨d,dn⟩,_⟩:=f;obtain⟨⟨e2,n2⟩,_,_,_⟩:=s;cases e;cases d;cases e2;kernel_rfl
def aK0(i j:Nat)(f:FN)(x:NB)(fJ:List NB)(o:Int):(sT (ey i j f) [(31,cu (gI (cD x) 0)),(32,iI (gI (cD x) 1)),(33,iI (gI (cD x) 2)),(34,iI (gI (cD x) 3)),(35,iI (gI (cD x) 4)),(36,iI (gI (cD x) 5)),(37,av (gB (cD x) 6)),(38,av (gB (cD x) 7)),(39,av (gB (cD x) 8)),(40,av (gB (cD x) 9)),(41,av (gB (cD x) 10)),(42,cu (gI (cD x) 11)),(43,bR (gR (cD x) 12)),(44,bR (gR (cD x) 13)),(45,c7 (gR (cD x) 14)),(46,c7 (gR (cD x) 15)),(47,aw (gR (cD x) 16)),(48,dv (gR (cD x) 17)),(49,fO (gR (cD x) 18)),(50,fV (gR (cD x) 19)),(51,fy (gR (cD x) 20)),(52,iI (gI (cD x) 21)),(53,hY (fJ.map cD)),(54,iI o),(61,.ak 1),(62,.ak 2)])=ey 1 2 {f with dl:=x,fJ:=fJ,o:=o}:=by
 obtain⟨p,t,fi,⟨e,en⟩,st,tk,bd,⟨d,dn⟩,_⟩:=f;obtain⟨e2,n2⟩:=x;cases e;cases d;cases e2;kernel_rfl
def tk0:TK:=⟨0,[],Ik.1,0⟩
def dH(l:List TK)(i:Nat):TK:=l.getD i tk0
def C6{l:List TK}(h:i<l.length):gA (l.map cA) i=cA (dH l i):=by simp [gA,dH,List.getD,h]
def GQ{l:List TK}(h:i<l.length):dH l i∈l:=by simp [dH,List.getD,h]
def afm(t:TK)(n:Nat):sT (aF wI 2 (cA t)) [(21,iI (n:Int))]=cD (t.body,n):=Vt
def atp(t:TK):aF alw 0 (cA t)=cA t:=Vt
def av8(t:TK):gI (cA t) 0=t.prio:=rfl
def aZs(t:TK):gR (cA t) 1=t.aJ.map nM:=rfl
def aZy(x:NB):gB (cD x) 8=x.1.f.sC:=wX
def DF(t:TK)(s:sM):Bool:=bif decide (0<t.aJ.length)then false else bif decide (t.prio<1)then false else bif s.tk then false else bif s.bd then false else bif s.e.1.f.kind != 5 then false else bif (kQ s.e.1.f.E 0).kind != 1 then false else bif (kQ s.e.1.f.E 0).N != 1 then false else s.st.all λx=>jq true x.1
def yx(w:NB):List NB:=bif (fT (cN w) 0).1.f.kind ==3 then cN (fT (cN w) 0)else cN w
def FT(l:List NB):Bool:=bif l.length==0 then false else bif (fT l 0).1.f.kind != 15 then false else bif !(fT l 0).1.f.sC then false else(l.drop 1).all λx=>jq false x.1
def ob0:OB:=⟨0,0,0,false,[]⟩
def cW(l:List OB)(i:Int):OB:=l.getD i.toNat ob0
def qX{l:List OB}{i:Int}(h:ib i l.length=true):gA (l.map iX) i.toNat=iX (cW l i):=by
 have:i.toNat<l.length:=by simp [ib]at h;omega
 simp [gA,cW,List.getD,this]
def lv(f:FN):sM:=nL true ((dH f.p.tasks f.t).body,f.first)
def uc(f:FN):List NB:=yx (lv f).e
def Ip(f:FN):CE:=kQ (fT (uc f) 0).1.f.E 0
def uC(f:FN):Bool:=DF (dH f.p.tasks f.t) (lv f)&&(FT (uc f)&&(lV (Ip f).O (Ip f)&&(cW f.p.bq (Ip f).O).size ==1))
def ud(f:FN):FN:={f with e:=(lv f).e,st:=(lv f).st,tk:=(lv f).tk,bd:=(lv f).bd,dl:=fT (uc f) 0,fJ:=(uc f).drop 1,o:=(Ip f).O }
def aNy{no np:Nat}{t:TK}{s:sM}(hf:f.st=s.st/\f.tk=s.tk/\f.bd=s.bd)(hs:s.e.1.Sh no np)(hl:s.st.length<=mx)(fK:∀x∈s.st,Room x):
 bY Zk [aa (ey i j f),cF u,cp n,aa (cA t),aN s.e] (bif DF t s then(0,mW 1 2 f u n++[aa (cA t),aN s.e])else(1,aT::mW 1 2 f u n++[aa (cA t),aN s.e])):=by
 refine bX ayT ?_;rw [av8,aZs,HX,Wc,asS,aPy,aPx,dF,dM,atp,sx,hf.1,hf.2.1,hf.2.2,c9,show decide ((0:Int)<((t.aJ.length:Nat):Int))=decide (0<t.aJ.length)by simp];unfold DF;refine ax (λh=>ab (iW)) λh1=>ax (λh=>ab (by rw [h1,h];rfl)) λh2=>ax (λh=>ab (by rw [h1,h2,h];rfl)) λh3=>ax (λh=>ab (by rw [h1,h2,h3,h];rfl)) λh4=>ax (λh=>ab (by rw [h1,h2,h3,h4,h];rfl)) λh5=> ?_;have sG:0<s.e.1.f.E.length:=by have:=(hs.one.wh (by simpa using h5)).1;omega
 rw [Hx sG,yk,P9];refine az (vN (m:=0) sG) (ax (λh=>ab (by rw [h1,h2,h3,h4,h5,h];rfl)) λh6=>az (vN (m:=0) sG) (ax (λh=>ab (by rw [h1,h2,h3,h4,h5,h6,h];rfl)) λh7=> ?_));refine ae (aeb true hl λx hx=>⟨(fK x hx).ok,(fK x hx).md,(fK x hx).rm⟩) ?_;rw [h1,h2,h3,h4,h5,h6,h7];cases s.st.all λx=>jq true x.1 with
 |true=>exact rI
 |false=>exact wQ
def aNx(hl:0<l.length)(hr:Room (fT l 0)):
 bY Zc [aa (ey i j f),cF u,cp n,lN l] (0,mW 1 2 f u n++[lN (bif (fT l 0).1.f.kind ==3 then cN (fT l 0)else l)]):=by
 refine bX ayy ?_;rw [KY hl,HX,sx,dF,dM];refine az (vN (m:=0) hl) (az (by rw [dW];simpa using hl) (ax (c:=(fT l 0).1.f.kind ==3) (λh=>az (vN (m:=0) hl) (az (by rw [dW];simpa using hl) ?_)) λh=>ab (iW)));exact ae hr.ei.1 (ab (iW))
def aNw(hl:l.length<=mx)(hr:∀x∈l,Room x):
 bY Zb [aa (ey i j f),cF u,cp n,lN l] (bif FT l then(0,mW 1 2 f u n++[lN l])else(1,aT::mW 1 2 f u n++[lN l])):=by
 refine bX ayx ?_;rw [c9,dF,dM];unfold FT;refine ax (c:=((l.length:Nat):Int)==0) (λh=>ab ?_) λh=> ?_
 ·rw [show(l.length==0)=true by simp at h⊢;simpa using h];rfl
 have h1:(l.length==0)=false:=by simp at h⊢;simpa using h
 have sG:0<l.length:=by simp at h1;exact acL.2 h1
 have d0:decide ((0:Int)<((l.length:Nat):Int))=true:=by simpa using sG
 rw [KY sG,HX,aZy];refine az d0 (ax (λh=>ab (by rw [h1,h];rfl)) λh2=>az d0 (ax (λh=>ab (by rw [h1,h2,h];rfl)) λh3=>az (eE) ?_));have hp:=aeb (l:=l.drop 1) false (by rw [Ba];omega) λx hx=>⟨(hr x (T3 hx)).ok,(hr x (T3 hx)).md,(hr x (T3 hx)).rm⟩;simp only [lN,List.map_drop]at hp;refine ae hp ?_;rw [h1,h2,h3];cases(l.drop 1).all λx=>jq false x.1 with
 |true=>exact rI
 |false=>exact wQ
def aOV(h0:0<l.length)(hE:0<(fT l 0).1.f.E.length)(hO:(kQ (fT l 0).1.f.E 0).kind =2->ib (kQ (fT l 0).1.f.E 0).O f.p.bq.length=true):
 E (λN _=>(a8 (cH 0 (ln (l.map cD)))<|a8 (dJ 1 (ln (l.map cD))&&dJ (ln (l.map cD)) (ln (l.map cD))&&dJ (ln (l.map cD)) (ln (l.map cD)))<|a8 (cH 0 (ln (l.map cD)))<|a8 (cH 0 (ln (gR (gA (l.map cD) 0) 12)))<|bO (FU CX EE N Je [bK (gA (gR (gA (l.map cD) 0) 12) 0),aa (sT (aF mN 0 (ey i j f)) [(31,cu (gI (gA (l.map cD) 0) 0)),(32,iI (gI (gA (l.map cD) 0) 1)),(33,iI (gI (gA (l.map cD) 0) 2)),(34,iI (gI (gA (l.map cD) 0) 3)),(35,iI (gI (gA (l.map cD) 0) 4)),(36,iI (gI (gA (l.map cD) 0) 5)),(37,av (gB (gA (l.map cD) 0) 6)),(38,av (gB (gA (l.map cD) 0) 7)),(39,av (gB (gA (l.map cD) 0) 8)),(40,av (gB (gA (l.map cD) 0) 9)),(41,av (gB (gA (l.map cD) 0) 10)),(42,cu (gI (gA (l.map cD) 0) 11)),(43,bR (gR (gA (l.map cD) 0) 12)),(44,bR (gR (gA (l.map cD) 0) 13)),(45,c7 (gR (gA (l.map cD) 0) 14)),(46,c7 (gR (gA (l.map cD) 0) 15)),(47,aw (gR (gA (l.map cD) 0) 16)),(48,dv (gR (gA (l.map cD) 0) 17)),(49,fO (gR (gA (l.map cD) 0) 18)),(50,fV (gR (gA (l.map cD) 0) 19)),(51,fy (gR (gA (l.map cD) 0) 20)),(52,iI (gI (gA (l.map cD) 0) 21)),(53,hY ((l.map cD).drop 1)),(54,iI (gI (gA (gR (gA (l.map cD) 0) 12) 0) 3)),(61,.ak 1),(62,.ak 2)]),cF u,cp n]) λ_ o9=>bif gB o9 0 then eh (gI (gC o9 1) 54) (gR (gC o9 1) 0)<|bL [av (gI (bp (gR (gC o9 1) 0) (gI (gC o9 1) 54)) 0==1),aa (sT (aF mN 0 (gC o9 1)) w4),cF (gR o9 2),cp (gR o9 3)]else bL [aT,aa (sT (aF mN 0 (gC o9 1)) w4),cF (gR o9 2),cp (gR o9 3)]:aA)) (0,av (lV (kQ (fT l 0).1.f.E 0).O (kQ (fT l 0).1.f.E 0)&&(cW f.p.bq (kQ (fT l 0).1.f.E 0).O).size ==1)::mW 1 2 {f with dl:=fT l 0,fJ:=l.drop 1,o:=(kQ (fT l 0).1.f.E 0).O } u n):=by
 have d0:=vN (f:=cD) (m:=0) h0;refine az d0 (az (by show(decide ((1:Int)<=ln (l.map cD))&&decide (ln (l.map cD)<=ln (l.map cD))&&decide (ln (l.map cD)<=ln (l.map cD)))=true;rw [c9];simp;omega) (az d0 ?_));rw [KY h0,dF,<-List.map_drop,aK0,Wc,Hx hE,Lp,e7];refine az (vN (m:=0) hE) (ae (afp (kQ (fT l 0).1.f.E 0)) ?_);generalize hx:kQ (fT l 0).1.f.E 0=x at hO⊢;refine ax (c:=lV x.O x) (λhs=> ?_) λhs=>ab ?_
 ·have hb:=hO (by
   unfold lV at hs;cases h1:x.kind==2 with
   |true=>exact eq_of_beq h1
   |false=>rw [h1]at hs;cases hs)
  erw [dF,dM,KZ,awf];refine az (by rw [dW];exact hb) (ab ?_);rw [hs];show((0,_):UO)=_;erw [qX hb];rfl
 ·erw [dF,dM];rw [hs];rfl
end
end Go.Proofs.B
namespace Go.ah
def tE:=@decide_eq_true
end Go.ah
namespace Go.Proofs.B
open Go Go.ah
section
variable{x:NB}
structure Good(no np:Nat)(x:NB):Prop where
 rm:Room x
 sh:x.1.Sh no np
def Good.jt{no np:Nat}{x y:NB}(h:Good no np x)(hy:y∈cN x):Good no np y:=⟨(h.rm.jt hy).1,h.sh.jt (h.rm.jt hy).2.2⟩
structure Wu(no np M:Nat)(s:sM):Prop where
 e:Good no np s.e
 st:∀x∈s.st,Good no np x
 len:s.st.length+bw s.e.1<=M
def adu{no np M:Nat}(q:Bool):∀(m:Nat) {s:sM},Wu no np M s->Wu no np M (rD q m s)
 |0,_,h=>h
 |m+1,s,h=>by
  unfold rD;cases h9:s.e.1.f.kind==9 with
  |true=>
   have bI:=J0 (h.e.sh.one.sc (eq_of_beq h9));have i1:=Oy bI;refine adu q m ⟨h.e.jt (A6 bI),λx hx=> ?_,?_⟩
   ·rcases nA.1 hx with hx|hx
    ·exact h.st x hx
    ·obtain⟨k,hk,rfl⟩:=wL.1 hx;have hk:=(List.mem_range'_1.1 hk).2;exact h.e.jt (A6 (by omega))
   ·have:=h.len;simp only [fI,anI];omega
  |false=>
   rw [show(bif false then rD q m _ else _:sM)=_ from rfl];cases h3:s.e.1.f.kind==3&&(q&&decide (0<(cN s.e).length))with
   |false=>exact h
   |true=>
    have h0:0<(cN s.e).length :=aqk;have bI:(cN s.e).length - 1<(cN s.e).length :=by omega
    have i1:=Oy bI;refine adu q m ⟨h.e.jt (A6 bI),λx hx=> ?_,?_⟩
    ·rcases nA.1 hx with hx|hx
     ·exact h.st x hx
     ·exact h.e.jt (List.mem_of_mem_take hx)
    ·have:=h.len;simp only [fI,sU];omega
def amC{no np:Nat}{q:Bool}(h:Good no np x):Wu no np (bw x.1) (nL q x):=adu q _ ⟨h,λx hx=>Bb,by simp⟩
def afF(h:Room x):bw x.1<=mx:=by have:=h.md;simp only [md,mx]at this⊢;omega
section
variable {no np:Nat} {f:FN}
def Uc(hg:Good no np ((dH f.p.tasks f.t).body,f.first)):Wu no np (bw (dH f.p.tasks f.t).body) (lv f):=amC hg
def ano{w:NB}(h:Good no np w)(hl:w.1.L.length=1):(∀x∈yx w,Good no np x)/\(yx w).length <=mx:=by
 have bI:0<(cN w).length :=by have:=J0 hl;omega
 have h0:=h.jt (A6 bI);unfold yx;cases(fT (cN w) 0).1.f.kind ==3 with
 |true=>exact⟨λx hx=>h0.jt hx,h0.rm.ei.2.1⟩
 |false=>exact⟨λx hx=>h.jt hx,h.rm.ei.2.1⟩
def anp{t:TK}{s:sM}(h:DF t s=true):s.e.1.f.kind=5:=by
 unfold DF at h;cases h1:decide (0<t.aJ.length)<;>rw [h1]at h<;>first|cases h|skip
 cases h1:decide (t.prio<1)<;>rw [h1]at h<;>first|cases h|skip
 cases h1:s.tk<;>rw [h1]at h<;>first|cases h|skip
 cases h1:s.bd<;>rw [h1]at h<;>first|cases h|skip
 cases h1:s.e.1.f.kind != 5 with
 |true=>exact G1
 |false=>exact y9
def aKS{l:List NB}(h:FT l=true):0<l.length/\(fT l 0).1.f.kind =15:=by
 unfold FT at h;cases h1:l.length==0<;>rw [h1]at h<;>first|cases h|skip
 cases h2:(fT l 0).1.f.kind != 15<;>rw [h2]at h<;>first|cases h|skip
 exact⟨by simp at h1;exact acL.2 h1,uu⟩
def aOW{i j:Nat}{u n:aE}(ht:f.t<f.p.tasks.length)(hg:Good f.p.bq.length np ((dH f.p.tasks f.t).body,f.first)):
 ∃f',Ev Jf [aa (ey i j f),cF u,cp n] (0,av (uC f)::mW 1 2 f' u n)/\(uC f=true->f'=ud f):=by
 have gs:=Uc hg;have mm:bw (dH f.p.tasks f.t).body <=mx:=afF hg.rm;have ib0:ib (f.t:Int) (f.p.tasks.map cA).length =true:=by rw [dW];exact u9 ht
 have g0:gA (f.p.tasks.map cA) ((f.t:Int).toNat)=cA (dH f.p.tasks f.t):=C6 ht;have fo:=aoc (q:=true) hg.rm hg.sh;have j1:=aNy (i:=1) (j:=2) (f:={f with e:=(lv f).e,st:=(lv f).st,tk:=(lv f).tk,bd:=(lv f).bd }) (u:=u) (n:=n) (t:=dH f.p.tasks f.t) (s:=lv f) ⟨rfl,rfl,rfl⟩ gs.e.sh (by have:=gs.len;omega) (λx hx=>(gs.st x hx).rm);have pre:∀r:UO,_->Ev Jf [aa (ey i j f),cF u,cp n] r:=λr h=>by
  refine bj aAA ?_;rw [awd,aZG,ahs,dF];refine az ib0 ?_;rw [g0,afm,atp];refine ae fo ?_;erw [aKZ,ad6];refine ae j1 ?_;exact h
 cases h1:DF (dH f.p.tasks f.t) (lv f)with
 |false=>
  refine⟨{f with e:=(lv f).e,st:=(lv f).st,tk:=(lv f).tk,bd:=(lv f).bd },pre _ ?_,λh=>by unfold uC at h;rw [h1]at h;cases h⟩;rw [h1];refine bm (ab ?_);erw [dF,dM];unfold uC;rw [h1];rfl
 |true=>
  have hk:=anp h1;obtain⟨w1,w2⟩:=gs.e.sh.one.wh hk;obtain⟨bg,bl⟩:=ano gs.e w2;have bI:0<(cN (lv f).e).length :=by have:=J0 w2;omega
  have avg:∀r:UO,_->Ev Jf [aa (ey i j f),cF u,cp n] r:=λr h=>by
   refine pre r ?_;rw [h1];refine bh ?_;erw [sx];refine ae gs.e.rm.ei.1 ?_;erw [dF,dM];refine ae (aNx bI (gs.e.jt (A6 bI)).rm) ?_;erw [dF,dM];refine ae (aNw (l:=uc f) bl (λx hx=>(bg x hx).rm)) ?_;exact h
  cases h2:FT (uc f)with
  |false=>
   refine⟨{f with e:=(lv f).e,st:=(lv f).st,tk:=(lv f).tk,bd:=(lv f).bd },avg _ ?_,λh=>by unfold uC at h;rw [h1,h2]at h;cases h⟩;rw [h2];refine bm (ab ?_);erw [dF,dM];unfold uC;exact Kq
  |true=>
   obtain⟨l0,AB⟩:=aKS h2;have g0:=bg _ (A6 l0);obtain⟨e1,e2⟩:=g0.sh.one.dl AB;have e1:(fT (uc f) 0).1.f.E.length =1:=e1;have Yl:0<(fT (uc f) 0).1.f.E.length :=by rw [e1];omega
   have d0:decide ((0:Int)<ln ((uc f).map cD))=true:=vN (m:=0) l0;refine⟨ud f,avg _ ?_,λ_=>rfl⟩;rw [h2];have k:=aOV (i:=1) (j:=2) (f:={f with e:=(lv f).e,st:=(lv f).st,tk:=(lv f).tk,bd:=(lv f).bd }) (u:=u) (n:=n) l0 Yl (λh=>by have:=e2 _ (adB Yl) h;unfold ib;exact T4.2 ⟨tE this.1,tE this.2⟩);have ok:uC f=(lV (Ip f).O (Ip f)&&(cW f.p.bq (Ip f).O).size ==1):=by unfold uC;rw [h1,h2];rfl
   rw [ok];exact bh k
end
end
end Go.Proofs.B
namespace Go.ah
def ED{p:Prop}(h:p:=by erw [dF,dM];rfl):p:=h
def ao8{p:Prop}(h:p:=by
 erw [dF,dM];rw [pre,vS,acj];rfl):p:=h
end Go.ah
namespace Go.Proofs.B
open Go Go.ah
def pre:Nat->NB->List NB
 |0,x=>[x]
 |m+1,x=>x::(cN x).flatMap (pre m)
def iY(x:NB):List NB:=pre (bw x.1) x
def acj{α β σ:Type}(f:α->List β)(g:σ->β->σ):∀(l:List α) (s:σ),(l.flatMap f).foldl g s=l.foldl (λs x=>(f x).foldl g s) s
 | [],_=>rfl
 |x::l,s=>by rw [lz,List.foldl_append,vS,acj f g l]
def Fu(o:Int)(p:PL):Bool:=bif p.kind != 3 then p.O==o else false
section
variable {i j:Nat} {f:FN} {u n:aE}
def wrC(p:PL):Ev RF [aa (dc p),aa (ey i j f),cF u,cp n] (0,av (Fu f.o p)::mW 1 2 f u n):=by
 refine bj ayW ?_;rw [show gI (dc p) 0=p.kind from rfl,show gI (dc p) 1=p.O from rfl,KZ,dF,dM];unfold Fu;exact ax (λh=>ab (iW)) λh=>ab (iW)
def aP6{l:List PL}(hl:l.length<=mx):Ev Mn [c7 (l.map dc),aa (ey i j f),cF u,cp n] (0,av (l.any (Fu f.o))::mW 1 2 f u n):=by
 refine Br (l:=l) (st:=mW 1 2 f u n) (LF:=λN m=>Mo (FU CX EE N) N m ([c7 (l.map dc),iI (ln (l.map dc)),iI 0]++mW 1 2 f u n))
  (IX:=λN _=>FU CX EE N Yy (c7 (l.map dc)::mW 1 2 f u n))
  (scan (LF:=λi N m=>Mo (FU CX EE N) N m ([c7 (l.map dc),iI (ln (l.map dc)),iI (i:Int)]++mW 1 2 f u n)) ?_ λi hi r q1 q2=> ?_) (λi hi=> ?_) (λhi=> ?_) λi hi=> ?_
 ·refine aY ahD (au dw (ab ?_));rw [dF,dM]
 ·refine aY ahD (aV (cZ hi) (az (cw hi) ?_));rw [gf hi,atq,ix hi hl,dF,dM];refine ae (wrC _) ?_;erw [dF,dM];exact Vo
 ·refine bj ahJ ?_;rw [dF,dM];refine ae hi.diag (bh (ab ?_));exact ED
 ·refine bj ahJ ?_;rw [dF,dM];refine ae hi.diag (bm (ab ?_));exact ED
 ·refine bj awB ?_;rw [dF,dM];refine ae hi (ab ?_);exact ED
end
def XX(o:Int)(s:CS):Bool:=bif s.f.kind==6 then(bif s.f.O==o then true else bif s.f.kind==16 then s.f.kS.any (Fu o)else false)else bif s.f.kind==16 then s.f.kS.any (Fu o)else false
def avR(o:Int)(s:CS):Bool:=bif XX o s then true else bif decide (0<s.f.To.length)then Fu o (HM s.f.To 0)else false
def Fo(o:Int)(c:Int)(x:NB):Int:=bif avR o x.1 then aU (c+1)else c
abbrev Rg(a b c:Nat)(v:Int)(f:FN)(u n:aE):aq:=[aa [.ptr a 0 0],aa [iI v],aa (ey b c f),cF u,cp n]
def aZA(x:NB):gI (cD x) 2=x.1.f.O:=za
def aPp(x:NB):gR (cD x) 15=x.1.f.kS.map dc:=za
def aPq(x:NB):gR (cD x) 14=x.1.f.To.map dc:=za
section
variable {i j:Nat} {f:FN} {u n:aE}
def isC(x:NB)(l0:aq)(v:Int)(ho:x.1.f.kS.length<=mx):bY Y4 [aa l0,aa [iI v],aa (ey i j f),cF u,cp n,aN x] (0,av (XX f.o x.1)::Rg 2 3 4 v f u n++[aN x]):=by
 refine bX ayf ?_;rw [HX,aZA,aPp,KZ,dF,dM,dM,sx];have k:∀c:Bool,E (λN m=>bO (FU CX EE N Mn [c7 (x.1.f.kS.map dc),aa (ey 1 2 f),cF u,cp n]) λ_ o1=>Qm.bL [av (gB o1 0),aa [.ptr 2 0 0],aa [iI (gI [iI v] 0)],aa (sT (aF mN 0 (gC o1 1)) af4),cF (gR o1 2),cp (gR o1 3),aN x]) (0,av (x.1.f.kS.any (Fu f.o))::Rg 2 3 4 v f u n++[aN x]):=λ_=>by
  refine ae (aP6 ho) (ab ?_);exact ED
 unfold XX;refine ax (c:=x.1.f.kind==6) (λh=>ax (c:=x.1.f.O==f.o) (λh2=>ab (wW)) λh2=>ax (c:=x.1.f.kind==16) (λh3=> ?_) λh3=>ab (OS)) λh=>ax (c:=x.1.f.kind==16) (λh3=> ?_) λh3=>ab (by rw [h,h3];rfl)
 ·rw [h,h2,h3];exact k true
 ·rw [h,h3];exact k true
def aY8(x:NB)(l0:aq)(v:Int)(ho:x.1.f.kS.length<=mx):Ev Zh [aN x,aa l0,aa [iI v],aa (ey i j f),cF u,cp n] (0,Rg 2 3 4 (Fo f.o v x) f u n):=by
 refine bj ayY ?_;rw [dF,dM,sx];refine ae (isC x _ v ho) ?_;unfold Fo avR;refine ax (c:=XX f.o x.1) (λh=>ab ?_) λh=> ?_
 ·erw [dF,dM];rw [h];rfl
 rw [h];erw [aPq,c9,dF,dM,dM];have e:decide ((0:Int)<((x.1.f.To.length:Nat):Int))=decide (0<x.1.f.To.length):=by simp
 rw [show decide ((0:Int)<((x.1.f.To.length:Nat):Int))=decide (0<x.1.f.To.length)by simp];refine ax (c:=decide (0<x.1.f.To.length)) (λh2=>az h2 ?_) λh2=>ab (by rw [h2];rfl);rw [asO (uu),atq];refine ae (wrC _) ?_;rw [h2];refine ax (c:=Fu f.o (HM x.1.f.To 0)) (λh3=>ab ?_) λh3=>ab ?_
 ·erw [dF,dM];rw [h3];rfl
 ·erw [dF,dM];rw [h3];rfl
def asX:∀(m:Nat) (x:NB),bw x.1<=m->Room x->∀(a i j:Nat) (v:Int),Ev Rk [aN x,aa [.ptr a 0 0],aa [iI v],aa (ey i j f),cF u,cp n] (0,Rg 2 3 4 ((pre m x).foldl (Fo f.o) v) f u n)
 |0,x,h,_,_,_,_,_=>by have:=vU x.1;omega
 |m+1,x,h,hr,a,i,j,v=>by
  obtain⟨eT,yD,uP⟩:=hr.ei;refine bj awM ?_;rw [sx,dF,dM];refine ae (aY8 x _ v hr.ok.fE.kS.1) (ae eT ?_);erw [dF,dM];have k:=Pt (l:=cN x) (g:=λv y=>(pre m y).foldl (Fo f.o) v) (LF:=λq v N n'=>Ri (FU CX EE N) N n' [iI (ln ((cN x).map cD)),iI (q:Int),aa [.ptr 2 0 0],aa [iI v],aa (ey 3 4 f),cF u,cp n,lN (cN x)])
   (done:=λv=>(0,Rg 2 3 4 v f u n++[lN (cN x)])) (λv=>by
     refine aY ahF (au dw (ab ?_));rw [dF,dM];rfl) λq hq v r pK=>by
   have hm:=cY hq;obtain⟨r1,r2,_⟩:=hr.jt hm;refine aY ahF (aV (cZ hq) (az (cw hq) (az (G5) ?_)));rw [gf hq,sx,ix hq yD,dF,dM];refine ae (asX m _ (by omega) r1 2 3 4 v) ?_;erw [dF,dM];exact pK
  refine ae (k (Fo f.o v x)).diag (ab ?_);exact ao8
end
section
variable {i j:Nat} {f:FN} {u n:aE}
def aZ2(o:OB)(a:Nat)(h:o.Ok):Ev Zg [aa (iX o),aa [.ptr a 0 0],aa (ey i j f),cF u,cp n] (0,av (ei o.set f.o):: aa [.ptr 1 0 0]::mW 2 3 f u n):=by
 refine bj ayX ?_;rw [KZ,dF,dM];exact ae (yP _ h) aD
def Wx(o:OB):aF NR 0 (iX o)=iX o:=rfl
def aP0{l:List OB}(hl:l.length<=mx)(ho:∀o∈l,o.Ok):Ev Yx [dg (l.map iX),aa [.ptr 1 0 0],aa (ey i j f),cF u,cp n] (0,av (l.any λo=>ei o.set f.o):: aa [.ptr 1 0 0]::mW 2 3 f u n):=by
 refine Br (l:=l) (st:= aa [.ptr 1 0 0]::mW 2 3 f u n) (LF:=λN m=>Mp (FU CX EE N) N m ([dg (l.map iX),iI (ln (l.map iX)),iI 0,aa [.ptr 1 0 0]]++mW 2 3 f u n))
  (IX:=λN _=>FU CX EE N YB (dg (l.map iX):: aa [.ptr 1 0 0]::mW 2 3 f u n))
  (scan (LF:=λi N m=>Mp (FU CX EE N) N m ([dg (l.map iX),iI (ln (l.map iX)),iI (i:Int),aa [.ptr 1 0 0]]++mW 2 3 f u n)) ?_ λi hi r q1 q2=> ?_) (λi hi=> ?_) (λhi=> ?_) λi hi=> ?_
 ·refine aY ahH (au dw (ab ?_));rw [dF,dM]
 ·refine aY ahH (aV (cZ hi) (az (cw hi) ?_));rw [gf hi,Wx,ix hi hl,dF,dM];refine ae (aZ2 _ 1 (ho _ (cY hi))) ?_;erw [dF,dM];exact Vo
 ·refine bj ahN ?_;rw [dF,dM];refine ae hi.diag (bh (ab ?_));exact ED
 ·refine bj ahN ?_;rw [dF,dM];refine ae hi.diag (bm (ab ?_));exact ED
 ·refine bj awG ?_;rw [dF,dM];refine ae hi (ab ?_);exact ED
def alV(f:FN):Int:=f.p.tasks.foldl (λv t=>(pre (bw t.body) (t.body,0)).foldl (Fo f.o) v) 0
def IV(f:FN):Bool:=bif alV f==2 then !(f.p.bq.any λo=>ei o.set f.o)else false
def aN3(hl:f.p.tasks.length<=mx)(hr:∀t∈f.p.tasks,Room (t.body,0))(hol:f.p.bq.length<=mx)(ho:∀o∈f.p.bq,o.Ok):Ev RR [aa (ey i j f),cF u,cp n] (0,av (IV f)::mW 1 2 f u n):=by
 have k:=Pt (l:=f.p.tasks) (g:=λv t=>(pre (bw t.body) (t.body,0)).foldl (Fo f.o) v) (LF:=λq v N m=>RE (FU CX EE N) N m [ng (f.p.tasks.map cA),iI (ln (f.p.tasks.map cA)),iI (q:Int),aa (ey 1 2 f),cF u,cp n,aa [.ptr 0 0 0],aa [iI v]])
  (done:=λv=>(0,mW 1 2 f u n++[aa [.ptr 0 0 0],aa [iI v]])) (λv=>by
    refine aY aiE (au dw (ab ?_));rw [dF,dM];rfl) λq hq v r pK=>by
  have hm:=cY hq;refine aY aiE (aV (cZ hq) (az (cw hq) ?_));rw [gf hq,ix hq hl,dF,dM];erw [afm _ 0];refine ae (asX _ (f.p.tasks[q].body,0) (gQ _) (hr _ hm) 2 3 4 v) ?_;erw [dF,dM];exact pK
 refine bj azN ?_;rw [ahs,dF,dM];refine ae (k 0).diag ?_;unfold IV alV;generalize f.p.tasks.foldl (λv t=>(pre (bw t.body) (t.body,0)).foldl (Fo f.o) v) 0=v;erw [awf,dF,dM,dM];refine ax (c:=v==2) (λh=> ?_) λh=>ab (iW);rw [h];refine ae (aP0 hol ho) (ab ?_);exact ED
def D2(f:FN):Int:=bif (dH f.p.tasks f.t).dead ==0 then f.period else(dH f.p.tasks f.t).dead
def zO(f:FN):FN:={f with rt:=f.t,prio:=(dH f.p.tasks f.t).prio,dead:=D2 f}
def aPh(t:TK):gI (cA t) 23=t.dead:=Vt
def asP(x y z:Int):sT (ey i j f) [(55,iI x),(56,iI y),(58,iI z),(61,.ak 1),(62,.ak 2)]=ey 1 2 {f with rt:=x,prio:=y,dead:=z}:=uB
def aPH(ht:f.t<f.p.tasks.length):Ev RD [aa (ey i j f),cF u,cp n] (0,av (decide (D2 f<=f.period))::mW 1 2 (zO f) u n):=by
 refine bj ayE ?_;have g0:gA (f.p.tasks.map cA) ((f.t:Int).toNat)=cA (dH f.p.tasks f.t):=C6 ht;rw [awd,ahs,asQ,g0,aPh,av8,dF,asP,asP];refine az (by rw [dW];exact u9 ht) (ax (c:=(dH f.p.tasks f.t).dead ==0) (λh=>ab ?_) λh=>ab ?_)
 ·unfold zO D2;rw [h];rfl
 ·unfold zO D2;rw [h];rfl
end
end Go.Proofs.B
namespace Go.ah
def ap4{p:Prop}(h:p:=by rw [jj hq];simp only [qv,my,wO];omega):p:=h
end Go.ah
namespace Go.ah
def Ol:=@List.map_set
def ac1:=@List.mem_or_eq_of_mem_set
def amX:=@List.set_eq_of_length_le
end Go.ah
namespace Go.Proofs.B
open Go Go.ah
section
variable{l:List PR}{K np:Nat}
def foldI{α σ:Type}{l:List α}{LF:Nat->σ->Nat->Nat->Option UO}{g:σ->α->σ}{done:σ->UO}{I:Nat->σ->Prop}(hd:∀s,I l.length s->E (LF l.length s) (done s))
 (hI:∀(i:Nat) (h:i<l.length) (s:σ),I i s->I (i+1) (g s l[i])) (hs:∀(i:Nat) (h:i<l.length) (s:σ) (r:UO),I i s->E (LF (i+1) (g s l[i])) r->E (LF i s) r) (s:σ) (h0:I 0 s):E (LF 0 s) (done (l.foldl g s)):=by
 have k:=fP (P:=λi=>∀s,I i s->E (LF i s) (done ((l.drop i).foldl g s))) (m:=l.length) (λs h=>by rw [jE];exact hd s h) λi hi ih s h=>by
  refine hs i hi s _ h ?_;rw [jj hi,vS];exact ih _ (hI i hi s h)
 simpa using k s h0
def sA(l:cj):Row:=[.sub tI (ints l)]
structure US where
 al:List cj
 ok:Bool
variable{s:US}
def pr0:PR:=⟨0,[],[]⟩
def yh(l:List PR)(i:Nat):PR:=l.getD i pr0
def qD(l:List PR)(prio:Int)(s:US)(x:NB):US:=bif x.1.f.kind==20 then⟨s.al.set x.1.f.P.toNat (s.al.getD x.1.f.P.toNat []++[(x.2:Int)]),s.ok&&decide (prio<=(yh l x.1.f.P.toNat).ceil)⟩else s
abbrev cap:Nat:=8796093022208
structure LS(np K:Nat)(s:US):Prop where
 len:s.al.length=np
 all:∀l∈s.al,l.length+K<=cap
def LS.mono{J:Nat}(h:LS np K s)(hJ:J<=K):LS np J s:=⟨h.len,λl hl=>by have:=h.all l hl;omega⟩
def LS.step{prio:Int}(h:LS np (K+1) s)(x:NB):LS np K (qD l prio s x):=by
 unfold qD;cases x.1.f.kind==20 with
 |false=>exact h.mono (by omega)
 |true=>
  refine⟨by simpa using h.len,λy hy=> ?_⟩;have hy:y∈s.al.set x.1.f.P.toNat (s.al.getD x.1.f.P.toNat []++[(x.2:Int)]):=hy
  by_cases hk:x.1.f.P.toNat<s.al.length
  ·rcases ac1 hy with hy|rfl
   ·have:=h.all y hy;omega
   ·have e:s.al.getD x.1.f.P.toNat []=s.al[x.1.f.P.toNat]:=by simp [List.getD,hk]
    have:=h.all _ (cY hk);rw [e,fI];simp only [mh,tG];omega
  ·rw [amX (by omega)]at hy;have:=h.all y hy;omega
def LS.fold{np:Nat}{l:List PR}{prio:Int}:∀(L:List NB) {K:Nat} {s:US},LS np (K+L.length) s->LS np K (L.foldl (qD l prio) s)
 | [],_,_,h=>h
 |x::L,K,s,h=>by
  rw [vS];exact LS.fold L (LS.step (K:=K+L.length) (by simpa [tF]using h) x)
def qv(l:List NB):Nat:=(l.map λx=>bw x.1).sum
def amq:∀(l:List CS) (n:Nat),qv (eN n l)=fG l
 | [],_=>rfl
 |x::l,n=>by simp only [eN,qv,my,wO,fG];rw [<-amq l (n+bw x)];rfl
def Ty(x:NB):qv (cN x)+1=bw x.1:=by unfold cN;rw [amq,En];omega
def adP:∀(m:Nat) (x:NB),(pre m x).length <=bw x.1
 |0,x=>vU x.1
 |m+1,x=>by
  have k:∀l:List NB,(l.flatMap (pre m)).length <=qv l:=by
   intro l
   induction l with
   |nil=>exact gQ _
   |cons y l ih=>have:=adP m y;simp only [lz,fI,qv,my,wO]at ih⊢;omega
  have:=k (cN x);have:=Ty x;simp only [pre,mh];omega
def aZz(x:NB):gI (cD x) 4=x.1.f.P:=za
def aPk(x:NB):gI (cD x) 21=(x.2:Int):=za
def aZB{i:Nat}(h:i<l.length):gA (l.map il) i=il (yh l i):=by simp [gA,yh,List.getD,h]
def aPw(i j:Nat)(f:FN):gI (ey i j f) 56=f.prio:=uB
abbrev XD(a b c d:Nat)(s:US)(f:FN)(u n:aE):aq:=[aa [.ak a],aa [av s.ok],aa [.ptr b 0 0],cp (s.al.map sA),aa (ey c d f),cF u,cp n]
section
variable {f:FN} {u n:aE}
def aQe(x:NB)(s:US)(l1 l3:aq)(i j:Nat)(hs:LS f.p.bW.length 1 s)(hP:x.1.f.kind=20->0<=x.1.f.P/\x.1.f.P<(f.p.bW.length:Int)):
 Ev Zn [aN x,aa l1,aa [av s.ok],aa l3,cp (s.al.map sA),aa (ey i j f),cF u,cp n] (0,XD 3 4 5 6 (qD f.p.bW f.prio s x) f u n):=by
 refine bj azo ?_;rw [HX,aZz,aPk,dF,dM,awe,aPw];unfold qD;refine ax (c:=x.1.f.kind==20) (λh=> ?_) λh=>ab (iW);obtain⟨p0,p1⟩:=hP (eq_of_beq h);rw [h];obtain⟨k,hk⟩:∃k:Nat,x.1.f.P=(k:Int):=⟨x.1.f.P.toNat,by omega⟩;rw [hk]at p0 p1⊢;have kp:k<f.p.bW.length:=by omega
 have ka:k<s.al.length:=by rw [hs.len];exact kp
 have e0:((k:Int)).toNat =k:=rfl;rw [e0,wR ka,aZB kp];have hl:=hs.all _ (cY ka);have dk:decide (k<(s.al.map sA).length)=true:=by simpa using ka
 have ik:ib (k:Int) (s.al.map sA).length =true:=by rw [dW];exact u9 ka
 refine az (by rw [dk];rfl) (az ik (az dk (az (by simp) (az ?_ (az ik (az (by rw [dk];simp) ?_))))))
 ·show decide (((ints s.al[k]).length +1)*8<=140737488355328)=true;rw [dW];simp only [cap]at hl;simp;omega
 have e1:(s.al.map sA).set k ((sA s.al[k]).set 0 (.sub tI ((gV (sA s.al[k]) 0).rows ++[[iI (x.2:Int)]])))=(s.al.set k (s.al.getD k []++[(x.2:Int)])).map sA:=by
  rw [Ol]
  congr 1
  have:s.al.getD k []=s.al[k]:=by simp [List.getD,ka]
  rw [this];simp [sA,gV,AV.rows,ints]
 rw [e1];refine ax (c:=s.ok) (λh2=>az (by rw [dW];exact u9 kp) (ab ?_)) λh2=>ab ?_
 ·rw [h2];rfl
 ·rw [h2];rfl
def anM{no np:Nat}(AM:f.p.bW.length=np):∀(m:Nat) (x:NB),bw x.1<=m->Good no np x->∀(s:US) (l1 l3:aq) (i j:Nat),LS f.p.bW.length (bw x.1) s->
 Ev Rm [aN x,aa l1,aa [av s.ok],aa l3,cp (s.al.map sA),aa (ey i j f),cF u,cp n] (0,XD 3 4 5 6 ((pre m x).foldl (qD f.p.bW f.prio) s) f u n)
 |0,x,h,_,_,_,_,_,_,_=>by have:=vU x.1;omega
 |m+1,x,h,hg,s,l1,l3,i,j,hs=>by
  obtain⟨eT,yD,uP⟩:=hg.rm.ei;have hp:=vU x.1;have avL:=Ty x;refine bj awQ ?_;rw [sx,dF,dM];refine ae (aQe x s _ _ 5 6 (hs.mono hp) (by rw [AM];exact hg.sh.one.lk)) (ae eT ?_);erw [dF,dM];have k:=foldI (l:=cN x) (g:=λs y=>(pre m y).foldl (qD f.p.bW f.prio) s) (I:=λq s=>LS f.p.bW.length (qv ((cN x).drop q)) s) (LF:=λq s N n'=>Rj (FU CX EE N) N n' ([iI (ln ((cN x).map cD)),iI (q:Int)]++XD 3 4 5 6 s f u n++[lN (cN x)]))
   (done:=λs=>(0,XD 3 4 5 6 s f u n++[lN (cN x)])) (λs _=>by
     refine aY ahI (au dw (ab ?_));rw [dF,dM];rfl) (λq hq s h=>by
     refine LS.fold _ (h.mono ?_);have:=adP m (cN x)[q];rw [jj hq];simp only [qv,my,wO];omega) (λq hq s r hI pK=>by
   have hm:=cY hq;obtain⟨r1,r2,_⟩:=hg.rm.jt hm;refine aY ahI (aV (cZ hq) (az (cw hq) (az (G5) ?_)));rw [gf hq,sx,ix hq yD,dF,dM];refine ae (anM AM m _ (by omega) (hg.jt hm) s _ _ 5 6 (hI.mono (ap4))) ?_;erw [dF,dM];exact pK)
  refine ae (k (qD f.p.bW f.prio s x) (LS.step (hs.mono (by show qv (cN x)+1<=_;omega)) x)).diag (ab ?_);exact ao8
end
end
structure UN where
 u:aE
 n:aE
def BP(al:List cj)(s:UN)(q:Nat):UN:=bif decide (0<(al.getD q []).length)then⟨s.u++[[iI (q:Int),iI 0]],s.n++[[aw (ints (al.getD q []))]]⟩else s
def wk(f:FN):US:=f.fJ.foldl (λs y=>(pre (bw y.1) y).foldl (qD f.p.bW f.prio) s) ⟨List.replicate f.p.bW.length [],true⟩
def mF(f:FN):UN:=(List.range f.p.bW.length).foldl (BP (wk f).al) ⟨[],[]⟩
def rj(l:cj):Row:=[aw (ints l)]
def aPu(al:List cj):(al.map sA).map (λr=>r.map ah.AV.yl)=al.map rj:=by
 rw [Ke];refine Ur λl _=> ?_;simp [sA,rj,ah.AV.yl]
section
variable {f:FN} {u n:aE} {no np:Nat}
def aQd(AM:f.p.bW.length=np)(hg:∀x∈f.fJ,Good no np x)(hl:f.fJ.length<=mx)(s:US)(hs:LS f.p.bW.length (qv f.fJ) s):
 bS MD [hY (f.fJ.map cD),iI (ln (f.fJ.map cD)),iI 0,aa [.ptr 3 0 0],aa [.ak 4],aa [av s.ok],aa (ey 5 6 f),cp (s.al.map sA),cF u,cp n]
  (0,[aa [.ptr 3 0 0],aa [.ak 4],aa [av (f.fJ.foldl (λs y=>(pre (bw y.1) y).foldl (qD f.p.bW f.prio) s) s).ok],aa (ey 5 6 f),cp ((f.fJ.foldl (λs y=>(pre (bw y.1) y).foldl (qD f.p.bW f.prio) s) s).al.map sA),cF u,cp n]):=by
 refine foldI (l:=f.fJ) (g:=λs y=>(pre (bw y.1) y).foldl (qD f.p.bW f.prio) s) (I:=λq s=>LS f.p.bW.length (qv (f.fJ.drop q)) s)
  (LF:=λq s N m=>MD (FU CX EE N) N m [hY (f.fJ.map cD),iI (ln (f.fJ.map cD)),iI (q:Int),aa [.ptr 3 0 0],aa [.ak 4],aa [av s.ok],aa (ey 5 6 f),cp (s.al.map sA),cF u,cp n])
  (done:=λs=>(0,[aa [.ptr 3 0 0],aa [.ak 4],aa [av s.ok],aa (ey 5 6 f),cp (s.al.map sA),cF u,cp n]))
  (λs _=> ?_) (λq hq s h=> ?_) (λq hq s r hI pK=> ?_) s hs
 ·refine aY aiD (au dw (ab ?_));rw [dF,dM];rfl
 ·refine LS.fold _ (h.mono ?_);have:=adP (bw f.fJ[q].1) f.fJ[q];rw [jj hq];simp only [qv,my,wO];omega
 ·have hm:=cY hq;refine aY aiD (aV (cZ hq) (az (cw hq) ?_));rw [gf hq,sx,ix hq hl,dF,dM];refine ae (anM AM _ _ (gQ _) (hg _ hm) s _ _ 5 6 (hI.mono (ap4))) ?_;erw [dF,dM];exact pK
def usJ(AM:f.p.bW.length=np)(hg:∀x∈f.fJ,Good no np x)(hl:f.fJ.length<=mx)(s:US)(hs:LS f.p.bW.length (qv f.fJ) s):
 bY Zj [aa [.ptr 3 0 0],aa [.ak 4],aa [av s.ok],aa (ey 5 6 f),cp (s.al.map sA),cF u,cp n]
  (0,[aa [.ptr 3 0 0],aa [.ak 4],aa [av (f.fJ.foldl (λs y=>(pre (bw y.1) y).foldl (qD f.p.bW f.prio) s) s).ok],aa (ey 5 6 f),cp ((f.fJ.foldl (λs y=>(pre (bw y.1) y).foldl (qD f.p.bW f.prio) s) s).al.map sA),cF u,cp n]):=by
 refine bX ayS ?_;rw [asR,dF,dM];refine ae (aQd AM hg hl s hs).diag (ab ?_);erw [dF,dM];rfl
def aQh(al:List cj)(hl:al.length<=mx)(s:UN)(h0:s.u.length=0/\s.n.length=0):
 bS I8 [iI (ln (al.map rj)),iI 0,aa [.ptr 2 0 0],cp (al.map rj),aa (ey 3 4 f),cF s.u,cp s.n]
  (0,[aa [.ptr 2 0 0],cp (al.map rj),aa (ey 3 4 f),cF ((List.range al.length).foldl (BP al) s).u,cp ((List.range al.length).foldl (BP al) s).n]):=by
 refine foldI (l:=List.range al.length) (g:=BP al) (I:=λq s=>s.u.length<=q/\s.n.length<=q)
  (LF:=λq s N m=>I8 (FU CX EE N) N m [iI (ln (al.map rj)),iI (q:Int),aa [.ptr 2 0 0],cp (al.map rj),aa (ey 3 4 f),cF s.u,cp s.n])
  (done:=λs=>(0,[aa [.ptr 2 0 0],cp (al.map rj),aa (ey 3 4 f),cF s.u,cp s.n]))
  (λs _=> ?_) (λq hq s h=> ?_) (λq hq s r hI pK=> ?_) s ⟨by omega,by omega⟩
 ·refine aY aiC (au (by rw [Ux];exact dw) (ab ?_));rw [dF,dM]
 ·unfold BP;cases decide (0<(al.getD (List.range al.length)[q] []).length)with
  |false=>exact⟨by have:=h.1;show s.u.length<=q+1;omega,by have:=h.2;show s.n.length<=q+1;omega⟩
  |true=>exact⟨by have:=h.1;show(s.u++_).length <=q+1;simp;omega,by have:=h.2;show(s.n++_).length <=q+1;simp;omega⟩
 ·have AJ:q<al.length:=by simpa using hq
  refine aY aiC (aV (cZ AJ) (az (cw AJ) (az (by simpa using AJ) ?_)));have e1:gR (gA (al.map rj) ((q:Int).toNat)) 0=ints al[q]:=by rw [gf AJ];rfl
  have e2:al.getD q []=al[q]:=by simp [List.getD,AJ]
  rw [e1,c9,ix AJ hl,dF,dM];have e3:(List.range al.length)[q]=q:=by simp
  rw [e3]at pK;unfold BP at pK;rw [e2]at pK;rw [show decide ((0:Int)<((al[q].length :Nat):Int))=decide (0<al[q].length)by simp];simp only [mx]at hl;refine ax (λh=>az ?_ (az ?_ ?_)) λh=> ?_
  ·have:=hI.1;simp;omega
  ·have:=hI.2;simp;omega
  ·rw [h]at pK;exact pK
  ·rw [h]at pK;exact pK
def aQc{i j:Nat}(AM:f.p.bW.length=np)(hg:∀x∈f.fJ,Good no np x)(hl:f.fJ.length<=mx)(AK:f.p.bW.length<=mx)(avL:qv f.fJ<=cap):
 Ev RV [aa (ey i j f),cF [],cp []] (0,av (wk f).ok ::mW 3 4 f (mF f).u (mF f).n):=by
 have hs0:LS f.p.bW.length (qv f.fJ) ⟨List.replicate f.p.bW.length [],true⟩:=⟨by simp,λl h=>by
  have:=Uq h;rw [this,tG,Cw];exact avL⟩
 have hlen:(wk f).al.length =f.p.bW.length:=by
  have:∀(L:List NB) (s:US),s.al.length=f.p.bW.length->(L.foldl (λs y=>(pre (bw y.1) y).foldl (qD f.p.bW f.prio) s) s).al.length =f.p.bW.length:=by
   have inner:∀(L:List NB) (s:US),s.al.length=f.p.bW.length->(L.foldl (qD f.p.bW f.prio) s).al.length =f.p.bW.length:=by
    intro L
    induction L with
    |nil=>exact λs h=>h
    |cons x L ih=>
     intro s h;rw [vS];refine ih _ ?_;unfold qD;cases x.1.f.kind==20 with
     |false=>exact h
     |true=>exact mU
   intro L
   induction L with
   |nil=>exact λs h=>h
   |cons x L ih=>intro s h;rw [vS];exact ih _ (inner _ _ h)
  exact this f.fJ _ (by simp)
 refine bj aAx ?_;rw [awe,dF,dM,c9];simp only [mx]at AK;have e1:List.replicate (((f.p.bW.length:Nat):Int)).toNat ([.sub tI ([])]:Row)=(List.replicate f.p.bW.length ([]:cj)).map sA:=by
  rw [List.map_replicate];rfl
 rw [e1];have hJ:=usJ (u:=[]) (n:=[]) AM hg hl ⟨List.replicate f.p.bW.length [],true⟩ hs0;refine az (eE) (ae hJ ?_);have e2:∀o3:aq,gR o3 4=(wk f).al.map sA->(gR o3 4).map (λr=>r.map ah.AV.yl)=(wk f).al.map rj:=λo3 h=>by rw [h];exact aPu _
 erw [e2 _ rfl,dF,dM];refine ae (aQh (wk f).al (G9) ⟨[],[]⟩ ⟨rfl,rfl⟩).diag (ab ?_);erw [dF,dM];unfold mF;rw [hlen];rfl
end
structure yn(p:PG):Prop where
 ok:p.Ok
 nd:(p.tasks.map λt=>bw t.body).sum <=md
 sh:∀t∈p.tasks,t.body.Sh p.bq.length p.bW.length
def anR{α:Type}(g:α->Nat):∀{l:List α} {x:α},x∈l->g x<=(l.map g).sum
 |y::l,x,h=>by
  rw [my,wO];rcases iz.1 h with rfl|h
  ·omega
  ·have:=anR g h;omega
def yn.room{p:PG}(h:yn p){t:TK}(ht:t∈p.tasks){n:Nat}(hn:n<=md):Good p.bq.length p.bW.length (t.body,n):=by
 have h1:bw t.body<=md:=pz (anR (λt=>bw t.body) ht) h.nd;refine⟨⟨(h.ok.task t ht).body,h1,?_⟩,h.sh t ht⟩;show n+bw t.body<=eo;simp only [md,eo]at h1 hn⊢;omega
section
variable {no np:Nat} {f:FN}
def ana:∀{l:List NB} {k:Nat},qv (l.drop k)<=qv l
 | [],k=>by simp
 |x::l,0=>gQ _
 |x::l,k+1=>by
  rw [List.drop_succ_cons];refine pz ana ?_;simp only [qv,my,wO];omega
def aNv(hg:Good no np ((dH f.p.tasks f.t).body,f.first)):bw (lv f).e.1 <=bw (dH f.p.tasks f.t).body :=by have:=(Uc hg).len;omega
def aYI(hg:Good no np ((dH f.p.tasks f.t).body,f.first))(h:uC f=true):
 (∀x∈(ud f).fJ,Good no np x)/\(ud f).fJ.length <=mx/\qv (ud f).fJ <=md:=by
 have gs:=Uc hg;have h1:DF (dH f.p.tasks f.t) (lv f)=true:=by unfold uC at h;exact(T4.1 h).1
 obtain⟨_,w2⟩:=gs.e.sh.one.wh (anp h1);obtain⟨bg,bl⟩:=ano gs.e w2;have hm:bw (dH f.p.tasks f.t).body <=md:=hg.rm.md;have hn:=aNv hg;refine⟨λx hx=>bg x (T3 hx),by show((uc f).drop 1).length <=mx;rw [Ba];have:(uc f).length <=mx:=bl;omega,?_⟩;show qv ((uc f).drop 1)<=md;have h2:qv (uc f)<=bw (lv f).e.1 :=by
  have r1:=Ty (lv f).e;unfold uc yx;cases(fT (cN (lv f).e) 0).1.f.kind ==3 with
  |false=>show qv (cN (lv f).e)<=_;omega
  |true=>
   show qv (cN (fT (cN (lv f).e) 0))<=_;have bI:0<(cN (lv f).e).length :=by have:=J0 w2;omega
   have r2:=Ty (fT (cN (lv f).e) 0);have r3:=Oy bI;omega
 exact pz ana (by omega)
def CS.Ok.fL{s:CS}(h:s.Ok):s.L.length<=mx:=Vh
def stG(hg:Good no np ((dH f.p.tasks f.t).body,f.first)):(ud f).st.length <=mx/\∀x∈(ud f).st,AW no np x.1/\x.1.L.length<=mx/\∀y∈x.1.L,AW no np y:=by
 have gs:=Uc hg;have hm:bw (dH f.p.tasks f.t).body <=mx:=afF hg.rm;refine⟨by show(lv f).st.length <=mx;have:=gs.len;omega,λx hx=> ?_⟩;have g:=gs.st x hx;exact⟨g.sh.one,g.rm.ok.fL,λy hy=>(g.sh.jt (Fj hy)).one⟩
end
def f0(p:PG)(t first:Nat):FN:=⟨p,t,first,Ik,[],false,false,Ik,[],0,0,0,0,0,0,0⟩
def W3(f:FN):B6:=f.fJ.foldl (wm f.o) ⟨0,f.period⟩
def Pf(f:FN):Bool:=(W3 f).c ==1&&(decide (1<=(W3 f).v)&&decide ((W3 f).v <=2147483647))
def wc(f:FN):FN:={f with period:=(W3 f).v }
def W7(f:FN):B6:=f.st.foldl (FP f.o) ⟨0,f.rQ⟩
def Pj(f:FN):Bool:=(W7 f).c ==1&&(decide (0<=(W7 f).v)&&decide ((W7 f).v <=2147483647))
def By(f:FN):FN:={f with rQ:=(W7 f).v }
def one(p:PG)(t first:Nat):Int×FN:=
 let f:=f0 p t first
 bif uC f then
  let f1:=ud f
  bif Pf f1 then
   let f2:=wc f1
   bif Pj f2 then
    let f3:=By f2
    bif IV f3 then
     bif decide (D2 f3<=f3.period)then
      let f4:=zO f3
      bif (wk f4).ok then(0,f4)else(371,f4)
     else(370,f3)
    else(370,f3)
   else(370,f2)
  else(370,f1)
 else(370,f)
def tM(f:FN):Row:=sT (aF aah 0 (ey 3 4 f)) [(61,cF (mF f).u),(62,cp (mF f).n)]
def uz(f:FN):Row:=[.iO 102 (tM f) 0]
def tS(p:PG):List TK->Nat->Nat->List FN->Int×List FN
 | [],_,_,out=>(0,out)
 |x::l,t,first,out=>bif t==0 then tS p l (t+1) (first+bw x.body) out else bif (one p t first).1 ==0 then tS p l (t+1) (first+bw x.body) (out++[(one p t first).2])else((one p t first).1,[])
def foR(p:PG)(r:Int×List FN):UO:=bif r.1==0 then(1,[aa (jB p),sg (r.2.map uz)])else(0,[iI r.1,aa (jB p),sg []])
def wa(p:PG):aF abP 0 (jB p)=jB p:=rfl
def aQn(t:TK):aF fC 2 (cA t)=encS t.body:=Vt
def aNU(p:PG)(t first:Nat):ey 1 2 (f0 p t first)=[dg (gR (jB p) 0),iI (gI (jB p) 1),ng (gR (jB p) 2),uf (gR (jB p) 3),iI (t:Int),iI (first:Int),cu 0,iI 0,iI 0,iI 0,iI 0,iI 0,aT,aT,aT,aT,aT,cu 0,bR ([]),bR ([]),c7 ([]),c7 ([]),aw [],dv ([]),fO ([]),fV ([]),fy ([]),iI 0,hY ([]),aT,aT,cu 0,iI 0,iI 0,iI 0,iI 0,iI 0,aT,aT,aT,aT,aT,cu 0,bR ([]),bR ([]),c7 ([]),c7 ([]),aw [],dv ([]),fO ([]),fV ([]),fy ([]),iI 0,hY ([]),iI 0,iI 0,iI 0,iI 0,iI 0,iI 0,iI 0,.ak 1,.ak 2]:=rfl
end Go.Proofs.B
namespace Go.ah
def Pk{p:Prop}(h:p:=by
 simp only [h,bM]at hb;exact hb trivial):p:=h
end Go.ah
namespace Go.Proofs.B
open Go Go.ah
def aLI{a b:Nat}(h:a+b<=md):aU ((a:Int)+(b:Int))=((a+b:Nat):Int):=by
 simp only [md]at h;rw [mi (by omega) (by omega)];omega
def aYp{p:PG}(hf:yn p){t first:Nat}(ht:t<p.tasks.length)(B4:first<=md){bad:Int->Nat->Nat->Option UO}{good:aq->Nat->Nat->Option UO}{r:UO}
 (hb:(one p t first).1 =370->E (bad 370) r) (im:(one p t first).1 =371->E (bad 371) r) (hg:(one p t first).1 =0->∀b,E (good (av b::mW 3 4 (one p t first).2 (mF (one p t first).2).u (mF (one p t first).2).n)) r):
 E (λN n=>bO (FU CX EE N Jf [aa (ey 1 2 (f0 p t first)),cF [],cp []]) λ_ o5=>bif !(gB o5 0)then bad 370 N n else bO (FU CX EE N RG [aa (sT (aF mN 0 (gC o5 1)) w4),cF (gR o5 2),cp (gR o5 3)]) λ_ o6=>bif !(gB o6 0)then bad 370 N n else bO (FU CX EE N RH [aa (sT (aF mN 0 (gC o6 1)) w4),cF (gR o6 2),cp (gR o6 3)]) λ_ o7=>bif !(gB o7 0)then bad 370 N n else bO (FU CX EE N RR [aa (sT (aF mN 0 (gC o7 1)) w4),cF (gR o7 2),cp (gR o7 3)]) λ_ o8=>bif !(gB o8 0)then bad 370 N n else bO (FU CX EE N RD [aa (sT (aF mN 0 (gC o8 1)) w4),cF (gR o8 2),cp (gR o8 3)]) λ_ o9=>bif !(gB o9 0)then bad 370 N n else bO (FU CX EE N RV [aa (sT (aF mN 0 (gC o9 1)) w4),cF (gR o9 2),cp (gR o9 3)]) λ_ cO=>bif !(gB cO 0)then bad 371 N n else good cO N n) r:=by
 have hm:=GQ ht;have g0:Good p.bq.length p.bW.length ((dH p.tasks t).body,first):=hf.room hm B4;have IB:∀x∈p.tasks,Room (x.body,0):=λx hx=>(hf.room hx (n:=0) (by simp)).rm;obtain⟨f',k1,k2⟩:=aOW (np:=p.bW.length) (f:=f0 p t first) (i:=1) (j:=2) (u:=[]) (n:=[]) ht g0;refine ae k1 ?_;unfold one at hb im hg;refine ax (c:= !uC (f0 p t first)) (λh=> ?_) λh=> ?_
 ·have h:uC (f0 p t first)=false:=by simpa using h
  exact Pk
 have h:uC (f0 p t first)=true:=mU;rw [k2 h];obtain⟨j1,j2,j3⟩:=aYI g0 h;obtain⟨s1,s2⟩:=stG (f:=f0 p t first) g0;simp only [h,bT]at hb im hg;erw [dF,dM];have kp:=aYg (f:=ud (f0 p t first)) (i:=1) (j:=2) (u:=[]) (n:=[]) j2 λx hx=>(j1 x hx).sh.one;refine ae kp ?_;have hob:(ud (f0 p t first)).p =p:=rfl;have QM:(ud (f0 p t first)).t =t:=rfl;generalize ud (f0 p t first)=f1 at hb im hg j1 j2 j3 s1 s2 hob QM⊢;refine ax (c:= !Pf f1) (λh=> ?_) λh=> ?_
 ·have h:Pf f1=false:=by simpa using h
  exact Pk
 have h:Pf f1=true:=mU;simp only [h,bT]at hb im hg;erw [dF,dM];have ko:=aYr (np:=p.bW.length) (f:=wc f1) (i:=1) (j:=2) (u:=[]) (n:=[]) s1 s2;refine ae ko ?_;refine ax (c:= !Pj (wc f1)) (λh=> ?_) λh=> ?_
 ·have h:Pj (wc f1)=false:=by simpa using h
  exact Pk
 have h:Pj (wc f1)=true:=mU;simp only [h,bT]at hb im hg;erw [dF,dM];have BZ:(By (wc f1)).p =p:=hob;have ht3:(By (wc f1)).t =t:=QM;have hj3:(By (wc f1)).fJ =f1.fJ:=rfl;have ka:=aN3 (f:=By (wc f1)) (i:=1) (j:=2) (u:=[]) (n:=[]) (by rw [BZ];exact hf.ok.tasks) (by rw [BZ];exact IB) (by rw [BZ];exact hf.ok.bq) (by rw [BZ];exact hf.ok.obj);refine ae ka ?_;generalize By (wc f1)=f3 at hb im hg BZ ht3 hj3⊢;refine ax (c:= !IV f3) (λh=> ?_) λh=> ?_
 ·have h:IV f3=false:=by simpa using h
  exact Pk
 have h:IV f3=true:=mU;simp only [h,bT]at hb im hg;erw [dF,dM];have kd:=aPH (f:=f3) (i:=1) (j:=2) (u:=[]) (n:=[]) (by rw [ht3,BZ];exact ht);refine ae kd ?_;refine ax (c:= !decide (D2 f3<=f3.period)) (λh=> ?_) λh=> ?_
 ·have h:decide (D2 f3<=f3.period)=false:=by simpa using h
  exact Pk
 have h:decide (D2 f3<=f3.period)=true:=mU;simp only [h,bT]at hb im hg;erw [dF,dM];have LY:(zO f3).p =p:=BZ;have hj4:(zO f3).fJ =f1.fJ:=hj3;have ku:=aQc (f:=zO f3) (i:=1) (j:=2) (no:=p.bq.length) (np:=p.bW.length) (by rw [LY]) (by rw [hj4];exact j1) (by rw [hj4];exact j2) (by rw [LY];exact hf.ok.bW) (by rw [hj4];refine pz j3 ?_;simp only [md,cap];omega);refine ae ku ?_;refine ax (c:= !(wk (zO f3)).ok) (λh=> ?_) λh=> ?_
 ·have h:(wk (zO f3)).ok =false:=by simpa using h
  simp only [h,bM]at im;exact im trivial
 have h:(wk (zO f3)).ok =true:=mU;simp only [h,bT]at hg;have:=hg trivial (wk (zO f3)).ok;exact this
def aNT{p:PG}(hf:yn p):bS Cd [iI 0,ng (p.tasks.map cA),iI (ln (p.tasks.map cA)),iI 0,aa (jB p),sg []] (foR p (tS p p.tasks 0 0 [])):=by
 have htl:=hf.ok.tasks;have k:=fP (m:=p.tasks.length) (P:=λi=>∀(first:Nat) (out:List FN),first+((p.tasks.drop i).map λt=>bw t.body).sum <=md->out.length<=i->
  bS Cd [iI (first:Int),ng (p.tasks.map cA),iI (ln (p.tasks.map cA)),iI (i:Int),aa (jB p),sg (out.map uz)] (foR p (tS p (p.tasks.drop i) i first out)))
  (λfirst out _ _=>by
    rw [jE];refine aY ajk (au dw (ab ?_));rw [wa];rfl)
  λi hi ih first out hb ho=>by
   have hm:=cY hi;rw [jj hi,my,wO]at hb;have uP:bw p.tasks[i].body <=eo:=by simp only [md,eo]at hb⊢;omega
   have kn:=aoM p.tasks[i].body (hf.ok.task _ hm).body uP;have e1:aU ((first:Int)+(bw p.tasks[i].body :Int))=((first+bw p.tasks[i].body :Nat):Int):=aLI (by omega);refine aY ajk (aV (cZ hi) (az (cw hi) ?_));rw [gf hi,aQn,wa,ix hi htl,zi,jj hi];unfold tS;refine ax (c:=decide (0<i)) (λh=> ?_) λh=> ?_
   ·have hz:(i==0)=false:=by simp at h⊢;omega
    rw [hz];rw [<-aNU];have key:=λr=>aYp hf hi (r:=r) (first:=first) (by omega) (bad:=λe _ _=>some (0,[iI e,aa (jB p),sg []])) (good:=λcO N n=>ah.a8 (decide (((out.map uz).length +1)*8<=140737488355328)) (bO (FU CX EE N yN [aS p.tasks[i].body]) λ_ dQ=>Cd (FU CX EE N) N n [iI (aU ((first:Int)+gI dQ 0)),ng (p.tasks.map cA),iI (ln (p.tasks.map cA)),iI ((i+1:Nat):Int),aa (jB p),sg ((out.map uz)++[[.iO 102 (sT (aF aah 0 (gC cO 1)) [(61,cF (gR cO 2)),(62,cp (gR cO 3))]) 0]])]));refine key _ (λh1=> ?_) (λh1=> ?_) λh1 b=> ?_
    ·rw [h1];exact aD
    ·rw [h1];exact aD
    ·rw [h1];simp only [mx]at htl;refine az (EH) (ae kn ?_);have:=ih (first+bw p.tasks[i].body) (out++[(one p i first).2]) (by omega) (by rw [fI];simp;omega);rw [sR]at this;show bS Cd [iI (aU ((first:Int)+(bw p.tasks[i].body :Int))),_,_,_,_,_] _;rw [e1];exact iK
   ·have hz:(i==0)=true:=by simp at h⊢;omega
    rw [hz];refine ae kn ?_;show bS Cd [iI (aU ((first:Int)+(bw p.tasks[i].body :Int))),_,_,_,_,_] _;rw [e1];exact ih _ out (by omega) (by omega)
 exact k 0 [] (by simpa using hf.nd) (by simp)
end Go.Proofs.B
namespace Go.ah
def ao7{p:Prop}(h:p:=by have:=aod p;have:=hf.ok.tasks;omega):p:=h
end Go.ah
namespace Go.ah
def amY:=@List.take_succ_eq_append_getElem
end Go.ah
namespace Go.Proofs.B
open Go Go.ah
section
variable{p:PG}
def mM(p:PG):Int×List FN:=
 let s:=nL false ((dH p.tasks 0).body,0)
 bif s.bd then(370,[])else bif !(s.st.all λx=>jq false x.1)then(370,[])else bif !jq true s.e.1 then(370,[])else bif p.tasks.length==1 then(370,[])else tS p p.tasks 0 0 []
def Uf(p:PG):∀(l:List TK) (t first:Nat) (out:List FN),(tS p l t first out).1 ≠0->(tS p l t first out).2 =[]
 | [],_,_,_,h=>absurd rfl h
 |x::l,t,first,out,h=>by
  unfold tS at h⊢;cases h1:t==0 with
  |true=>rw [h1]at h;exact Uf p l _ _ _ h
  |false=>
   rw [h1]at h;cases h2:(one p t first).1 ==0 with
   |true=>rw [h2]at h;exact Uf p l _ _ _ h
   |false=>rfl
def asT(hf:yn p)(h0:0<p.tasks.length)(hM:Ev xA [aa (jB p)] (0,[c5])):Ev Nr [aa (jB p)] (0,[iI (mM p).1,sg ((mM p).2.map uz)]):=by
 have g0:=hf.room (GQ h0) (n:=0) (by simp);have gs:=amC (q:=false) g0;have hm:bw (dH p.tasks 0).body <=mx:=afF g0.rm;have gl:(nL false ((dH p.tasks 0).body,0)).st.length +bw (nL false ((dH p.tasks 0).body,0)).e.1 <=bw (dH p.tasks 0).body :=gs.len;refine bj akH ?_;rw [wa];refine ae hM (bm (az ?_ ?_))
 ·exact vN (f:=cA) (m:=0) h0
 rw [show gR (jB p) 2=p.tasks.map cA from rfl,C6 h0];erw [afm _ 0];refine ae (aoc (q:=false) g0.rm g0.sh) ?_;have ef:mM p=bif (nL false ((dH p.tasks 0).body,0)).bd then(370,[])else bif !((nL false ((dH p.tasks 0).body,0)).st.all λx=>jq false x.1)then(370,[])else bif !jq true (nL false ((dH p.tasks 0).body,0)).e.1 then(370,[])else bif p.tasks.length==1 then(370,[])else tS p p.tasks 0 0 []:=rfl;erw [OI];refine ax (c:=(nL false ((dH p.tasks 0).body,0)).bd) (λh=> ?_) λh=> ?_
 ·rw [h]at ef;rw [ef];exact aD
 rw [h]at ef;refine ae (aeb false (l:=(nL false ((dH p.tasks 0).body,0)).st) (by omega) λx hx=>⟨(gs.st x hx).rm.ok,(gs.st x hx).rm.md,(gs.st x hx).rm.rm⟩) ?_;refine ax (c:= !(nL false ((dH p.tasks 0).body,0)).st.all λx=>jq false x.1) (λh=> ?_) λh=> ?_
 ·rw [h]at ef;rw [ef];exact aD
 rw [h]at ef;erw [ad6];refine ae (anT (nL false ((dH p.tasks 0).body,0)).e.1 gs.e.rm.ok (nL false ((dH p.tasks 0).body,0)).e.2 true gs.e.rm.md gs.e.rm.rm) ?_;refine ax (c:= !jq true (nL false ((dH p.tasks 0).body,0)).e.1) (λh=> ?_) λh=> ?_
 ·rw [h]at ef;rw [ef];exact aD
 rw [h]at ef;refine ax (c:=ln (p.tasks.map cA)==1) (λh=> ?_) λh=> ?_
 ·have h1:(p.tasks.length==1)=true:=by rw [c9]at h;simp at h⊢;omega
  rw [h1]at ef;rw [ef];exact aD
 ·have h1:(p.tasks.length==1)=false:=by rw [c9]at h;simp at h⊢;omega
  rw [h1]at ef;have ef:mM p=tS p p.tasks 0 0 []:=ef;rw [ef];refine ae (aNT hf).diag ?_;have hb:=Uf p p.tasks 0 0 [];generalize tS p p.tasks 0 0 []=r at hb⊢;obtain⟨c,l⟩:=r;unfold foR;cases hc:c==0 with
  |true=>
   refine bm (ab ?_);have:c=0:=eq_of_beq hc;exact iV
  |false=>
   refine bh (ab ?_);have:l=[]:=hb (by intro h;have:c=0:=h;rw [this]at hc;cases hc);exact iV
def lO(f:FN):Row:=[iI f.rt,iI f.prio,iI f.period,iI f.dead,iI f.rQ,iI f.cost,cF (mF f).u]
def aNa(f:FN):aF S3 55 (tM f)=lO f:=by
 unfold tM lO;generalize mF f=s;exact uB
def adv(p:PG):∀(l:List TK) (t first:Nat) (out:List FN),(tS p l t first out).2.length <=l.length+out.length
 | [],_,_,out=>by simp [tS]
 |x::l,t,first,out=>by
  unfold tS;cases h1:t==0 with
  |true=>have:=adv p l (t+1) (first+bw x.body) out;simp only [bT,mh];omega
  |false=>
   cases h2:(one p t first).1 ==0 with
   |true=>have:=adv p l (t+1) (first+bw x.body) (out++[(one p t first).2]);simp only [bT,bM,mh,fI,tG]at this⊢;omega
   |false=>simp
def UM{c:Bool}{a:Int×List FN}{x:Int}{n:Nat}(h:a.2.length<=n):(bif c then(x,[])else a).2.length <=n:=by
 cases c
 ·exact h
 ·exact qR _
def aod(p:PG):(mM p).2.length <=p.tasks.length:=UM (UM (UM (UM (adv p p.tasks 0 0 []))))
def aom{l:List FN}(hl:l.length<=mx):bS Jl [iI (ln (l.map uz)),iI 0,sg (l.map uz),mg []] (0,[sg (l.map uz),mg (l.map lO)]):=by
 have k:=fP (m:=l.length) (P:=λi=>bS Jl [iI (ln (l.map uz)),iI (i:Int),sg (l.map uz),mg ((l.take i).map lO)] (0,[sg (l.map uz),mg (l.map lO)]))
  (by rw [adh];exact aY ajm (au dw aD)) λi hi ih=>by
    refine aY ajm (aV (cZ hi) (az (cw hi) (az (EF) ?_)));rw [gf hi,ix hi hl];show E (λN m=>ah.a8 _ (Jl (FU CX EE N) N m [_,_,_,mg (((l.take i).map lO)++[aF S3 55 (tM l[i])])])) _;rw [aNa];refine az (by simp only [mx]at hl;simp;omega) ?_;rw [show(l.take i).map lO++[lO l[i]]=(l.take (i+1)).map lO by rw [amY hi,sR];rfl];exact ih
 exact k
def aff(hf:yn p)(h0:0<p.tasks.length)(hM:Ev xA [aa (jB p)] (0,[c5])):Ev JC [aa (jB p)] (0,[iI (mM p).1,mg ((mM p).2.map lO)]):=by
 refine bj akq ?_;rw [wa];exact ae (asT hf h0 hM) (ae (aom (ao7)).diag aD)
end
end Go.Proofs.B
namespace Go.ah
def aer{p:Prop}(h:p:=by rw [fI];omega):p:=h
end Go.ah
namespace Go.ah
def On:=@List.getElem_range
def Uw:=@List.flatMap_nil
end Go.ah
namespace Go.Proofs.B
open Go Go.ah
section
variable{p:PG}
abbrev Lz(f:FN)(k:Nat):Row:=[iI (f.t:Int),iI (k:Int),aw (gR (gA (mF f).n k) 0)]
def tY(f:FN):aE:=[iI (f.t:Int),iI (-1),aw [[iI (f.dl.2:Int)]]]::(List.range (mF f).n.length).map (Lz f)
def au9(f:FN):gI (tM f) 4=f.t:=by
 unfold tM;generalize mF f=s;exact uB
def aOt(f:FN):gI (tM f) 52=f.dl.2:=by
 unfold tM;generalize mF f=s;exact uB
def aOs(f:FN):gR (tM f) 62=(mF f).n :=by
 unfold tM;generalize mF f=s;exact uB
def aX7(f:FN)(a:aE)(hh:a.length+(mF f).n.length <=md):bS Gf [.iO 102 (tM f) 0,cp (mF f).n,iI (ln (mF f).n),iI 0,lP a] (0,[lP (a++(List.range (mF f).n.length).map (Lz f))]):=by
 have k:=foldI (l:=List.range (mF f).n.length) (g:=λa k=>a++[Lz f k]) (I:=λq a=>a.length+((mF f).n.length - q)<=md)
  (LF:=λq a N m=>Gf (FU CX EE N) N m [.iO 102 (tM f) 0,cp (mF f).n,iI (ln (mF f).n),iI (q:Int),lP a])
  (done:=λa=>(0,[lP a])) (λa _=>aY ai2 (au (by rw [Ux];simp [ln]) aD))
  (λq hq a h=>by
    have hq:q<(mF f).n.length :=G5;simp only [fI,mh,tG];omega) (λq hq a r h hr=>by
    have hq:q<(mF f).n.length :=G5;refine aY ai2 (aV (by simpa [ln]using hq) (az (u9 hq) ?_));show E (λN m=>ah.a8 _ (Gf (FU CX EE N) N m [_,_,_,_,lP (a++[[iI (gI (tM f) 4),_,_]])])) _;rw [au9,ix hq (by simp only [md,mx]at hh⊢;omega)];refine az (by simp only [md]at h;simp;omega) ?_;simp only [On]at hr;exact hr) a (by omega)
 have e:∀(l:dy) (a:aE),l.foldl (λa k=>a++[Lz f k]) a=a++l.map (Lz f):=by
  intro l
  induction l with
  |nil=>intro a;simp
  |cons x l ih=>intro a;rw [vS,ih];simp
 rw [e]at k;exact k
def anW{l:List FN}(hl:l.length<=mx)(hb:(l.flatMap tY).length <=md):bS Jk [iI (ln (l.map uz)),iI 0,sg (l.map uz),lP []] (0,[sg (l.map uz),lP (l.flatMap tY)]):=by
 have k:=fP (m:=l.length) (P:=λi=>∀a:aE,a.length+((l.drop i).flatMap tY).length <=md->bS Jk [iI (ln (l.map uz)),iI (i:Int),sg (l.map uz),lP a] (0,[sg (l.map uz),lP (a++(l.drop i).flatMap tY)]))
  (λa _=>by
    rw [jE,Uw,yW];exact aY ajl (au dw aD)) λi hi ih a h=>by
    rw [jj hi,lz,fI]at h;have hp:(tY l[i]).length =(mF l[i]).n.length +1:=by simp [tY]
    refine aY ajl (aV (cZ hi) (az (cw hi) (az (EF) ?_)));rw [gf hi,ix hi hl];show E (λN m=>ah.a8 (decide ((a.length+(_:aE).length)*40<=140737488355328)) (bO (Gf (FU CX EE N) N N [.iO 102 (tM l[i]) 0,cp (gR (tM l[i]) 62),iI (ln (gR (tM l[i]) 62)),iI 0,lP (a++[[iI (gI (tM l[i]) 4),iI (-1),aw [[iI (gI (tM l[i]) 52)]]]])]) λ_ o2=>Jk (FU CX EE N) N m [_,_,_,lP (gR o2 0)])) _;rw [au9,aOt,aOs];have k1:=aX7 l[i] (a++[[iI (l[i].t :Int),iI (-1),aw [[iI (l[i].dl.2 :Int)]]]]) (by rw [fI];simp only [mh,tG];omega);refine az (by simp only [md]at h;simp;omega) (ae k1.diag ?_);have:=ih (a++tY l[i]) (aer);rw [jj hi,lz,<-pN];unfold tY at this⊢;rw [show a++[[iI (l[i].t :Int),iI (-1),aw [[iI (l[i].dl.2 :Int)]]]]++(List.range (mF l[i]).n.length).map (Lz l[i])=a++tY l[i]by rw [pN];rfl];exact iK
 have:=k [] (G6);exact uj
def aed(hf:yn p)(h0:0<p.tasks.length)(hM:Ev xA [aa (jB p)] (0,[c5]))(hb:((mM p).2.flatMap tY).length <=md):Ev JB [aa (jB p)] (0,[iI (mM p).1,lP ((mM p).2.flatMap tY)]):=by
 refine bj akp ?_;rw [wa];exact ae (asT hf h0 hM) (ae (anW (ao7) hb).diag aD)
def O3(hf:yn p)(h0:0<p.tasks.length)(hM:Ev xA [aa (jB p)] (0,[c5]))(e:Int)(he:mM p=(e,[])):Ev aci [aa (jB p),iI e] (0,[c5]):=by
 refine bj aIY ?_;rw [wa];have k1:=aff hf h0 hM;have k2:=aed hf h0 hM (by rw [he];exact qR _);rw [he]at k1 k2;refine ae k1 (ae k2 (bh (aV ?_ (ab ?_))))
 ·show(e==e)=true;simp
 ·show((0,[av (e==e)]):UO)=_;rw [show(e==e)=true by simp]
end
end Go.Proofs.B
namespace Go.ah
def aqN{p:Prop}(h:p:=by
 rw [k]at uR;have b:ln (s.L.map encS)=0:=uR;rw [c9]at b;exact Cr (by omega)):p:=h
end Go.ah
namespace Go.ah
def GM:=@Bool.cond_eq_ite
def acY:=@List.map_eq_nil_iff
end Go.ah
namespace Go.Proofs.B.C
open Go Go.ah
section
variable{b:Bool}{e:CE}{f:gp}{lf ev:Int}{Ls:List CS}{i:Nat}{ctx:Nat->WH}{c w:WH}{cn cQ:aE}
section
variable {p:PG} {ts:List TK} {ro:List RO}
def aJR(hf:f.Ok){L D H A:aE}(hD:D.length<=mx)(hH:H.length<=mx)(h:zx f L D H A=true):(f.kind≠9->D=[]/\H=[])/\(f.kind≠19->A=[]):=by
 unfold zx at h;simp only [bA]at h;have ht:=h.2.2;obtain⟨_,m2,m3,_,_⟩:=avo f.kind;unfold Qo at ht;rw [m2,m3,w2 hD hH,l0 (a:=A)]at ht;simp only [bA]at ht;refine⟨λk=> ?_,λk=> ?_⟩
 ·have:=ht.2.2.1;rw [show(f.kind==9)=false by simpa using k]at this;exact uj
 ·have:=ht.2.2.2;rw [show(f.kind==19)=false by simpa using k]at this;exact uj
structure WJ(p:PG)(c:WH):Prop where
 wi:WI p c
 l1:(c.marks.length:Int)+1<=c.deep
 l2:(c.oy.length:Int)+1<=c.deep
 l3:(c.rG.length:Int)+1<=c.deep
 l4:(c.kX.length:Int)+1<=c.deep
 l5:(c.loops.length:Int)+1<=c.deep
def xr(w:WH):WH:={w with deep:=aU (w.deep+1)}
def WI.aNW(h:WI p w)(hd:w.deep<64):WJ p (xr w):=by
 have h1:=h.l1;have h2:=h.l2;have h3:=h.l3;have h4:=h.l4;have h5:=h.l5;have e:(xr w).deep =w.deep+1:=by show aU (w.deep+1)=_;rw [mi (by omega) (by omega)]
 have m:(xr w).marks =w.marks:=rfl;have a:(xr w).oy =w.oy:=rfl;have b:(xr w).rG =w.rG:=rfl;have d:(xr w).kX =w.kX:=rfl;have l:(xr w).loops =w.loops:=rfl;refine⟨⟨⟨h.ei.XJ,h.ei.act,h.ei.task⟩,?_,?_,?_,?_,?_,?_⟩,?_,?_,?_,?_,?_⟩<;>(try rw [m])<;>(try rw [a])<;>(try rw [b])<;>(try rw [d])<;>(try rw [l])<;>rw [e]<;>omega
def cJ(c:WH)(f:gp):WH:=bif f.kind==7 then{c with marks:=c.marks++[f.N],oy:=c.oy++[f.N]}else bif f.kind==6 then{c with loops:=c.loops++[f.O]}else c
def cK(c:WH)(f:gp):WH:=bif f.kind==16 then rq c else cJ c f
def Xy(h7:f.kind≠7)(h6:f.kind≠6):cJ c f=c:=by
 have a:(f.kind==7)=false:=by simpa using h7
 have b:(f.kind==6)=false:=by simpa using h6
 unfold cJ;rw [a,b];rfl
def WI.rq{w:WH}(h:WI p w):WI p (rq w):=h.of rfl (.inl (ET)) rfl h.l1 h.l2 h.l3 h.l5 rfl
def WJ.cJ{c:WH}(h:WJ p c)(f:gp):WI p (cJ c f):=by
 unfold B.C.cJ;cases h7:f.kind==7 with
 |true=>
  refine h.wi.of rfl (.inr rfl) rfl ?_ ?_ h.wi.l3 h.wi.l5 rfl
  ·have:=h.l1;show((c.marks++[f.N]).length :Int)<=c.deep;simp;omega
  ·have:=h.l2;show((c.oy++[f.N]).length :Int)<=c.deep;simp;omega
 |false=>
  cases h6:f.kind==6 with
  |true=>
   refine h.wi.of rfl (.inr rfl) rfl h.wi.l1 h.wi.l2 h.wi.l3 ?_ rfl;have:=h.l5;show((c.loops++[f.O]).length :Int)<=c.deep;simp;omega
  |false=>exact h.wi
def WJ.acc(h:WJ p c){e:Int}(he:rU p c.task e=true):WI p (BN c e):=by
 have pq:(0:Int)<=c.deep:=by have:=h.l1;omega
 refine⟨⟨.inr he,h.wi.ei.act,h.wi.ei.task⟩,?_,h.wi.l2,?_,h.wi.l4,h.wi.l5,h.wi.d⟩
 ·simpa [BN,mZ]using pq
 ·simpa [BN,mZ]using h.l3
def WJ.act{c:WH}(h:WJ p c){q:Int}(hq:ib q p.bW.length=true):WI p (Dw c q):=by
 have pq:(0:Int)<=c.deep:=by have:=h.l1;omega
 refine⟨⟨.inl (ET),?_,h.wi.ei.task⟩,?_,h.wi.l2,h.wi.l3,?_,h.wi.l5,h.wi.d⟩
 ·intro a ha;rcases nA.1 (show a∈c.kX++[q]from ha)with ha|ha
  ·exact h.wi.ei.act a ha
  ·simp at ha;subst ha;exact hq
 ·simpa [Dw,mZ]using pq
 ·simpa [Dw,mZ]using h.l4
def wiD(h:WJ p c)(ha:f.kind=18->rU p c.task f.entry=true)(hp:f.kind=17∨f.kind=20->ib f.P p.bW.length=true)(i:Nat):WI p (qh (B.C.cJ c f) f (i:Nat)):=by
 have h1:WI p (D3 (B.C.cJ c f) f (i:Nat)):=by
  unfold D3;cases hb:aB f (i:Nat)with
  |true=>
   have hk:f.kind=17∨f.kind=20:=by
    unfold aB at hb;cases h0:((i:Nat):Int)==0 with
    |false=>rw [h0]at hb;cases hb
    |true=>
     rw [h0]at hb;cases ot:f.kind==20 with
     |true=>exact .inr (eq_of_beq ot)
     |false=>rw [ot]at hb;exact .inl (eq_of_beq hb)
   rw [Xy (by rcases hk with h|h<;>omega) (by rcases hk with h|h<;>omega)];exact h.act (hp hk)
  |false=>
   show WI p (Mi (B.C.cJ c f) f (i:Nat));unfold Mi;cases h0:((i:Nat):Int)==0 with
   |false=>exact h.cJ f
   |true=>
    cases km:f.kind==18 with
    |false=>exact h.cJ f
    |true=>
     have hk:=eq_of_beq km;rw [Xy (by omega) (by omega)];exact h.acc (ha hk)
 unfold qh;cases qB f (i:Nat)with
 |true=>exact h1.rq
 |false=>exact h1
def aPI(h7:f.kind≠17)(h8:f.kind≠18)(ot:f.kind≠20)(i:Int):qh (B.C.cJ c f) f i=cK c f:=by
 have a:(f.kind==17)=false:=by simpa using h7
 have b:(f.kind==18)=false:=by simpa using h8
 have d:(f.kind==20)=false:=by simpa using ot
 unfold qh qB D3 aB Mi cK;rw [a,b,d];cases qJ:f.kind==16 with
 |true=>
  have hk:=eq_of_beq qJ;rw [Xy (by omega) (by omega)];cases i==0<;>rfl
 |false=>cases i==0<;>rfl
def CR.inv(h:CR p ro ctx Ls i lf cn b ev cQ)(hi:i<Ls.length):
 (b=false/\Ev nS [aa (aZ 0 (ctx i)),aa (encS Ls[i]),K0 p lf,ay (aP ro),.aj 0 cn] (0,aT::iQ p ro ev cQ))∨
 ∃l1 c1,bz (aJ c1)=c1/\Ev nS [aa (aZ 0 (ctx i)),aa (encS Ls[i]),K0 p lf,ay (aP ro),.aj 0 cn] (0,c5::iQ p ro l1 c1)/\CR p ro ctx Ls (i+1) l1 c1 b ev cQ:=by
 cases h with
 |done _ h=>omega
 |no _ h _ _ pk _ _ po e=>exact .inl ⟨rfl,e⟩
 |yes _ h _ _ pk l1 c1 lC e _ _ _ t=>exact .inr ⟨l1,c1,lC,e,t⟩
def CR.stop(h:CR p ro ctx Ls i lf cn b ev cQ)(hi:i=Ls.length):b=true/\ev=lf/\cQ=cn:=by
 cases h with
 |done _ h=>exact⟨rfl,rfl,rfl⟩
 |no _ h=>omega
 |yes _ h=>omega
structure Fact(p:PG)(s:CS):Prop where
 sh:AW p.bq.length p.bW.length s
 kd:s.f.kind≠9->s.D=[]/\s.H=[]
 ka:s.f.kind≠19->s.A=[]
 k1:s.f.kind=1->s.L=[]
 AB:s.f.kind=15->s.L=[]
 k22:s.f.kind<=22
def ar9(h:oL e=true)(k:e.kind=9):e.L.length=1:=by
 have:=af8 h k;have h2:(gg (.mk 9 e.op e.N e.O e.off e.len e.lo e.hi e.L)).2 =1:=rfl;omega
def ar5(h:oL e=true)(k:e.kind=5):e.L.length=2:=by
 have:=af8 h k;have h2:(gg (.mk 5 e.op e.N e.O e.off e.len e.lo e.hi e.L)).2 =2:=rfl;omega
def aNu{s:CS}(aX:s.Ok)(hs:zx s.f (s.L.map encS) (s.D.map eu) (s.H.map dj) (s.A.map fa)=true)(hr:Ml p w s.f):Fact p s:=by
 obtain⟨_,hf,hL,hD,hH,hA,h1,h2,tP⟩:=aX;have lD:(s.D.map eu).length <=mx:=by rw [dW];exact hD
 have lH:(s.H.map dj).length <=mx:=by rw [dW];exact hH
 obtain⟨jg,ki,uR⟩:=UA s.f (s.L.map encS) (s.D.map eu) (s.H.map dj) (s.A.map fa) hs;obtain⟨n9,XQ⟩:=aJR hf lD lH hs;refine⟨⟨λk=> ?_,λk=> ?_,λk=> ?_,λk=> ?_,λk=>mR.1 (hr.kP (.inr k))⟩,λk=> ?_,λk=>acY.1 (XQ k),λk=> ?_,λk=> ?_,?_⟩
 ·rw [k]at uR;have:ln (s.L.map encS)=1:=uR;rw [c9]at this;omega
 ·rw [k]at jg uR;have a:ln (s.f.E.map aH)=1:=jg;have b:ln (s.L.map encS)=1:=uR;rw [c9]at a b;exact⟨by omega,by omega⟩
 ·rw [k]at jg ki;obtain⟨e,he⟩:=yc (show ln (s.f.E.map aH)=1 from jg);obtain⟨q,hq⟩:=yc (show ln (s.f.To.map dc)=1 from ki);have i:=hr.k2 k e he;refine⟨by rw [hq];rfl,Bc,λe' tt=> ?_⟩;rw [he]at tt;rw [sP.1 tt];cases i with
  |mk _ _ hk hf=>
   refine⟨ar9 hf,ar5 hf,λy hy=> ?_⟩;cases hk y hy with
   |mk _ _ _ hf=>exact ar5 hf
 ·rw [k]at jg;obtain⟨e,he⟩:=yc (show ln (s.f.E.map aH)=1 from jg);have i:=hr.AB k e he;refine⟨Bc,λe' tt k2=> ?_⟩;rw [he]at tt;rw [sP.1 tt]at k2⊢;cases i with
  |mk _ h _ _=>
   have:=h (by rw [k2];rfl);exact mR.1 this
 ·obtain⟨a,b⟩:=n9 k;exact⟨acY.1 a,acY.1 b⟩
 ·exact aqN
 ·exact aqN
 ·unfold zx at hs;have hk:=(bA _ _▸hs).1;simp only [BU,GM,Bool.if_true_left,GS,iT,iA,TU]at hk;omega
end
inductive mr(p:PG):CS->Prop
 |mk(s:CS)(h:Fact p s)(hk:∀y∈s.kids,mr p y):mr p s
end
end Go.Proofs.B.C
namespace Go.ah
def yZ{p:Prop}(h:p:=by rw [hk];rfl):p:=h
def Vx{p:Prop}(h:p:=by unfold qh qB D3 aB Mi;rw [hk];rfl):p:=h
def Vw{p:Prop}(h:p:=by
 refine ae e (ab ?_);erw [po];rfl):p:=h
def aqw{p:Prop}(h:p:=by
 rw [x0,ul 0 g0]at e;refine C1 _ (ae e (bm (ab ?_)));erw [po];rfl):p:=h
def aoT{p:Prop}(h:p:=by
 refine C1 _ (ae e (ab ?_));erw [po];rfl):p:=h
end Go.ah
namespace Go.Proofs.B.C
open Go Go.ah
section
variable{f:gp}{lf:Int}{Ls:List CS}{c:WH}{A D H L cn:aE}
section
variable {p:PG} {ts:List TK} {ro:List RO}
def asB{k l:Int}(h:l=FV k l):(k=9->l=1)/\(k=19->l=1)/\(k=18->l=2)/\(k=20->l=1)/\(k=17->l=3):=by
 refine⟨?_,?_,?_,?_,?_⟩<;>(rintro rfl;exact h)
def aQp(ct:CT p ts ro)(hE:pD){w:WH}(hw:WI p w)(hf:f.Ok)(hD:D.length<=mx)(hH:H.length<=mx){l1:Int}(ki:(l1<0 ↔ lf<1))(hc:bz (aJ cn)=cn):∃b,
 bY MO [K0 p l1,ay (aP ro),.aj 0 cn,aa (aZ 0 w),SF f (Ls.map encS) D H A] (bif b then(0,[K0 p l1,ay (aP ro),.aj 0 cn,aa (aZ 0 w),SF f (Ls.map encS) D H A])else(1,[aT,K0 p l1,ay (aP ro),.aj 0 cn,aa (aZ 0 w),SF f (Ls.map encS) D H A]))/\
 (b=true->1<=lf/\w.deep<64/\zx f (Ls.map encS) D H A=true/\Ml p w f/\(NK f.kind->NE p->bY ab8 [iI lf,dY p ts ro w,SF f (Ls.map encS) D H A] (0,[dY p ts ro w,SF f (Ls.map encS) D H A]))):=by
 have C:∀r:UO,_->bY MO [K0 p l1,ay (aP ro),.aj 0 cn,aa (aZ 0 w),SF f (Ls.map encS) D H A] r:=λr h=>by
  refine bX aAW ?_;rw [hc];exact h
 cases h0:decide (lf<1)with
 |true=>
  have Md:decide (l1<0)=true:=by simp at h0⊢;exact ki.2 h0
  exact⟨false,C _ (aV (c:=decide (l1<0)) Md aD),λh=>aM⟩
 |false=>
  have Md:decide (l1<0)=false:=by simp at h0⊢;omega
  cases hd:decide (64<=w.deep)with
  |true=>exact⟨false,C _ (au (c:=decide (l1<0)) Md (aV hd aD)),λh=>aM⟩
  |false=>
   have s1:Ev Ti [SF f (Ls.map encS) D H A] (0,[av (zx f (Ls.map encS) D H A)]):=shC f (Ls.map encS) D H A;cases hs:zx f (Ls.map encS) D H A with
   |false=>
    rw [hs]at s1;exact⟨false,C _ (au (c:=decide (l1<0)) Md (au hd (ae s1 (bh aD)))),λh=>aM⟩
   |true=>
    rw [hs]at s1;have t1:=stC (p:=p) (ro:=ro) (w:=w) (f:=f) (L:=Ls.map encS) (D:=D) (H:=H) (A:=A) (lf:=l1) hc;cases ht:BQ w f with
    |false=>
     rw [ht]at t1;refine⟨false,C _ (au (c:=decide (l1<0)) Md (au hd (ae s1 (bm (ae t1 (bh (ab ?_))))))),λh=>aM⟩;exact qn
    |true=>
     rw [ht]at t1;obtain⟨b,r1,q⟩:=aNd ct hw.ok hw.ei hc (lf:=l1) hE hf hs;have C2:∀r:UO,_->bY MO [K0 p l1,ay (aP ro),.aj 0 cn,aa (aZ 0 w),SF f (Ls.map encS) D H A] r:=λr h=>by
      refine C r (au (c:=decide (l1<0)) Md (au hd (ae s1 (bm (ae t1 (bm ?_))))));erw [hc];refine ae r1 ?_;exact h
     cases b with
     |false=>refine⟨false,C2 _ (bh (ab ?_)),λh=>aM⟩;erw [hc];rfl
     |true=>
      obtain⟨q1,q2⟩:=q rfl;refine⟨true,C2 _ (bm (ab ?_)),λ_=>⟨by simp at h0;omega,by simp at hd;omega,rfl,q1,λnk ne=>bX aH4 (au h0 (au hd (ae (aNz f (Ls.map encS) D H A hf hD hH hs) (bm (ae (stR f (Ls.map encS) D H A nk ht) (bm (ae (q2 nk ne) (bm aD))))))))⟩⟩;exact qn
def LL{l:cj}(h:l.length<=1000):(decide ((0+(ints l).length)*8<=140737488355328)=true)/\∀x:AV,decide (((([]:aE)++ints l).length +([[x]]:aE).length)*8<=140737488355328)=true:=by
 refine⟨EH,λx=>by rw [rF,dW];simp;omega⟩
def aYH(hw:c.Ok){n:Int}(h9:f.kind≠9)(wE:f.kind≠19):
 bY abM [iI n,dY p ts ro c,SF f L D H A] (0,[dY p ts ro (cJ c f),SF f L D H A]):=by
 have a9:(f.kind==9)=false:=by simpa using h9
 have a19:(f.kind==19)=false:=by simpa using wE
 refine bX akZ (au a9 (au a19 (ax (c:=f.kind==7) (λh=> ?_) λh=>ax (c:=f.kind==6) (λg=> ?_) λg=>ab ?_)))
 ·refine az (LL hw.marks).1 (az ((LL hw.marks).2 _) (az (LL hw.oy).1 (az ((LL hw.oy).2 _) (ab ?_))));unfold cJ;rw [h];have e:dY p ts ro {c with marks:=c.marks++[f.N],oy:=c.oy++[f.N]}= aa (sT (agT p ts ro c) [(6,aw (([]++ints c.marks)++[[iI f.N]])),(7,aw (([]++ints c.oy)++[[iI f.N]]))]):=by
   dsimp only [dY];rw [JZ,JZ];rfl
  show _=(0,[dY p ts ro {c with marks:=c.marks++[f.N],oy:=c.oy++[f.N]},SF f L D H A]);rw [e];rfl
 ·refine az (LL hw.loops).1 (az ((LL hw.loops).2 _) (ab ?_));unfold cJ;rw [h,g];have e:dY p ts ro {c with loops:=c.loops++[f.O]}= aa (sT (agT p ts ro c) [(10,aw (([]++ints c.loops)++[[iI f.O]]))]):=by
   dsimp only [dY];rw [JZ];rfl
  show _=(0,[dY p ts ro {c with loops:=c.loops++[f.O]},SF f L D H A]);rw [e];rfl
 ·unfold cJ;rw [h,g];rfl
def aSj(hw:c.Ok)(hc:bz (aJ cn)=cn)(h9:f.kind≠9)(wE:f.kind≠19)(se:f.kind≠17)(km:f.kind≠18)(ot:f.kind≠20):
 bY AY [K0 p lf,ay (aP ro),.aj 0 cn,aa (aZ 0 c),SF f L D H A] (0,[K0 p lf,ay (aP ro),.aj 0 cn,aa (aZ 0 (cK c f)),SF f L D H A]):=by
 have a9:(f.kind==9)=false:=by simpa using h9
 have a19:(f.kind==19)=false:=by simpa using wE
 have a17:(f.kind==17)=false:=by simpa using se
 have a18:(f.kind==18)=false:=by simpa using km
 have a20:(f.kind==20)=false:=by simpa using ot
 refine bX RX ?_;rw [hc];refine au a9 (au a19 (au a18 (au a20 (au a17 (ax (c:=f.kind==16) (λh=>ab ?_) λh=>ax (c:=f.kind==7) (λg=>ae (O8 (l:=c.marks) f.N hw.marks) (ae (O8 (l:=c.oy) f.N hw.oy) (ab ?_))) λg=>ax (c:=f.kind==6) (λi=>ae (O8 (l:=c.loops) f.O hw.loops) (ab ?_)) λi=>ab ?_)))))
 ·unfold cK;rw [h];rfl
 ·unfold cK cJ;rw [h,g];rfl
 ·unfold cK cJ;rw [h,g,i];rfl
 ·unfold cK cJ;rw [h,g,i];rfl
def aSi(hw:c.Ok)(hk:f.kind=17∨f.kind=18∨f.kind=20)(uR:ln (Ls.map encS)=FV f.kind (ln (Ls.map encS))){b:Bool}{ev:Int}{cQ:aE}(h:CR p ro (λi=>qh c f (i:Nat)) Ls 0 lf cn b ev cQ):
 bY AY [K0 p lf,ay (aP ro),.aj 0 cn,aa (aZ 0 c),SF f (Ls.map encS) D H A] (1,[av b,K0 p ev,ay (aP ro),.aj 0 cQ,aa (aZ 0 c),SF f (Ls.map encS) D H A]):=by
 obtain⟨hc,po⟩:=h.pk;obtain⟨_,_,QD,Iu,k17⟩:=asB uR;have C:∀r:UO,_->bY AY [K0 p lf,ay (aP ro),.aj 0 cn,aa (aZ 0 c),SF f (Ls.map encS) D H A] r:=λr h=>by
  refine bX RX ?_;rw [hc];exact h
 have ul:∀(i:Nat) (hi:i<Ls.length),encS Ls[i]=aF fC 0 (gA (Ls.map encS) i):=λi hi=>by rw [wR hi,kZ]
 rcases hk with hk|hk|hk
 ·have hL:=k17 hk;rw [c9]at hL;have g0:0<Ls.length:=by omega
  have g1:1<Ls.length:=by omega
  have g2:2<Ls.length:=by omega
  have dl:∀n:Int,n<3->decide (n<ln (Ls.map encS))=true:=λn hn=>CW;have x0:qh c f ((0:Nat):Int)=Dw c f.P:=by unfold qh qB D3 aB;rw [hk];rfl
  have x1:qh c f ((1:Nat):Int)=rq c:=Vx;have x2:qh c f ((2:Nat):Int)=rq c:=Vx;have C1:∀r:UO,_->bY AY [K0 p lf,ay (aP ro),.aj 0 cn,aa (aZ 0 c),SF f (Ls.map encS) D H A] r:=λr h=>by
   refine C r (au (c:=f.kind==9) (yZ) (au (c:=f.kind==19) (yZ) (au (c:=f.kind==18) (yZ) (au (c:=f.kind==20) (yZ) (aV (c:=f.kind==17) (yZ) (ae (awo (lf:=lf) hw hc f.P) (az (dl 0 (by decide)) ?_)))))));exact Kr
  rcases h.inv g0 with⟨rfl,e⟩|⟨l1,c1,lC,e,t⟩
  ·exact aqw
  ·rw [x0,ul 0 g0]at e;refine C1 _ (ae e (bh (az (dl 1 (by decide)) ?_)));erw [lC];rcases t.inv g1 with⟨rfl,e⟩|⟨l2,c2,mI,e,t⟩
   ·rw [x1,ul 1 g1]at e;refine ae e (bm (ab ?_));erw [po];rfl
   ·rw [x1,ul 1 g1]at e;refine ae e (bh (az (dl 2 (by decide)) ?_));erw [mI];rcases t.inv g2 with⟨rfl,e⟩|⟨l3,c3,FO,e,t⟩
    ·rw [x2,ul 2 g2]at e;exact Vw
    ·rw [x2,ul 2 g2]at e;obtain⟨rfl,rfl,rfl⟩:=t.stop (by omega);exact Vw
 ·have hL:=QD hk;rw [c9]at hL;have g0:0<Ls.length:=by omega
  have g1:1<Ls.length:=by omega
  have dl:∀n:Int,n<2->decide (n<ln (Ls.map encS))=true:=λn hn=>CW;have x0:qh c f ((0:Nat):Int)=BN c f.entry:=Vx;have x1:qh c f ((1:Nat):Int)=rq c:=Vx;have C1:∀r:UO,_->bY AY [K0 p lf,ay (aP ro),.aj 0 cn,aa (aZ 0 c),SF f (Ls.map encS) D H A] r:=λr h=>by
   refine C r (au (c:=f.kind==9) (yZ) (au (c:=f.kind==19) (yZ) (aV (c:=f.kind==18) (yZ) (ae (awp (lf:=lf) hw hc f.entry) (az (dl 0 (by decide)) ?_)))));exact Kr
  rcases h.inv g0 with⟨rfl,e⟩|⟨l1,c1,lC,e,t⟩
  ·exact aqw
  ·rw [x0,ul 0 g0]at e;refine C1 _ (ae e (bh (az (dl 1 (by decide)) ?_)));erw [lC];rcases t.inv g1 with⟨rfl,e⟩|⟨l2,c2,mI,e,t⟩
   ·rw [x1,ul 1 g1]at e;exact Vw
   ·rw [x1,ul 1 g1]at e;obtain⟨rfl,rfl,rfl⟩:=t.stop (by omega);exact Vw
 ·have hL:=Iu hk;rw [c9]at hL;have g0:0<Ls.length:=by omega
  have dl:∀n:Int,n<1->decide (n<ln (Ls.map encS))=true:=λn hn=>CW;have x0:qh c f ((0:Nat):Int)=Dw c f.P:=by unfold qh qB D3 aB;rw [hk];rfl
  have C1:∀r:UO,_->bY AY [K0 p lf,ay (aP ro),.aj 0 cn,aa (aZ 0 c),SF f (Ls.map encS) D H A] r:=λr h=>by
   refine C r (au (c:=f.kind==9) (yZ) (au (c:=f.kind==19) (yZ) (au (c:=f.kind==18) (yZ) (aV (c:=f.kind==20) (yZ) (ae (awo (lf:=lf) hw hc f.P) (az (dl 0 (by decide)) ?_))))));exact Kr
  rcases h.inv g0 with⟨rfl,e⟩|⟨l1,c1,lC,e,t⟩
  ·rw [x0,ul 0 g0]at e;exact aoT
  ·rw [x0,ul 0 g0]at e;obtain⟨rfl,rfl,rfl⟩:=t.stop (by omega);exact aoT
end
end
end Go.Proofs.B.C
namespace Go.ah
def aeR{p:Prop}(h:p:=by
 refine ae j (bm (ab ?_));erw [po];rfl):p:=h
def aes{p:Prop}(h:p:=by cases ka;assumption):p:=h
end Go.ah
namespace Go.Proofs.B.C
open Go Go.ah
section
variable {p:PG} {ts:List TK} {ro:List RO}
def stE(ct:CT p ts ro)(hE:pD):∀s:CS,s.Ok->sB p ts ro (mr p) s:=by
 refine CS.ind λs ih aX=> ?_;have aYY:=aX;obtain⟨_,hf,hL,hD,hH,hA,h1,h2,tP⟩:=aX;have kL:∀y∈s.L,sB p ts ro (mr p) y:=λy hy=>ih y (Fj hy) (tP y (Fj hy));have kD:∀d∈s.D,sB p ts ro (mr p) d.d/\sB p ts ro (mr p) d.u:=λd hd=>⟨ih _ (zn hd).1 (tP _ (zn hd).1),ih _ (zn hd).2 (tP _ (zn hd).2)⟩;have kH:∀x∈s.H,sB p ts ro (mr p) x.body:=λx hx=>ih _ (Lj hx) (tP _ (Lj hx));have kA:∀x∈s.A,sB p ts ro (mr p) x.body/\sB p ts ro (mr p) x.after:=λx hx=>⟨ih _ (Bz hx).1 (tP _ (Bz hx).1),ih _ (Bz hx).2 (tP _ (Bz hx).2)⟩;intro w hw lf cn cc st;have QH:aU (lf- 1)=lf- 1:=by have:=st.lo;have:=st.hi;rw [mi (by omega) (by omega)]
 have ki:(aU (lf- 1)<0 ↔ lf<1):=by rw [QH];omega
 have lD:(s.D.map eu).length <=mx:=by rw [dW];exact hD
 have lH:(s.H.map dj).length <=mx:=by rw [dW];exact hH
 obtain⟨b,e1,q1⟩:=aQp ct hE hw hf (Ls:=s.L) (D:=s.D.map eu) (H:=s.H.map dj) (A:=s.A.map fa) lD lH (lf:=lf) ki st.pk;have es:=OG s;have C:∀r:UO,_->Ev nS [aa (aZ 0 w),aa (encS s),K0 p lf,ay (aP ro),.aj 0 cn] r:=λr h=>by
  rw [es];refine bj aDq ?_;rw [st.pk];exact aen
 cases b with
 |false=>
  refine⟨false,aU (lf- 1),cn,st.pk,C _ (bm (ab ?_)),λh=>aM⟩;erw [st.pk];rfl
 |true=>
  obtain⟨q2,q3,q4,q5,r1⟩:=q1 rfl;have Me:Fact p s:=aNu aYY q4 q5;have hlen:=UA s.f (s.L.map encS) (s.D.map eu) (s.H.map dj) (s.A.map fa) q4;obtain⟨l9,XU,_⟩:=asB hlen.2.2;have hj:=hw.aNW q3;have QG:=hj.wi;have st1:ST p (aU (lf- 1)) cn cc:=⟨st.pk,st.rep,λt=>by have:=st.le t;omega,by omega,by have:=st.hi;omega,st.mX⟩;have avm:∀t,oH s t=(if s.f.kind=9 then s.f.Ts.count t else 0)+(y8 s.D t+(ml s.L t+(y7 s.H t+ER s.A t))):=anY s;have R:gY s->NE p->∀r:UO,_->Ev A3 [dY p ts ro w,aa (encS s),iI lf] r:=λka ne r h=>by
   have nk:NK s.f.kind:=aes;rw [es];refine bj aJw (ae (r1 nk ne) ?_);exact h
  have kk:gY s->∀y∈s.kids,gY y:=λka=>aes
  by_cases k9:s.f.kind=9
  ·obtain⟨s0,h0⟩:=yc (l9 k9);have Mb:=Me.ka (by omega);have hL0:s.L.map encS=[encS s0]:=by rw [h0];rfl
   rw [hL0]at C R;obtain⟨b,l',c',po,a1,a3⟩:=aZV ct QG hf (A:=s.A.map fa) hD hH (by have:=hj.l1;omega) (λx hx=>(h1 x hx).gv) (kL s0 (UZ)) kD kH st1 (λt=>by have:=st.le t;omega);refine⟨b,l',c',po,C _ (bh ?_),λh=> ?_⟩
   ·erw [st.pk];have j:bY AY [K0 p (aU (lf- 1)),ay (aP ro),.aj 0 cn,aa (aZ 0 (xr w)),SF s.f [encS s0] (s.D.map eu) (s.H.map dj) (s.A.map fa)] (1,[av b,K0 p l',ay (aP ro),.aj 0 c',aa (aZ 0 (xr w)),SF s.f [encS s0] (s.D.map eu) (s.H.map dj) (s.A.map fa)]):=by
     refine bX RX ?_;rw [st.pk];refine aV (c:=s.f.kind==9) (by rw [k9];rfl) (ae a1 (ab ?_));erw [po];rfl
    exact aeR
   ·obtain⟨⟨d,sd,qd⟩,f0,fD,fH,kR⟩:=a3 h;have m0:gY s->gY s0:=λka=>kk ka _ (Fj (UZ));have mD:gY s->∀d∈s.D,gY d.d/\gY d.u:=λka d hd=>⟨kk ka _ (zn hd).1,kk ka _ (zn hd).2⟩;have mH:gY s->∀x∈s.H,gY x.body:=λka x hx=>kk ka _ (Lj hx);refine⟨⟨d,sd,λka t=> ?_⟩,.mk s Me λy hy=> ?_,λka ne=>R ka ne _ (bh (ae (bX akZ (aV (c:=s.f.kind==9) (by rw [k9];rfl) (ae (kR (m0 ka) (mD ka) (mH ka) ne) aD))) (bm aD)))⟩
    ·rw [qd (m0 ka) (mD ka) (mH ka),avm,if_pos k9,h0,Mb];simp only [ml,ER];omega
    simp only [CS.kids,nA,ov,wL,iz,GO,GN,h0,Mb]at hy;rcases hy with⟨d,hd,rfl|rfl⟩|rfl|⟨x,hx,rfl⟩|⟨a,ha,_⟩
    ·exact(fD d hd).1
    ·exact(fD d hd).2
    ·exact f0
    ·exact fH x hx
    ·cases ha
  ·obtain⟨hD0,hH0⟩:=Me.kd k9
   by_cases LP:s.f.kind=19
   ·obtain⟨s0,h0⟩:=yc (XU LP);have hL0:s.L.map encS=[encS s0]:=by rw [h0];rfl
    rw [hL0]at C R;obtain⟨b,l',c',po,a1,a3⟩:=chE ct hE QG hj.l3 (f:=s.f) (D:=s.D.map eu) (H:=s.H.map dj) hA h2 (kL s0 (UZ)) kA st1;have XQ:gY s->False:=λka=>by cases ka with|mk _ nk _=>unfold NK at nk;omega
    refine⟨b,l',c',po,C _ (bh ?_),λh=>⟨⟨_,(a3 h).1.choose_spec,λka=>(XQ ka).elim⟩,.mk s Me λy hy=> ?_,λka=>(XQ ka).elim⟩⟩
    ·erw [st.pk];have j:bY AY [K0 p (aU (lf- 1)),ay (aP ro),.aj 0 cn,aa (aZ 0 (xr w)),SF s.f [encS s0] (s.D.map eu) (s.H.map dj) (s.A.map fa)] (1,[av b,K0 p l',ay (aP ro),.aj 0 c',aa (aZ 0 (xr w)),SF s.f [encS s0] (s.D.map eu) (s.H.map dj) (s.A.map fa)]):=by
      refine bX RX ?_;rw [st.pk];refine au (c:=s.f.kind==9) (by rw [LP];rfl) (aV (c:=s.f.kind==19) (by rw [LP];rfl) (ae a1 (ab ?_)));erw [po];rfl
     exact aeR
    ·obtain⟨_,f0,fA⟩:=a3 h;simp only [CS.kids,nA,ov,wL,iz,GO,GN,h0,hD0,hH0]at hy;rcases hy with⟨d,hd,_⟩|rfl|⟨x,hx,_⟩|⟨a,ha,rfl|rfl⟩
     ·cases hd
     ·exact f0
     ·cases hx
     ·exact(fA a ha).1
     ·exact(fA a ha).2
   ·have Mb:=Me.ka LP;have hx:∀i,i<s.L.length->WI p (qh (cJ (xr w) s.f) s.f (i:Nat)):=λi _=>wiD hj q5.QD q5.kP i;obtain⟨b,l',c',po,cr,a3⟩:=aOA (c:=cJ (xr w) s.f) (hj.cJ s.f).ok (f:=s.f) (D:=s.D.map eu) (H:=s.H.map dj) (A:=s.A.map fa) hL kL hx (aU (lf- 1)) cn cc st1;have jr:=aYH (p:=p) (ts:=ts) (ro:=ro) QG.ok (f:=s.f) (L:=s.L.map encS) (D:=s.D.map eu) (H:=s.H.map dj) (A:=s.A.map fa) (n:=aU (lf- 1)) k9 LP;refine⟨b,l',c',po,C _ (bh ?_),λh=> ?_⟩
    ·erw [st.pk]
     by_cases hk:s.f.kind=17∨s.f.kind=18∨s.f.kind=20
     ·rw [Xy (by omega) (by omega)]at cr;have j:=aSi (p:=p) (ro:=ro) QG.ok (D:=s.D.map eu) (H:=s.H.map dj) (A:=s.A.map fa) hk hlen.2.2 cr;exact aeR
     ·have j:=aSj (p:=p) (ro:=ro) QG.ok (f:=s.f) (L:=s.L.map encS) (D:=s.D.map eu) (H:=s.H.map dj) (A:=s.A.map fa) (lf:=aU (lf- 1)) st.pk k9 LP (by omega) (by omega) (by omega);refine ae j (bh ?_);erw [st.pk];refine ae (aPL (w:=cK (xr w) s.f) (λi=>aPI (by omega) (by omega) (by omega) _) hL cr) (ab ?_);erw [po];cases b<;>rfl
    ·obtain⟨⟨d,sd,qd⟩,fL,kR⟩:=a3 h;have mL:gY s->∀y∈s.L,gY y:=λka y hy=>kk ka _ (Fj hy);refine⟨⟨d,sd,λka t=> ?_⟩,.mk s Me λy hy=> ?_,λka ne=>R ka ne _ (bh (ae jr (bh (ae (kR (aes) (mL ka) ne).diag aD))))⟩
     ·rw [qd (mL ka),avm,if_neg k9,hD0,hH0,Mb];simp only [y8,y7,ER];omega
     simp only [CS.kids,nA,ov,wL,iz,GO,GN,Mb,hD0,hH0]at hy;rcases hy with⟨d,hd,_⟩|hy|⟨x,hx,_⟩|⟨a,ha,_⟩
     ·cases hd
     ·exact fL y hy
     ·cases hx
     ·cases ha
end
end Go.Proofs.B.C
namespace Go.ah
def aeA{p:Prop}(h:p:=by rw [dW];exact hx):p:=h
def U1{p:Prop}(h:p:=by exact mR.2 (by omega)):p:=h
end Go.ah
namespace Go.ah
def Od:=@Bool.if_false_left
def J2:=@List.pairwise_iff_getElem
end Go.ah
namespace Go.Proofs.B.C
open Go Go.ah
section
variable{lo x:Int}{o:OB}
theorem aLR{l:cj}{hi:Int}(h:pg l lo hi=true){i:Nat}(eJ:i<l.length):yf l lo hi i=false:=by
 unfold pg at h;exact aqq
theorem aJd{l:cj}{up:Int}(h:pg l lo up=true):l.Nodup:=by
 have hd:∀{i:Nat} (hi:i<l.length),l.getD i 0=l[i]:=λhi=>Ah;have step:∀(i:Nat) (hi:i+1<l.length),l[i]<l[i+1]:=λi hi=>by
  have hp:=aLR h hi;unfold yf at hp;rw [hd hi]at hp;cases ha:decide (l[i+1]<lo)with
  |true=>rw [ha]at hp;cases hp
  |false=>
   cases hb:decide (up<l[i+1])with
   |true=>rw [ha,hb]at hp;cases hp
   |false=>
    rw [ha,hb,show decide (0<i+1)=true by simp]at hp;rw [show i+1- 1=i from rfl,hd (by omega)]at hp;simpa using hp
 have lt:∀(j i:Nat) (hj:j<l.length) (sI:i<j),l[i]'(by omega)<l[j]:=by
  intro j
  induction j with
  |zero=>intro i _ h;omega
  |succ j ih=>
   intro i hj sI;have s:=step j hj
   by_cases e:i=j
   ·subst e;exact s
   ·have:=ih i (by omega) (by omega);omega
 refine J2.2 λi j hi hj sI e=> ?_;have:=lt j i hj sI;omega
def Ij(o:OB):Bool:=bif decide (o.size<1)then false else !decide (16384<o.size)
def Az(o:OB):Bool:=bif decide (0<ln (ints o.set))then false else bif decide (o.lo< -2147483648)then false else bif decide (2147483647<o.hi)then false else !decide (o.hi<o.lo)
def xi(l:List OB)(o:OB):Bool:=bif o.size != 1 then false else bif o.lo != 0 then false else bif o.hi != 0 then false else pg o.set 0 (aU (ln (cg l)- 1))
def zD(l:List OB)(x:Int):Bool:=bif (cW l x).ptr then true else(cW l x).size != 1
def vE(l:List OB)(o:OB):Bool:=Ij o&&bif !o.ptr then Az o else xi l o&& !o.set.any (zD l)
def Da:Int->List OB->Int
 |s,[]=>s
 |s,o::os=>Da (aU (s+o.size)) os
def yi(l:List OB):Bool:=bif decide (ln (cg l)<1)then false else bif decide (2048<ln (cg l))then false else bif l.all (vE l)then decide (Da 0 l<=16384)else false
section
variable {l:List OB} (hl:l.length<=mx) (ho:∀o∈l,o.Ok)
theorem afu(hl:l.length<=mx)(h:xi l o=true):∀x∈o.set,ib x l.length=true:=by
 intro x hx;unfold xi at h;cases h1:o.size != 1 with
 |true=>exact G1
 |false=>
  cases h2:o.lo != 0 with
  |true=>rw [h1,h2]at h;cases h
  |false=>
   cases h3:o.hi != 0 with
   |true=>rw [h1,h2,h3]at h;cases h
   |false=>
    rw [h1,h2,h3]at h;have:=adn (show pg o.set 0 (aU (ln (cg l)- 1))=true from h) x hx;simp only [mx]at hl;rw [c9,mi (by omega) (by omega)]at this;exact U1
theorem dI(o:OB):bY Z3 [aa (iX o)] (bif Ij o then(0,[aa (iX o)])else(1,[aT,aa (iX o)])):=by
 refine bX aA3 (ax (c:=decide (o.size<1)) (λh=>ab ?_) λh=>ax (c:=decide (16384<o.size)) (λg=>ab ?_) λg=>ab ?_)
 ·unfold Ij;rw [h];rfl
 ·unfold Ij;rw [h,g];rfl
 ·unfold Ij;rw [h,g];rfl
theorem aYu(hk:o.Ok):bY ZQ [aa [dg (cg l)],aa (iX o)] (bif xi l o then(0,[aa [dg (cg l)],aa (iX o)])else(1,[aT,aa [dg (cg l)],aa (iX o)])):=by
 refine bX aAs (ax (c:=o.size != 1) (λh=>ab ?_) λh=>ax (c:=o.lo != 0) (λg=>ab ?_) λg=>ax (c:=o.hi != 0) (λi=>ab ?_) λi=>ae (W0 0 (aU (ln (cg l)- 1)) hk) (ax (c:= !pg o.set 0 (aU (ln (cg l)- 1))) (λj=>ab ?_) λj=>ab ?_))
 ·unfold xi;rw [h];rfl
 ·unfold xi;rw [h,g];rfl
 ·unfold xi;rw [h,g,i];rfl
 ·simp only [iy]at j;unfold xi;rw [h,g,i,j];rfl
 ·simp only [iS]at j;unfold xi;rw [h,g,i,j];rfl
theorem Pr(hx:ib x l.length=true):gB (gA (cg l) x.toNat) 3=(cW l x).ptr /\gI (gA (cg l) x.toNat) 0=(cW l x).size :=by rw [qX hx];exact⟨rfl,rfl⟩
theorem aOI(hx:ib x l.length=true):Ev aaL [iI x,aa [dg (cg l)]] (0,[av (zD l x),aa [dg (cg l)]]):=by
 have fw:ib x (cg l).length =true:=aeA;obtain⟨g1,g2⟩:=Pr hx;refine bj aEy (az fw ?_);show E (λ_ _=>bif gB (gA (cg l) x.toNat) 3 then _ else a8 _ (some (0,[av (gI (gA (cg l) x.toNat) 0 != 1),_]))) _;rw [g1,g2];refine ax (c:=(cW l x).ptr) (λh=>ab ?_) λh=>az fw (ab ?_)
 ·unfold zD;rw [h];rfl
 ·unfold zD;rw [h];rfl
theorem oset(hk:o.Ok)(hr:∀x∈o.set,ib x l.length=true):Ev YN [aw (ints o.set),aa [dg (cg l)]] (0,[av (o.set.any (zD l)),aa [dg (cg l)]]):=by
 refine Br (l:=o.set) (p:=zD l) (LF:=λN m=>Mu (FU CX EE N) N m [aw (ints o.set),iI (ln (ints o.set)),iI 0,aa [dg (cg l)]]) (IX:=λN _=>FU CX EE N YS [aw (ints o.set),aa [dg (cg l)]]) (st:=[aa [dg (cg l)]]) ?_ ?_ ?_ ?_
 ·refine scan (l:=o.set) (p:=zD l) (hit:=λi=>(0,[iI (i:Int),aa [dg (cg l)]])) (LF:=λi N m=>Mu (FU CX EE N) N m [aw (ints o.set),iI (ln (ints o.set)),iI (i:Int),aa [dg (cg l)]])
   (aY ah3 (au dw aD))
   λi hi r h2 h3=>aY ah3<|aV (cZ hi)<|az (cw hi)<|by
    have hd:o.set.getD i 0=o.set[i]:=Ah;rw [pO hi,ix hi hk,hd];exact ae (aOI (hr _ (cY hi))) (ax (λhc=>ab (h2 hc)) h3)
 ·exact λi h=>bj aii (ae h.diag (bh aD))
 ·exact λh=>bj aii (ae h.diag (bm aD))
 ·exact λi h=>bj axk (ae h aD)
include hl ho in
theorem aOJ:bS Gl [iI 0,dg (cg l),iI (ln (cg l)),iI 0,aa [dg (cg l)]] (bif l.all (vE l)then(1,[iI (Da 0 l),aa [dg (cg l)]])else(0,[aT,aa [dg (cg l)]])):=by
 have k:=fP (m:=l.length) (P:=λi=>∀s,bS Gl [iI s,dg (cg l),iI (ln (cg l)),iI (i:Int),aa [dg (cg l)]] (bif (l.drop i).all (vE l)then(1,[iI (Da s (l.drop i)),aa [dg (cg l)]])else(0,[aT,aa [dg (cg l)]])))
  (λs=>by
    rw [jE];exact aY ajw (au dw aD))
  λi hi ih s=>by
   have hk:=ho _ (cY hi);have gO:aF NR 0 (gA (cg l) ((i:Int).toNat))=iX l[i]:=by rw [gf hi,Wx]
   rw [jj hi,A8,Da];have C:∀r:UO,_->bS Gl [iI s,dg (cg l),iI (ln (cg l)),iI (i:Int),aa [dg (cg l)]] r:=λr h=>by
    refine aY ajw (aV (cZ hi) (az (cw hi) ?_));rw [gO];refine ae (dI (l[i]'hi)) ?_;exact h
   cases h1:Ij l[i]with
   |false=>
    rw [h1]at C;have e:vE l l[i]=false:=by unfold vE;rw [h1];rfl
    rw [e];exact C _ (bm aD)
   |true=>
    rw [h1]at C;refine C _ (bh (ax (c:= !l[i].ptr) (λhp=> ?_) λhp=> ?_))
    ·have e:vE l l[i]=Az l[i]:=by unfold vE;rw [h1,hp];rfl
     rw [e];refine ax (c:=decide (0<ln (ints l[i].set))) (λa=>ab ?_) λa=>ax (c:=decide (l[i].lo < -2147483648)) (λb=>ab ?_) λb=>ax (c:=decide (2147483647<l[i].hi)) (λc=>ab ?_) λc=>ax (c:=decide (l[i].hi <l[i].lo)) (λd=>ab ?_) λd=> ?_
     ·unfold Az;rw [a];rfl
     ·unfold Az;rw [a,b];rfl
     ·unfold Az;rw [a,b,c];rfl
     ·unfold Az;rw [a,b,c,d];rfl
     ·have e2:Az l[i]=true:=by unfold Az;rw [a,b,c,d];rfl
      rw [e2,wM];have:=ih (aU (s+l[i].size));rw [<-ix hi hl]at this;exact iK
    ·have e:vE l l[i]=(xi l l[i]&& !l[i].set.any (zD l)):=by unfold vE;rw [h1,hp];rfl
     rw [e];refine ae (aYu (l:=l) hk) ?_;cases h3:xi l l[i]with
     |false=>exact rI
     |true=>
      refine bh (ae (oset hk (afu hl h3)) ?_);cases l[i].set.any (zD l)with
      |true=>exact wQ
      |false=>
       have:=ih (aU (s+l[i].size));rw [<-ix hi hl]at this;exact bm this
 have:=k 0;rw [nU]at this;exact iK
theorem aYs(hl:l.length<=mx)(hk:o.Ok)(h:vE l o=true):Ev abZ [dg (cg l),aa (iX o)] (0,[c5]):=by
 unfold vE at h;obtain⟨h1,h2⟩:=(bA _ _).mp h;simp only [Ij,GM,iT,Od,bA,iy,ui]at h1;refine bj aIb (ae (bX aGy (au (c:=decide (o.size<1)) (eE) (au (c:=decide (16384<o.size)) (eE) aD))) (bh (ax (c:= !o.ptr) (λhp=> ?_) λhp=> ?_)))
 ·rw [hp]at h2;have h2:Az o=true:=h2;simp only [Az,GM,iT,Od,bA,iy,ui]at h2;obtain⟨a,b,c,d⟩:=h2;exact aV (c:=ln (ints o.set)==0) (by rw [c9]at a⊢;exact iA.2 (by omega)) (aV (c:=decide (-2147483648<=o.lo)) (eE) (aV (c:=decide (o.hi<=2147483647)) (eE) (ab (by unfold c5;rw [<-show decide (o.lo<=o.hi)=true by simp;omega];rfl))))
 ·rw [hp]at h2;obtain⟨h3,h4⟩:=(bA _ _).mp (show(xi l o&& !o.set.any (zD l))=true from h2);have hr:=afu hl h3;unfold xi at h3;cases a:o.size != 1<;>rw [a]at h3
  ·cases b:o.lo != 0<;>rw [b]at h3
   ·cases c:o.hi != 0<;>rw [c]at h3
    ·have k:=fP (m:=o.set.length) (P:=λi=>bS Sw [dg (cg l),iI (i:Int),aa (iX o)] (1,[aa (iX o)]))
      (aY ajT (au (dw (f:=λn:Int=>[iI n]) (l:=o.set)) aD))
      λi hi ih=>aY ajT<|aV (cZ (f:=λn:Int=>[iI n]) hi)<|az (cw (f:=λn:Int=>[iI n]) hi)<|by
       have hd:o.set.getD i 0=o.set[i]:=Ah;have hx:=hr _ (cY hi);have fw:ib o.set[i] (cg l).length =true:=aeA;have he:zD l o.set[i]=false:=by simpa using zY.1 (by simpa using h4) _ (cY hi)
       obtain⟨g1,g2⟩:=Pr hx;rw [show gR (iX o) 4=ints o.set from rfl,pO hi,ix hi hk,hd,g1,g2];unfold zD at he;cases q:(cW l o.set[i]).ptr <;>rw [q]at he
       ·exact az fw (bm (az (cw (f:=λn:Int=>[iI n]) hi) (az fw (au he ih))))
       ·cases he
     exact ae (bX aFq (au a (au b (au c (ae (WZ 0 (aU (ln (cg l)- 1)) hk) (au (by show(!pg o.set 0 (aU (ln (cg l)- 1)))=false;rw [show pg o.set 0 (aU (ln (cg l)- 1))=true from h3];rfl) aD)))))) (bh (ae k.diag (bm aD)))
    ·cases h3
   ·cases h3
  ·cases h3
include hl ho in
theorem aOH(h:yi l=true):Ev abE [dg (cg l)] (0,[c5]):=by
 unfold yi at h;cases a:decide (ln (cg l)<1)<;>rw [a]at h
 ·cases b:decide (2048<ln (cg l))<;>rw [b]at h
  ·cases c:l.all (vE l)<;>rw [c]at h
   ·exact aM
   ·have k:=fP (m:=l.length) (P:=λi=>∀s,bS Sp [dg (cg l),iI s,iI (i:Int)] (1,[iI (Da s (l.drop i))]))
     (λs=>by
       rw [jE];exact aY ajD (au dw aD))
     λi hi ih s=>by
      have gO:aF NR 0 (gA (cg l) ((i:Int).toNat))=iX l[i]:=by rw [gf hi,Wx]
      have gS:gI (gA (cg l) ((i:Int).toNat)) 0=l[i].size :=EG;rw [jj hi,Da];refine aY ajD (aV (cZ hi) (az (cw hi) ?_));rw [gO,gS,ix hi hl];exact ae (aYs hl (ho _ (cY hi)) (mP.1 c _ (cY hi))) (bm (az (cw hi) (ih _)))
    have k:=k 0;rw [nU]at k;exact bj aHu (ae (bX aFx (au a (au b aD))) (bh (ae k.diag (bm (ab (by unfold c5;rw [<-show decide (Da 0 l<=16384)=true from h];rfl))))))
  ·exact aM
 ·exact aM
include hl ho in
theorem aYt:Ev abq [dg (cg l)] (0,[av (yi l)]):=by
 have a6:bY aaZ [aa [dg (cg l)]] (bif (bif decide (ln (cg l)<1)then true else decide (2048<ln (cg l)))then(1,[aT,aa [dg (cg l)]])else(0,[aa [dg (cg l)]])):=by
  refine bX aEl (ax (c:=decide (ln (cg l)<1)) (λa=>ab (by rw [a];rfl)) λa=>ax (c:=decide (2048<ln (cg l))) (λb=>ab (by rw [a,b];rfl)) λb=>ab (by rw [a,b];rfl))
 have e:yi l=bif (bif decide (ln (cg l)<1)then true else decide (2048<ln (cg l)))then false else bif l.all (vE l)then decide (Da 0 l<=16384)else false:=by
  unfold yi;cases decide (ln (cg l)<1)<;>rfl
 rw [e];have c1:=aOJ hl ho;cases hx:(bif decide (ln (cg l)<1)then true else decide (2048<ln (cg l)))with
 |true=>
  rw [hx]at a6;exact bj aa6 (ae a6 (bm aD))
 |false=>
  rw [hx]at a6;cases ha:l.all (vE l)with
  |true=>
   rw [ha]at c1;exact bj aa6 (ae a6 (bh (ae c1.diag (bm aD))))
  |false=>
   rw [ha]at c1;exact bj aa6 (ae a6 (bh (ae c1.diag (bh aD))))
include hl in
theorem aMd(h:yi l=true):OL l:=by
 unfold yi at h;cases h1:decide (ln (cg l)<1)with
 |true=>exact G1
 |false=>
  cases h2:decide (2048<ln (cg l))with
  |true=>rw [h1,h2]at h;cases h
  |false=>
   cases h3:l.all (vE l)with
   |false=>rw [h1,h2,h3]at h;cases h
   |true=>
    rw [mP]at h3;have hp:∀o∈l,(o.ptr=false->o.set=[])/\o.set.Nodup/\∀x∈o.set,ib x l.length=true:=λo hm=>by
     have:=h3 o hm;unfold vE at this;rw [bA]at this;cases hq:o.ptr with
     |false=>
      rw [hq]at this;have h2:=this.2;have hs:o.set=[]:=by
       simp only [Bool.not_false,bT]at h2;unfold Az at h2;cases hz:decide (0<ln (ints o.set))with
       |true=>rw [hz]at h2;cases h2
       |false=>
        rw [c9]at hz;cases hs:o.set with
        |nil=>rfl
        |cons a b=>rw [hs]at hz;simp at hz
      refine⟨λ_=>hs,by rw [hs];exact yQ,by rw [hs];simp⟩
     |true=>
      rw [hq]at this;have h2:=this.2;simp only [Bool.not_true,bM,bA]at h2;refine⟨λh=>(aM),?_,afu hl h2.1⟩;have h3:=h2.1;unfold xi at h3;cases y1:o.size != 1 with
      |true=>rw [y1]at h3;cases h3
      |false=>
       cases y2:o.lo != 0 with
       |true=>rw [y1,y2]at h3;cases h3
       |false=>
        cases y3:o.hi != 0 with
        |true=>rw [y1,y2,y3]at h3;cases h3
        |false=>
         rw [y1,y2,y3]at h3;exact aJd (show pg o.set 0 (aU (ln (cg l)- 1))=true from h3)
    refine⟨?_,λo hm=>(hp o hm).1,λo hm=>(hp o hm).2.1,λo hm=>(hp o hm).2.2⟩;rw [c9]at h2;simp at h2;omega
end
end
end Go.Proofs.B.C
namespace Go.ah
def U0{p:Prop}(h:p:=by unfold BX;rw [a,b,c];rfl):p:=h
end Go.ah
namespace Go.Proofs.B.C
open Go Go.ah
section
variable {l:List OB} {cs:cj}
abbrev aO(l:List OB):AV:= aa [dg (cg l)]
abbrev aI(cs:cj):AV:= aa [aw (ints cs)]
def BX(k:Int):Bool:=bif k==1 then true else bif k==14 then true else bif k==6 then true else k==7
def Ax(l:List OB)(cs:cj)(e:CE):Bool:=bif BX e.kind then true else bif e.kind==2 then bif ei cs e.O then !(cW l e.O).ptr else false else bif e.kind==4 then e.op==18 else bif e.kind==5 then bif decide (7<=e.op)then decide (e.op<=15)else false else false
def aOz(k:Int):bY aaY [cu k] (0,[av (BX k)]):=by
 refine bX aEk (ax (c:=k==1) (λa=>ab ?_) λa=>ax (c:=k==14) (λb=>ab ?_) λb=>ax (c:=k==6) (λc=>ab ?_) λc=>ab ?_)
 ·unfold BX;rw [a];rfl
 ·unfold BX;rw [a,b];rfl
 ·exact U0
 ·exact U0
def aYf(hc:cs.length<=mx)(hr:∀x∈cs,ib x l.length=true)(e:CE):bY abl [aT,aO l,aI cs,aa (aH e)] (0,[av (Ax l cs e),aO l,aI cs,aa (aH e)]):=by
 refine bX aFB ?_;rw [yk,Lp,awc,e7];refine ae (aOz e.kind) (ax (c:=BX e.kind) (λa=>ab ?_) λa=>ax (c:=e.kind==2) (λb=>ae (yP e.O hc) (ax (c:=ei cs e.O) (λc=> ?_) λc=>ab ?_)) λb=>ax (c:=e.kind==4) (λc=>ab ?_) λc=>ax (c:=e.kind==5) (λd=>ax (c:=decide (7<=e.op)) (λg=>ab ?_) λg=>ab ?_) λd=>ab ?_)
 ·unfold Ax;rw [a];rfl
 ·have hx:=hr _ (GW.1 c);refine az (by show ib e.O (cg l).length =true;rw [dW];exact hx) (ab ?_);rw [show gB (gA (gR [dg (cg l)] 0) e.O.toNat) 3=(cW l e.O).ptr from(Pr hx).1];unfold Ax;rw [a,b,c];rfl
 ·unfold Ax;rw [a,b,c];rfl
 ·unfold Ax;rw [a,b,c];rfl
 ·unfold Ax;rw [a,b,c,d,g];rfl
 ·unfold Ax;rw [a,b,c,d,g];rfl
 ·unfold Ax;rw [a,b,c,d];rfl
def ba6(hc:cs.length<=mx)(hr:∀x∈cs,ib x l.length=true)(e:CE)(h:Ax l cs e=true):bY abi [dg (cg l),aw (ints cs),aa (aH e)] (0,[aa (aH e)]):=by
 have a52:bY aaV [cu e.kind] (0,[av (BX e.kind)]):=by
  refine bX aEg (ax (c:=e.kind==1) (λa=>ab ?_) λa=>ax (c:=e.kind==14) (λb=>ab ?_) λb=>ax (c:=e.kind==6) (λc=>ab ?_) λc=>ab ?_)
  ·unfold BX;rw [a];rfl
  ·unfold BX;rw [a,b];rfl
  ·exact U0
  ·exact U0
 unfold Ax at h;refine bX aFw ?_;rw [yk,Lp,awc,e7];refine ae a52 (ax (c:=BX e.kind) (λ_=>aD) λa=>ax (c:=e.kind==2) (λb=> ?_) λb=>ax (c:=e.kind==4) (λc=>au ?_ aD) λc=>aV (c:=e.kind==5) ?_ (au (c:=decide (e.op<7)) ?_ (au (c:=decide (15<e.op)) ?_ aD)))<;>rw [a,b]at h
 ·cases c:ei cs e.O<;>rw [c]at h
  ·exact aM
  ·have hx:=hr _ (GW.1 c);refine ae (AD e.O hc) (au (by show(!ei cs e.O)=false;rw [c];rfl) (az (aeA) (au ?_ aD)));rw [(Pr hx).1];exact mU
 ·rw [c]at h;have h:(e.op==18)=true:=h;rw [bne,h];rfl
 all_goals
  rw [c]at h;cases d:e.kind==5<;>rw [d]at h
  ·cases h
 all_goals
  cases g:decide (7<=e.op)<;>rw [g]at h
  ·cases h
  ·have h:decide (e.op<=15)=true:=h;simp at g h⊢;omega
def aNj(hc:cs.length<=mx)(hr:∀x∈cs,ib x l.length=true):∀e:CE,e.Ok->∃b,Ev NN [dg (cg l),aw (ints cs),aa (aH e)] (0,[av b])/\(b=true->Ev Nx [dg (cg l),aw (ints cs),aa (aH e)] (0,[c5])):=by
 refine CE.ind λe ih aX=> ?_;have j:=aYf hc hr e;cases hh:Ax l cs e with
 |false=>
  rw [hh]at j;refine⟨false,bj alo ?_,λh=>aM⟩;rw [e7];exact ae j (bm aD)
 |true=>
  rw [hh]at j;have afR:∀y,∃b,y∈e.L->(Ev NN [dg (cg l),aw (ints cs),aa (aH y)] (0,[av b])/\(b=true->Ev Nx [dg (cg l),aw (ints cs),aa (aH y)] (0,[c5]))):=λy=>by
   by_cases hy:y∈e.L
   ·obtain⟨b,hb⟩:=ih y hy (aX.jt hy);exact⟨b,λ_=>hb⟩
   ·exact⟨true,λh=>absurd h hy⟩
  obtain⟨f,hf⟩:=ac2 afR;have k1:=scan (l:=e.L) (p:=λy=> !f y) (hit:=λi=>(0,[iI (i:Int),aO l,aI cs])) (done:=(1,[aO l,aI cs]))
   (LF:=λi N m=>Ry (FU CX EE N) N m [bR (e.L.map aH),iI (ln (e.L.map aH)),iI (i:Int),aO l,aI cs])
   (aY ah4 (au dw aD))
   λi hi r h2 h3=>aY ah4<|aV (cZ hi)<|az (cw hi)<|by
    rw [vW hi,ix hi aX.len];have q:Ev abp [aa (aH e.L[i]),aO l,aI cs] (0,[av (!f e.L[i]),aO l,aI cs]):=by
     refine bj aGH ?_;rw [e7];exact ae (hf e.L[i] (cY hi)).1 aD
    exact ae q (ax (λQ4=>ab (h2 Q4)) h3)
  have k3:=Br (l:=e.L) (p:=λy=> !f y) (IX:=λN _=>FU CX EE N YU [bR (e.L.map aH),aO l,aI cs]) (CT:=λN _=>FU CX EE N YO [bR (e.L.map aH),aO l,aI cs]) (st:=[aO l,aI cs]) k1
   (λi h=>bj aij (ae h.diag (bh aD)))
   (λh=>bj aij (ae h.diag (bm aD)))
   (λi h=>bj axl (ae h aD))
  refine⟨!e.L.any λy=> !f y,bj alo ?_,λhb=>bj aHt ?_⟩
  ·rw [e7];refine ae j (bh ?_);rw [<-uD]at k3;exact ae k3 aD
  ·have k2:=fP (m:=e.L.length) (P:=λi=>bS Sx [dg (cg l),aw (ints cs),iI (i:Int),aa (aH e)] (1,[aa (aH e)]))
    (aY ajV (au (aez) (ab (by rw [e7]))))
    λi hi ih=>aY ajV<|by
     rw [uD,e7];refine aV (cZ hi)<|az (cw hi) ?_;rw [vW hi,ix hi aX.len];have g:f e.L[i]=true:=by simpa using zY.1 ((iy _).mp hb) _ (cY hi)
     exact ae ((hf e.L[i] (cY hi)).2 g) (bm ih)
   rw [e7];refine ae (ba6 hc hr e hh) (bh ?_);erw [e7];exact ae k2.diag (bm aD)
end
end Go.Proofs.B.C
namespace Go.ah
def aep{p:Prop}(h:p:=by rw [zJ];simp;omega):p:=h
end Go.ah
namespace Go.ah
def GU:=@List.length_replicate
def acV:=@List.take_append_of_le_length
def amT:=@List.drop_eq_nil_of_le
end Go.ah
namespace Go.Proofs.B.C
open Go Go.ah
section
variable{n:Nat}
def arA{n:Int}(h0:0<=n)(h1:n<18446744073709551616):IntKind.wrap .u64 n=n:=V0
def aPY(h:n<4294967296):((BitVec.ofInt 64 (n:Int)&&&BitVec.ofInt 64 4294967295).toNat :Int)=n:=by
 rw [BitVec.toNat_and];have h1:(BitVec.ofInt 64 (n:Int)).toNat =n:=by
  rw [BitVec.toNat_ofInt];omega
 have h2:(BitVec.ofInt 64 4294967295).toNat =2^32- 1:=by rfl
 rw [h1,h2,Nat.and_two_pow_sub_one_eq_mod,acW (by omega)]
def aJp{n:Int}(h0:0<=n)(h:n<4294967296):Int.fdiv n (2^32)=0:=by
 rw [Int.fdiv_eq_ediv_of_nonneg _ (by decide)];exact Int.ediv_eq_zero_of_lt h0 h
def aYA(h:n<4294967296):Ev aa3 [.int .u64 1,.int .u64 (n:Int)] (0,[.int .u64 0,.int .u64 (n:Int)]):=by
 have h1:((BitVec.ofInt 64 1&&&BitVec.ofInt 64 4294967295).toNat :Int)=1:=by rfl
 have w0:IntKind.wrap .u64 0=0:=by rfl
 have w1:IntKind.wrap .u64 1=1:=by rfl
 have wn:IntKind.wrap .u64 (n:Int)=n:=arA (by omega) (by omega);have f1:Int.fdiv 1 (2^32)=0:=by rfl
 have f0:Int.fdiv 0 (2^32)=0:=by rfl
 have fn:Int.fdiv (n:Int) (2^32)=0:=aJp (by omega) (by omega);have a0:((BitVec.ofInt 64 0&&&BitVec.ofInt 64 4294967295).toNat :Int)=0:=by rfl
 have m:Ev aav [.int .u64 1,.int .u64 (n:Int)] (0,[.int .u64 0,.int .u64 (n:Int)]):=by
  refine bj aDp (ab ?_);rw [h1,aPY h,f1,fn,Int.zero_mul,Int.zero_mul,w0,wn,w1,Int.one_mul,wn,fn,N7,w0,f0,N7,w0,a0,w0,Int.one_mul,w0,N7,w0,f0];rfl
 exact bj aFI (ae m aD)
abbrev Fg:Row:=[iI (-1),iI (-1),iI (-1)]
abbrev PA:Row:=[iI 0,iI 0,iI 0]
def rz(k m:Nat):aE:=List.replicate k Fg++List.replicate m PA
def aoD(k m:Nat):(rz k m).length =k+m:=by simp [rz]
def aoz{k m d:Nat}(h:d<=m):uH (rz k m) k (List.replicate d Fg)=rz (k+d) (m- d):=by
 unfold uH rz;rw [acV (by simp),El (by simp),GU,List.drop_append,amT (by simp),rF,List.drop_replicate,GU,Nat.add_sub_cancel_left,<-List.replicate_append_replicate]
def aXY:∀(m k:Nat),1<=k->k+m<=2048->bS MF [iI (k:Int),ay (rz k m)] (0,[ay (rz (k+m) 0)]):=by
 intro m
 induction m using Nat.strongRecOn with
 |ind m ih=>
  intro k hk hb;have zJ:ln (rz k m)=((k+m:Nat):Int):=by show(((rz k m).length :Nat):Int)=_;rw [aoD]
  refine aY ayQ ?_
  by_cases h0:m=0
  ·subst h0;exact au (by rw [zJ];simp) aD
  ·refine aV (aep) (az (aep) (az (aep) ?_));rw [ow,nU,aoD,show k+m- k=m by omega];have ht:(rz k m).take k=List.replicate k Fg:=by
    unfold rz;rw [acV (by simp),El (by simp)]
   have hd:yI (rz k m) k m (List.replicate k Fg)=rz (k+min k m) (m- min k m):=by
    unfold yI;rw [List.take_replicate,Nat.min_comm m k];exact aoz (by omega)
   rw [ht,hd,GU];have hw:aU ((k:Int)+((min k m:Nat):Int))=((k+min k m:Nat):Int):=zb;rw [hw];have:=ih (m- min k m) (by omega) (k+min k m) (by omega) (by omega);rw [show k+min k m+(m- min k m)=k+m by omega]at this;exact iK
def aM9(n:Nat):rz n 0=aP (List.replicate n qE):=by
 unfold rz;show _=(List.replicate n qE).map rj;rw [List.map_replicate];exact yW _
def aXZ(h1:1<=n)(h2:n<=2048):Ev ZT [ay [Fg],iI (n:Int)] (0,[ay (aP (List.replicate n qE))]):=by
 have j6:bY Zx [iI (n:Int)] (0,[]):=bX azF (au (by simp) aD);have j30:bY Zq [.int .u64 0,.int .u64 (n:Int)] (0,[]):=bX aze (bm (au (eE) aD));have wn:IntKind.wrap .u64 (n:Int)=n:=arA (by omega) (by omega);have w6:aU (n:Int)=n:=mi (by omega) (by omega);refine bj aA5 (ae j6 ?_);rw [wn];refine ae (aYA (n:=n) (by omega)) (ae j30 ?_);show E (λN _=>a8 (decide (0<=aU (n:Int))&&decide (aU (n:Int)<=aU (n:Int))&&decide ((aU (n:Int))*24<=140737488355328))<|bO (MF (FU CX EE N) N N [iI (((min 1 ((List.replicate ((aU (n:Int)).toNat) PA).length):Nat):Int)),ay (yI (List.replicate ((aU (n:Int)).toNat) PA) 0 ((List.replicate ((aU (n:Int)).toNat) PA).length) [Fg])]) λ_ o4=>some (0,[ay (gR o4 0)])) _;rw [w6,ow,GU];have hc:yI (List.replicate n PA) 0 n [Fg]=rz 1 (n- 1):=by
  unfold yI;rw [El (y9)];have:=aoz (k:=0) (m:=n) (d:=1) h1;simpa [rz]using this
 rw [hc,show min 1 n=1 by omega];refine az (eE) (ae (aXY (n- 1) 1 (by omega) (by omega)).diag (ab ?_));show(0,[ay (rz (1+(n- 1)) 0)])=_;rw [aM9,show 1+(n- 1)=n by omega]
end
end Go.Proofs.B.C
namespace Go.ah
def aqS{p:Prop}(h:p:=by
 rw [hr];refine arJ hp.bq ?_;rw [<-c9 iX p.bq];exact hb):p:=h
def aqE{p:Prop}(h:p:=by rw [show(Ar q ro os[i]).length =ro.length by simp [Ar]];exact hr y hy):p:=h
end Go.ah
namespace Go.Proofs.B.C
open Go Go.ah
section
variable{o:Int}{rf ro:List RO}{n:Nat}
abbrev aG(p:PG):AV:= aa (jB p)
abbrev cR(l:List RO):AV:= ay (aP l)
abbrev rR(l:List RO):AV:= sN (aP l)
theorem wa(p:PG):aF abP 0 (jB p)=jB p:=rfl
def Ar(q:Int)(ro:List RO)(o:Int):List RO:=ro.set o.toNat {ij ro o with nK:=q}
def uw(q:Int):cj->List RO->Option (List RO)
 | [],ro=>some ro
 |o::os,ro=>bif decide (0<=(ij ro o).nK)then none else uw q os (Ar q ro o)
def xg(up:Int):Int->List PR->List RO->Option (List RO)
 |_,[],ro=>some ro
 |q,x::xs,ro=>bif pg x.nu 0 up then(uw q x.nu ro).bind (xg up (q+1) xs)else none
theorem adN(h:ib o ro.length=true)(r:RO):(aP ro).set o.toNat (rj r)=aP (ro.set o.toNat r):=by
 show(ro.map rj).set o.toNat (rj r)=(ro.set o.toNat r).map rj;rw [Ol]
theorem KX(h:ib o ro.length=true):gA (aP ro) o.toNat=rj (ij ro o):=Ps h
theorem toN_lt(h:ib o n=true):decide (o.toNat<n)=true:=by have:=mR.1 h;simp;omega
theorem TJ{q:Int}:∀{os:cj} {ro fj:List RO},uw q os ro=some fj->fj.length=ro.length
 | [],ro,fj,h=>by injection h with h;rw [h]
 |o::os,ro,fj,h=>by
  simp only [uw]at h;cases hd:decide (0<=(ij ro o).nK)with
  |true=>rw [hd]at h;cases h
  |false=>
   rw [hd]at h;have:=TJ (show uw q os (Ar q ro o)=some fj from h);rw [this];simp [Ar]
section
variable {p:PG}
theorem aXW{q:Int}{os:cj}(hl:os.length<=mx):∀ro:List RO,(∀x∈os,ib x ro.length=true)->∃x:aE,
 bS Jq [iI q,aw (ints os),iI (ln (ints os)),iI 0,cR ro] (match uw q os ro with|some fj=>(1,[cR fj])|none=>(0,[aT,ay x,ay []])):=by
 have k:=fP (m:=os.length) (P:=λi=>∀ro:List RO,(∀x∈os,ib x ro.length=true)->∃x:aE,
  bS Jq [iI q,aw (ints os),iI (ln (ints os)),iI (i:Int),cR ro] (match uw q (os.drop i) ro with|some fj=>(1,[cR fj])|none=>(0,[aT,ay x,ay []])))
  (λro _=>⟨[],by rw [jE];exact aY ajv (au dw aD)⟩)
  λi hi ih ro hr=>by
   have hd:os.getD i 0=os[i]:=Ah;have ho:=hr _ (cY hi);have jJ:ib os[i] (aP ro).length =true:=KA;have C:∀r:UO,_->bS Jq [iI q,aw (ints os),iI (ln (ints os)),iI (i:Int),cR ro] r:=λr h=>by
    refine aY ajv (aV (cZ hi) (az (cw hi) ?_));rw [pO hi,hd,KX ho];refine az jJ (az (toN_lt jJ) ?_);exact h
   rw [jj hi];simp only [uw];cases hp:decide (0<=(ij ro os[i]).nK)with
   |true=>exact⟨_,C _ (aV hp aD)⟩
   |false=>
    have QO:(aP ro).set os[i].toNat (setAt (rj (ij ro os[i])) 0 [iI q])=aP (Ar q ro os[i]):=adN ho {ij ro os[i]with nK:=q};obtain⟨x,hx⟩:=ih (Ar q ro os[i]) (λy hy=>aqE);refine⟨x,C _ (au hp (az jJ (az (toN_lt jJ) ?_)))⟩;rw [QO,ix hi hl];exact hx
 intro ro hr;have:=k ro hr;rw [nU]at this;exact this
theorem aXV{q:Nat}(hq:q<p.bW.length)(hl:p.bW[q].nu.length <=mx):∀ro:List RO,(∀x∈p.bW[q].nu,ib x ro.length=true)->uw q p.bW[q].nu ro=some rf->
 bS M7 [iI (q:Int),iI 0,aG p,rR ro] (1,[aG p,rR rf]):=by
 have hg:gR (gA (gR (jB p) 3) ((q:Int).toNat)) 1=ints p.bW[q].nu :=by
  show gR (gA (p.bW.map il) ((q:Int).toNat)) 1=_;rw [gf hq];rfl
 have tp:ib (q:Int) (gR (jB p) 3).length =true:=cw (f:=il) hq;generalize hos:p.bW[q].nu =os at hg hl⊢;exact fP (m:=os.length) (P:=λi=>∀ro:List RO,(∀x∈os,ib x ro.length=true)->uw q (os.drop i) ro=some rf->
  bS M7 [iI (q:Int),iI (i:Int),aG p,rR ro] (1,[aG p,rR rf]))
  (λro _ h=>by
    rw [jE]at h;injection h with h;subst h;refine aY ajC (az tp ?_);rw [hg];exact au dw aD)
  λi hi ih ro hr h=>by
   have hd:os.getD i 0=os[i]:=Ah;have ho:=hr _ (cY hi);have jJ:ib os[i] (aP ro).length =true:=KA;rw [jj hi]at h;simp only [uw]at h;cases hp:decide (0<=(ij ro os[i]).nK)<;>rw [hp]at h
   ·have QO:(aP ro).set os[i].toNat (setAt (rj (ij ro os[i])) 0 [iI (q:Int)])=aP (Ar q ro os[i]):=adN ho {ij ro os[i]with nK:=q};have hx:=ih (Ar q ro os[i]) (λy hy=>aqE) h;refine aY ajC (az tp ?_);rw [hg,pO hi,hd,KX ho];refine aV (cZ hi) (az tp (az (cw hi) (az jJ (az (toN_lt jJ) (au hp (az jJ (az (toN_lt jJ) ?_)))))));rw [QO,ix hi hl];exact hx
   ·exact aM
theorem arJ(h:n<=mx){l:cj}(hr:pg l 0 (aU ((n:Int)- 1))=true):∀x∈l,ib x n=true:=λx hx=>by
 have:=adn hr x hx;simp only [mx]at h;rw [mi (by omega) (by omega)]at this;exact U1
abbrev tc(p:PG):Int:=aU (ln (cg p.bq)- 1)
variable (hp:p.Ok)
include hp in
theorem aXU:∀ro:List RO,ro.length=p.bq.length->∃x y:aE,
 bS JD [uf (p.bW.map il),iI (ln (p.bW.map il)),iI 0,aG p,cR ro] (match xg (tc p) 0 p.bW ro with|some fj=>(1,[aG p,cR fj])|none=>(0,[aT,aG p,ay x,ay y])):=by
 have k:=fP (m:=p.bW.length) (P:=λi=>∀ro:List RO,ro.length=p.bq.length->∃x y:aE,
  bS JD [uf (p.bW.map il),iI (ln (p.bW.map il)),iI (i:Int),aG p,cR ro] (match xg (tc p) (i:Int) (p.bW.drop i) ro with|some fj=>(1,[aG p,cR fj])|none=>(0,[aT,aG p,ay x,ay y])))
  (λro _=>⟨[],[],by rw [jE];exact aY aki (au dw aD)⟩)
  λi hi ih ro hr=>by
   have hk:=hp.nK _ (cY hi);have hg:gR (gA (p.bW.map il) ((i:Int).toNat)) 1=ints p.bW[i].nu :=EG;have C:∀r:UO,_->bS JD [uf (p.bW.map il),iI (ln (p.bW.map il)),iI (i:Int),aG p,cR ro] r:=λr h=>by
    refine aY aki (aV (cZ hi) (az (cw hi) ?_));rw [hg];refine ae (W0 0 (tc p) hk.nu) ?_;exact h
   rw [jj hi];simp only [xg];cases hb:pg p.bW[i].nu 0 (tc p)with
   |false=>
    rw [hb]at C;exact⟨_,_,C _ (bh aD)⟩
   |true=>
    rw [hb]at C;have ry:∀x∈p.bW[i].nu,ib x ro.length=true:=aqS;obtain⟨x,hx⟩:=aXW (q:=(i:Int)) hk.nu ro ry;simp only [bT];cases hf:uw (i:Int) p.bW[i].nu ro with
    |none=>
     rw [hf]at hx;exact⟨_,_,C _ (bm (ae hx.diag (bh aD)))⟩
    |some fj=>
     rw [hf]at hx;obtain⟨x',y',fw⟩:=ih fj (by rw [TJ hf,hr]);refine⟨x',y',C _ (bm (ae hx.diag (bm ?_)))⟩;rw [ix hi hp.bW];exact fw
 intro ro hr;have:=k ro hr;rw [nU]at this;exact this
include hp in
theorem aXT:∀ro:List RO,ro.length=p.bq.length->xg (tc p) 0 p.bW ro=some rf->
 bS Nn [iI 0,aG p,rR ro] (1,[aG p,rR rf]):=by
 exact fP (m:=p.bW.length) (P:=λi=>∀ro:List RO,ro.length=p.bq.length->xg (tc p) (i:Int) (p.bW.drop i) ro=some rf->
  bS Nn [iI (i:Int),aG p,rR ro] (1,[aG p,rR rf]))
  (λro _ h=>by
    rw [jE]at h;injection h with h;subst h;exact aY akc (au (dw (f:=il) (l:=p.bW)) aD))
  λi hi ih ro hr h=>by
   have hk:=hp.nK _ (cY hi);have hg:gR (gA (gR (jB p) 3) ((i:Int).toNat)) 1=ints p.bW[i].nu :=by
    show gR (gA (p.bW.map il) ((i:Int).toNat)) 1=_;exact EG
   rw [jj hi]at h;simp only [xg]at h;cases hb:pg p.bW[i].nu 0 (tc p)<;>rw [hb]at h
   ·exact aM
   have ry:∀x∈p.bW[i].nu,ib x ro.length=true:=aqS;cases hf:uw (i:Int) p.bW[i].nu ro with
   |none=>rw [hf]at h;cases h
   |some fj=>
    rw [hf]at h;refine aY akc (aV (cZ (f:=il) hi) (az (cw (f:=il) hi) ?_));rw [hg];refine ae (WZ 0 (tc p) hk.nu) (au (by show(!pg p.bW[i].nu 0 (tc p))=false;rw [hb];rfl) (ae (aXV hi hk.nu ro ry hf).diag (bm ?_)));rw [ix hi hp.bW];exact ih fj (by rw [TJ hf,hr]) h
end
end
end Go.Proofs.B.C
namespace Go.ah
def aeC{p:Prop}(h:p:=by rw [dW];exact wz):p:=h
end Go.ah
namespace Go.Proofs.B.C
open Go Go.ah
section
variable{e o t:Int}{ro:List RO}{m:cj}
def LQ(r:RO)(a b c:Int):Bool:=(r.nK==a)&&((r.task==b)&&((r.entry==c)&&true))
def DB(p:PG)(t e:Int)(ro:List RO)(o:Int):Bool:=bif (cW p.bq o).size != 1 then false else bif LQ (ij ro o) (-1) t e then true else LQ (ij ro o) (-1) (-1) (-1)
def Fx(t e:Int)(ro:List RO)(o:Int):List RO:=ro.set o.toNat ⟨-1,t,e⟩
def tK(p:PG)(t e:Int):cj->List RO->Option (List RO)
 | [],ro=>some ro
 |o::os,ro=>bif DB p t e ro o then tK p t e os (Fx t e ro o)else none
def amB(p:PG)(t e:Int):∀(a b:cj) (ro:List RO),tK p t e (a++b) ro=(tK p t e a ro).bind (tK p t e b)
 | [],b,ro=>rfl
 |o::a,b,ro=>by
  simp only [pM,tK];cases DB p t e ro o with
  |true=>exact amB p t e a b _
  |false=>rfl
def R2(ro:List RO):Prop:=∀r∈ro,r=qE∨(0<=r.nK/\r.task= -1/\r.entry= -1)∨(r.nK= -1/\0<=r.task)
def R2.set(h:R2 ro)(ht:0<=t)(o:Int):R2 (Fx t e ro o):=λr hr=>by
 rcases ac1 hr with hr|rfl
 ·exact h r hr
 ·exact .inr (.inr ⟨rfl,ht⟩)
def acD{p:PG}{t e:Int}(ht:0<=t):∀{os:cj} {ro fj:List RO},tK p t e os ro=some fj->R2 ro->fj.length=ro.length/\R2 fj
 | [],ro,fj,h,hr=>by injection h with h;subst h;exact⟨rfl,hr⟩
 |o::os,ro,fj,h,hr=>by
  simp only [tK]at h;cases hd:DB p t e ro o with
  |false=>rw [hd]at h;cases h
  |true=>
   rw [hd]at h;have:=acD ht (show tK p t e os (Fx t e ro o)=some fj from h) (hr.set ht o);exact⟨by rw [this.1];simp [Fx],this.2⟩
section
variable {p:PG}
def rk(p:PG)(m:cj):Bool:=bif decide (8<ln (ints m))then false else oM m 0 (tc p)
def UI(hp:p.bq.length<=mx)(h:rk p m=true):m.length<=8/\∀x∈m,ib x p.bq.length=true:=by
 unfold rk at h;cases h8:decide (8<ln (ints m))with
 |true=>rw [h8]at h;cases h
 |false=>
  rw [h8]at h;rw [c9]at h8;refine⟨by simp at h8;omega,λx hx=> ?_⟩;have:=anP (show oM m 0 (tc p)=true from h) x hx;simp only [mx]at hp;have hu:tc p=(p.bq.length:Int)- 1:=by
   show aU (ln (p.bq.map iX)- 1)=_;rw [c9,mi (by omega) (by omega)]
  rw [hu]at this;exact U1
def awl(hm:m.length<=mx):bY Zv [aw (ints m),aG p] (bif rk p m then(0,[aG p])else(1,[aT,aG p,ay []])):=by
 refine bX azn (ax (c:=decide (8<ln (ints m))) (λa=>ab ?_) λa=>ae (ags 0 (tc p) hm) (ax (c:= !oM m 0 (tc p)) (λb=>ab ?_) λb=>ab ?_))
 ·unfold rk;rw [a];rfl
 ·simp only [iy]at b;unfold rk;rw [a,b];rfl
 ·simp only [iS]at b;unfold rk;rw [a,b];rfl
def aOK(h:ib o p.bq.length=true):gI (gA (gR (jB p) 0) o.toNat) 0=(cW p.bq o).size :=(Pr h).2
def aYq(hr:ro.length=p.bq.length)(ho:ib o p.bq.length=true):∃x:aq,bY Y9 [iI o,aG p,cR ro,aa [iI (-1),iI t,iI e]]
 (bif DB p t e ro o then(0,[aG p,cR ro,aa [iI (-1),iI t,iI e]])else(1,[aT,aG p,cR ro,aa [iI (-1),iI t,iI e],ay []])):=by
 have jJ:ib o (aP ro).length =true:=by rw [dW,hr];exact ho
 have wz:ib o ro.length=true:=by rw [hr];exact ho
 have hoo:ib o (gR (jB p) 0).length =true:=by show ib o (p.bq.map iX).length =true;rw [dW];exact ho
 refine⟨[],bX ayl (az hoo ?_)⟩;rw [aOK ho,KX wz];refine ax (c:=(cW p.bq o).size != 1) (λa=>ab ?_) λa=>az jJ (az (toN_lt jJ) (ax (c:= !LQ (ij ro o) (-1) t e) (λb=>az jJ (az (toN_lt jJ) (ax (c:= !LQ (ij ro o) (-1) (-1) (-1)) (λc=>ab ?_) λc=>ab ?_))) λb=>ab ?_))
 ·unfold DB;rw [a];rfl
 ·simp only [iy]at b c;unfold DB;rw [a,b,c];rfl
 ·simp only [iy,iS]at b c;unfold DB;rw [a,b,c];rfl
 ·simp only [iS]at b;unfold DB;rw [a,b];rfl
def au8{os:cj}(hl:os.length<=mx)(ht:0<=t)(ry:∀x∈os,ib x p.bq.length=true):∀ro:List RO,ro.length=p.bq.length->R2 ro->∃x y:aE,
 bS Jb [iI t,iI e,aw (ints os),iI (ln (ints os)),iI 0,aG p,cR ro] (match tK p t e os ro with|some fj=>(1,[aG p,cR fj])|none=>(0,[aT,aG p,ay x,ay y])):=by
 have k:=fP (m:=os.length) (P:=λi=>∀ro:List RO,ro.length=p.bq.length->R2 ro->∃x y:aE,
  bS Jb [iI t,iI e,aw (ints os),iI (ln (ints os)),iI (i:Int),aG p,cR ro] (match tK p t e (os.drop i) ro with|some fj=>(1,[aG p,cR fj])|none=>(0,[aT,aG p,ay x,ay y])))
  (λro _ _=>⟨[],[],by rw [jE];exact aY aiL (au dw aD)⟩)
  λi hi ih ro hr h2=>by
   have hd:os.getD i 0=os[i]:=Ah;have ho:=ry _ (cY hi);have wz:ib os[i] ro.length=true:=by rw [hr];exact ho
   have jJ:ib os[i] (aP ro).length =true:=aeC;obtain⟨_,j⟩:=aYq (p:=p) (t:=t) (e:=e) hr ho;have C:∀r:UO,_->bS Jb [iI t,iI e,aw (ints os),iI (ln (ints os)),iI (i:Int),aG p,cR ro] r:=λr h=>by
    refine aY aiL (aV (cZ hi) (az (cw hi) ?_));rw [pO hi,hd];refine ae j ?_;exact h
   rw [jj hi];simp only [tK];cases hb:DB p t e ro os[i]with
   |false=>
    rw [hb]at C;exact⟨_,_,C _ (bm aD)⟩
   |true=>
    rw [hb]at C;have QO:(aP ro).set os[i].toNat (setAt (gA (aP ro) os[i].toNat) 0 [iI (-1),iI t,iI e])=aP (Fx t e ro os[i]):=by
     rw [KX wz];exact adN wz ⟨-1,t,e⟩
    obtain⟨x,y,hx⟩:=ih (Fx t e ro os[i]) (by rw [<-hr];simp [Fx]) (h2.set ht _);refine⟨x,y,C _ (bh (az jJ (az (toN_lt jJ) ?_)))⟩;rw [ix hi hl];rw [show cR (Fx t e ro (os[i]'hi))=ay ((aP ro).set (os[i]'hi).toNat (setAt (gA (aP ro) (os[i]'hi).toNat) 0 [iI (-1),iI t,iI e]))from GK (AV.aj abN) QO.symm]at hx;exact hx
 intro ro hr h2;have:=k ro hr h2;rw [nU]at this;exact this
end
end
end Go.Proofs.B.C
namespace Go.ah
def aeZ{p:Prop}(h:p:=by injection h with h;subst h;exact⟨rfl,hr,by simp⟩):p:=h
def aq0{p:Prop}(h:p:=by
 refine⟨by rw [i1,j1],i2,λz hz=> ?_⟩;rcases iz.1 hz with rfl|hz
 ·exact j3
 ·exact i3 z hz):p:=h
def aoY{p:Prop}(h:p:=by
 rw [g1];refine ae hx.diag ?_;exact h):p:=h
end Go.ah
namespace Go.ah
def amW:=@List.any_eq_not_all_not
end Go.ah
namespace Go.Proofs.B.C
open Go Go.ah
section
variable{y:EN}{e t:Int}{ro:List RO}
def IQ(p:PG)(t e:Int)(y:EN)(ro:List RO):Option (List RO):=bif rk p y.ins&&rk p y.outs then tK p t e (y.ins++y.outs) ro else none
def Ao(p:PG)(t:Int):Int->List EN->List RO->Option (List RO)
 |_,[],ro=>some ro
 |e,y::ys,ro=>(IQ p t e y ro).bind (Ao p t (e+1) ys)
def zj(p:PG):Int->List TK->List RO->Option (List RO)
 |_,[],ro=>some ro
 |t,x::xs,ro=>(Ao p t 0 x.aJ ro).bind (zj p (t+1) xs)
def Bn(ro:List RO)(x:Int):Bool:=LQ (ij ro x) (-1) (-1) (-1)
def PJ(p:PG)(ro:List RO):Bool:=p.bq.all λo=>o.set.all (Bn ro)
def GY(p:PG):Option (List RO):=(xg (tc p) 0 p.bW (List.replicate p.bq.length qE)).bind λr=>(zj p 0 p.tasks r).bind λr=>bif PJ p r then some r else none
def R1(ro:List RO):Prop:=∀r∈ro,r=qE∨(0<=r.nK/\r.task= -1/\r.entry= -1)
section
variable {p:PG}
def anA{q:Int}(hq:0<=q):∀{os:cj} {ro fj:List RO},uw q os ro=some fj->R1 ro->R1 fj
 | [],ro,fj,h,hr=>by injection h with h;subst h;exact hr
 |o::os,ro,fj,h,hr=>by
  simp only [uw]at h;cases hd:decide (0<=(ij ro o).nK)with
  |true=>rw [hd]at h;cases h
  |false=>
   rw [hd]at h;refine anA hq (show uw q os (Ar q ro o)=some fj from h) λr hm=> ?_;unfold Ar at hm
   by_cases ho:o.toNat<ro.length
   ·rcases ac1 hm with hm|rfl
    ·exact hr r hm
    ·have iq:ij ro o∈ro:=by
      simp only [ij,pA,c8 ho,qm];exact cY ho
     have h0:ij ro o=qE:=by
      rcases hr _ iq with h1|⟨h1,_⟩
      ·exact h1
      ·simp at hd;omega
     rw [h0];exact .inr ⟨hq,rfl,rfl⟩
   ·rw [amX (by omega)]at hm;exact hr r hm
def UD{up:Int}:∀{xs:List PR} {q:Int} {ro fj:List RO},0<=q->xg up q xs ro=some fj->R1 ro->fj.length=ro.length/\R1 fj/\∀x∈xs,pg x.nu 0 up=true
 | [],q,ro,fj,_,h,hr=>aeZ
 |x::xs,q,ro,fj,hq,h,hr=>by
  simp only [xg]at h;cases hb:pg x.nu 0 up with
  |false=>rw [hb]at h;cases h
  |true=>
   rw [hb]at h;cases hf:uw q x.nu ro with
   |none=>rw [hf]at h;cases h
   |some r1=>
    rw [hf]at h;obtain⟨i1,i2,i3⟩:=UD (by omega) (show xg up (q+1) xs r1=some fj from h) (anA hq hf hr);refine⟨by rw [i1,TJ hf],i2,λy hy=> ?_⟩;rcases iz.1 hy with rfl|hy
    ·exact hb
    ·exact i3 y hy
def aoi(ht:0<=t){fj:List RO}(h:IQ p t e y ro=some fj)(hr:R2 ro):fj.length=ro.length/\R2 fj/\rk p y.ins=true/\rk p y.outs=true:=by
 unfold IQ at h;cases h1:rk p y.ins with
 |false=>exact G1
 |true=>
  cases h2:rk p y.outs with
  |false=>rw [h1,h2]at h;cases h
  |true=>
   rw [h1,h2]at h;have:=acD ht (show tK p t e (y.ins++y.outs) ro=some fj from h) hr;exact⟨this.1,this.2,rfl,rfl⟩
def ady{t:Int}(ht:0<=t):∀{ys:List EN} {e:Int} {ro fj:List RO},Ao p t e ys ro=some fj->R2 ro->fj.length=ro.length/\R2 fj/\∀y∈ys,rk p y.ins=true/\rk p y.outs=true
 | [],e,ro,fj,h,hr=>aeZ
 |y::ys,e,ro,fj,h,hr=>by
  simp only [Ao]at h;cases hf:IQ p t e y ro with
  |none=>rw [hf]at h;cases h
  |some r1=>
   rw [hf]at h;obtain⟨j1,j2,j3⟩:=aoi ht hf hr;obtain⟨i1,i2,i3⟩:=ady ht (show Ao p t (e+1) ys r1=some fj from h) j2;exact aq0
def adi:∀{xs:List TK} {t:Int} {ro fj:List RO},0<=t->zj p t xs ro=some fj->R2 ro->fj.length=ro.length/\R2 fj/\∀x∈xs,∀y∈x.aJ,rk p y.ins=true/\rk p y.outs=true
 | [],t,ro,fj,_,h,hr=>aeZ
 |x::xs,t,ro,fj,ht,h,hr=>by
  simp only [zj]at h;cases hf:Ao p t 0 x.aJ ro with
  |none=>rw [hf]at h;cases h
  |some r1=>
   rw [hf]at h;obtain⟨j1,j2,j3⟩:=ady ht hf hr;obtain⟨i1,i2,i3⟩:=adi (by omega) (show zj p (t+1) xs r1=some fj from h) j2;exact aq0
def afk(n:Nat):R1 (List.replicate n qE):=λr hr=> .inl (Uq hr)
def R1.to(h:R1 ro):R2 ro:=λr hr=>by
 rcases h r hr with h|h
 ·exact .inl h
 ·exact .inr (.inl h)
def aJc(h:GY p=some ro):ro.length=p.bq.length/\R2 ro/\(∀x∈p.bW,pg x.nu 0 (tc p)=true)/\∀x∈p.tasks,∀y∈x.aJ,rk p y.ins=true/\rk p y.outs=true:=by
 unfold GY at h;cases h1:xg (tc p) 0 p.bW (List.replicate p.bq.length qE)with
 |none=>exact G1
 |some r1=>
  rw [h1]at h;obtain⟨i1,i2,i3⟩:=UD (by omega) h1 (afk _);cases h2:zj p 0 p.tasks r1 with
  |none=>rw [Cz,h2]at h;cases h
  |some r2=>
   rw [Cz,h2]at h;obtain⟨j1,j2,j3⟩:=adi (by omega) h2 i2.to;rw [Cz]at h;cases h3:PJ p r2 with
   |false=>rw [h3]at h;cases h
   |true=>
    rw [h3]at h;injection h with h;subst h;exact⟨by rw [j1,i1];simp,j2,i3,j3⟩
abbrev Iq(y:EN):AV:= cp [[aw (ints y.ins)],[aw (ints y.outs)]]
def aPC(hp:p.bq.length<=mx)(ht:0<=t)(hy:y.Ok)(hr:ro.length=p.bq.length)(h2:R2 ro):∃x z:aE,
 bS Gg [iI t,iI e,iI 2,iI 0,aG p,cR ro,Iq y] (match IQ p t e y ro with|some fj=>(1,[aG p,cR fj,Iq y])|none=>(0,[aT,aG p,ay x,Iq y,ay z])):=by
 have done:∀ro:List RO,bS Gg [iI t,iI e,iI 2,iI 2,aG p,cR ro,Iq y] (1,[aG p,cR ro,Iq y]):=λro=>
  aY ZC (bm aD)
 have c1:=awl (p:=p) hy.1;have c2:=awl (p:=p) hy.2;have C1:∀(ro:List RO) (r:UO),_->bS Gg [iI t,iI e,iI 2,iI 0,aG p,cR ro,Iq y] r:=λro r h=>by
  refine aY ZC (bh (az rfl (az rfl (ae c1 ?_))));exact h
 have C2:∀(ro:List RO) (r:UO),_->bS Gg [iI t,iI e,iI 2,iI 1,aG p,cR ro,Iq y] r:=λro r h=>by
  refine aY ZC (bh (az rfl (az rfl (ae c2 ?_))));exact h
 unfold IQ;cases h1:rk p y.ins with
 |false=>
  rw [h1]at C1;exact⟨_,_,C1 ro _ (bm aD)⟩
 |true=>
  rw [h1]at C1;obtain⟨l8,ry⟩:=UI hp h1;obtain⟨x,z,hx⟩:=au8 (p:=p) (e:=e) hy.1 ht ry ro hr h2;have Yf:=amB p t e y.ins y.outs ro;cases hf:tK p t e y.ins ro with
  |none=>
   rw [hf]at hx Yf;have:(bif true&&rk p y.outs then tK p t e (y.ins++y.outs) ro else none)=none:=by rw [Yf];cases rk p y.outs<;>rfl
   rw [this];exact⟨_,_,C1 ro _ (bh (ae hx.diag (bh aD)))⟩
  |some r1=>
   rw [hf]at hx Yf;obtain⟨k1,k2⟩:=acD ht hf h2;cases h3:rk p y.outs with
   |false=>
    rw [h3]at C2;exact⟨_,_,C1 ro _ (bh (ae hx.diag (bm (C2 r1 _ (bm aD)))))⟩
   |true=>
    rw [h3]at C2;obtain⟨l8',aYV⟩:=UI hp h3;obtain⟨x',z',fw⟩:=au8 (p:=p) (e:=e) hy.2 ht aYV r1 (by rw [k1,hr]) k2;have:(bif true&&true then tK p t e (y.ins++y.outs) ro else none)=tK p t e y.outs r1:=Yf;rw [this];cases hg:tK p t e y.outs r1 with
    |none=>
     rw [hg]at fw;exact⟨_,_,C1 ro _ (bh (ae hx.diag (bm (C2 r1 _ (bh (ae fw.diag (bh aD)))))))⟩
    |some r2=>
     rw [hg]at fw;exact⟨[],[],C1 ro _ (bh (ae hx.diag (bm (C2 r1 _ (bh (ae fw.diag (bm (done r2))))))))⟩
def aPD(hp:p.bq.length<=mx)(ht:0<=t){ys:List EN}(hl:ys.length<=mx)(hy:∀y∈ys,y.Ok):∀ro:List RO,ro.length=p.bq.length->R2 ro->∃x z:aE,
 bS Jp [iI t,Jz (ys.map nM),iI (ln (ys.map nM)),iI 0,aG p,cR ro] (match Ao p t 0 ys ro with|some fj=>(1,[aG p,cR fj])|none=>(0,[aT,aG p,ay x,ay z])):=by
 have k:=fP (m:=ys.length) (P:=λi=>∀ro:List RO,ro.length=p.bq.length->R2 ro->∃x z:aE,
  bS Jp [iI t,Jz (ys.map nM),iI (ln (ys.map nM)),iI (i:Int),aG p,cR ro] (match Ao p t (i:Int) (ys.drop i) ro with|some fj=>(1,[aG p,cR fj])|none=>(0,[aT,aG p,ay x,ay z])))
  (λro _ _=>⟨[],[],by rw [jE];exact aY aju (au dw aD)⟩)
  λi hi ih ro hr h2=>by
   obtain⟨x,z,hx⟩:=aPC hp (e:=(i:Int)) ht (hy _ (cY hi)) hr h2;have g1:gA (ys.map nM) ((i:Int).toNat)=nM ys[i]:=gf hi;have C:∀r:UO,_->bS Jp [iI t,Jz (ys.map nM),iI (ln (ys.map nM)),iI (i:Int),aG p,cR ro] r:=λr h=>by
    refine aY aju (aV (cZ hi) (az (cw hi) ?_));exact aoY
   rw [jj hi];simp only [Ao];cases hf:IQ p t (i:Int) ys[i] ro with
   |none=>
    rw [hf]at C;exact⟨_,_,C _ (bh aD)⟩
   |some r1=>
    rw [hf]at C;obtain⟨j1,j2,_⟩:=aoi ht hf h2;obtain⟨x',z',fw⟩:=ih r1 (by rw [j1,hr]) j2;refine⟨x',z',C _ (bm ?_)⟩;rw [ix hi hl];exact fw
 intro ro hr h2;have:=k ro hr h2;rw [nU]at this;exact this
def aQm(hp:p.Ok):∀ro:List RO,ro.length=p.bq.length->R2 ro->∃x z:aE,
 bS Jy [ng (p.tasks.map cA),iI (ln (p.tasks.map cA)),iI 0,aG p,cR ro] (match zj p 0 p.tasks ro with|some fj=>(1,[aG p,cR fj])|none=>(0,[aT,aG p,ay x,ay z])):=by
 have k:=fP (m:=p.tasks.length) (P:=λi=>∀ro:List RO,ro.length=p.bq.length->R2 ro->∃x z:aE,
  bS Jy [ng (p.tasks.map cA),iI (ln (p.tasks.map cA)),iI (i:Int),aG p,cR ro] (match zj p (i:Int) (p.tasks.drop i) ro with|some fj=>(1,[aG p,cR fj])|none=>(0,[aT,aG p,ay x,ay z])))
  (λro _ _=>⟨[],[],by rw [jE];exact aY aj2 (au dw aD)⟩)
  λi hi ih ro hr h2=>by
   have hk:=hp.task _ (cY hi);obtain⟨x,z,hx⟩:=aPD hp.bq (t:=(i:Int)) (by omega) hk.len hk.aJ ro hr h2;have g1:gR (gA (p.tasks.map cA) ((i:Int).toNat)) 1=p.tasks[i].aJ.map nM:=EG;have C:∀r:UO,_->bS Jy [ng (p.tasks.map cA),iI (ln (p.tasks.map cA)),iI (i:Int),aG p,cR ro] r:=λr h=>by
    refine aY aj2 (aV (cZ hi) (az (cw hi) ?_));exact aoY
   rw [jj hi];simp only [zj];cases hf:Ao p (i:Int) 0 p.tasks[i].aJ ro with
   |none=>
    rw [hf]at C;exact⟨_,_,C _ (bh aD)⟩
   |some r1=>
    rw [hf]at C;obtain⟨j1,j2,_⟩:=ady (by omega) hf h2;obtain⟨x',z',fw⟩:=ih r1 (by rw [j1,hr]) j2;refine⟨x',z',C _ (bm ?_)⟩;rw [ix hi hp.tasks];exact fw
 intro ro hr h2;have:=k ro hr h2;rw [nU]at this;exact this
def aQy(hr:ro.length=p.bq.length){s:cj}(hs:s.length<=mx)(ry:∀x∈s,ib x p.bq.length=true):bS MZ [aw (ints s),iI (ln (ints s)),iI 0,cR ro] (bif s.any (λx=> !Bn ro x)then(0,[aT,cR ro,ay []])else(1,[cR ro])):=by
 refine CQ (l:=s) (p:=λx=> !Bn ro x) (LF:=λi N m=>MZ (FU CX EE N) N m [aw (ints s),iI (ln (ints s)),iI (i:Int),cR ro])
  (aY ajt (au dw aD))
  λi hi r a b=>aY ajt (aV (cZ hi) (az (cw hi) ?_))
 have hd:s.getD i 0=s[i]:=Ah;have ho:=ry _ (cY hi);have wz:ib s[i] ro.length=true:=by rw [hr];exact ho
 have jJ:ib s[i] (aP ro).length =true:=aeC;rw [pO hi,hd,KX wz,ix hi hs];exact az jJ (az (toN_lt jJ) (ax (c:= !Bn ro s[i]) (λc=>ab (a c)) b))
def VV(hr:ro.length=p.bq.length)(ol:OL p.bq)(hp:p.Ok):bS Ng [dg (cg p.bq),iI (ln (cg p.bq)),iI 0,cR ro] (bif p.bq.any (λo=>o.set.any λx=> !Bn ro x)then(0,[aT,cR ro,ay []])else(1,[cR ro])):=by
 refine CQ (l:=p.bq) (p:=λo=>o.set.any λx=> !Bn ro x) (LF:=λi N m=>Ng (FU CX EE N) N m [dg (cg p.bq),iI (ln (cg p.bq)),iI (i:Int),cR ro])
  (aY aj1 (au dw aD))
  λi hi r a b=>aY aj1 (aV (cZ hi) (az (cw hi) ?_))
 have hm:=cY hi;have g1:gR (gA (cg p.bq) ((i:Int).toNat)) 4=ints p.bq[i].set :=EG;have j:=aQy (p:=p) hr (hp.obj _ hm) (ol.mX _ hm);rw [g1,ix hi hp.bq];refine ae j.diag ?_;cases hb:p.bq[i].set.any λx=> !Bn ro x with
 |true=>exact bh (ab (a hb))
 |false=>exact bm (b hb)
def aKB(ro:List RO):PJ p ro= !(p.bq.any λo=>o.set.any λx=> !Bn ro x):=by
 unfold PJ;rw [amW,Ut]
 congr 1;funext o
 rw [amW,Ut]
 congr 1;funext x
 rw [Ut]
def aNc(hp:p.Ok)(ol:OL p.bq)(h1:1<=p.bq.length):∃x:aE,Ev Tj [aG p] (0,match GY p with|some ro=>[c5,cR ro]|none=>[aT,ay x]):=by
 have rp:=aXZ h1 ol.len;have zJ:ln (gR (jB p) 0)=(p.bq.length:Int):=c9 iX p.bq;obtain⟨x1,z1,e1⟩:=aXU hp (List.replicate p.bq.length qE) (by simp);have C:∀r:UO,_->Ev Tj [aG p] r:=λr h=>by
  refine bj aIi ?_;rw [zJ];refine ae rp ?_;exact h
 unfold GY;cases hf:xg (tc p) 0 p.bW (List.replicate p.bq.length qE)with
 |none=>
  rw [hf]at e1;have j:bY SP [aG p,cR (List.replicate p.bq.length qE)] (1,[aT,aG p,ay x1,ay z1]):=
   bX ako (ae e1.diag (bh aD))
  exact⟨_,C _ (ae j (bm aD))⟩
 |some r1=>
  rw [hf]at e1;obtain⟨i1,i2,_⟩:=UD (by omega) hf (afk _);have yC:r1.length=p.bq.length:=by rw [i1];simp
  have j:bY SP [aG p,cR (List.replicate p.bq.length qE)] (0,[aG p,cR r1]):=
   bX ako (ae e1.diag (bm aD))
  obtain⟨x2,z2,e2⟩:=aQm hp r1 yC i2.to;rw [Cz];cases hg:zj p 0 p.tasks r1 with
  |none=>
   rw [hg]at e2;have j2:bY SN [aG p,cR r1] (1,[aT,aG p,ay x2,ay z2]):=
    bX akn (ae e2.diag (bh aD))
   exact⟨_,C _ (ae j (bh (ae j2 (bm aD))))⟩
  |some r2=>
   rw [hg]at e2;obtain⟨j1',j2',_⟩:=adi (by omega) hg i2.to;have j2:bY SN [aG p,cR r1] (0,[aG p,cR r2]):=
    bX akn (ae e2.diag (bm aD))
   have e3:=VV (by rw [j1',yC]) ol hp (ro:=r2);rw [Cz,aKB];cases hs:p.bq.any λo=>o.set.any λx=> !Bn r2 x with
   |true=>
    rw [hs]at e3;exact⟨_,C _ (ae j (bh (ae j2 (bh (ae e3.diag (bh aD))))))⟩
   |false=>
    rw [hs]at e3;exact⟨[],C _ (ae j (bh (ae j2 (bh (ae e3.diag (bm aD))))))⟩
end
end
section
variable {p:PG}
def anQ{ro:List RO}:∀{xs:List TK} {t:Int},(∀x∈xs,x.aJ=[])->zj p t xs ro=some ro
 | [],_,_=>rfl
 |x::xs,t,h=>by
  simp only [zj,h x (ji ..),Ao];exact anQ λy hy=>h y (jV _ hy)
def aXX(h2:p.bq.length<=2048):bY abv [aG p,sN []] (0,[aG p,rR (List.replicate p.bq.length qE)]):=by
 have k:=fP (m:=p.bq.length) (P:=λi=>bS SW [iI (i:Int),aG p,rR (List.replicate i qE)] (0,[aG p,rR (List.replicate p.bq.length qE)]))
  (aY akz (au (dw (f:=iX) (l:=p.bq)) aD))
  λi hi ih=>by
   refine aY akz (aV (cZ (f:=iX) hi) (az ?_ ?_))
   ·rw [dW,GU];simp;omega
   ·rw [ix hi (G9)];have e:rR (List.replicate (i+1) qE)=sN (aP (List.replicate i qE)++[Fg]):=by
     show sN ((List.replicate (i+1) qE).map rj)=_;rw [List.replicate_succ',sR];rfl
    rw [e]at ih;exact ih
 exact bX aGx (ae (E.diag k) aD)
def aNb(hp:p.Ok)(ol:OL p.bq)(ne:NE p){ro:List RO}(h:GY p=some ro):Ev acf [aG p] (0,[c5,rR ro]):=by
 unfold GY at h;cases hf:xg (tc p) 0 p.bW (List.replicate p.bq.length qE)with
 |none=>rw [hf]at h;cases h
 |some r1=>
  rw [hf,Cz,anQ ne,Cz]at h;cases hs:PJ p r1<;>rw [hs]at h
  ·exact aM
  have h:some r1=some ro:=h;injection h with h;subst h;have e1:=aXT hp (List.replicate p.bq.length qE) (by simp) hf;have yC:r1.length=p.bq.length:=by rw [(UD (by omega) hf (afk _)).1];simp
  have e2:=fP (m:=p.tasks.length) (P:=λi=>bS SI [iI (i:Int),aG p,rR r1] (1,[aG p,rR r1]))
   (aY akb (au (dw (f:=cA) (l:=p.tasks)) aD))
   λi hi ih=>by
    have hg:gR (gA (gR (jB p) 2) ((i:Int).toNat)) 1=[]:=by
     show gR (gA (p.tasks.map cA) ((i:Int).toNat)) 1=_;rw [gf hi];show p.tasks[i].aJ.map nM=[];rw [ne _ (cY hi)];rfl
    have j:bS Sn [iI (i:Int),iI 0,aG p,rR r1] (1,[aG p,rR r1]):=by
     refine aY aDc (az (cw (f:=cA) hi) ?_);rw [hg];exact rI
    refine aY akb (aV (cZ (f:=cA) hi) (ae j.diag (bm ?_)));rw [ix hi hp.tasks];exact ih
  have e3:=fP (m:=p.bq.length) (P:=λi=>bS SH [iI (i:Int),aG p,rR r1] (1,[aG p,rR r1]))
   (aY aka (au (dw (f:=iX) (l:=p.bq)) aD))
   λi hi ih=>by
    have hm:=cY hi;have rB:=mP.1 (mP.1 hs _ hm);have X6:p.bq[i].set.length <=mx:=hp.obj _ hm;have ry:=ol.mX _ hm;have tp:ib (i:Int) (gR (jB p) 0).length =true:=cw (f:=iX) hi;have hg:gR (gA (gR (jB p) 0) ((i:Int).toNat)) 4=ints p.bq[i].set :=by
     show gR (gA (cg p.bq) ((i:Int).toNat)) 4=_;exact EG
    have j:bS M6 [iI (i:Int),iI 0,aG p,rR r1] (1,[aG p,rR r1]):=by
     generalize p.bq[i].set =s at hg rB X6 ry;exact fP (m:=s.length) (P:=λk=>bS M6 [iI (i:Int),iI (k:Int),aG p,rR r1] (1,[aG p,rR r1]))
      (aY ajB (az tp (by rw [hg];exact au dw aD)))
      λk hk ih=>aY ajB (az tp (by
       have hd:s.getD k 0=s[k]:=by rw [pA,c8 hk];rfl
       have wz:ib s[k] r1.length=true:=by rw [yC];exact ry _ (cY hk)
       have jJ:ib s[k] (aP r1).length =true:=aeC;have hf:=rB _ (cY hk);simp only [Bn,LQ,bA,iA]at hf;rw [hg,pO hk,hd,KX wz,ix hk X6];exact aV (cZ hk) (az tp (az (cw hk) (az jJ (az (toN_lt jJ) (au (c:=decide (0<=(ij r1 s[k]).nK)) (eE) (az jJ (az (toN_lt jJ) (au (c:=decide (0<=(ij r1 s[k]).task)) (eE) ih))))))))))
    refine aY aka (aV (cZ (f:=iX) hi) (ae j.diag (bm ?_)));rw [ix hi hp.bq];exact ih
  exact bj aIR (ae (aXX (p:=p) ol.len) (ae (bX aGw (ae e1.diag (bm aD))) (bh (ae (bX aGv (ae e2.diag (bm aD))) (bh (ae e3.diag (bm aD)))))))
end
end Go.Proofs.B.C
namespace Go.ah
def aq6{p:Prop}(h:p:=by rw [kZ];exact ae this.diag (ab (by show(0,[aa (aF fC 0 (encS s)),_])=_;rw [kZ];rfl))):p:=h
def aeT{p:Prop}(h:p:=by cases aX with|mk _ _ _ _ _ _ _ _ h=>exact h):p:=h
def apO{p:Prop}(h:p:=by have:=hb t;rw [Un e2 t]at this;exact this):p:=h
end Go.ah
namespace Go.ah
def Up:=@List.getElem_map
def Om:=@List.ext_getElem
def Un:=@congrFun
end Go.ah
namespace Go.Proofs.B.C
open Go Go.ah
section
variable{t:Int}{c:Int->Nat}{pre:List CS}{n:Nat}
theorem aZv(s:CS):gR (encS s) 17=s.L.map encS:=uv
theorem awa(s:CS):gR (encS s) 18=s.D.map eu:=uv
theorem av9(s:CS):gR (encS s) 19=s.H.map dj:=uv
theorem awb(s:CS):gR (encS s) 20=s.A.map fa:=uv
theorem aZu(s:CS):gR (encS s) 16=ints s.f.Ts:=uv
theorem aZt(s:CS):gI (encS s) 0=s.f.kind:=uv
abbrev aS(s:CS):AV:= aa (encS s)
abbrev iH(l:List CS):AV:= dv (l.map encS)
abbrev dK(D:List CD):List CS:=D.flatMap λd=>[d.d,d.u]
abbrev aK(A:List CA):List CS:=A.flatMap λa=>[a.body,a.after]
section
variable {s:CS} (aX:s.Ok)
include aX in
theorem aYN:bY abk [aS s,dv []] (0,[aS s,iH (dK s.D)]):=by
 cases aX with|mk _ hf hL hD hH hA h1 h2 hk=>
 have k:=fP (m:=s.D.length) (P:=λi=>∀acc:List CS,acc.length<=2*i->bS SK [iI (i:Int),aS s,iH acc] (0,[aS s,iH (acc++dK (s.D.drop i))]))
  (λacc _=>by
    rw [jE];refine aY akh ?_;rw [awa,kZ];exact au dw (ab (by simp)))
  λi hi ih acc ha=>by
   have gd:aF fC 0 (gA (s.D.map eu) ((i:Int).toNat))=encS s.D[i].d :=Ve;have gu:aF fC 21 (gA (s.D.map eu) ((i:Int).toNat))=encS s.D[i].u :=Vd;have he:iH (acc++[s.D[i].d,s.D[i].u])= dv (acc.map encS++[encS s.D[i].d,encS s.D[i].u]):=by
    show dv ((acc++[s.D[i].d,s.D[i].u]).map encS)=_;rw [sR];rfl
   have e2:acc++dK (s.D.drop i)=(acc++[s.D[i].d,s.D[i].u])++dK (s.D.drop (i+1)):=by
    rw [jj hi];simp only [dK,lz,pN]
   refine aY akh ?_;rw [awa,kZ,gd,gu];refine aV (cZ hi) (az (cw hi) (az (cw hi) (az ?_ ?_)))
   ·rw [dW];simp only [mx]at hD;simp;omega
   ·rw [ix hi hD,e2];have:=ih (acc++[s.D[i].d,s.D[i].u]) (eE);rw [he]at this;exact iK
 have:=k [] (by simp);exact bX aFA (aq6)
include aX in
theorem aYM(hp:pre.length<=4000000):bY SL [aS s,iH pre] (0,[aS s,iH (pre++s.H.map CH.body)]):=by
 cases aX with|mk _ hf hL hD hH hA h1 h2 hk=>
 have k:=fP (m:=s.H.length) (P:=λi=>∀acc:List CS,acc.length<=4000000+i->bS Sz [iI (i:Int),aS s,iH acc] (0,[aS s,iH (acc++(s.H.drop i).map CH.body)]))
  (λacc _=>by
    rw [jE];refine aY ajZ ?_;rw [av9,kZ];exact au dw (ab (by simp)))
  λi hi ih acc ha=>by
   have gd:aF fC 1 (gA (s.H.map dj) ((i:Int).toNat))=encS s.H[i].body :=aej;have he:iH (acc++[s.H[i].body])= dv (acc.map encS++[encS s.H[i].body]):=by
    show dv ((acc++[s.H[i].body]).map encS)=_;rw [sR];rfl
   have e2:acc++(s.H.drop i).map CH.body=(acc++[s.H[i].body])++(s.H.drop (i+1)).map CH.body:=by
    rw [jj hi,my,pN];rfl
   refine aY ajZ ?_;rw [av9,kZ,gd];refine aV (cZ hi) (az (cw hi) (az ?_ ?_))
   ·rw [dW];simp only [mx]at hH;simp;omega
   ·rw [ix hi hH,e2];have:=ih (acc++[s.H[i].body]) (eE);rw [he]at this;exact iK
 have:=k pre (by omega);exact bX aFz (aq6)
include aX in
theorem aYP(hp:pre.length<=8000000):bS Gq [iI 0,aS s,iH pre] (0,[aS s,iH (pre++aK s.A)]):=by
 cases aX with|mk _ hf hL hD hH hA h1 h2 hk=>
 have k:=fP (m:=s.A.length) (P:=λi=>∀acc:List CS,acc.length<=8000000+2*i->bS Gq [iI (i:Int),aS s,iH acc] (0,[aS s,iH (acc++aK (s.A.drop i))]))
  (λacc _=>by
    rw [jE];refine aY ajY ?_;rw [awb,kZ];exact au dw (ab (by simp)))
  λi hi ih acc ha=>by
   have gd:aF fC 12 (gA (s.A.map fa) ((i:Int).toNat))=encS s.A[i].body :=aek;have gu:aF fC 33 (gA (s.A.map fa) ((i:Int).toNat))=encS s.A[i].after :=ael;have he:iH (acc++[s.A[i].body,s.A[i].after])= dv (acc.map encS++[encS s.A[i].body,encS s.A[i].after]):=by
    show dv ((acc++[s.A[i].body,s.A[i].after]).map encS)=_;rw [sR];rfl
   have e2:acc++aK (s.A.drop i)=(acc++[s.A[i].body,s.A[i].after])++aK (s.A.drop (i+1)):=by
    rw [jj hi];simp only [aK,lz,pN]
   refine aY ajY ?_;rw [awb,kZ,gd,gu];refine aV (cZ hi) (az (cw hi) (az (cw hi) (az ?_ ?_)))
   ·rw [dW];simp only [mx]at hA;simp;omega
   ·rw [ix hi hA,e2];have:=ih (acc++[s.A[i].body,s.A[i].after]) (eE);rw [he]at this;exact iK
 exact k pre (by omega)
theorem aru(D:List CD):(dK D).length =2*D.length:=aq2
theorem aN5(D:List CA):(aK D).length =2*D.length:=by
 induction D with
 |nil=>rfl
 |cons d D ih=>simp only [aK,lz,fI,mh,tG]at ih⊢;omega
include aX in
theorem Ud:s.kids.length<=8000000:=by
 cases aX with|mk _ hf hL hD hH hA h1 h2 hk=>
 have a:=aru s.D;have b:=aN5 s.A;simp only [dK,aK]at a b;simp only [CS.kids,fI,dW];simp only [mx]at hL hD hH hA;omega
include aX in
theorem ag8:Ev NL [aS s] (0,[iH s.kids]):=by
 have hk:=Ud aX;have hd:=aYN aX;obtain⟨hL,hD,hH⟩:s.L.length<=mx/\s.D.length<=mx/\s.H.length<=mx:=by cases aX with|mk _ hf hL hD hH hA h1 h2 hk=>exact⟨hL,hD,hH⟩
 have a:=aru s.D;simp only [mx]at hL hD hH;have hh:=aYM aX (pre:=dK s.D++s.L) (aer);have ha:=aYP aX (pre:=(dK s.D++s.L)++s.H.map CH.body) (by rw [fI,fI,dW];omega);have e1:iH (dK s.D++s.L)= dv ((dK s.D).map encS++s.L.map encS):=by
  show dv ((dK s.D++s.L).map encS)=_;rw [sR]
 refine bj aIg ?_;rw [kZ];refine ae hd ?_;show E (λN _=>a8 (decide ((((dK s.D).map encS).length +(gR (encS s) 17).length)*272<=140737488355328))<|bO (SL (FU CX EE N) N [aa (aF fC 0 (encS s)),dv ((dK s.D).map encS++(gR (encS s) 17))]) λ_ o4=>bO (Gq (FU CX EE N) N N [iI 0,aa (aF fC 0 (gC o4 0)),dv (gR o4 1)]) λ_ o5=>some (0,[dv (gR o5 1)])) _;rw [aZv,kZ,<-e1];refine az (by rw [dW,dW,a];simp;omega) (ae hh ?_);show E (λN _=>bO (Gq (FU CX EE N) N N [iI 0,aa (aF fC 0 (encS s)),iH ((dK s.D++s.L)++s.H.map CH.body)]) λ_ o5=>some (0,[dv (gR o5 1)])) _;rw [kZ];refine ae ha.diag (ab ?_);show(0,[iH (((dK s.D++s.L)++s.H.map CH.body)++aK s.A)])=_;simp only [CS.kids,pN]
end
theorem TB(a b:List CS)(t:Int):ml (a++b) t=ml a t+ml b t:=by
 induction a with
 |nil=>simp [ml]
 |cons x a ih=>simp only [pM,ml,ih];omega
theorem aNm(D:List CD)(t:Int):ml (dK D) t=y8 D t:=by
 induction D with
 |nil=>rfl
 |cons d D ih=>simp only [dK,lz,TB]at ih⊢;simp only [ml,y8,an0,ih];omega
theorem aNn(A:List CA)(t:Int):ml (aK A) t=ER A t:=by
 induction A with
 |nil=>rfl
 |cons d D ih=>simp only [aK,lz,TB]at ih⊢;simp only [ml,ER,aMc,ih];omega
theorem aOG(H:List CH)(t:Int):ml (H.map CH.body) t=y7 H t:=by
 induction H with
 |nil=>rfl
 |cons d D ih=>simp only [my,ml,y7,anZ,ih]
theorem aKN(s:CS)(t:Int):oH s t=(if s.f.kind=9 then s.f.Ts.count t else 0)+ml s.kids t:=by
 rw [anY];simp only [CS.kids,TB,aOG];have a:=aNm s.D t;have b:=aNn s.A t;simp only [dK,aK]at a b;rw [a,b]
def cl(n:Nat)(c:Int->Nat):cj:=(List.range n).map λt:Nat=>(c (t:Int):Int)
theorem EL(n:Nat)(c:Int->Nat):(cl n c).length =n:=by simp [cl]
theorem af5(h:ib t n=true):(cl n c).getD t.toNat 0=(c t:Int):=by
 have:=mR.1 h;have h2:t.toNat<n:=by omega
 rw [pA,c8 (by rw [EL];exact h2)];simp only [cl,Up,On,qm];rw [Int.toNat_of_nonneg this.1]
theorem aN0(h:ib t n=true):(cl n c).set t.toNat ((c t:Int)+1)=cl n λx=>c x+if t=x then 1 else 0:=by
 have ht:=mR.1 h;apply Om
 ·simp [cl]
 ·intro i h1 h2;rw [List.getElem_set];simp only [cl,Up,On]
  by_cases he:t.toNat=i
  ·rw [if_pos he];have:t=(i:Int):=by omega
   rw [<-this,if_pos rfl];omega
  ·rw [if_neg he,if_neg (by omega)];omega
theorem aQB{s:CS}(hT:s.f.Ts.length<=mx)(hr:∀t∈s.f.Ts,ib t n=true)(hb:∀t,c t+s.f.Ts.count t<=100000):
 bS MS [iI 0,aw (ints (cl n c)),aS s] (0,[aw (ints (cl n λt=>c t+s.f.Ts.count t)),aS s]):=by
 have hg:=aZu s;generalize s.f.Ts=Ts at hT hr hb hg⊢;have k:=fP (m:=Ts.length) (P:=λi=>∀c:Int->Nat,(∀t,c t+(Ts.drop i).count t<=100000)->bS MS [iI (i:Int),aw (ints (cl n c)),aS s] (0,[aw (ints (cl n λt=>c t+(Ts.drop i).count t)),aS s]))
  (λc _=>by
    rw [jE];refine aY ajg ?_;rw [hg,kZ];refine au dw (ab ?_);have:(λt=>c t+List.count t ([]:cj))=c:=by funext t;simp
    rw [this])
  λi hi ih c hb=>by
   have hd:Ts.getD i 0=Ts[i]:=Ah;have ho:=hr _ (cY hi);have jJ:ib Ts[i] (ints (cl n c)).length =true:=by rw [dW,EL];exact ho
   have hbi:=hb Ts[i];have hgc:gA (ints (cl n c)) Ts[i].toNat =[iI (c Ts[i]:Int)]:=by
    have h2:Ts[i].toNat <(cl n c).length :=by have:=mR.1 ho;rw [EL];omega
    have h3:=af5 (c:=c) ho;rw [pA,c8 h2]at h3;rw [wR h2];show [iI (cl n c)[Ts[i].toNat]]=_;rw [show(cl n c)[Ts[i].toNat]=(c Ts[i]:Int)from h3]
   have ahc:(ints (cl n c)).set Ts[i].toNat [iI ((c Ts[i]:Int)+1)]=ints (cl n λx=>c x+if Ts[i]=x then 1 else 0):=by
    rw [<-aN0 ho];show((cl n c).map _).set _ _=((cl n c).set _ _).map _;rw [Ol]
   have e2:(λt=>c t+(Ts.drop i).count t)=λt=>(c t+if Ts[i]=t then 1 else 0)+(Ts.drop (i+1)).count t:=by
    funext t
    rw [jj hi,Uo]
    by_cases he:Ts[i]=t
    ·simp [he];omega
    ·simp [he]
   refine aY ajg ?_;rw [hg,kZ,pO hi,hd,hgc];refine aV (cZ hi) (az (cw hi) (az jJ (az (toN_lt jJ) (az jJ (az (toN_lt jJ) ?_)))));rw [ix hi hT,e2];have:=ih (λt=>c t+if Ts[i]=t then 1 else 0) (λt=>apO);have hw:aU (gI [iI (c Ts[i]:Int)] 0+1)=(c Ts[i]:Int)+1:=by
    show aU ((c Ts[i]:Int)+1)=_;rw [mi (by omega) (by omega)]
   rw [<-ahc]at this;rw [hw];exact iK
 have:=k c (G6);rw [nU]at this;exact this
theorem aQA:∀s:CS,s.Ok->∀c:Int->Nat,(∀t,oH s t≠0->ib t n=true)->(∀t,c t+oH s t<=100000)->
 Ev SA [aS s,aw (ints (cl n c))] (0,[aw (ints (cl n λt=>c t+oH s t))]):=by
 refine CS.ind λs ih aX c hr hb=> ?_;have tP:∀y∈s.kids,y.Ok:=aeT;have hT:s.f.Ts.length<=mx:=by cases aX with|mk _ h=>exact h.Ts
 have QY:=aKN s
 let c1:Int->Nat:=λt=>c t+if s.f.kind=9 then s.f.Ts.count t else 0
 have Iv:bY aar [aw (ints (cl n c)),aS s] (0,[aw (ints (cl n c1)),aS s]):=by
  refine bX aCj ?_;rw [aZt,kZ];refine ax (c:=s.f.kind==9) (λh=> ?_) λh=>ab ?_
  ·have hk:s.f.kind=9:=eq_of_beq h;have e:c1=λt=>c t+s.f.Ts.count t:=by funext t;simp only [c1];rw [if_pos hk]
   rw [e];refine ae (aQB hT (λt ht=>hr t ?_) λt=> ?_).diag (ab ?_)
   ·rw [QY,if_pos hk];have:=adE.2 ht;omega
   ·have:=hb t;rw [QY,if_pos hk]at this;omega
   ·show(0,[_,aa (aF fC 0 (encS s))])=_;rw [kZ];rfl
  ·have hk:¬s.f.kind=9:=by simpa using h
   have e:c1=c:=by funext t;simp only [c1];rw [if_neg hk];rfl
   rw [e]
 have kl:=Ud aX;have k:=fP (m:=s.kids.length) (P:=λi=>∀c:Int->Nat,(∀t,c t+ml (s.kids.drop i) t<=100000)->bS Sk [iI (i:Int),aw (ints (cl n c)),iH s.kids] (0,[aw (ints (cl n λt=>c t+ml (s.kids.drop i) t)),iH s.kids]))
  (λc _=>by
    rw [jE];refine aY ajr (au dw (ab ?_));have:(λt=>c t+ml [] t)=c:=by funext t;simp [ml]
    rw [this])
  λi hi gN c im=>by
   have hm:=cY hi;have gs:aF fC 0 (gA (s.kids.map encS) ((i:Int).toNat))=encS s.kids[i]:=Kz;have e2:(λt=>c t+ml (s.kids.drop i) t)=λt=>(c t+oH s.kids[i] t)+ml (s.kids.drop (i+1)) t:=by
    funext t;rw [jj hi];simp only [ml];omega
   have hle:∀t,oH s.kids[i] t<=ml s.kids t:=λt=>by
    have:s.kids=s.kids.take i++s.kids.drop i:=(Oj i s.kids).symm;have h2:ml s.kids t=ml (s.kids.take i) t+ml (s.kids.drop i) t:=by
     rw [<-TB,Oj]
    rw [h2,jj hi];simp only [ml];omega
   have j:=ih s.kids[i] hm (tP _ hm) c (λt ht=>hr t (by rw [QY];have:=hle t;omega)) (λt=>by have:=im t;rw [Un e2 t]at this;omega);refine aY ajr (aV (cZ hi) (az (cw hi) (az (toN_lt (cw hi)) ?_)));rw [gs,J8 (by omega)];refine ae j ?_;rw [e2];exact gN (λt=>c t+oH s.kids[i] t) (λt=>by have:=im t;rw [Un e2 t]at this;exact this)
 refine bj aFE ?_;rw [kZ];refine ae (ag8 aX) (ae Iv ?_);have k0:=k c1 (λt=>by have:=hb t;rw [QY]at this;rw [nU];simp only [c1];omega);rw [nU]at k0;refine ae k0.diag (ab ?_);have:(λt=>c1 t+ml s.kids t)=λt=>c t+oH s t:=by funext t;rw [QY];simp only [c1];omega
 rw [this];rfl
end
end Go.Proofs.B.C

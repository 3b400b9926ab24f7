/-
  The engine, part Ad: closed runs: calls, loops and ranges all run in place.
-/
import Derived.Test.YtomkobcipaligaaGreatDoorW1
import Derived.LoopNIn
import Derived.RangeFuncLeaves
import Derived.RangeFuncNested
import Derived.ProofKit
import Derived.OpenShut
import Derived.Carry
import Derived.ChangeArms
set_option linter.all false
set_option linter.deprecated false
set_option maxHeartbeats 4000000
namespace Go.aA
def Av{p:Prop}(h:p:=by exact⟨y,h,λM' _ k'=>by unfold pz;simp only [ho];exact hd _ _⟩):p:=h
def amg{p:Prop}(h:p:=by
 rename_i hb;replace h:=dq h;obtain⟨e,h⟩:=h;split at h
 ·rename_i h1;exact⟨_,h,λM' hM R' k'=>by have hm:=hM id (by simp [wR]);simp only [fb,vr,hm,hb,h1,e,aR]⟩
 ·rename_i h1;replace h:=dq h;obtain⟨e2,h⟩:=h;exact⟨_,h,λM' hM R' k'=>by have hm:=hM id (by simp [wR]);simp only [fb,vr,hm,hb,h1,e,e2,aR]⟩):p:=h
def aal{p:Prop}(h:p:=by
 rename_i hb;replace h:=dq h;obtain⟨e2,h⟩:=h;exact⟨_,h,λM' hM R' k'=>by have hm:=hM id (by simp [mI]);simp only [fb,yb,h1,h2,hm,hb,e,e2,aR]⟩):p:=h
def Rg{p:Prop}(h:p:=by
 rename_i h1 h2;exact⟨_,h,λM' _ R' k'=>by simp only [xg,h1,h2]⟩):p:=h
def alI{p:Prop}(h:p:=by
 obtain⟨y,h,hd⟩:=XO h;exact⟨y,h,λM' hM R' k'=>by unfold yk;have hm:=hM id (by simp [C8]);simp only [fb,h1,h2,h3,h4,hm,hb,h5,h6,h7,aR];exact hd R' k'⟩):p:=h
def akZ{p:Prop}(h:p:=by
 rename_i hc;simp only [hc]at h;obtain⟨y,h,hd⟩:=aD8 _ _ h;exact⟨y,h,λM' _ k'=>by unfold pz;simp only [ho,hc];exact hd _ _⟩):p:=h
def ZO{p:Prop}(h:p:=by exact⟨y,h,λM' hM k'=>by unfold pz;simp only [ho];exact hd M' hM _ _⟩):p:=h
def akR{p:Prop}(h:p:=by
 replace h:=dq h;obtain⟨e2,h⟩:=h;exact⟨_,h,λM' _ R' k'=>by simp only [fb,yb,h1,h2,e,e2,aR]⟩):p:=h
def CP{p:Prop}(h:p:=by exact⟨_,h,λR' k'=>rfl⟩):p:=h
def akO{p:Prop}(h:p:=by
 rename_i z hz;injection h with h;injection h with h3 h4;subst h3;subst h4;exact⟨rfl,λM2=>by simp only [hz]⟩):p:=h
def pn{p:Prop}(h:p:=by cases hq):p:=h
def akm{p:Prop}(h:p:=by
 rename_i h1 h2;obtain⟨b,h,hd⟩:=aDc h;exact⟨_,h,λR' k'=>hd _ _⟩):p:=h
def ajW{p:Prop}(h:p:=by
 rename_i cs h3;exact⟨_,h,λR' k'=>by simp only [h1,h2,h3,e1,aR]⟩):p:=h
def ajS{p:Prop}(h:p:=by exact⟨_,h,λM' _ R' k'=>by simp only [fb,yb,h1,h2,e,aR]⟩):p:=h
def Zw{p:Prop}(h:p:=by unfold pz;simp only [ho]):p:=h
def aju{p:Prop}(h:p:=by
 rename_i h1 h2;exact⟨_,h,λR' k'=>by simp only [h1,h2]⟩):p:=h
def ajd{p:Prop}(h:p:=by exact⟨_,h,λM' _ k'=>by unfold pz;simp only [ho,hc]⟩):p:=h
def aiK{p:Prop}(h:p:=by exact⟨_,h,λR' k'=>by simp only [h1,h2,h3,e,aR]⟩):p:=h
end Go.aA
namespace Go.aA
open Go
noncomputable section
variable {X:Cx} {R R':Type} {M M':aV}
variable{i x:AV}{k:AV->Option R}{ps:Array (Nat×Operand)}{ok:Bool}{n:Nat}{o:Oper}{e:Operand->AV}{hi lo:Option AV}{r:R}{T:iw R}{T':iw R'}{t:TypeId}{ids:dP}
def xQ(f:(R:Type)->(AV->Option R)->Option R):Prop:=∀{R:Type} {k:AV->Option R} {r:R},f R k=some r->∃y,k y=some r∧∀(R':Type) (k':AV->Option R'),f R' k'=k' y
def aDc{k:Bool->Option R}(h:Ax x k=some r):∃b,k b=some r∧∀(R':Type) (k':Bool->Option R'),Ax x k'=k' b:=by
 unfold Ax at h;split at h
 ·exact CP
 ·exact CP
 ·split at h
  ·exact aX
  ·rename_i he;exact⟨_,h,λR' k'=>by simp only [Ax,he]⟩
 ·exact aX
def aD9(op:BinOp)(t:TypeId)(x y:AV):xQ λ_ k=>KB X op t x y k:=by
 intro R k r h;simp only [KB]at h⊢;split at h
 ·rename_i kx a ky b;cases op<;>simp only at h⊢<;>first
   |(replace h:=dq h;obtain⟨e,h⟩:=h
     first
      |(exact⟨_,h,λR' k'=>by simp only [e,aR]⟩)
      |(replace h:=dq h;obtain⟨e2,h⟩:=h
        exact⟨_,h,λR' k'=>by simp only [e,e2,aR]⟩)
      |(cases h))
   |cases h
 ·rename_i a b;split at h
  ·exact aju
  ·exact aju
  ·exact aX
 ·rename_i xs ys;split at h
  ·rename_i fs h1 h2 h3;split at h
   ·exact aX
   ·rename_i bb Tt;split at h
    ·exact⟨_,h,λR' k'=>by simp only [h1,h2,h3,Tt]⟩
    ·exact⟨_,h,λR' k'=>by simp only [h1,h2,h3,Tt]⟩
    ·exact aX
  ·exact aX
 ·split at h
  ·exact akm
  ·exact akm
  ·exact aX
 ·exact aX
def aE3(op:UnOp)(x:AV):xQ λ_ k=>SG op x k:=by
 intro R k r h;simp only [SG]at h⊢;split at h
 ·exact CP
 ·exact CP
 ·exact aX
def aDd(s d:TypeId)(x:AV):xQ λ_ k=>Q2 X s d x k:=by
 intro R k r h;simp only [Q2]at h⊢;split at h
 ·rename_i h1 h2 h3;exact⟨_,h,λR' k'=>by simp only [h1,h2,h3]⟩
 ·exact aX
def aD7(x:AV):xQ λ_ k=>OT x k:=by
 intro R k r h;simp only [OT]at h⊢;split at h
 ·exact CP
 ·exact CP
 ·exact CP
 ·exact aX
def azy(t:TypeId)(x:AV)(f:Nat):xQ λ_ k=>Jb X t x f k:=by
 intro R k r h;simp only [Jb]at h⊢;split at h
 ·rename_i fs h1 h2;split at h
  ·rename_i off ft h3;replace h:=dq h;obtain⟨e,h⟩:=h;split at h
   ·exact aiK
   ·exact aiK
   ·exact aX
  ·exact aX
 ·exact aX
def ahE(t:TypeId)(cs:bl)(off:Nat):xQ λ_ k=>Gj X t cs off k:=by
 intro R k r h;simp only [Gj]at h⊢;replace h:=dq h;obtain⟨e,h⟩:=h;split at h
 ·rename_i h1;exact⟨_,h,λR' k'=>by simp only [h1,e,aR]⟩
 ·rename_i h1;replace h:=dq h;obtain⟨e2,h⟩:=h;exact⟨_,h,λR' k'=>by simp only [h1,e,e2,aR]⟩
def aB5(t:TypeId)(x:AV)(f:Nat):xQ λ_ k=>JK X t x f k:=by
 intro R k r h;simp only [JK]at h⊢;split at h
 ·rename_i fs cs h1 h2;split at h
  ·rename_i off ft h3;obtain⟨y,h,hd⟩:=ahE _ _ _ h;exact⟨y,h,λR' k'=>hd R' k'⟩
  ·exact aX
 ·exact aX
def aB4(t:TypeId)(x i:AV):xQ λ_ k=>JJ X t x i k:=by
 intro R k r h;simp only [JJ]at h⊢;split at h
 ·rename_i len e cs kk n h1 h2;replace h:=dq h;obtain⟨e1,h⟩:=h;obtain⟨y,h,hd⟩:=ahE _ _ _ h;exact⟨y,h,λR' k'=>by simp only [h1,h2,e1,aR];exact hd R' k'⟩
 ·rename_i h1 h2;replace h:=dq h;obtain⟨e1,h⟩:=h;split at h
  ·exact aX
  ·rename_i b hb;exact⟨_,h,λR' k'=>by simp only [h1,h2,e1,hb,aR]⟩
 ·exact aX
def aB6(t:TypeId)(ps:cY):xQ λ_ k=>JL X t ps k:=by
 intro R k r h;simp only [JL]at h⊢;split at h
 ·rename_i fs h1 h2;replace h:=dq h;obtain⟨e1,h⟩:=h;split at h
  ·exact ajW
  ·exact aX
 ·rename_i n e h1 h2;replace h:=dq h;obtain⟨e1,h⟩:=h;split at h
  ·exact ajW
  ·exact aX
 ·exact aX
def aD8(f:Int->Int->Int)(xs:bl):xQ λ_ k=>Ay f xs k:=by
 intro R k r h;simp only [Ay]at h⊢;split at h
 ·split at h
  ·rename_i h1;exact⟨_,h,λR' k'=>by simp only [h1]⟩
  ·exact aX
 ·exact aX
def aCJ{p:AV}(h:vr X t p M k=some r):∃y,k y=some r∧∀(M':aV),(∀id∈wR p,M'[id]?=M[id]?)->∀(R':Type) (k':AV->Option R'),vr X t p M' k'=k' y:=by
 unfold vr at h;simp only [fb]at h;split at h
 ·replace h:=dq h;obtain⟨e,h⟩:=h;split at h
  ·rename_i h1;exact⟨_,h,λM' _ R' k'=>by simp only [fb,vr,h1,e,aR]⟩
  ·rename_i h1;replace h:=dq h;obtain⟨e2,h⟩:=h;exact⟨_,h,λM' _ R' k'=>by simp only [fb,vr,h1,e,e2,aR]⟩
 ·rename_i id i off;split at h
  ·exact amg
  ·exact amg
  ·exact aX
 ·exact aX
def ay9(h:yb X t x i M k=some r):∃y,k y=some r∧∀(M':aV),(∀id∈mI x,M'[id]?=M[id]?)->∀(R':Type) (k':AV->Option R'),yb X t x i M' k'=k' y:=by
 unfold yb at h;simp only [fb]at h;split at h
 ·split at h
  ·rename_i h1 h2;replace h:=dq h;obtain⟨e,h⟩:=h;split at h
   ·exact akR
   ·rename_i id;split at h
    ·exact aal
    ·exact aal
    ·exact aX
   ·exact akR
   ·rename_i id lo m;split at h
    ·exact aal
    ·exact aX
   ·exact aX
  ·rename_i h1 h2;replace h:=dq h;obtain⟨e,h⟩:=h;split at h
   ·exact ajS
   ·exact ajS
   ·exact aX
  ·exact aX
 ·exact aX
def afi(h:∀id∈mI x,M'[id]?=M[id]?):rowsOf M' x=rowsOf M x:=by
 cases x<;>simp only [fb,rowsOf]
 ·rename_i id;rw [h id (by simp [mI])]
 ·rename_i id lo m;rw [h id (by simp [mI])]
def aAM{e:TypeId}(h1:(X.ti t).ok =true)(h2:(X.ti t).u = .slice e)(hx:∀id m,x≠ .lz id m)(HB:∀id lo m,x≠ .vw id lo m):xg X t x M k=match rowsOf M x with|some (_,xs)=>k (.int .i64 xs.length)|none=>none:=by
 cases x<;>first
  |exact absurd rfl (hx _ _)
  |exact absurd rfl (HB _ _ _)
  |(unfold xg;simp only [h1,h2];rfl)
  |(unfold xg;simp only [h1,h2];generalize rowsOf M _=o;cases o<;>rfl)
def PY(h:xg X t x M k=some r):∃y,k y=some r∧∀(M':aV),(∀id∈mI x,M'[id]?=M[id]?)->∀(R':Type) (k':AV->Option R'),xg X t x M' k'=k' y:=by
 unfold xg at h;split at h
 ·exact Rg
 ·exact Rg
 ·exact Rg
 ·exact Rg
 ·rename_i e h1 h2 fN aN0;split at h
  ·rename_i o xs hr;refine⟨_,h,λM' hM R' k'=> ?_⟩;have:=afi (M:=M) (M':=M') hM;rw [aAM h1 h2 fN aN0,this,hr]
  ·exact aX
 ·exact aX
def aBV{mx:Option AV}{k:AV->aV->Option R}(hx:mI x=[])(h:Af X t x lo hi mx M k=some r):
 ∃y,k y M=some r∧∀(M':aV) (R':Type) (k':AV->aV->Option R'),Af X t x lo hi mx M' k'=k' y M':=by
 have ik:∀M',rowsOf M' x=rowsOf M x:=λM'=>afi (by rw [hx];simp);unfold Af at h;simp only [fb]at h;split at h
 ·rename_i e h1 h2;split at h
  ·rename_i o xs h3;split at h
   ·rename_i l hh m h4 h5 h6;replace h:=dq h;obtain⟨h7,h⟩:=h;split at h
    ·replace h:=dq h;obtain⟨h8,h⟩:=h;exact⟨_,h,λM' R' k'=>by unfold Af;simp only [fb,h1,h2,ik M',h3,h4,h5,h6,h7,h8,aR]⟩
    ·exact⟨_,h,λM' R' k'=>by unfold Af;simp only [fb,h1,h2,ik M',h3,h4,h5,h6,h7,aR]⟩
    ·simp [mI]at hx
    ·exact aX
   ·exact aX
  ·exact aX
 ·cases h
def aCI(h:CZ X t x lo hi M k=some r):∃y,k y=some r∧∀(M':aV),(∀id∈mI x,M'[id]?=M[id]?)->∀(R':Type) (k':AV->Option R'),CZ X t x lo hi M' k'=k' y:=by
 unfold CZ at h;simp only [fb]at h;split at h
 ·rename_i id;split at h
  ·rename_i h1 h2;split at h
   ·rename_i hb;split at h
    ·rename_i h3 h4;replace h:=dq h;obtain⟨e,h⟩:=h;exact⟨_,h,λM' hM R' k'=>by have hm:=hM id (by simp [mI]);simp only [fb,CZ,h1,h2,hm,hb,h3,h4,e,aR]⟩
    ·exact aX
   ·exact aX
  ·exact aX
 ·exact aX
def XO{et:TypeId}{o:Option AV}(h:xa X et ok k o=some r):∃y,k y=some r∧∀(R':Type) (k':AV->Option R'),xa X et ok k' o=k' y:=
 ⟨_,agf h,λR' k'=>by cases o<;>cases ok<;>rfl⟩
def aBk(h:yk X t x i ok M k=some r):∃y,k y=some r∧∀(M':aV),(∀id∈C8 x,M'[id]?=M[id]?)->∀(R':Type) (k':AV->Option R'),yk X t x i ok M' k'=k' y:=by
 unfold yk at h;simp only [fb]at h;split at h
 case h_2=>cases h
 rename_i kt et h1 h2;split at h
 case h_2=>cases h
 rename_i kd h3;replace h:=dq h;obtain⟨h4,h⟩:=h;cases x<;>simp only at h<;>try (cases h;done)
 case mg=>
  obtain⟨y,h,hd⟩:=XO h;exact⟨y,h,λM' _ R' k'=>by unfold yk;simp only [fb,h1,h2,h3,h4,aR];exact hd R' k'⟩
 case mp id=>
  split at h
  case h_2=>cases h
  rename_i wa ag ks es hb;replace h:=dq h;obtain⟨h5,h⟩:=h;split at h
  ·rename_i h6;split at h
   ·rename_i y' h7;exact alI
   ·rename_i h7;exact alI
  ·rename_i h6;rw [O7]at h;obtain⟨y,h,hd⟩:=XO h;exact⟨y,h,λM' hM R' k'=>by unfold yk;have hm:=hM id (by simp [C8]);simp only [fb,h1,h2,h3,h4,hm,hb,h5,h6,aR,O7];exact hd R' k'⟩
def yh(X:Cx)(e:Operand->AV)(o:Oper):Option dP:=
 match o.op with
 | .move _=>some []
 | .assign _=>some []
 | .pick _ _ _=>some []
 | .binOp _ _ _ _ _=>some []
 | .unOp _ _ _=>some []
 | .convert s d _=>(match GO X s d with|true=>none|false=>some [])
 | .fieldAddr _ _ _=>some []
 | .field _ _ _=>some []
 | .index _ _ _=>some []
 | .extract _ _=>some []
 | .makeFunc _ _ _=>some []
 | .nilCheck _=>some []
 | .build _ _=>some []
 | .load _ x=>some (wR (e x))
 | .indexAddr _ x _=>some (mI (e x))
 | .slice _ x _ _ mx=>match aaN X o (e x) mx with|true=>some (mI (e x))|false=>match mI (e x)with| []=>some []|_=>none
 | .call c=>
   match c.callee with
   | .builtin .len =>some (c.args.toList.flatMap λx=>mI (e x))
   | .builtin .min =>some []
   | .builtin .max =>some []
   |_=>none
 | .lookup _ x _ _=>some (C8 (e x))
 |_=>none
def aAA{k:AV->aV->Option R}(hq:yh X e o=some ids)(h:pz X T e o M k=some r):
 ∃y,k y M=some r∧∀(M':aV),(∀id∈ids,M'[id]?=M[id]?)->∀(k':AV->aV->Option R'),pz X T' e o M' k'=k' y M':=by
 unfold yh at hq;unfold pz at h;split at hq
 all_goals (rename_i ho;simp only [ho]at h)
 ·exact⟨_,h,λM' _ k'=>Zw⟩
 ·exact⟨_,h,λM' _ k'=>Zw⟩
 ·split at h
  ·rename_i t hc;split at h
   ·exact ajd
   ·exact ajd
  ·exact aX
 ·obtain⟨y,h,hd⟩:=aD9 (X:=X) _ _ _ _ h;exact Av
 ·obtain⟨y,h,hd⟩:=aE3 _ _ h;exact Av
 ·split at hq
  ·exact pn
  obtain⟨y,h,hd⟩:=aDd (X:=X) _ _ _ h;exact Av
 ·obtain⟨y,h,hd⟩:=azy (X:=X) _ _ _ h;exact Av
 ·obtain⟨y,h,hd⟩:=aB5 (X:=X) _ _ _ h;exact Av
 ·obtain⟨y,h,hd⟩:=aB4 (X:=X) _ _ _ h;exact Av
 ·split at h
  ·rename_i vs hv;split at h
   ·rename_i y hy;exact⟨_,h,λM' _ k'=>by unfold pz;simp only [ho,hv,hy]⟩
   ·exact aX
  ·exact aX
 ·rename_i fn first fL
  cases fn with
  |func f=>exact⟨_,h,λM' _ k'=>Zw⟩
  |_=>exact aX
 ·obtain⟨y,h,hd⟩:=aD7 _ h;exact Av
 ·obtain⟨y,h,hd⟩:=aB6 (X:=X) _ _ h;exact Av
 ·injection hq with hq;subst hq;obtain⟨y,h,hd⟩:=aCJ h;exact ZO
 ·injection hq with hq;subst hq;obtain⟨y,h,hd⟩:=ay9 h;exact ZO
 ·split at hq
  ·rename_i zt;simp only [zt]at h;injection hq with hq;subst hq;obtain⟨y,h,hd⟩:=aCI h;exact⟨y,h,λM' hM k'=>by unfold pz;simp only [ho,zt];exact hd M' hM _ _⟩
  ·rename_i zt;simp only [zt]at h;split at hq
   ·rename_i hx;obtain⟨y,h,hd⟩:=aBV hx h;exact⟨y,h,λM' hM k'=>by unfold pz;simp only [ho,zt];exact hd M' _ _⟩
   ·exact pn
 ·rename_i c;split at hq
  ·rename_i hc;simp only [hc]at h;injection hq with hq;subst hq;split at h
   ·rename_i t x ht hx;obtain⟨y,h,hd⟩:=PY h;refine⟨y,h,λM' hM k'=> ?_⟩;unfold pz;simp only [ho,hc,ht,hx];exact hd M' (λid bA=>hM id (by rw [hx];simpa using bA)) _ _
   ·exact aX
  ·exact akZ
  ·exact akZ
  ·exact pn
 ·injection hq with hq;subst hq;obtain⟨y,h,hd⟩:=aBk h;exact ZO
 ·cases hq
def aBG{M1:aV}(hi:LJ X e o=true)(hq:yh X e o=some ids)(h:Ha X e o M=some (x,M1)):M1=M∧∀M2,Ha X e o M2=some (x,M2):=by
 unfold LJ at hi;unfold yh at hq;unfold Ha at h⊢;split at hi
 ·rename_i op t a b u ho;simp only [ho]at h⊢;split at h
  ·exact akO
  ·exact aX
 ·rename_i s d a ho;simp only [ho,hi]at hq;exact pn
 ·rename_i t a lo hi2 mx ho;simp only [ho]at h⊢;split at h
  ·exact akO
  ·exact aX
 ·rename_i c ho;simp only [ho]at hq;split at hi
  ·rename_i hc;simp only [hc]at hq;cases hq
  ·rename_i hc;simp only [hc]at hq;cases hq
  ·rename_i f hc;simp only [hc]at hq;cases hq
  ·cases hi
 ·cases hi
def aAz{k:AV->aV->Option R}(hq:yh X e o=some ids)(h:xf X T e o M k=some r):
 ∃y,k y M=some r∧∀(M':aV),(∀id∈ids,M'[id]?=M[id]?)->∀(k':AV->aV->Option R'),xf X T' e o M' k'=k' y M':=by
 unfold xf at h;split at h
 ·rename_i hi;split at h
  ·rename_i x M1 hx;rw [ZY]at h;obtain⟨h1,h2⟩:=aBG hi hq hx;subst h1;exact⟨x,h,λM' _ k'=>by unfold xf;simp only [hi,h2 M',ZY]⟩
  ·exact aX
 ·rename_i hi;obtain⟨y,h1,h2⟩:=aAA (T':=T') hq h;exact⟨y,h1,λM' hM k'=>by unfold xf;simp only [hi];exact h2 M' hM k'⟩
def aBf{k:AV->aV->Option R}(hq:yh X e o=some ids)(h:sd X T e o M k=some r):
 ∃y,k y M=some r∧∀(M':aV),(∀id∈ids,M'[id]?=M[id]?)->∀(k':AV->aV->Option R'),sd X T' e o M' k'=k' y M':=by
 rw [YP]at h;obtain⟨y,h1,h2⟩:=aAz (T':=T') hq h;exact⟨y,h1,λM' hM k'=>by rw [YP];exact h2 M' hM k'⟩
def KO(R:Type):iw R:=⟨⟨0,0⟩,λ_ _ _=>none,λ_ _ _ _=>none,λ_ _ _ _=>none⟩
def ahM(X:Cx)(R:Type):(KO R).oj X:=⟨λh=>by simp [KO]at h,λh=>by simp [KO]at h⟩
def af9(hX:X.Okb){k:AV->aV->Option R}(hq:yh X e o=some ids)(h:sd X T e o M k=some r):
 ∃y,k y M=some r∧∀(M':aV),(∀id∈ids,M'[id]?=M[id]?)->fJ X o e M' y M':=by
 obtain⟨y,h1,h2⟩:=aBf (T':=KO (AV×aV)) hq h;refine⟨y,h1,λM' hM=> ?_⟩;obtain⟨x,M1,h3,h4,_⟩:=Jh hX (ahM X _) (h2 M' hM λx M=>some (x,M));injection h4 with h4;injection h4 with h4 h5;subst h4;subst h5;exact h3
def Km:List Oper->Nat
 | []=>0
 |o::os=>match o.op with
  | .buildSlice _ _ _=>Km os+1
  | .call c=>(match c.callee with| .value _=>Km os+1|_=>Km os)
  |_=>Km os
def Rj(X:Cx)(ops:Array Oper)(e:Operand->AV)(o:Oper):Option (TypeId×Nat×Array (Nat×Operand)):=
 match o.op with
 | .buildSlice t n ps=>
   match(Nat.blt 1 (Km ops.toList)&&Nat.blt 0 n)&&ps.toList.all λp=>aF6 (e p.2)with
   |true=>some (t,n,ps)
   |false=>none
 |_=>none
def age{ops:Array Oper}(h:Rj X ops e o=some (t,n,ps)):o.op= .buildSlice t n ps:=by
 unfold Rj at h;split at h
 ·rename_i ho;split at h
  ·injection h with h;injection h with h1 h;injection h with h2 h3;subst h1;subst h2;subst h3;exact ho
  ·exact aX
 ·exact aX
def agB(hX:X.Okb)(ho:o.op= .buildSlice t n ps)(h:B4 X t n (ps.toList.map λp=>(p.1,e p.2)) k=some r):
 ∃y,k y=some r∧∀(M':aV),fJ X o e M' y M':=by
 obtain⟨y,h1,_,hd⟩:=au3 hX h;refine⟨y,h1,λM'=>fJ.uh (s:=λρe=>Instr.buildSlice t n (ps.map λ(i,x)=>(i,ρe x))) (gF) (λρe=>kf) (λ{w0 S F ρ w ρe} hI hr=> ?_)⟩;have:=hd (ps.toList.map λp=>(p.1,ρe p.2)) hI (by simp) (λj p q hp hq=>by
  rw [iT]at hp hq;cases hj:ps.toList[j]? with
  |none=>exact JS
  |some z=>
   rw [hj]at hp hq;simp only [k7,Option.some.injEq]at hp hq;subst hp;subst hq;exact⟨rfl,hr z.2⟩)
 have e1:(ps.map λ(i,x)=>(i,ρe x))=(ps.toList.map λp=>(p.1,ρe p.2)).toArray :=vD;rw [e1];exact this
end
end Go.aA
namespace Go.aA
def Aq{p:Prop}(h:p:=by have:=each (j:=0) rfl;cases this):p:=h
def CL{p:Prop}(h:p:=by simpa using hi):p:=h
def aka{p:Prop}(h:p:=by
 have:=jS.1 jq i hi;rw [bM]at this;simpa using this.1):p:=h
def ajA{p:Prop}(h:p:=by
 have:=jS.1 hk _ (dy hj);rw [e]at this;cases this):p:=h
end Go.aA
namespace Go.aA
def CB:=@List.nodup_cons
def fP:=@List.mem_cons_self
def iD:=@List.mem_cons_of_mem
end Go.aA
namespace Go.aA
open Go
noncomputable section
variable {X:Cx} {R:Type}
variable{ρ':bX}
def gN(f:Nat->Option Nat):Nat->AV->AV
 |0,_=> .top
 |n+1,x=>
  match x with
  | .aC id=>match f id with|some j=> .aC j|none=> .top
  | .ptr id i off=>match f id with|some j=> .ptr j i off|none=> .top
  | .iB id=>match f id with|some j=> .iB j|none=> .top
  | .mp id=>match f id with|some j=> .mp j|none=> .top
  | .lz id m=>match f id with|some j=> .lz j m|none=> .top
  | .vw id lo m=>match f id with|some j=> .vw j lo m|none=> .top
  | .agg cs=> .agg (cs.map (gN f n))
  | .ew cs=> .ew (cs.map (gN f n))
  | .dC g first fL=> .dC g (first.map (gN f n)) (fL.map (gN f n))
  |x=>x
def Ren(f:Nat->Option Nat)(ρ ρ':bX):Prop:=∀(id j:Nat) hd,f id=some j->ρ[id]?=some hd->ρ'[j]?=some hd
def aZ.gN{K:TypeId->ei}(hK:∀t,∀k∈K t,k≠ .any){f:Nat->Option Nat}{ρ ρ':bX}(hf:Ren f ρ ρ'){F:bT}{w:World}:∀(n:Nat) {x:AV} {v:Value},aZ K ρ F w x v->aZ K ρ' F w (gN f n x) v
 |0,_,v,_=> .top v
 |n+1,x,v,h=>by
  have ih:=λ{x:AV} {v:Value} (h:aZ K ρ F w x v)=>aZ.gN hK hf n h;have S8:∀{xs:bl} {vs:fI},(∀(j:Nat) x v,xs[j]?=some x->vs[j]?=some v->aZ K ρ F w x v)->∀(j:Nat) x v,(xs.map (aA.gN f n))[j]?=some x->vs[j]?=some v->aZ K ρ' F w x v:=by
   intro xs vs h j x v hx hv;rw [iT]at hx;cases hj:xs[j]? with
   |none=>rw [hj]at hx;cases hx
   |some y=>
    rw [hj]at hx;simp only [k7,Option.some.injEq]at hx;subst hx;exact ih (h j y v hj hv)
  cases h with
  |top v=>exact .top v
  |int k n=>exact .int k n
  |bool b=>exact .bool b
  |str s=>exact .str s
  |agg cs vs hl h=>exact .agg _ vs (pw) (S8 h)
  |ew cs vs hl h=>exact .ew _ vs (pw) (S8 h)
  |iF=>exact .iF
  |iA t row off a vs hk hl hc h=>exact(aZ.iA (ρ:=ρ) t row off a vs hk hl hc h).pure hK rfl
  |ptr id i off hd g o m c bA hv=>
   simp only [aA.gN];split
   ·rename_i j hj;exact .ptr j i off hd g o m c (hf id j hd hj bA) hv
   ·exact .top _
  |kM t=>exact .kM t
  |ab t xs a cap vss hl lR ki hk hc h=>exact(aZ.ab (ρ:=ρ) t xs a cap vss hl lR ki hk hc h).pure hK rfl
  |aC id hd bA=>
   simp only [aA.gN];split
   ·rename_i j hj;exact .aC j hd (hf id j hd hj bA)
   ·exact .top _
  |gQ=>exact .gQ
  |dC g first fL vf vc h1 h2 h3 h4=>exact .dC g _ _ vf vc (sU) (qc) (S8 h3) (S8 h4)
  |ke=>exact .ke
  |iB id hd g bA hv=>
   simp only [aA.gN];split
   ·rename_i j hj;exact .iB j hd g (hf id j hd hj bA) hv
   ·exact .top _
  |mp id hd bA=>
   simp only [aA.gN];split
   ·rename_i j hj;exact .mp j hd (hf id j hd hj bA)
   ·exact .top _
  |mg=>exact .mg
  |lz id m hd g o n' c cap bA hv=>
   simp only [aA.gN];split
   ·rename_i j hj;exact .lz j m hd g o n' c cap (hf id j hd hj bA) hv
   ·exact .top _
  |vw id lo m hd g o n' c cap bA hv hc hb=>
   simp only [aA.gN];split
   ·rename_i j hj;exact .vw j lo m hd g o n' c cap (hf id j hd hj bA) hv hc hb
   ·exact .top _
  |tw id lo=>
   simp only [aA.gN];split
   ·exact .tw _ lo
   ·exact .top _
  |tu id lo a cap=>
   simp only [aA.gN];split
   ·exact .tu _ lo a cap
   ·exact .top _
  |jR a cap=>exact .jR a cap
def dz.gN{K:TypeId->ei}(hK:∀t,∀k∈K t,k≠ .any){f:Nat->Option Nat}{ρ ρ':bX}(hf:Ren f ρ ρ'){F:bT}{w:World}(n:Nat){xs:bl}{vs:fI}(h:dz K ρ F w xs vs):dz K ρ' F w (xs.map (aA.gN f n)) vs:=by
 refine⟨by simpa using h.1,λj x v hx hv=> ?_⟩;rw [iT]at hx;cases hj:xs[j]? with
 |none=>rw [hj]at hx;cases hx
 |some y=>
  rw [hj]at hx;simp only [k7,Option.some.injEq]at hx;subst hx;exact(h.2 j y v hj hv).gN hK hf n
def Dn(f:Nat->Option Nat)(n:Nat)(env:cY):cY:=env.map λp=>(p.1,gN f n p.2)
def agz(f:Nat->Option Nat)(n:Nat):∀(env:cY) (t:Nat),look (Dn f n env) t=gN f n (look env t)∨look (Dn f n env) t= .top
 | [],t=> .inr rfl
 |(u,x)::env,t=>by
  unfold Dn;simp only [nu,p0,look_nil]
  by_cases ht:t=u
  ·subst ht;simp
  ·have:(t==u)=false:=by simpa using ht
   simp only [this,lO,nv];exact agz f n env t
def jg.gN(hX:X.Ok){f:Nat->Option Nat}{ρ ρ':bX}(hf:Ren f ρ ρ'){F:bT}{w:World}(n:Nat){env:cY}{tmps:Array Value}(h:jg X ρ F w env tmps):jg X ρ' F w (Dn f n env) tmps:=by
 intro t;rcases agz f n env t with e|e
 ·rw [e];exact(h t).gN hX.kinds hf n
 ·rw [e];exact .top _
def Kind.fix:Kind->Bool| .any =>false|_=>true
def s6(f:Nat->Option Nat):ep->ep
 | .var ks cs=>match ks.all Kind.fix with|true=> .var ks cs|false=> .var ks (cs.map (gN f 4))
 | .loop s env b p=> .loop s (Dn f 4 env) b p
 | .map kd ag ks es=>match ks.all Kind.fix with|true=> .map kd ag ks es|false=> .map kd ag ks (es.map λe=>(e.1,gN f 4 e.2))
 |b=>b
def yx(f:Nat->Option Nat):ep->Bool
 | .var ks cs=>match ks.all Kind.fix with|true=>true|false=>dt ks (cs.map (gN f 4))
 | .map _ ag ks es=>match ks.all Kind.fix with|true=>true|false=>es.all λe=>dt ks (gN f 4 e.2).cells &&(gN f 4 e.2).shape ag
 |_=>true
def Fu(f:Nat->Option Nat)(b:ep):(s6 f b).iM =b.iM:=by
 cases b<;>simp only [s6]<;>first|rfl|(split<;>rfl)
def aZ.fix{K:TypeId->ei}(hK:∀t,∀k∈K t,k≠ .any){ρ ρ':bX}{F:bT}{w:World}{ks:ei}(hk:ks.all Kind.fix=true){x:AV}{v:Value}(hx:dt ks x.cells=true)(h:aZ K ρ F w x v):aZ K ρ' F w x v:=by
 have each:∀{j:Nat} {y:AV},x.cells[j]?=some y->y.pure=true:=λ{j y} hy=>by
  have hl:=iS hx;have hj:j<ks.length:=Zz;refine I4 (λe=> ?_) (tY hx (dD hj) hy);exact ajA
 cases h with
 |agg cs vs hl hr=>exact .agg cs vs hl λj y u hy hu=>(hr j y u hy hu).pure hK (each hy)
 |top v=>have:=each (j:=0) (y:= .top) rfl;cases this
 |ew cs vs hl hr=>have:=each (j:=0) (y:= .ew cs) rfl;cases this
 |int k n=>exact .int k n
 |bool b=>exact .bool b
 |str s=>exact .str s
 |iF=>exact .iF
 |iA t row off a vs oX hl hc hr=>exact aZ.pure hK (.iA t row off a vs oX hl hc hr) (each (j:=0) rfl)
 |kM t=>exact .kM t
 |ab t xs a cap vss hl lR ki oX hc hr=>exact aZ.pure hK (.ab t xs a cap vss hl lR ki oX hc hr) (each (j:=0) rfl)
 |gQ=>exact .gQ
 |dC f first fL vf vc hf hc h1 h2=>exact aZ.pure hK (.dC f first fL vf vc hf hc h1 h2) (each (j:=0) rfl)
 |ke=>exact .ke
 |mg=>exact .mg
 |ptr id i off hd g o n c bA hv=>exact Aq
 |aC id hd bA=>exact Aq
 |iB id hd g bA hv=>exact Aq
 |lz id m hd g o n c cap bA hv=>exact Aq
 |vw id lo m hd g o n c cap bA hv hc hb=>exact Aq
 |tw id lo=>exact Aq
 |tu id lo a cap=>exact Aq
 |jR a cap=>exact .jR a cap
 |mp id hd bA=>exact Aq
def afo{kd:Kind}(nH:kd≠ .any){x:AV}(h:iJ kd x=true):x.pure=true:=I4 nH h
def km.gN(hX:X.Ok){f:Nat->Option Nat}{ρ ρ':bX}(hf:Ren f ρ ρ'){F:bT}{w:World}{hd:Hd}{b:ep}(bz:yx f b=true)(h:km X ρ F w hd b):km X ρ' F w hd (s6 f b):=by
 cases b with
 |var ks cs=>
  obtain⟨h1,h2,g,cur,e,hv,hh,hr,hy⟩:=h;simp only [s6];simp only [yx]at bz;split
  ·rename_i hk;refine⟨h1,h2,g,cur,e,hv,hh,⟨hr.1,λj x v hx hv=>(hr.2 j x v hx hv).pure hX.kinds ?_⟩,hy⟩;have hl:=iS h1;have hj:j<ks.length:=QJ;refine I4 (λe=> ?_) (tY h1 (dD hj) hx);exact ajA
  ·rename_i hk;rw [hk]at bz;exact⟨bz,qc,g,cur,e,hv,hh,hr.gN hX.kinds hf 4,hy⟩
 |row t xs=>
  obtain⟨h1,h2,h3⟩:=h;refine⟨h1,h2,?_⟩;rcases h3 with h3|⟨g,o,c,cur,hv,hh,h4,h5,h6,h7⟩
  ·exact .inl h3
  ·refine .inr ⟨g,o,c,cur,hv,hh,h4,h5,h6,λi row hi j x hx=> ?_⟩;obtain⟨v,kX,hr⟩:=h7 i row hi j x hx;refine⟨v,kX,hr.pure hX.kinds ?_⟩;have hk:=h2 i row hi;have hl:=iS hk;have hj:j<(X.K t).length :=QJ;exact I4 (hX.kinds t _ (dy hj)) (tY hk (dD hj) hx)
 |map kd ag ks es=>
  obtain⟨nH,g,mes,clock,hv,hh,ev,uQ⟩:=h;simp only [s6];simp only [yx]at bz;split
  ·rename_i hk;exact⟨nH,g,mes,clock,hv,hh,ev,λi e me he hm=>let⟨a,r1,r2⟩:=uQ i e me he hm;⟨a,r1.pure hX.kinds (afo nH a.1),r2.fix hX.kinds hk a.2.1⟩⟩
  ·rename_i hk;rw [hk]at bz;refine⟨nH,g,mes,clock,hv,hh,J3,λi e me he hm=> ?_⟩;rw [iT]at he;cases hi:es[i]? with
   |none=>rw [hi]at he;cases he
   |some e0=>
    rw [hi]at he;simp only [k7,Option.some.injEq]at he;subst he;obtain⟨a,r1,r2⟩:=uQ i e0 me hi hm;have:=jS.1 bz e0 (mT hi);rw [bM]at this;exact⟨⟨a.1,this.1,this.2⟩,r1.pure hX.kinds (afo nH a.1),r2.gN hX.kinds hf 4⟩
 |loop s env busy xl=>
  obtain⟨g,lp,hv,hh,h1,h2,h3,h4,h5,h6⟩:=h;exact⟨g,lp,hv,hh,h1,h2,h3,h4,h5.gN hX hf 4,h6⟩
 |HW=>exact h
 |eW t xs=>exact aZ.pure hX.kinds h rfl
 |dead=>trivial
def idx:dP->Nat->Option Nat
 | [],_=>none
 |i::is,id=>if id==i then some 0 else(idx is id).map (·+1)
def ah7:∀{bR:dP} {id j:Nat},idx bR id=some j->bR[j]?=some id
 | [],id,j,h=>by simp [idx]at h
 |i::is,id,j,h=>by
  simp only [idx]at h;split at h
  ·rename_i hi;injection h with h;subst h;simpa using Eq.symm (CL)
  ·cases hx:idx is id with
   |none=>rw [hx]at h;cases h
   |some m=>
    rw [hx]at h;simp only [k7,Option.some.injEq]at h;subst h;simpa using ah7 hx
def nT(m:Nat)(bR:dP)(n:Nat)(j:Nat):Option Nat:=match Nat.blt j m with|true=>bR[j]?|false=>some (n+(j- m))
def sub(d:Hd)(ρ:bX)(bR:dP):bX:=bR.map λi=>ρ.getD i d
def qf(M:aV)(bR:dP):aV:=bR.map λi=>s6 (idx bR) (M.getD i .dead)
def vu(M:aV)(bR:dP):Bool:=distinct bR&&bR.all λi=>Nat.blt i M.length&&yx (idx bR) (M.getD i .dead)
where distinct:dP->Bool
 | []=>true
 |i::is=> !is.contains i&&distinct is
def U8:∀{bR:dP},vu.distinct bR=true->bR.Nodup
 | [],_=> .nil
 |i::is,h=>by
  simp only [vu.distinct,bM]at h;exact CB.2 ⟨by simpa using h.1,U8 h.2⟩
def te:aV->dP->aV->aV
 |M,i::is,b::bs=>te (M.set i b) is bs
 |M,_,_=>M
def Ff:∀(bR:dP) (bs M:aV),(te M bR bs).length =M.length
 | [],_,_=>by simp [te]
 |_::_,[],_=>by simp [te]
 |i::is,b::bs,M=>by simp only [te];rw [Ff is bs];simp
def Pz:∀(bR:dP) (bs M:aV) {id:Nat},id∉bR->(te M bR bs)[id]?=M[id]?
 | [],_,_,_,_=>by simp [te]
 |_::_,[],_,_,_=>by simp [te]
 |i::is,b::bs,M,id,h=>by
  simp only [te];rw [Pz is bs _ (λh'=>h (iD _ h')),kI (λe=>h (by rw [e];exact fP))]
def Yp:∀(bR:dP) (bs M:aV),bR.Nodup->(∀i∈bR,i<M.length)->∀{j i:Nat} {b:ep},bR[j]?=some i->bs[j]?=some b->(te M bR bs)[i]?=some b
 | [],_,_,_,_,j,i,b,h,_=>hU
 |_::_,[],_,_,_,j,i,b,_,h=>hU
 |i0::is,b0::bs,M,hn,hl,j,i,b,hi,hb=>by
  simp only [te];rw [CB]at hn;cases j with
  |zero=>
   simp at hi hb;subst hi;subst hb;rw [Pz is bs _ hn.1,qK (hl i0 fP)]
  |succ j=>
   simp at hi hb;exact Yp is bs _ hn.2 (λk hk=>by simpa using hl k (iD _ hk)) hi hb
def merge(m:Nat)(M:aV)(bR:dP)(Mc:aV):aV:=te M bR ((Mc.take m).map (s6 (nT m bR M.length))++List.replicate (bR.length- m) .dead)++(Mc.drop m).map (s6 (nT m bR M.length))
def FT(m:Nat)(M:aV)(bR:dP)(Mc:aV):Bool:=Nat.ble m bR.length&&Nat.ble m Mc.length&&Mc.all (yx (nT m bR M.length))
structure qT(m:Nat)(F F':bT)(ρ ρ':bX)(w w':World):Prop where
 hF:∀a,F a->F' a
 gT:∀(id:Nat) hd,id<m->ρ[id]?=some hd->ρ'[id]?=some hd
 hb:∀a,F a->w'.heap[a.block]?=w.heap[a.block]?
def Grow.toF{F F':bT}{ρ:bX}{w w':World}(h:Grow F F' ρ ρ' w w')(m:Nat):qT m F F' ρ ρ' w w':=⟨h.hF,λid hd _ hh=>h.gT id hd hh,h.hb⟩
def qT.hw{m:Nat}{F F':bT}{ρ:bX}{w w':World}(h:qT m F F' ρ ρ' w w'):∀a v,F a->w.cell? a=some v->w'.cell? a=some v:=λa _ ha hc=>afY (h.hb a ha) hc
section
variable {w0 w w':World} {S:Sc} {F F':bT} {ρ pA:bX} {M oG:aV} {bR:dP}
def hand(ρ:bX)(M:aV)(bR:dP)(F:bT):Sc:=⟨λg=>∃i∈bR,∃b hd,M[i]?=some b∧b.iM=false∧ρ[i]?=some hd∧hd.eM=some g,F⟩
def PT{d:Hd}{j i:Nat}(h:bR[j]?=some i)(hi:i<ρ.length):(sub d ρ bR)[j]?=ρ[i]?:=by
 simp only [sub,iT,h,k7,List.getD,dD hi,pb]
def ahR(cM:∀i∈bR,i<ρ.length)(d:Hd):Ren (idx bR) ρ (sub d ρ bR):=by
 intro id j hd hj hh;have:=ah7 hj;rw [PT this (cM _ (mT this)),hh]
def Inv.amS(hX:X.Ok)(hI:Inv X w0 S F ρ M w)(bz:vu M bR=true)(d:Hd):Inv X w0 S F (aA.sub d ρ bR) (qf M bR) w∧Inv X w (hand ρ M bR F) F (aA.sub d ρ bR) (qf M bR) w:=by
 unfold vu at bz;rw [bM]at bz;obtain⟨abK,jq⟩:=bz;have Br:=U8 abK;have cM:∀i∈bR,i<M.length:=λi hi=>aka;have kV:∀i∈bR,yx (idx bR) (M.getD i .dead)=true:=λi hi=>by
  have:=jS.1 jq i hi;rw [bM]at this;exact this.2
 have amo:∀i∈bR,i<ρ.length:=λi hi=>by rw [hI.len];exact cM i hi
 have back:∀{j:Nat} {c:ep},(qf M bR)[j]?=some c->∃i b,bR[j]?=some i∧M[i]?=some b∧c=s6 (idx bR) b∧yx (idx bR) b=true:=by
  intro j c hc;simp only [qf,iT]at hc;cases hj:bR[j]? with
  |none=>rw [hj]at hc;cases hc
  |some i=>
   rw [hj]at hc;have hi:=cM i (mT hj);simp only [k7,Option.some.injEq,List.getD,dD hi,pb]at hc;have h2:=kV i (mT hj);simp only [List.getD,dD hi,pb]at h2;exact⟨i,M[i],rfl,dD hi,hc.symm,h2⟩
 have Kk:∀{j:Nat} {h:Hd},(aA.sub d ρ bR)[j]?=some h->∃i,bR[j]?=some i∧ρ[i]?=some h:=by
  intro j h hh;cases hj:bR[j]? with
  |none=>simp only [aA.sub,iT,hj]at hh;cases hh
  |some i=>rw [PT hj (amo i (mT hj))]at hh;exact⟨i,rfl,hh⟩
 have h1:∀(id:Nat) b hd,(qf M bR)[id]?=some b->(aA.sub d ρ bR)[id]?=some hd->km X (aA.sub d ρ bR) F w hd b:=by
  intro j c h hc hh;obtain⟨i,b,h1,h2,rfl,h3⟩:=back hc;obtain⟨i',rG,h4⟩:=Kk hh;rw [h1]at rG;injection rG with rG;subst rG;exact(hI.rep i b h h2 h4).gN hX (ahR amo d) h3
 have h2:∀(j:Nat) c h g,(qf M bR)[j]?=some c->c.iM=false->(aA.sub d ρ bR)[j]?=some h->h.eM=some g->(g<w.heap.size∧(S g∨w0.heap.size<=g)∧∀a,F a->a.block≠g)∧(hand ρ M bR F) g:=by
  intro j c h g hc eU hh dT;obtain⟨i,b,h1,h2,rfl,h3⟩:=back hc;obtain⟨i',rG,h4⟩:=Kk hh;rw [h1]at rG;injection rG with rG;subst rG;rw [Fu]at eU;exact⟨hI.sep i b h g h2 eU h4 dT,i,mT h1,b,h,h2,eU,h4,dT⟩
 have h3:∀(j j':Nat) c c' h h' g,j≠j'->(qf M bR)[j]?=some c->(qf M bR)[j']?=some c'->c.iM=false->c'.iM=false->(aA.sub d ρ bR)[j]?=some h->(aA.sub d ρ bR)[j']?=some h'->h.eM=some g->h'.eM≠some g:=by
  intro j j' c c' h h' g eN hc zG eU ow hh eo dT;obtain⟨i,b,h1,h2,rfl,h3⟩:=back hc;obtain⟨i',b',rG,h2',rfl,By⟩:=back zG;obtain⟨i2,e1,h4⟩:=Kk hh;obtain⟨i2',e2,h4'⟩:=Kk eo;rw [h1]at e1;injection e1 with e1;subst e1;rw [rG]at e2;injection e2 with e2;subst e2;rw [Fu]at eU ow;refine hI.iX i i' b b' h h' g (λe=>eN ?_) h2 h2' eU ow h4 h4' dT;subst e;have l1:=(eZ.1 h1).1;have l2:=(eZ.1 rG).1;exact(List.getElem?_inj l1 Br).1 (h1.trans rG.symm)
 have h4:∀(id:Nat) hd,(aA.sub d ρ bR)[id]?=some hd->hd.v.oneCell'=true:=by
  intro j h hh;obtain⟨i,_,h4⟩:=Kk hh;exact hI.one i h h4
 have h5:∀g,aZ X.K (aA.sub d ρ bR) F w (X.gh g) (.pointer (some ⟨g,0,none⟩)):=λg=>(hI.gh g).aCg hX.kinds (hX.gh g);have h6:(aA.sub d ρ bR).length =(qf M bR).length :=by simp [aA.sub,qf]
 exact⟨⟨hI.os,hI.tape,hI.output,hI.size,hI.frame,h6,h1,λj c h g p1 p2 p3 p4=>(h2 j c h g p1 p2 p3 p4).1,h3,hI.fz,h5,h4,hI.gk,hI.fin⟩,
  ⟨rfl,rfl,rfl,fk _,λ_ _ _=>rfl,h6,h1,λj c h g p1 p2 p3 p4=>⟨(h2 j c h g p1 p2 p3 p4).1.1,.inl (h2 j c h g p1 p2 p3 p4).2,(h2 j c h g p1 p2 p3 p4).1.2.2⟩,h3,hI.fz,h5,h4,λa ha=> .inl ha,λa ha=>ha⟩⟩
def Inv.sub(hX:X.Ok)(hI:Inv X w0 S F ρ M w)(bz:vu M bR=true)(d:Hd):Inv X w (hand ρ M bR F) F (aA.sub d ρ bR) (qf M bR) w:=(hI.amS hX bz d).2
end
end
end Go.aA
namespace Go.aA
def Qw{p:Prop}(h:p:=by simp [ep.iM]):p:=h
end Go.aA
namespace Go.aA
def ag2:=@Bool.eq_false_iff
end Go.aA
namespace Go.aA
open Go
noncomputable section
variable {X:Cx} {R:Type}
variable {w0 w w':World} {S:Sc} {F F':bT} {ρ pA:bX} {M oG:aV} {bR:dP} {m:Nat}
structure YC(M:aV)(bR:dP):Prop where
 nd:bR.Nodup
 lt:∀i∈bR,i<M.length
def agt(bz:vu M bR=true):YC M bR:=by
 unfold vu at bz;rw [bM]at bz;obtain⟨abK,jq⟩:=bz;refine⟨U8 abK,λi hi=> ?_⟩;exact aka
def afl:(merge m M bR oG).length =M.length+(oG.length- m):=by
 simp [merge,Ff]
def Jm(hs:YC M bR)(hm:FT m M bR oG=true){id:Nat}{b:ep}(h:(merge m M bR oG)[id]?=some b):
 (id∉bR∧id<M.length∧M[id]?=some b)∨b= .dead ∨∃j c,nT m bR M.length j=some id∧oG[j]?=some c∧b=s6 (nT m bR M.length) c∧yx (nT m bR M.length) c=true:=by
 unfold FT at hm;rw [bM,bM]at hm;obtain⟨⟨L0,hle⟩,jq⟩:=hm;have hle:m<=oG.length:=uf hle;have L0:m<=bR.length:=uf L0;have ro:∀{j:Nat} {c:ep},oG[j]?=some c->yx (nT m bR M.length) c=true:=λhj=>jS.1 jq _ (mT hj);unfold merge at h
 by_cases bA:id<M.length
 ·rw [jH (by rw [Ff];exact bA)]at h
  by_cases aby:id∈bR
  ·obtain⟨j,hj⟩:=z7 aby
   have L5:=(eZ.1 hj).1
   by_cases zD:j<m
   ·have hjc:j<oG.length:=by omega
    have hb:((oG.take m).map (s6 (nT m bR M.length))++List.replicate (bR.length- m) .dead)[j]?=some (s6 (nT m bR M.length) oG[j]):=by
     rw [jH (eu),iT,og,if_pos zD,dD hjc];rfl
    rw [Yp bR _ M hs.nd hs.lt hj hb]at h;injection h with h;have:Nat.blt j m=true:=by simpa using zD
    exact .inr (.inr ⟨j,oG[j],by simp only [nT,this];exact hj,dD hjc,h.symm,ro (dD hjc)⟩)
   ·have hb:((oG.take m).map (s6 (nT m bR M.length))++List.replicate (bR.length- m) .dead)[j]?=some .dead :=by
     rw [kZ (eu),FA,if_pos (eu)]
    rw [Yp bR _ M hs.nd hs.lt hj hb]at h;injection h with h;exact .inr (.inl h.symm)
  ·rw [Pz bR _ M aby]at h;exact .inl ⟨aby,bA,h⟩
 ·rw [kZ (by rw [Ff];omega),Ff,iT,qI]at h;cases hc:oG[m+(id- M.length)]? with
  |none=>rw [hc]at h;cases h
  |some c=>
   rw [hc]at h;simp only [k7,Option.some.injEq]at h;refine .inr (.inr ⟨_,c,?_,hc,h.symm,ro hc⟩);have:Nat.blt (m+(id- M.length)) m=false:=by
    rw [ag2];simp
   simp only [nT,this,Option.some.injEq];omega
def aBU(hI:Inv X w0 S F ρ M w)(hs:YC M bR)(d:Hd)(hg:qT m F F' (sub d ρ bR) pA w w'):Ren (nT m bR M.length) pA (ρ++pA.drop m):=by
 intro j id hd hj hh;have hlen:=hI.len;simp only [nT]at hj;split at hj
 ·rename_i hb;have zD:j<m:=J0;have hi:id<ρ.length:=by rw [hlen];exact hs.lt id (mT hj)
  rw [jH hi];have h1:(sub d ρ bR)[j]?=some ρ[id]:=by rw [PT hj hi,dD hi]
  have:=hg.gT j _ zD h1;rw [hh]at this;injection this with this;rw [dD hi,this]
 ·rename_i hb;have zD:¬j<m:=λcM=>by rw [(by simpa using cM:Nat.blt j m=true)]at hb;cases hb
  simp only [Option.some.injEq]at hj;subst hj;rw [kZ (by omega),qI,<-hh]
  congr 1
  omega
def Inv.merge(hX:X.Ok)(hI:Inv X w0 S F ρ M w)(bz:vu M bR=true)(d:Hd)(hC:Inv X w (hand ρ M bR F) F' pA oG w')(hg:qT m F F' (aA.sub d ρ bR) pA w w')(hm:FT m M bR oG=true):
 Inv X w0 S F' (ρ++pA.drop m) (aA.merge m M bR oG) w'∧Grow F F' ρ (ρ++pA.drop m) w w'∧Ren (nT m bR M.length) pA (ρ++pA.drop m):=by
 have hs:=agt bz;have abz:=aBU hI hs d hg;have hlen:=hI.len;have aO7:=hC.len;have ev:w.heap.size<=w'.heap.size:=hC.size;have kh:∀(id:Nat) hd,ρ[id]?=some hd->(ρ++pA.drop m)[id]?=some hd:=λid hd h=>aiT;have lq:Grow F F' ρ (ρ++pA.drop m) w w':=⟨hg.hF,kh,hg.hb⟩;have apart:∀{id:Nat} {b:ep} {hd:Hd} {g:Nat},id∉bR->M[id]?=some b->b.iM=false->ρ[id]?=some hd->hd.eM=some g->g<w.heap.size∧¬(hand ρ M bR F) g:=by
  intro id b hd g tK hb eU hh dT;refine⟨(hI.sep id b hd g hb eU hh dT).1,?_⟩;rintro⟨i,hi,b',dI,mQ,ow,eo,lv⟩;exact hI.iX id i b b' hd dI g (λe=>tK (e▸hi)) hb mQ eU ow hh eo dT lv
 have handed:∀{g:Nat},(hand ρ M bR F) g->S g∨w0.heap.size<=g:=by
  rintro g ⟨i,_,b',dI,mQ,ow,eo,lv⟩;exact(hI.sep i b' dI g mQ ow eo lv).2.1
 have cρ:∀{id:Nat} {h:Hd},id<M.length->(ρ++pA.drop m)[id]?=some h->ρ[id]?=some h:=by
  intro id h bA hh;rw [jH (by omega)]at hh;exact hh
 have G6:∀{j id:Nat} {c:ep} {h:Hd},nT m bR M.length j=some id->oG[j]?=some c->(ρ++pA.drop m)[id]?=some h->pA[j]?=some h:=by
  intro j id c h hj hc hh;have hl:j<pA.length:=by have:=(eZ.1 hc).1;omega
  have:=abz j id _ hj (dD hl);rw [hh]at this;injection this with this;rw [dD hl,this]
 refine⟨⟨hC.os.trans hI.os,hC.tape.trans hI.tape,hC.output.trans hI.output,oh hI.size ev,λg h1 h2=> ?_,?_,λid b hd hb hh=> ?_,λid b hd g hb eU hh dT=> ?_,
  λid id' b b' hd dI g eN hb mQ eU ow hh eo dT lv=> ?_,hC.fz,λg=>(hI.gh g).grow lq,λid hd hh=> ?_,λa ha=> ?_,λa ha=>hg.hF _ (hI.fin a ha)⟩,lq,abz⟩
 ·refine(hC.frame g (p9 h1 hI.size) (λh=> ?_)).trans (hI.frame g h1 h2);rcases handed h with h|h
  ·exact h2 h
  ·omega
 ·rw [afl,e7,wM];omega
 ·rcases Jm hs hm hb with⟨tK,cM,hb⟩|rfl|⟨j,c,hj,hc,rfl,kV⟩
  ·have hh:=cρ cM hh
   by_cases eU:b.iM=true
   ·exact(hI.rep id b hd hb hh).O0 kh hg.hF hg.hw eU
   ·refine(hI.rep id b hd hb hh).mono kh hg.hF hg.hw λg dT=> ?_;obtain⟨a1,a2⟩:=apart tK hb (by simpa using eU) hh dT;exact hC.frame g a1 a2
  ·trivial
  ·exact(hC.rep j c hd hc (G6 hj hc hh)).gN hX abz kV
 ·rcases Jm hs hm hb with⟨tK,cM,hb⟩|rfl|⟨j,c,hj,hc,rfl,kV⟩
  ·have hh:=cρ cM hh;obtain⟨a1,a2,a3⟩:=hI.sep id b hd g hb eU hh dT;refine⟨p9 a1 ev,a2,λa ha e=> ?_⟩;rcases hC.gk a ha with h|h|h
   ·exact a3 a h e
   ·exact(apart tK hb eU hh dT).2 (e▸h)
   ·omega
  ·exact absurd eU (Qw)
  ·rw [Fu]at eU;obtain⟨a1,a2,a3⟩:=hC.sep j c hd g hc eU (G6 hj hc hh) dT;refine⟨a1,?_,a3⟩;rcases a2 with a2|a2
   ·exact handed a2
   ·exact .inr (oh hI.size a2)
 ·have mixed:∀{id id' j:Nat} {b c:ep} {hd dI:Hd} {g:Nat},id∉bR->M[id]?=some b->b.iM=false->ρ[id]?=some hd->hd.eM=some g->oG[j]?=some c->c.iM=false->pA[j]?=some dI->dI.eM=some g->False:=by
   intro id id' j b c hd dI g tK hb eU hh dT hc ow eo lv;obtain⟨a1,a2⟩:=apart tK hb eU hh dT;rcases(hC.sep j c dI g hc ow eo lv).2.1 with h|h
   ·exact a2 h
   ·omega
  rcases Jm hs hm hb with⟨tK,cM,hb⟩|rfl|⟨j,c,hj,hc,rfl,kV⟩
  ·rcases Jm hs hm mQ with⟨aoV,Dw,mQ⟩|rfl|⟨j',c',iK,zG,rfl,aN4⟩
   ·exact hI.iX id id' b b' hd dI g eN hb mQ eU ow (cρ cM hh) (cρ Dw eo) dT lv
   ·exact absurd ow (Qw)
   ·rw [Fu]at ow;exact mixed (id':=0) tK hb eU (cρ cM hh) dT zG ow (G6 iK zG eo) lv
  ·exact absurd eU (Qw)
  ·rw [Fu]at eU;rcases Jm hs hm mQ with⟨aoV,Dw,mQ⟩|rfl|⟨j',c',iK,zG,rfl,aN4⟩
   ·exact mixed (id':=0) aoV mQ ow (cρ Dw eo) lv hc eU (G6 hj hc hh) dT
   ·exact absurd ow (Qw)
   ·rw [Fu]at ow;refine hC.iX j j' c c' hd dI g (λe=>eN ?_) hc zG eU ow (G6 hj hc hh) (G6 iK zG eo) dT lv;subst e;rw [hj]at iK;injection iK
 ·by_cases bA:id<ρ.length
  ·rw [jH bA]at hh;exact hI.one id hd hh
  ·rw [kZ (by omega),qI]at hh;exact hC.one _ hd hh
 ·rcases hC.gk a ha with h|h|h
  ·exact hI.gk a h
  ·exact .inr (handed h)
  ·exact .inr (.inr (oh hI.size h))
end
noncomputable section
variable {X:Cx} {R:Type} {M M':aV}
variable{x:AV}{g:FuncId}{o:Oper}{e:Operand->AV}{args:bl}
def Kw:AV->Bool| .int _ _| .bool _| .str _| .iF | .iA _ _ _| .ab _ _| .ke | .dC _ [] []=>true|_=>false
def qY:AV->Bool| .agg cs=>cs.all Kw|x=>Kw x
def agh(h:Kw x=true):x.pure=true:=by
 unfold Kw at h;split at h<;>first|rfl|cases h
def aZ.qY(hX:X.Ok){ρ ρ':bX}{F:bT}{w:World}{x:AV}{v:Value}(hq:qY x=true)(h:aZ X.K ρ F w x v):aZ X.K ρ' F w x v:=by
 cases h with
 |agg cs vs hl hr=>exact .agg cs vs hl λj y u hy hu=>(hr j y u hy hu).pure hX.kinds (agh (jS.1 hq y (mT hy)))
 |int k n=>exact .int k n
 |bool b=>exact .bool b
 |str s=>exact .str s
 |iF=>exact .iF
 |iA t row off a vs hk hl hc hr=>exact aZ.pure hX.kinds (.iA t row off a vs hk hl hc hr) rfl
 |kM t=>exact .kM t
 |ab t xs a cap vss hl lR ki hk hc hr=>exact aZ.pure hX.kinds (.ab t xs a cap vss hl lR ki hk hc hr) rfl
 |ke=>exact .ke
 |dC f first fL vf vc hf hc h1 h2=>exact aZ.pure hX.kinds (.dC f first fL vf vc hf hc h1 h2) (agh (by simpa only [aA.qY]using hq))
 |_=>exact absurd hq (by simp [aA.qY,Kw])
def dz.qY(hX:X.Ok){ρ ρ':bX}{F:bT}{w:World}{xs:bl}{vs:fI}(hq:xs.all qY=true)(h:dz X.K ρ F w xs vs):dz X.K ρ' F w xs vs:=
 ⟨h.1,λj y u hy hu=>(h.2 j y u hy hu).qY hX (jS.1 hq y (mT hy))⟩
def hdQ:Hd:=⟨.nilFunc,0⟩
def lP.lift(hX:X.Ok){f:FuncId}(h:lP X f args [] x [])(ha:args.all qY=true)(hx:qY x=true)(M:aV):lP X f args M x M:=by
 refine⟨h.1,λ{w0 S F ρ w vs} hI hr=> ?_⟩;have bz:vu M []=true:=rfl;have hs:=hI.sub hX bz hdQ;have nW:dz X.K (aA.sub hdQ ρ []) F w args vs:=hr.qY hX ha;refine(h.2 hs nW).mono ?_;rintro e w' ⟨v,ρ',F',rfl,dO,hg,hv⟩;obtain⟨i3,g3,_⟩:=hI.merge (m:=0) hX bz hdQ dO (hg.toF 0) rfl;have hm:aA.merge 0 M [] []=M:=by simp [aA.merge,te]
 rw [hm]at i3;exact⟨v,_,F',rfl,i3,g3,hv.qY hX hx⟩
def aB9{c:Call}(ho:o.op= .call c){f:Operand}(mM:c.callee= .value f){first fL:bl}(hf:e f= .dC g first fL)
 (h:lP X g (first++c.args.toList.map e++fL) M x M'):fJ X o e M x M':=by
 obtain⟨pV,su⟩:=h;intro rd n w0 S F ρ w act next Q hI hr hn;have h1:=hr f;rw [hf]at h1;generalize hv:act.eval f=vf at h1;cases h1 with
 |dC _ _ _ v1 v2 fg fY r1 r2=>
  exact aoG
def aGn(X:Cx)(t:TypeId):Bool:=(X.ti t).ok &&(X.ti t).ks.all λk=>match k with| .int _=>true| .bool =>true| .str =>true|_=>false
def Rz(X:Cx)(e:Operand->AV)(o:Oper):Option (FuncId×bl):=
 match o.op with
 | .call c=>
   match c.callee with
   | .value f=>
     match e f with
     | .dC g first fL=>
       match(aGn X o.type&&(first++c.args.toList.map e++fL).all qY)&&X.pk with
       |true=>some (g,first++c.args.toList.map e++fL)
       |false=>none
     |_=>none
   |_=>none
 |_=>none
def agr(hX:X.Okb){T:iw R}(hT:T.oj X){k:AV->Option R}{r:R}(hq:Rz X e o=some (g,args))
 (h:(T.call g args [] λx M'=>aR (M'.isEmpty&&qY x) (k x))=some r):∃y,k y=some r∧∀(M':aV),fJ X o e M' y M':=by
 unfold Rz at hq;split at hq
 case h_2=>cases hq
 rename_i c ho;split at hq
 case h_2=>cases hq
 rename_i f mM;split at hq
 case h_2=>cases hq
 rename_i g' first fL hf
 split at hq
 case h_2=>cases hq
 rename_i jq;injection hq with hq;injection hq with h1 h2;subst h1;subst h2;obtain⟨x,M1,hc,h,_⟩:=hT.call h;replace h:=dq h;obtain⟨h1,h⟩:=h;rw [bM]at h1 jq;obtain⟨jq,LY⟩:=jq;rw [bM]at jq;have:M1=[]:=by simpa using h1.1
 subst this;exact⟨x,h,λM'=>aB9 ho mM hf (hc.lift (hX.ok LY) jq.2 h1.2 M')⟩
end
end Go.aA
namespace Go.aA
def Kd{p:Prop}(h:p:=by
 intro y h;cases y<;>first|rfl|cases h):p:=h
def ZI{p:Prop}(h:p:=by
 intro a y h;cases y<;>first|cases h|skip
 rw [dU h]):p:=h
def Gc{p:Prop}(h:p:=by simpa using ht):p:=h
def aj2{p:Prop}(h:p:=by
 simp only [bM]at h;rw [dU h.1.1,dU h.1.2,dU h.2]):p:=h
def ajM{p:Prop}(h:p:=by
 obtain⟨e',uR,hh⟩:=h2 w hw;exact⟨e',iD _ uR,hh⟩):p:=h
def ajj{p:Prop}(h:p:=by
 intro cs ih y h;cases y<;>first|cases h|skip
 rw [ih _ h]):p:=h
end Go.aA
namespace Go.aA
open Go
noncomputable section
variable {X:Cx} {R:Type}
variable{id:Nat}
structure cx where
 i:Nat
 o:Oper
 q:Bool
 x:AV
 ids:dP
 cl:Nat
 env:cY
 M:aV
 M':aV
variable{s:cx}
def iE(o:Oper):dP:=o.op.operands.toList.filterMap λ| .tmp t=>some t|_=>none
def guardOf(ops:Array Oper)(o:Oper):dP:=match o.guard with|some (j,_)=>(Aw ops j).toList |none=>[]
def lU(rs:dP)(env:cY):cY:=rs.map λu=>(u,look env u)
theorem ahq(env:cY)(t:Nat):∀rs:dP,look (lU rs env) t=look env t∧t∈rs∨look (lU rs env) t= .top
 | []=> .inr rfl
 |u::rs=>by
  unfold lU;simp only [nu,p0,look_nil]
  by_cases ht:t=u
  ·subst ht;simp
  ·have:(t==u)=false:=by simpa using ht
   simp only [this,lO,nv];rcases ahq env t rs with⟨h,hm⟩|h
   ·exact .inl ⟨h,iD _ hm⟩
   ·exact .inr h
def Rv:List cx->Nat->Option Nat
 | [],_=>none
 |t::log,i=>if t.i==i then some t.cl else Rv log i
def qX(log:List cx):List Edge->Option Nat
 | []=>some 0
 |e::es=>
  if Region.binds .any e then
   match Rv log e.on,qX log es with
   |some m,some r=>some (2^e.on|||m|||r)
   |_,_=>none
  else qX log es
theorem aBE{log:List cx}{i m:Nat}(h:Rv log i=some m):∃t∈log,t.i=i∧t.cl=m:=by
 induction log with
 |nil=>exact aX
 |cons t log ih=>
  simp only [Rv]at h;split at h
  ·rename_i ht;injection h with h;exact⟨t,fP,Gc,h⟩
  ·obtain⟨s,hs,h1⟩:=ih h;exact⟨s,iD _ hs,h1⟩
theorem O8{log:List cx}:∀{es:List Edge} {m:Nat},qX log es=some m->
 (∀e∈es,Region.binds .any e=true->∃t∈log,t.i=e.on)∧∀w,m.testBit w=true->∃e∈es,Region.binds .any e=true∧(w=e.on∨∃t∈log,t.i=e.on∧t.cl.testBit w=true)
 | [],m,h=>by
   simp only [qX,Option.some.injEq]at h;subst h;exact⟨λe he=>by simp at he,λw hw=>by simp at hw⟩
 |e::es,m,h=>by
  simp only [qX]at h;split at h
  ·rename_i hb;split at h
   ·rename_i a r ha hr;injection h with h;subst h;obtain⟨t,ht,Tg,htc⟩:=aBE ha;obtain⟨h1,h2⟩:=O8 hr;refine⟨λe' uR mQ=> ?_,λw hw=> ?_⟩
    ·rcases gX.1 uR with rfl|uR
     ·exact⟨t,ht,Tg⟩
     ·exact h1 e' uR mQ
    ·rw [Nat.testBit_or,Nat.testBit_or,z6,z6]at hw;rcases hw with(hw|hw)|hw
     ·rw [Nat.testBit_two_pow]at hw;exact⟨e,fP,hb,.inl (by simpa using Eq.symm (by simpa using hw))⟩
     ·exact⟨e,fP,hb,.inr ⟨t,ht,Tg,by rw [htc];exact hw⟩⟩
     ·exact ajM
   ·exact aX
  ·rename_i hb;obtain⟨h1,h2⟩:=O8 h;refine⟨λe' uR mQ=> ?_,λw hw=> ?_⟩
   ·rcases gX.1 uR with rfl|uR
    ·exact absurd mQ hb
    ·exact h1 e' uR mQ
   ·exact ajM
def uy(o:Option Nat)(l:dP):Bool:=match o with|some d=>l.contains d|none=>false
theorem PA{o:Option Nat}{l:dP}(h:(!uy o l)=true):∀d,o=some d->d∉l:=by
 intro d hd hm;subst hd;simp [uy,hm]at h
def vz{α:Type}(f:α->α->Bool):List α->List α->Bool
 | [],[]=>true
 |x::xs,y::ys=>f x y&&vz f xs ys
 |_,_=>false
theorem Cj{α:Type}{f:α->α->Bool}(hf:∀x y,f x y=true->x=y):∀{xs ys:List α},vz f xs ys=true->xs=ys
 | [],[],_=>rfl
 | [],_::_,h=>by simp [vz]at h
 |_::_,[],h=>by simp [vz]at h
 |x::xs,y::ys,h=>by
  simp only [vz,bM]at h;rw [hf x y h.1,Cj hf h.2]
def Kq:AV->AV->Bool
 | .int k a,.int k' b=>k==k'&&a==b
 | .bool a,.bool b=>a==b
 | .iF,.iF =>true
 | .ptr a i o,.ptr b j p=>Nat.beq a b&&Nat.beq i j&&Nat.beq o p
 | .aC a,.aC b=>Nat.beq a b
 | .gQ,.gQ =>true
 | .ke,.ke =>true
 | .iB a,.iB b=>Nat.beq a b
 | .mp a,.mp b=>Nat.beq a b
 | .mg,.mg =>true
 | .lz a n,.lz b m=>Nat.beq a b&&Nat.beq n m
 | .vw a l n,.vw b k m=>Nat.beq a b&&Nat.beq l k&&Nat.beq n m
 | .jR,.jR =>true
 | .str a,.str b=>decide (a=b)
 |_,_=>false
theorem Ym(x y:AV)(h:Kq x y=true):x=y:=by
 cases x<;>cases y<;>simp_all [Kq]
def Ko(x:AV):AV->Bool:=AV.rec (motive_1:=λ_=>AV->Bool) (motive_2:=λ_=>List AV->Bool) (motive_3:=λ_=>List bl->Bool) (λ_=>false) (λk a y=>match y with| .int k' b=>k==k'&&a==b|_=>false) (λa y=>match y with| .bool b=>a==b|_=>false) (λa y=>match y with| .str b=>decide (a=b)|_=>false)
 (λ_ ih y=>match y with| .agg ys=>ih ys|_=>false) (λ_ ih y=>match y with| .ew ys=>ih ys|_=>false) (λy=>match y with| .iF =>true|_=>false)
 (λt _ off ih y=>match y with| .iA t' row yQ=>Nat.beq t t'&&Nat.beq off yQ&&ih row|_=>false) (λa i o y=>match y with| .ptr b j p=>Nat.beq a b&&Nat.beq i j&&Nat.beq o p|_=>false)
 (λt _ ih y=>match y with| .ab t' ys=>Nat.beq t t'&&ih ys|_=>false) (λa y=>match y with| .aC b=>Nat.beq a b|_=>false) (λy=>match y with| .gQ =>true|_=>false)
 (λf _ _ kS fr y=>match y with| .dC g a b=>Nat.beq f g&&kS a&&fr b|_=>false) (λy=>match y with| .ke =>true|_=>false) (λa y=>match y with| .iB b=>Nat.beq a b|_=>false) (λa y=>match y with| .mp b=>Nat.beq a b|_=>false)
 (λy=>match y with| .mg =>true|_=>false) (λa n y=>match y with| .lz b m=>Nat.beq a b&&Nat.beq n m|_=>false) (λa l n y=>match y with| .vw b k m=>Nat.beq a b&&Nat.beq l k&&Nat.beq n m|_=>false) (λy=>match y with| .jR =>true|_=>false)
 (λl=>match l with| []=>true|_=>false) (λ_ _ kS fr l=>match l with|y::ys=>kS y&&fr ys| []=>false) (λl=>match l with| []=>true|_=>false) (λ_ _ kS fr l=>match l with|y::ys=>kS y&&fr ys| []=>false) x
def F5(x:bl):bl->Bool:=AV.rec_1 (motive_1:=λ_=>AV->Bool) (motive_2:=λ_=>List AV->Bool) (motive_3:=λ_=>List bl->Bool) (λ_=>false) (λk a y=>match y with| .int k' b=>k==k'&&a==b|_=>false) (λa y=>match y with| .bool b=>a==b|_=>false) (λa y=>match y with| .str b=>decide (a=b)|_=>false)
 (λ_ ih y=>match y with| .agg ys=>ih ys|_=>false) (λ_ ih y=>match y with| .ew ys=>ih ys|_=>false) (λy=>match y with| .iF =>true|_=>false)
 (λt _ off ih y=>match y with| .iA t' row yQ=>Nat.beq t t'&&Nat.beq off yQ&&ih row|_=>false) (λa i o y=>match y with| .ptr b j p=>Nat.beq a b&&Nat.beq i j&&Nat.beq o p|_=>false)
 (λt _ ih y=>match y with| .ab t' ys=>Nat.beq t t'&&ih ys|_=>false) (λa y=>match y with| .aC b=>Nat.beq a b|_=>false) (λy=>match y with| .gQ =>true|_=>false)
 (λf _ _ kS fr y=>match y with| .dC g a b=>Nat.beq f g&&kS a&&fr b|_=>false) (λy=>match y with| .ke =>true|_=>false) (λa y=>match y with| .iB b=>Nat.beq a b|_=>false) (λa y=>match y with| .mp b=>Nat.beq a b|_=>false)
 (λy=>match y with| .mg =>true|_=>false) (λa n y=>match y with| .lz b m=>Nat.beq a b&&Nat.beq n m|_=>false) (λa l n y=>match y with| .vw b k m=>Nat.beq a b&&Nat.beq l k&&Nat.beq n m|_=>false) (λy=>match y with| .jR =>true|_=>false)
 (λl=>match l with| []=>true|_=>false) (λ_ _ kS fr l=>match l with|y::ys=>kS y&&fr ys| []=>false) (λl=>match l with| []=>true|_=>false) (λ_ _ kS fr l=>match l with|y::ys=>kS y&&fr ys| []=>false) x
def Y4(x:List bl):List bl->Bool:=AV.rec_2 (motive_1:=λ_=>AV->Bool) (motive_2:=λ_=>List AV->Bool) (motive_3:=λ_=>List bl->Bool) (λ_=>false) (λk a y=>match y with| .int k' b=>k==k'&&a==b|_=>false) (λa y=>match y with| .bool b=>a==b|_=>false) (λa y=>match y with| .str b=>decide (a=b)|_=>false)
 (λ_ ih y=>match y with| .agg ys=>ih ys|_=>false) (λ_ ih y=>match y with| .ew ys=>ih ys|_=>false) (λy=>match y with| .iF =>true|_=>false)
 (λt _ off ih y=>match y with| .iA t' row yQ=>Nat.beq t t'&&Nat.beq off yQ&&ih row|_=>false) (λa i o y=>match y with| .ptr b j p=>Nat.beq a b&&Nat.beq i j&&Nat.beq o p|_=>false)
 (λt _ ih y=>match y with| .ab t' ys=>Nat.beq t t'&&ih ys|_=>false) (λa y=>match y with| .aC b=>Nat.beq a b|_=>false) (λy=>match y with| .gQ =>true|_=>false)
 (λf _ _ kS fr y=>match y with| .dC g a b=>Nat.beq f g&&kS a&&fr b|_=>false) (λy=>match y with| .ke =>true|_=>false) (λa y=>match y with| .iB b=>Nat.beq a b|_=>false) (λa y=>match y with| .mp b=>Nat.beq a b|_=>false)
 (λy=>match y with| .mg =>true|_=>false) (λa n y=>match y with| .lz b m=>Nat.beq a b&&Nat.beq n m|_=>false) (λa l n y=>match y with| .vw b k m=>Nat.beq a b&&Nat.beq l k&&Nat.beq n m|_=>false) (λy=>match y with| .jR =>true|_=>false)
 (λl=>match l with| []=>true|_=>false) (λ_ _ kS fr l=>match l with|y::ys=>kS y&&fr ys| []=>false) (λl=>match l with| []=>true|_=>false) (λ_ _ kS fr l=>match l with|y::ys=>kS y&&fr ys| []=>false) x
theorem ahh(x:AV):∀(y:AV),Ko x y=true->x=y:=by
 refine AV.rec (motive_1:=λx=>∀y,Ko x y=true->x=y) (motive_2:=λl=>∀l',F5 l l'=true->l=l') (motive_3:=λl=>∀l',Y4 l l'=true->l=l') ?_ ?_ ?_ ?_ ?_ ?_ ?_ ?_ ?_ ?_ ?_ ?_ ?_ ?_ ?_ ?_ ?_ ?_ ?_ ?_ ?_ ?_ ?_ ?_ x
 ·intro y h;cases h
 ·intro k a y h;cases y<;>first|cases h|skip
  rename_i k' b;have h:(k==k'&&a==b)=true:=h;simp only [bM,iy]at h;rw [h.1,h.2]
 ·intro a y h;cases y<;>first|cases h|skip
  rename_i b;have h:(a==b)=true:=h;rw [iy]at h;rw [h]
 ·intro a y h;cases y<;>first|cases h|skip
  rename_i b;have h:decide (a=b)=true:=h;rw [FF h]
 ·exact ajj
 ·exact ajj
 ·exact Kd
 ·intro t row off ih y h;cases y<;>first|cases h|skip
  rename_i t' GY yQ;have h:(Nat.beq t t'&&Nat.beq off yQ&&F5 row GY)=true:=h;simp only [bM]at h;rw [dU h.1.1,dU h.1.2,ih _ h.2]
 ·intro a i o y h;cases y<;>first|cases h|skip
  rename_i b j p;have h:(Nat.beq a b&&Nat.beq i j&&Nat.beq o p)=true:=h;exact aj2
 ·intro t xs ih y h;cases y<;>first|cases h|skip
  rename_i t' ys;have h:(Nat.beq t t'&&Y4 xs ys)=true:=h;rw [bM]at h;rw [dU h.1,ih _ h.2]
 ·exact ZI
 ·exact Kd
 ·intro f a b kS fr y h;cases y<;>first|cases h|skip
  rename_i g a' b';have h:(Nat.beq f g&&F5 a a'&&F5 b b')=true:=h;simp only [bM]at h;rw [dU h.1.1,kS _ h.1.2,fr _ h.2]
 ·exact Kd
 ·exact ZI
 ·exact ZI
 ·exact Kd
 ·intro a n y h;cases y<;>first|cases h|skip
  rename_i b m;have h:(Nat.beq a b&&Nat.beq n m)=true:=h;rw [bM]at h;rw [dU h.1,dU h.2]
 ·intro a l n y h;cases y<;>first|cases h|skip
  rename_i b k m;have h:(Nat.beq a b&&Nat.beq l k&&Nat.beq n m)=true:=h;exact aj2
 ·exact Kd
 ·intro l h;cases l<;>first|rfl|cases h
 ·intro x xs kS fr l h;cases l with
  |nil=>exact aX
  |cons y ys=>
   have h:(Ko x y&&F5 xs ys)=true:=h;rw [bM]at h;rw [kS _ h.1,fr _ h.2]
 ·intro l h;cases l<;>first|rfl|cases h
 ·intro x xs kS fr l h;cases l with
  |nil=>exact aX
  |cons y ys=>
   have h:(F5 x y&&Y4 xs ys)=true:=h;rw [bM]at h;rw [kS _ h.1,fr _ h.2]
def Ra:AV->AV->Bool
 | .ab t xs,y=>Ko (.ab t xs) y
 | .iA t row off,y=>Ko (.iA t row off) y
 |x,y=>Kq x y
theorem ahg(x y:AV)(h:Ra x y=true):x=y:=by
 unfold Ra at h;split at h
 ·exact ahh _ _ h
 ·exact ahh _ _ h
 ·exact Ym _ _ h
def Kp:AV->AV->Bool
 | .agg xs,.agg ys=>vz Ra xs ys
 | .dC f [] xs,.dC g [] ys=>Nat.beq f g&&vz Kq xs ys
 |x,y=>Ra x y
theorem Yl(x y:AV)(h:Kp x y=true):x=y:=by
 unfold Kp at h;split at h
 ·rw [Cj ahg h]
 ·rw [bM]at h;rw [Cj Ym h.2,dU h.1]
 ·exact ahg _ _ h
def aad(x y:AV×AV):Bool:=Kq x.1 y.1&&Kp x.2 y.2
theorem aCy(x y:AV×AV)(h:aad x y=true):x=y:=by
 obtain⟨a,b⟩:=x;obtain⟨c,d⟩:=y;simp only [aad,bM]at h;rw [Ym _ _ h.1,Yl _ _ h.2]
def aae:ep->ep->Bool
 | .var ks cs,.var zn Mn=>ks==zn&&vz Kp cs Mn
 | .row t xs,.row t' jM=>t==t'&&vz (vz Kp) xs jM
 | .map k ag ks es,.map k' ag' zn es'=>k==k'&&ag==ag'&&ks==zn&&vz aad es es'
 | .dead,.dead =>true
 |_,_=>false
theorem aCz(x y:ep)(h:aae x y=true):x=y:=by
 unfold aae at h;split at h
 ·simp only [bM,iy]at h;rw [h.1,Cj Yl h.2]
 ·simp only [bM,iy]at h;rw [h.1,Cj (λ_ _ h=>Cj Yl h) h.2]
 ·simp only [bM,iy]at h;rw [h.1.1.1,h.1.1.2,h.1.2,Cj aCy h.2]
 ·rfl
 ·exact aX
def abM(l:dP)(d:Nat):Bool:=List.rec (motive:=λ_=>Bool) false (λu _ ih=>Bool.rec (motive:=λ_=>Bool) ih true (Nat.beq d u)) l
theorem ahv:∀{l:dP} {d:Nat},abM l d=false->d∉l
 | [],_,_,h=>hU
 |u::l,d,h,hm=>by
  have h:Bool.rec (motive:=λ_=>Bool) (abM l d) true (Nat.beq d u)=false:=h;cases hb:Nat.beq d u with
  |true=>rw [hb]at h;cases h
  |false=>
   rw [hb]at h;rcases gX.1 hm with e|hm
   ·subst e;simp at hb
   ·exact ahv h hm
def cx.keeps(s:cx)(id:Nat):Bool:=
 match gm s.M id with
 |none=>false
 |some b=>match abM s.ids id with
  |false=>true
  |true=>match gm s.M' id with|some a=>aae a b|none=>false
def cx.vK(s:cx)(id:Nat):Prop:=(id∉s.ids∧id<s.M.length)∨s.M'[id]?=s.M[id]?
theorem cx.agj(h:s.keeps id=true):s.vK id:=by
 unfold cx.keeps at h;simp only [fb]at h;split at h
 ·exact aX
 ·rename_i b hb;split at h
  ·rename_i hn;exact .inl ⟨ahv hn,(eZ.1 hb).1⟩
  ·split at h
   ·rename_i a ha;exact .inr (by rw [ha,hb,aCz _ _ h])
   ·exact aX
theorem cx.vK.at(h:s.vK id)(ha:dV s.ids s.M s.M'):s.M'[id]?=s.M[id]?:=by
 rcases h with⟨h1,h2⟩|h
 ·exact ha.2 id h2 h1
 ·exact h
def Y9(ops:Array Oper)(t s:cx):Bool:=
 !(t.i==s.i)&& !(t.o.dst.isSome&&t.o.dst==s.o.dst)&&
 (t.cl.testBit s.i||
   (!uy s.o.dst (iE t.o++guardOf ops t.o)&& !uy t.o.dst (iE s.o++guardOf ops s.o)&&
     match t.q,s.q with
     |true,true=>true
     |false,false=>false
     |true,false=>t.ids.all λid=>s.keeps id
     |false,true=>s.ids.all λid=>t.keeps id))
def cx.SR(X:Cx)(nt:Nt)(ops:Array Oper)(t:cx):Prop:=
 ∀{M0:aV},(t.q=true->∀id∈t.ids,M0[id]?=t.M[id]?)->(t.q=false->M0=t.M)->
  ∀{rdc:Cy} {n:Nat} {w0:World} {S:Sc} {F:bT} {ρ:bX} {a:Act} {w:World} {Q:Exit->Act->World->Prop} {K:Act->World->Prop},Inv X w0 S F ρ M0 w->a.tmps.size=nt.n->
   (∀u∈iE t.o++guardOf ops t.o,aZ X.K ρ F w (look t.env u) (a.tmps.getD u undef))->
   (∀v w' F' ρ',Inv X w0 S F' ρ' (if t.q then M0 else t.M') w'->aZ X.K ρ' F' w' t.x v->Grow F F' ρ ρ' w w'->K (a.put t.o.dst v) w')->wpOpIn (lI rdc.r) n X.P ops Q t.i K a w
section
variable {D:Nat->Bool} {nt:Nt} {ops:Array Oper} {env0:cY} {M0:aV}
abbrev di(L:Array Bool)(i:Nat):Prop:=L.getD i false=true
def sS(L:Array Bool)(log:List cx):Prop:=∀t∈log,di L t.i->∀e∈t.o.after,Region.binds .any e=true->di L e.on
end
end
end Go.aA
namespace Go.aA
def Gb{p:Prop}(h:p:=by simp [hq]):p:=h
end Go.aA
namespace Go.aA
def Pg:=@List.countP_cons_of_pos
def Yd:=@List.countP_cons_of_neg
end Go.aA
namespace Go.aA
open Go
noncomputable section
variable {X:Cx} {R:Type}
section
variable {D:Nat->Bool} {nt:Nt} {ops:Array Oper} {env0:cY} {M0:aV}
theorem X0{α:Type}{p q:α->Bool}:∀{l:List α},(∀x∈l,q x=true->p x=true)->(∃x∈l,p x=true∧q x=false)->l.countP q<l.countP p
 | [],_,⟨x,hx,_⟩=>wT
 |a::l,h,⟨x,hx,hp,hq⟩=>by
  have aO6:l.countP q<=l.countP p:=List.countP_mono_left λy hy=>h y (iD _ hy);rcases gX.1 hx with rfl|hx
  ·rw [Pg hp,Yd (Gb)];omega
  ·have ih:=X0 (λy hy=>h y (iD _ hy)) ⟨x,hx,hp,hq⟩
   by_cases hqa:q a=true
   ·rw [Pg hqa,Pg (h a fP hqa)];omega
   ·rw [Yd hqa]
    by_cases hpa:p a=true
    ·rw [Pg hpa];omega
    ·rw [Yd hpa];omega
end
end
noncomputable section
variable {X:Cx} {R:Type}
section
variable {w0 w:World} {S:Sc} {F:bT}
end
section
variable {D:Nat->Bool} {nt:Nt} {ops:Array Oper} {env0:cY} {M0:aV}
end
end
noncomputable section
variable {X:Cx} {R:Type}
variable{env:cY}
def Kr(T:iw R)(ops:Array Oper)(t:cx)(st:St)(log:List cx)(k:List cx->St->Option R):Option R:=
 aR (log.all (Y9 ops t)) (kP T.nt st t.o.dst t.x t.M' λbh=>k (t::log) bh)
def ali:Nat->List Oper->Bool
 |_,[]=>true
 |i,o::os=>(o.after.toList.all λe=> !Region.binds .any e||Nat.blt e.on i)&&ali (i+1) os
def aha(done:dP):Nat->List Oper->Option Nat
 |_,[]=>none
 |i,o::os=>if !done.contains i&&(o.after.toList.all λe=> !Region.binds .any e||done.contains e.on)then some i else aha done (i+1) os
def amP(ops:List Oper):Nat->dP->dP
 |0,done=>done.reverse
 |n+1,done=>match aha done 0 ops with|some i=>amP ops n (i::done)|none=>done.reverse
def alu(ops:List Oper):dP:=if ali 0 ops then List.range ops.length else amP ops ops.length []
theorem Fs{ρ:bX}{F:bT}{w:World}{tmps:Array Value}{rs:dP}(h:∀u∈rs,aZ X.K ρ F w (look env u) (tmps.getD u undef)):jg X ρ F w (lU rs env) tmps:=by
 intro t;rcases ahq env t rs with⟨he,hm⟩|he
 ·rw [he];exact h t hm
 ·rw [he];exact .top _
theorem zS{d:Nat}{x:AV}(h:look env d=x)(u:Nat):look ((d,x)::env) u=look env u:=by
 simp only [p0,look_nil]
 by_cases hu:u=d
 ·subst hu;simp [h]
 ·have:(u==d)=false:=by simpa using hu
  simp [this]
def GJ(X:Cx)(ops:Array Oper)(o:Oper)(env:cY)(b:Bool):Prop:=
 ∀{ρ:bX} {F:bT} {w:World} {tmps:Array Value},(∀u∈iE o++guardOf ops o,aZ X.K ρ F w (look env u) (tmps.getD u undef))->Region.wanted o (yielded ops tmps)=b
variable {D:Nat->Bool} {nt:Nt} {ops:Array Oper} {env0 gU:cY} {M0 M1:aV}
theorem aga{T:iw R}{t:cx}{st:St}{log:List cx}{k:List cx->St->Option R}{r:R}(h:Kr T ops t st log k=some r):
 ∃bh,k (t::log) bh=some r∧(∀s∈log,Y9 ops t s=true)∧(∀d,t.o.dst=some d->d<T.nt.n∧T.nt.mask.testBit d=true)∧(∀u,look bh.env u=(if t.o.dst=some u then t.x else look st.env u))∧bh.mem=t.M'∧bh.iR=st.iR∧bh.rd=st.rd:=by
 unfold Kr at h;replace h:=dq h;obtain⟨hp,h⟩:=h;unfold kP at h;have Bq:∀s∈log,Y9 ops t s=true:=λs hs=>jS.1 hp s hs;cases hd:t.o.dst with
 |none=>
  rw [hd]at h;exact⟨_,h,Bq,λd e=>by simp at e,λu=>by simp,rfl,rfl,rfl⟩
 |some d=>
  rw [hd]at h;replace h:=dq h;obtain⟨cM,h⟩:=h;refine⟨_,h,Bq,λd' e=>by injection e with e;subst e;simp only [bM]at cM;exact⟨by simpa using cM.1,cM.2⟩,λu=> ?_,rfl,rfl,rfl⟩;simp only [p0,look_nil]
  by_cases hu:u=d
  ·subst hu;simp
  ·have:(u==d)=false:=by simpa using hu
   have h2:¬d=u:=λe=>hu e.symm;simp [this,h2]
theorem World.ae1(w:World):w.grownBy {w with drawn:=w.drawn+1} none:=⟨rfl,rfl,rfl,fk _,λ_ _ _=>rfl⟩
end
noncomputable section
variable {X:Cx} {R:Type}
variable {D:Nat->Bool} {nt:Nt} {ops:Array Oper} {env0:cY} {M0:aV}
end
noncomputable section
variable {X:Cx} {R:Type}
variable {D:Nat->Bool} {nt:Nt} {ops:Array Oper} {env0 gU:cY} {M0 M1:aV}
end
end Go.aA
namespace Go.aA
def aoD{p:Prop}(h:p:=by
 intro l1
 induction l1 with
 |nil=>intro _ _ _ _ _ t ht;simp at ht
 |cons s l1 ih=>
  intro l2 ia M' hl he t ht;obtain⟨gU,M1,fg,st⟩:=hl;have Bk:=ih (l2++[s]) gU M1 fg (by simpa using he);rcases gX.1 ht with rfl|ht
  ·by_cases ef:di L t.i
   ·exact ef
   ·exfalso;have hZ:t.i∈Region.ready .any ops L:=by
     rw [Pq];have cM:t.i<ops.size:=(wK.1 st.op).1;refine⟨?_,t.o,st.op,λe hee hb=> ?_⟩
     ·have:t.i<L.size:=by omega
      simp only [di,pj,Ci this,pb]at ef⊢;simpa using ef
     ·obtain⟨r,nW,qx⟩:=st.pre e hee hb;rw [<-qx];exact Bk r nW
    rw [hr]at hZ;simp at hZ
  ·exact Bk t ht):p:=h
def Sg{p:Prop}(h:p:=by
 intro _ Mx hM _ rdc n w0 S F ρ a w Q K hI ev hr hk;unfold wpOpIn;simp only [hi,hw hr,oJ];exact dE Mx hI (λz=>Ae hI (Fs λu hu=>hr u (yf _ hu)) z) (λv w' ρ' F' dO hg hx=>hk v w' F' ρ' dO hx hg)):p:=h
def amh{p:Prop}(h:p:=by
 cases hr:Region.ready .any ops L with
 |nil=>rfl
 |cons i is=>
  exfalso;have hZ:i∈Region.ready .any ops L:=by rw [hr];exact fP
  rw [Pq]at hZ;obtain⟨hf,o,ho,_⟩:=hZ;have cM:i<ops.size:=(wK.1 ho).1;obtain⟨t,ht,rfl⟩:=jq i cM;have h1:=ef t ht;have:t.i<L.size:=by omega
  simp only [di,pj,Ci this,pb]at h1 hf;rw [h1]at hf;cases hf):p:=h
def ama{p:Prop}(h:p:=by
 intro _ Mx _ hM rdc n w0 S F ρ a w Q K hI ev hr hk;unfold wpOpIn;simp only [hi,hw hr,oJ];have Ec:=hM rfl;subst Ec;exact dE hI (λz=>Ae hI (Fs λu hu=>hr u (yf _ hu)) z) (λv w' ρ' F' dO hg hx=>hk v w' F' ρ' dO hx hg)):p:=h
def al7{p:Prop}(h:p:=by
 cases nY:(dp M0 L c).2 with
 |false=>rfl
 |true=>
  rw [u7]at nY;have:(dp M0 (L.setIfInBounds t.i true) c).2 =true:=u7.2 λr hr qw=>(nc _).2 (.inr (nY r hr qw));rw [this]at iv;cases iv):p:=h
def al4{p:Prop}(h:p:=by
 intro t ht;have h0:log.countP (λt=> !(L.getD t.i false))=0:=by omega
 have:=List.countP_eq_zero.1 h0 t ht;cases hb:L.getD t.i false with
 |true=>exact hb
 |false=>exact absurd (by simp only [hb,ag6]) this):p:=h
def al3{p:Prop}(h:p:=by
 intro _ Mx hM _ rdc n w0 S F ρ a w Q K hI ev hr hk;unfold wpOpIn;simp only [hi,hw hr,oJ];exact dE Mx (hM rfl) hI (λz=>Ae hI (Fs λu hu=>hr u (yf _ hu)) z) (λv w' ρ' F' dO hg hx=>hk v w' F' ρ' dO hx hg)):p:=h
def alZ{p:Prop}(h:p:=by
 have:=hr d hZ;rw [hb]at this;generalize hv:tmps.getD d undef=v at this;cases this with
 |ew cs vs fY _=>
  have:vs=[]:=by simpa using fY
  subst this;rw [I2 hg,aeV hd hv];rfl):p:=h
def alW{p:Prop}(h:p:=by
 intro b env hb ρ F w tmps hr;have:=hr d hZ;rw [hb]at this;generalize hv:tmps.getD d undef=v at this;cases this;rw [I2 hg,af2 hd hv];cases b<;>cases want<;>rfl):p:=h
def alT{p:Prop}(h:p:=by
 rcases gX.1 hs with rfl|hs
 ·obtain⟨e,he,hb,rfl|⟨u,hu,DZ,hut⟩⟩:=st.cl w hw
  ·exact hp e he hb
  ·exact ih u hu (eJ u (iD _ hu) (by rw [DZ];exact hp e he hb)) w hut
 ·exact ih s hs hp w hw):p:=h
def Au{p:Prop}(h:p:=by simp [p0,look_nil]):p:=h
def alF{p:Prop}(h:p:=by
 intro j
 by_cases hj:j=t.i
 ·subst hj;simp [di,pj,abF]
 ·simp only [di];rw [getD_set_ne false (Ne.symm hj)];simp [hj]):p:=h
def alE{p:Prop}(h:p:=by
 cases D1:t.o.dst with
 |none=>rfl
 |some d'=>
  have eN:d'≠u:=λe=>Bo (e▸D1);simp [Act.put,pj,Pp eN]):p:=h
def aah{p:Prop}(h:p:=by
 intro ht hs id bA;rw [ht,hs]at h6;exact cx.agj (jS.1 h6 id bA)):p:=h
def akX{p:Prop}(h:p:=by
 intro s hs ed eT;rcases(nc _).1 ed with h|h
 ·exact absurd (dS.distinct hL s hs t ht h) eT
 ·exact h):p:=h
def akU{p:Prop}(h:p:=by
 rw [he];refine h0 λs hs ed hd=> ?_;rcases gX.1 hs with rfl|hs
 ·exact jo ed
 ·exact hn s hs hd):p:=h
def akG{p:Prop}(h:p:=by
 refine .inr ⟨λs hs=> ?_,h2⟩;rcases gX.1 hs with rfl|hs
 ·exact hd
 ·exact h1 s hs):p:=h
def akD{p:Prop}(h:p:=by
 intro i ef;simp only [di,pj,aCc]at ef;split at ef<;>simp at ef):p:=h
def akA{p:Prop}(h:p:=by
 cases D1:t.o.dst with
 |none=>exact hm.kept
 |some d=>exact ahu (st.dst d D1).2 hm.kept):p:=h
def aks{p:Prop}(h:p:=by
 simp only [di,pj,Ci abF,pb]at hf⊢;rw [hf];simp):p:=h
def aki{p:Prop}(h:p:=by have xG:=st.op;rw [ho]at xG;injection xG with xG;exact xG.symm):p:=h
def ajY{p:Prop}(h:p:=by
 unfold Kr;simp only [List.all_nil,aR];exact h):p:=h
def ajX{p:Prop}(h:p:=by
 obtain⟨t,ht,Tg⟩:=Po.1 this;exact⟨t,ht,by simpa using Tg⟩):p:=h
def ajH{p:Prop}(h:p:=by have:=(nc t.i).2 (.inl rfl);simpa [di]using this):p:=h
def ajB{p:Prop}(h:p:=by exact(hm.gk u λs hs ed=>hu s hs ((nc _).2 (.inr ed))).grow hg):p:=h
def Qr{p:Prop}(h:p:=by intro _ _ _ s hs;simp at hs):p:=h
def ajh{p:Prop}(h:p:=by simp only [newRow,fx,FM,gE,iz,FL]):p:=h
def ai7{p:Prop}(h:p:=by rw [h3];exact mb _ (iD _ hr)):p:=h
def ai5{p:Prop}(h:p:=by simp only [Act.put];split<;>simp [hm.size]):p:=h
def ai1{p:Prop}(h:p:=by simp only [Act.put];split<;>exact hm.defs):p:=h
def Zh{p:Prop}(h:p:=by rw [uP]at h;cases h):p:=h
def aiR{p:Prop}(h:p:=by rw [<-D5];exact mb _ fP):p:=h
def aiE{p:Prop}(h:p:=by rw [fj];exact mb _ fP):p:=h
def Qd{p:Prop}(h:p:=by rw [hq];simp):p:=h
end Go.aA
namespace Go.aA
def kK:=@List.cons_append
def rM:=@congrArg
def mb:=@List.mem_append_right
def Pq:=@Go.mem_ready
def ag6:=@Bool.not_false
def rL:=@List.append_of_mem
def yf:=@List.mem_append_left
def aCc:=@Array.getElem?_replicate
def Po:=@List.any_eq_true
def ag5:=@List.countP_le_length
def Pk:=@Bool.false_or
end Go.aA
namespace Go.aA
open Go
noncomputable section
variable {X:Cx} {R:Type}
variable{s t:cx}{l2 log:List cx}{k:List cx->St->Option R}{cl i:Nat}{o:Oper}{r:R}{st:St}{T:iw R}{env:cY}
def ab2(X:Cx)(t:TypeId)(len:Nat)(ps:cY):Option (TypeId×aW):=
 match(X.ti t).ok,(X.ti t).u with
 |true,.slice e=>
  (match(X.ti e).ok &&decide (0<(X.ti e).size)&&decide (len*(X.ti e).size <=16777216)with
   |true=>(match xd (λi=>some (i*(X.ti e).size,(X.ti e).size)) ((List.replicate len (mJ X e)).flatten) ps with
    |some cs=>(match(chunk (X.ti e).size len cs).all λrow=>dt (X.K e) row with
     |true=>some (e,chunk (X.ti e).size len cs)
     |false=>none)
    |none=>none)
   |false=>none)
 |_,_=>none
theorem aDi(hX:X.Okb){t:TypeId}{len:Nat}{ps:cY}{e:TypeId}{rows:aW}(h:ab2 X t len ps=some (e,rows)){ρ:bX}{F:bT}{w:World}(ou:∀(id:Nat) hd,ρ[id]?=some hd->hd.v.oneCell'=true)
 (pv:List (Nat×Value)) (hl:pv.length=ps.length) (hp:∀(j:Nat) p q,ps[j]?=some p->pv[j]?=some q->p.1=q.1∧aZ X.K ρ F w p.2 q.2):
 ∃us,(Instr.buildSlice t len pv.toArray).run X.P w= .ok (.slice (some ⟨w.heap.size,0,none⟩) len len) (w.alloc (.cells us e))∧rows.length=len∧
  km X ρ F (w.alloc (.cells us e)) ⟨.slice (some ⟨w.heap.size,0,none⟩) len len,(X.K e).length⟩ (.row e rows):=by
 unfold ab2 at h;split at h
 ·rename_i e' bz hu;split at h
  ·rename_i h1;split at h
   ·rename_i cs uo;split at h
    ·rename_i jk;injection h with h;injection h with h2 h3;subst h2;subst h3;simp only [bM,jm]at h1;obtain⟨⟨he,ot⟩,ki⟩:=h1;obtain⟨i,d,z,f⟩:=hX.facts bz;obtain⟨i2,d2,z2,f2⟩:=hX.facts he;have dW:=f.slice hu;have qu:z2.cells.size=(X.ti e').size :=QC;have mZ:(X.K e').length =(X.ti e').size :=Ar;have hz:dz X.K ρ F w (List.replicate len (mJ X e')).flatten ((Array.range (len*z2.cells.size)).map (z2.cells[· %z2.cells.size]!)).toList :=aai;obtain⟨us,hf,hr⟩:=Fi ou ps _ cs _ pv uo hz hl hp;have aOn:cs.length=len*(X.ti e').size :=aoE;refine⟨us,?_,B1 _ _ _,rfl,λi row hi=> ?_,.inr ⟨w.heap.size,0,len,us,?_,Pf w _,by rw [B1];exact fk _,?_,?_,λi row hi j x hx=> ?_⟩⟩
     ·unfold Instr.buildSlice;simp only [fx,jf dW,gE,f2.sizeOf];rw [if_neg (by omega)]
      by_cases h0:len*(X.ti e').size =0
      ·have e0:(Array.range (len*z2.cells.size)).map (z2.cells[· %z2.cells.size]!)= #[]:=by rw [qu,h0];simp
       rw [e0]at hf;rw [if_pos h0];simp only [fx,iz,gE];have e1:(Array.range (len*(X.ti e').size)).map (λx=>(#[]:Array Value)[x %(#[]:Array Value).size]!)= #[]:=by rw [h0];simp
       rw [e1,hf];exact ajh
      ·rw [if_neg h0];simp only [fx,iz,gE,f2.zeroValue];rw [qu]at hf;rw [qu,hf];exact ajh
     ·rw [jS]at jk;exact jk row (mT hi)
     ·rw [B1]
     ·have:len<=len*(X.ti e').size :=Pe _ ot;exact O1 (by omega)
     ·have:=hr.1;simp only [oe]at this;show 0+len*(X.K e').length <=us.size;rw [mZ];omega
     ·obtain⟨v,h1,h2⟩:=agQ hr hi hx;refine⟨v,?_,h2.mono (λ_ _ h=>h) (λ_ h=>h) (λa v _ hc=>awD a v hc)⟩;show us[0+i*(X.K e').length +j]?=some v;rw [mZ,Jx];rw [Jr]at h1;exact h1
    ·exact aX
   ·exact aX
  ·exact aX
 ·cases h
def flO(X:Cx)(o:Oper):Bool:=
 o.guard.isNone&&match o.op with
 | .alloc _=>o.after.toList.isEmpty|| !X.pk
 | .buildSlice _ n _=>(!X.pk&&Nat.blt 0 n)||(X.pk&&Nat.beq n 0&&o.after.toList.isEmpty)
 |_=>false
def gg(X:Cx)(t:cx):Bool:= !t.q&&flO X t.o
def FQ(X:Cx)(ops:Array Oper)(t s:cx):Bool:=
 !(t.i==s.i)&& !(t.o.dst.isSome&&t.o.dst==s.o.dst)&&
 (t.cl.testBit s.i||
   (!uy s.o.dst (iE t.o++guardOf ops t.o)&& !uy t.o.dst (iE s.o++guardOf ops s.o)&&
     match t.q,s.q with
     |true,true=>true
     |false,false=>gg X t
     |true,false=>t.ids.all λid=>s.keeps id
     |false,true=>s.ids.all λid=>t.keeps id))
theorem tV{ops:Array Oper}(h:FQ X ops t s=true):t.i≠s.i∧(∀d,t.o.dst=some d->s.o.dst≠some d)∧
 (t.cl.testBit s.i=true∨((∀d,s.o.dst=some d->d∉iE t.o++guardOf ops t.o)∧(∀d,t.o.dst=some d->d∉iE s.o++guardOf ops s.o)∧(t.q=true∨s.q=true∨gg X t=true)∧
   (t.q=true->s.q=false->∀id∈t.ids,s.vK id)∧(t.q=false->s.q=true->∀id∈s.ids,t.vK id))):=by
 unfold FQ at h;rw [bM,bM,z6]at h;obtain⟨⟨h1,h2⟩,h3⟩:=h;refine⟨sU,λd hd hs=>by simp [hd,hs]at h2,?_⟩;rcases h3 with h3|h3
 ·exact .inl h3
 ·refine .inr ?_;rw [bM,bM]at h3;obtain⟨⟨h4,h5⟩,h6⟩:=h3;refine⟨PA h4,PA h5,?_,?_,?_⟩
  ·revert h6;cases t.q<;>cases s.q<;>simp
  ·exact aah
  ·exact aah
def A8(X:Cx)(t:cx):List cx->Bool
 | []=>true
 |f::l=>(!(gg X f&&t.cl.testBit f.i)||l.all λr=>r.q||t.cl.testBit r.i)&&A8 X t l
theorem Px{t:cx}:∀{l2:List cx} {f:cx} {l1:List cx},A8 X t (l2++f::l1)=true->gg X f=true->t.cl.testBit f.i=true->∀r∈l1,r.q=false->t.cl.testBit r.i=true
 | [],f,l1,h,hf,hc,r,hr,hq=>by
   simp only [mE,A8,hf,hc,Bool.and_self,Bool.not_true,Pk,bM]at h;have:=jS.1 h.1 r hr;rw [hq,Pk]at this;exact this
 |_::l2,f,l1,h,hf,hc,r,hr,hq=>by
  simp only [kK,A8,bM]at h;exact Px (l2:=l2) h.2 hf hc r hr hq
def cx.alk(X:Cx)(nt:Nt)(ops:Array Oper)(t:cx)(b:ep):Prop:=
 ∀{M0:aV} {rdc:Cy} {n:Nat} {w0:World} {S:Sc} {F:bT} {ρ:bX} {a:Act} {w:World} {Q:Exit->Act->World->Prop} {K:Act->World->Prop},Inv X w0 S F ρ M0 w->a.tmps.size=nt.n->
  (∀u∈iE t.o++guardOf ops t.o,aZ X.K ρ F w (look t.env u) (a.tmps.getD u undef))->
  (∀v w' hd,w.grownBy w' none->hd.eM=some w.heap.size->w.heap.size<w'.heap.size->hd.v.oneCell'=true->km X ρ F w' hd b->
    (∀(ρ2:bX) (F2:bT) (w2:World),ρ2.length=t.M.length->aZ X.K (ρ2++[hd]) F2 w2 t.x v)->K (a.put t.o.dst v) w')->wpOpIn (lI rdc.r) n X.P ops Q t.i K a w
structure amz(X:Cx)(nt:Nt)(ops:Array Oper)(t:cx)(log:List cx)(gU:cY)(M1:aV)(env:cY)(M:aV):Prop where
 K5:∀u,look t.env u=look gU u
 hM:t.M=M1
 hq:t.q=true->t.M'=t.M
 fO:t.q=false->dV t.ids t.M t.M'
 runs:gg X t=false->t.SR X nt ops
 fl:gg X t=true->∃b,t.M'=t.M++[b]∧t.alk X nt ops b
 op:ops[t.i]?=some t.o
 dst:∀d,t.o.dst=some d->d<nt.n∧nt.mask.testBit d=true
 pair:∀s∈log,FQ X ops t s=true
 rok:A8 X t log=true
 pre:∀e∈t.o.after,Region.binds .any e=true->∃s∈log,s.i=e.on
 cl:∀w,t.cl.testBit w=true->∃e∈t.o.after,Region.binds .any e=true∧(w=e.on∨∃s∈log,s.i=e.on∧s.cl.testBit w=true)
 lk:∀u,look env u=(if t.o.dst=some u then t.x else look gU u)
 mem:M=t.M'
def dS(X:Cx)(nt:Nt)(ops:Array Oper)(env0:cY)(M0:aV):List cx->cY->aV->Prop
 | [],env,M=>(∀u,look env u=look env0 u)∧M=M0
 |t::log,env,M=>∃gU M1,dS X nt ops env0 M0 log gU M1∧amz X nt ops t log gU M1 env M
def dp(M0:aV)(L:Array Bool):List cx->aV×Bool
 | []=>(M0,true)
 |t::log=>if t.q=true then dp M0 L log else if di L t.i∧(dp M0 L log).2 =true then(t.M',true)else((dp M0 L log).1,false)
section
variable {nt:Nt} {ops:Array Oper} {env0:cY} {M0:aV} {L:Array Bool}
theorem u7:∀{log:List cx},(dp M0 L log).2 =true ↔∀s∈log,s.q=false->di L s.i
 | []=>by simp [dp]
 |t::log=>by
  have ih:=u7 (log:=log);simp only [dp];cases hq:t.q with
  |true=>
   rw [if_pos rfl,ih];constructor
   ·intro h s hs fU;rcases gX.1 hs with rfl|hs
    ·rw [hq]at fU;cases fU
    ·exact h s hs fU
   ·exact λh s hs=>h s (iD _ hs)
  |false=>
   rw [if_neg (by simp)]
   by_cases hc:di L t.i∧(dp M0 L log).2 =true
   ·rw [if_pos hc];refine⟨λ_ s hs fU=> ?_,λ_=>rfl⟩;rcases gX.1 hs with rfl|hs
    ·exact hc.1
    ·exact ih.1 hc.2 s hs fU
   ·rw [if_neg hc];refine⟨λh=>hU,λh=>absurd ⟨h t fP hq,ih.2 λs hs=>h s (iD _ hs)⟩ hc⟩
theorem aho:∀{l2 l1:List cx},(dp M0 L l1).2 =false->dp M0 L (l2++l1)=((dp M0 L l1).1,false)
 | [],l1,h=>by rw [mE];exact Prod.ext rfl h
 |t::l2,l1,h=>by
  have ih:=aho (l2:=l2) h;simp only [kK,dp];rw [ih];split
  ·rfl
  ·rw [if_neg (by simp)]
theorem Xu{L':Array Bool}:∀{log:List cx},(∀s∈log,s.q=false->(di L s.i ↔ di L' s.i))->dp M0 L log=dp M0 L' log
 | [],_=>rfl
 |t::log,h=>by
  have ih:=Xu (log:=log) λs hs=>h s (iD _ hs);simp only [dp];rw [ih];cases hq:t.q with
  |true=>rfl
  |false=>
   have:=h t fP hq
   by_cases hc:di L t.i∧(dp M0 L' log).2 =true
   ·simp only [lO,nv];rw [if_pos hc,if_pos ⟨this.1 hc.1,hc.2⟩]
   ·simp only [lO,nv];rw [if_neg hc,if_neg λhh=>hc ⟨this.2 hh.1,hh.2⟩]
theorem dS.look:∀{log:List cx} {env:cY} {M:aV},dS X nt ops env0 M0 log env M->∀u,(∃s∈log,s.o.dst=some u∧aA.look env u=s.x)∨((∀s∈log,s.o.dst≠some u)∧aA.look env u=aA.look env0 u)
 | [],env,M,⟨h,_⟩,u=> .inr ⟨λs hs=>by simp at hs,h u⟩
 |t::log,env,M,⟨_,_,hl,st⟩,u=>by
  rw [st.lk u];split
  ·rename_i hd;exact .inl ⟨t,fP,hd,rfl⟩
  ·rename_i hd;rcases dS.look hl u with⟨s,hs,h⟩|⟨h1,h2⟩
   ·exact .inl ⟨s,iD _ hs,h⟩
   ·exact akG
theorem dS.closed:∀{log:List cx} {env:cY} {M:aV},dS X nt ops env0 M0 log env M->sS L log->∀t∈log,(∀e∈t.o.after,Region.binds .any e=true->di L e.on)->∀w,t.cl.testBit w=true->di L w
 | [],_,_,_,_,t,ht,_,_,_=>by simp at ht
 |t::log,_,_,⟨_,_,hl,st⟩,eJ,s,hs,hp,w,hw=>by
  have ih:=dS.closed hl (λa ha=>eJ a (iD _ ha));exact alT
theorem dS.entry{t:cx}{l1:List cx}:∀{l2:List cx} {ia:cY} {M':aV},dS X nt ops env0 M0 (l2++t::l1) ia M'->∃gU M1 env M,dS X nt ops env0 M0 l1 gU M1∧amz X nt ops t l1 gU M1 env M
 | [],_,_,⟨_,_,hl,st⟩=>⟨_,_,_,_,hl,st⟩
 |_::l2,_,_,⟨_,_,hl,_⟩=>dS.entry (l2:=l2) hl
theorem dS.distinct:∀{env:cY} {M:aV},dS X nt ops env0 M0 log env M->∀s∈log,∀t∈log,s.i=t.i->s=t:=by
 induction log with
 |nil=>exact Qr
 |cons a log ih=>
  intro env M h s hs t ht e;obtain⟨_,_,hl,st⟩:=h
  ·rcases gX.1 hs with rfl|dv<;>rcases gX.1 ht with rfl|wj
   ·rfl
   ·exact absurd e (tV (st.pair t wj)).1
   ·exact absurd e.symm (tV (st.pair s dv)).1
   ·exact ih hl s dv t wj e
theorem dS.dst{log:List cx}:∀{env:cY} {M:aV},dS X nt ops env0 M0 log env M->∀s∈log,∀t∈log,∀d,s.o.dst=some d->t.o.dst=some d->s=t:=by
 induction log with
 |nil=>exact Qr
 |cons a log ih=>
  intro env M h s hs t ht d h1 h2;obtain⟨_,_,hl,st⟩:=h
  ·rcases gX.1 hs with rfl|dv<;>rcases gX.1 ht with rfl|wj
   ·rfl
   ·exact absurd h2 ((tV (st.pair t wj)).2.1 d h1)
   ·exact absurd h1 ((tV (st.pair s dv)).2.1 d h2)
   ·exact ih hl s dv t wj d h1 h2
theorem dS.wN:∀{log:List cx} {env:cY} {M:aV},dS X nt ops env0 M0 log env M->(dp M0 L log).2 =true->(dp M0 L log).1 =M
 | [],_,_,⟨_,h⟩,_=>h.symm
 |t::log,_,_,⟨_,_,hl,st⟩,h=>by
  simp only [dp]at h⊢;cases hq:t.q with
  |true=>
   rw [if_pos hq]at h;rw [if_pos rfl,dS.wN hl h,st.mem,st.hq hq,st.hM]
  |false=>
   rw [if_neg (Gb)]at h;rw [if_neg (by simp)]
   by_cases hc:di L t.i∧(dp M0 L log).2 =true
   ·rw [if_pos hc];exact st.mem.symm
   ·rw [if_neg hc]at h;simp at h
theorem dS.flag{o1:List cx}{M:aV}(hL:dS X nt ops env0 M0 (l2++s::o1) env M)(eJ:sS L (l2++s::o1))(fU:s.q=false)(hf:gg X s=false)
 (kh:∀e∈s.o.after,Region.binds .any e=true->di L e.on):(dp M0 L o1).2 =true:=by
 rw [u7];intro r hr qw;obtain⟨_,_,_,_,hl,st⟩:=dS.entry hL;have hc:=dS.closed (L:=L) hL eJ s (mb _ fP) kh;obtain⟨_,_,h|⟨_,_,h,_⟩⟩:=tV (st.pair r hr)
 ·exact hc _ h
 ·rw [fU,qw,hf]at h;simp at h
theorem dS.agy{t:cx}{l1:List cx}{id:Nat}(jo:¬di L t.i)(hq:t.q=true)(bA:id∈t.ids):
 ∀{l2:List cx} {ia:cY} {M':aV},dS X nt ops env0 M0 (l2++t::l1) ia M'->sS L (l2++t::l1)->(∀e∈t.o.after,Region.binds .any e=true->di L e.on)->
  (dp M0 L (l2++t::l1)).1[id]?=t.M[id]?
 | [],ia,M',hL,eJ,kh=>by
   obtain⟨_,_,hl,st⟩:=_root_.id hL
   ·simp only [mE,dp];rw [if_pos hq,st.hM];have K7:=dS.closed (L:=L) hL eJ t fP kh;have key:∀(l:List cx) (l':List cx) (e:cY) (N:aV),l'++l=l1->dS X nt ops env0 M0 l e N->(dp M0 L l).1[id]?=N[id]?:=by
     intro l
     induction l with
     |nil=>intro _ _ _ _ h;rw [h.2];rfl
     |cons s l ih=>
      intro l' e N D5 h;have ir:s∈l1:=aiR;have hp:=tV (st.pair s ir);obtain⟨_,_,fY,kE⟩:=h
      ·have Bk:=ih (l'++[s]) _ _ (by simpa using D5) fY;simp only [dp];cases fU:s.q with
       |true=>rw [if_pos rfl,Bk,kE.mem,kE.hq fU,kE.hM]
       |false=>
        rw [if_neg (by simp)]
        by_cases hc:di L s.i∧(dp M0 L l).2 =true
        ·rw [if_pos hc,kE.mem]
        ·rw [if_neg hc];have hk:s.vK id:=by
          obtain⟨_,_,h|⟨_,_,_,h,_⟩⟩:=hp
          ·exfalso;refine hc ⟨K7 _ h,?_⟩;cases hf:gg X s with
           |true=>
            rw [u7];intro r hr qw;have:=Px (l2:=l') (l1:=l) (by rw [D5];exact st.rok) hf h r hr qw;exact K7 _ this
           |false=>
            have rE:dS X nt ops env0 M0 ((t::l')++s::l) ia M':=by
             have e:(t::l')++s::l=t::l1:=by rw [<-D5];rfl
             rw [e];exact hL
            have apa:sS L ((t::l')++s::l):=by
             have e:(t::l')++s::l=t::l1:=by rw [<-D5];rfl
             rw [e];exact eJ
            exact dS.flag rE apa fU hf (apa s (mb _ fP) (K7 _ h))
          ·exact h hq fU id bA
         rw [Bk,kE.mem,hk.at (kE.fO fU),kE.hM]
    exact key l1 [] _ _ rfl hl
 |s::l2,ia,M',hL,eJ,kh=>by
  obtain⟨_,_,hl,st⟩:=_root_.id hL
  ·have ih:=dS.agy jo hq bA (l2:=l2) hl (λa ha=>eJ a (iD _ ha)) kh;simp only [kK,dp];cases fU:s.q with
   |true=>rw [if_pos rfl];exact ih
   |false=>
    rw [if_neg (by simp)]
    by_cases hc:di L s.i∧(dp M0 L (l2++t::l1)).2 =true
    ·rw [if_pos hc];have hp:=tV (st.pair t (mb _ fP));have oD:=dS.closed (L:=L) hL eJ s fP (eJ s fP hc.1);obtain⟨_,_,h|⟨_,_,_,_,h⟩⟩:=hp
     ·exact absurd (oD _ h) jo
     ·show s.M'[id]?=_;rw [(h fU hq id bA).at (st.fO fU),st.hM,<-dS.wN hl hc.2];exact ih
    ·rw [if_neg hc];exact ih
theorem dS.ah4{l1:List cx}(jo:¬di L t.i)(hq:t.q=false):dp M0 L (l2++t::l1)=((dp M0 L l1).1,false):=by
 have:dp M0 L (t::l1)=((dp M0 L l1).1,false):=by
  simp only [dp];rw [if_neg (Gb),if_neg (λh=>jo h.1)]
 rw [aho (by rw [this]),this]
theorem dS.reads{t:cx}{l1:List cx}(jo:¬di L t.i){u:Nat}(hu:u∈iE t.o++guardOf ops t.o){P:AV->Prop}:
 ∀{l2:List cx} {ia:cY} {M':aV},dS X nt ops env0 M0 (l2++t::l1) ia M'->sS L (l2++t::l1)->(∀e∈t.o.after,Region.binds .any e=true->di L e.on)->
  (∀s∈l1,t.cl.testBit s.i=true->s.o.dst=some u->P s.x)->((∀s∈l2++t::l1,di L s.i->s.o.dst≠some u)->P (aA.look env0 u))->P (aA.look t.env u)
 | [],ia,M',hL,eJ,kh,hw,h0=>by
   obtain⟨_,_,hl,st⟩:=hL
   ·rw [st.K5 u];rcases dS.look hl u with⟨s,hs,hd,he⟩|⟨hn,he⟩
    ·rw [he];refine hw s hs ?_ hd;obtain⟨_,_,h|⟨h,_⟩⟩:=tV (st.pair s hs)
     ·exact h
     ·exact absurd hu (h u hd)
    ·exact akU
 |s::l2,ia,M',hL,eJ,kh,hw,h0=>by
  obtain⟨_,_,hl,st⟩:=_root_.id hL
  ·refine dS.reads jo hu (l2:=l2) hl (λa ha=>eJ a (iD _ ha)) kh hw λhn=>h0 λr hr qx hd=> ?_;rcases gX.1 hr with rfl|hr
   ·have oD:=dS.closed (L:=L) hL eJ r fP (eJ r fP qx);obtain⟨_,_,h|⟨_,h,_⟩⟩:=tV (st.pair t (mb _ fP))
    ·exact jo (oD _ h)
    ·exact h u hd hu
   ·exact hn r hr qx hd
end
def live(ρ:bX)(M:aV)(F:bT):Sc:=⟨λg=>∃(id:Nat) (b:ep) (hd:Hd),M[id]?=some b∧b.iM=false∧ρ[id]?=some hd∧hd.eM=some g,F⟩
section
variable {w0 w w':World} {S:Sc} {F F':bT} {ρ ρ':bX} {M M':aV}
theorem Inv.aEt(hI:Inv X w0 S F ρ M w):Inv X w (live ρ M F) F ρ M w:=
 ⟨rfl,rfl,rfl,fk _,λ_ _ _=>rfl,hI.len,hI.rep,λid b hd g h1 h2 h3 h4=>⟨(hI.sep id b hd g h1 h2 h3 h4).1,.inl ⟨id,b,hd,h1,h2,h3,h4⟩,(hI.sep id b hd g h1 h2 h3 h4).2.2⟩,hI.iX,hI.fz,hI.gh,hI.one,λa ha=> .inl ha,λa ha=>ha⟩
theorem Inv.back(hI:Inv X w0 S F ρ M w)(h:Inv X w (live ρ M F) F' ρ' M' w'):Inv X w0 S F' ρ' M' w' where
 os:=h.os.trans hI.os
 tape:=h.tape.trans hI.tape
 output:=h.output.trans hI.output
 size:=oh hI.size h.size
 frame:=λg hg hn=>by
  rw [h.frame g (p9 hg hI.size) ?_,hI.frame g hg hn];rintro⟨id,b,hd,h1,h2,h3,h4⟩;rcases(hI.sep id b hd g h1 h2 h3 h4).2.1 with h5|h5
  ·exact hn h5
  ·omega
 len:=h.len
 rep:=h.rep
 sep:=λid b hd g h1 h2 h3 h4=>by
  obtain⟨s1,s2,s3⟩:=h.sep id b hd g h1 h2 h3 h4;refine⟨s1,?_,s3⟩;rcases s2 with⟨id',b',dI,p1,p2,p3,p4⟩|s2
  ·exact(hI.sep id' b' dI g p1 p2 p3 p4).2.1
  ·exact .inr (oh hI.size s2)
 iX:=h.iX
 fz:=h.fz
 gh:=h.gh
 one:=h.one
 gk:=λa ha=>by
  rcases h.gk a ha with h1|⟨id',b',dI,p1,p2,p3,p4⟩|h1
  ·exact hI.gk a h1
  ·exact .inr (hI.sep id' b' dI _ p1 p2 p3 p4).2.1
  ·exact .inr (.inr (oh hI.size h1))
 fin:=λa ha=>h.fin a (hI.fin a ha)
structure Aside(F:bT)(ρ:bX)(M:aV)(w:World)(g:Nat):Prop where
 lt:g<w.heap.size
 fz:∀a,F a->a.block≠g
 no:∀(id:Nat) b hd,M[id]?=some b->b.iM=false->ρ[id]?=some hd->hd.eM≠some g
theorem Aside.th{g:Nat}(hA:Aside F ρ M w g)(h:Inv X w (live ρ M F) F' ρ' M' w'):Aside F' ρ' M' w' g∧w'.heap[g]?=w.heap[g]?:=by
 have hn:¬(live ρ M F) g:=by
  rintro⟨id,b,hd,h1,h2,h3,h4⟩;exact hA.no id b hd h1 h2 h3 h4
 refine⟨⟨p9 hA.lt h.size,λa ha e=> ?_,λid b hd h1 h2 h3 h4=> ?_⟩,h.frame g hA.lt hn⟩
 ·rcases h.gk a ha with h1|h1|h1
  ·exact hA.fz a h1 e
  ·exact hn (e▸h1)
  ·have:=hA.lt;omega
 ·rcases(h.sep id b hd g h1 h2 h3 h4).2.1 with h5|h5
  ·exact hn h5
  ·have:=hA.lt;omega
structure vO(X:Cx)(w0:World)(ρ:bX)(F:bT)(a:Act)(w:World)(g:Nat)(s:cx):Prop where
 ex:∃b hd,s.M'=s.M++[b]∧hd.eM=some g∧hd.v.oneCell'=true∧km X ρ F w hd b∧
  ∀d,s.o.dst=some d->∀(ρ2:bX) (F2:bT) (w2:World),ρ2.length=s.M.length->aZ X.K (ρ2++[hd]) F2 w2 s.x (a.tmps.getD d undef)
 new:w0.heap.size<=g
theorem vO.mono{w0 w w':World}{ρ ρ':bX}{F F':bT}{a a':Act}{g:Nat}{s:cx}(h:vO X w0 ρ F a w g s)(gT:∀(id:Nat) hd,ρ[id]?=some hd->ρ'[id]?=some hd)(hF:∀x,F x->F' x)(hw:∀x v,F x->w.cell? x=some v->w'.cell? x=some v)(hg:w'.heap[g]?=w.heap[g]?)
 (ha:∀d,s.o.dst=some d->a'.tmps.getD d undef=a.tmps.getD d undef):vO X w0 ρ' F' a' w' g s:=by
 obtain⟨⟨b,hd,h1,h2,h3,h4,h5⟩,h6⟩:=h;exact⟨⟨b,hd,h1,h2,h3,h4.mono gT hF hw (λk hk=>by rw [h2]at hk;injection hk with hk;subst hk;exact hg),λd dI=>by rw [ha d dI];exact h5 d dI⟩,h6⟩
end
section
variable {nt:Nt} {ops:Array Oper} {env0:cY} {M0:aV} {L:Array Bool}
theorem Y5{w0 w:World}{S:Sc}{F:bT}{ρ:bX}{a:Act}{γ:Nat->Nat}{base:List cx}:∀{l2:List cx} {env:cY} {M:aV},dS X nt ops env0 M0 (l2++base) env M->Inv X w0 S F ρ (dp M0 L base).1 w->
 (∀s∈l2,s.q=false->di L s.i->gg X s=true)->
 (∀s∈l2,gg X s=true->di L s.i->vO X w0 ρ F a w (γ s.i) s∧Aside F ρ (dp M0 L base).1 w (γ s.i))->
 (∀s∈l2,∀s'∈l2,gg X s=true->gg X s'=true->di L s.i->di L s'.i->s.i≠s'.i->γ s.i≠γ s'.i)->
 ∃ρ2,Inv X w0 S F ρ2 (dp M0 L (l2++base)).1 w∧(∀(id:Nat) hd,ρ[id]?=some hd->ρ2[id]?=some hd)∧
  (∀b s c,l2=b++s::c->gg X s=true->di L s.i->(dp M0 L (c++base)).2 =true->∀d,s.o.dst=some d->aZ X.K ρ2 F w s.x (a.tmps.getD d undef))∧
  (∀g,Aside F ρ (dp M0 L base).1 w g->(∀b s c,l2=b++s::c->gg X s=true->di L s.i->(dp M0 L (c++base)).2 =true->γ s.i≠g)->Aside F ρ2 (dp M0 L (l2++base)).1 w g)
 | [],env,M,hL,hI,_,_,_=>⟨ρ,hI,λ_ _ h=>h,λb s c h=>hU,λg hg _=>hg⟩
 |s::l2,env,M,hL,hI,tN,Sv,hγ=>by
  obtain⟨gU,M1,hl,st⟩:=_root_.id hL;obtain⟨ρ1,i1,e1,p1,a1⟩:=Y5 (l2:=l2) hl hI (λr hr=>tN r (iD _ hr)) (λr hr=>Sv r (iD _ hr)) (λr hr r' nW=>hγ r (iD _ hr) r' (iD _ nW));have same:(dp M0 L (s::(l2++base))).1 =(dp M0 L (l2++base)).1 ->(gg X s=true->di L s.i->(dp M0 L (l2++base)).2 =true->False)->_:=λhZ oC=>
   (⟨ρ1,by rw [kK,hZ];exact i1,e1,λb r c fj hf ef iv d hd=>by
      cases b with
      |nil=>
       rw [mE]at fj;injection fj with h1 h2;subst h1;subst h2;exact(oC hf ef iv).elim
      |cons b0 b=>
       rw [kK]at fj;injection fj with h1 h2;exact p1 b r c h2 hf ef iv d hd,
     λg hg hr=>by
      rw [kK,hZ];exact a1 g hg λb r c fj=>hr (s::b) r c (by rw [fj,kK])⟩:
     ∃ρ2,Inv X w0 S F ρ2 (dp M0 L (s::l2++base)).1 w∧(∀(id:Nat) hd,ρ[id]?=some hd->ρ2[id]?=some hd)∧
      (∀b r c,s::l2=b++r::c->gg X r=true->di L r.i->(dp M0 L (c++base)).2 =true->∀d,r.o.dst=some d->aZ X.K ρ2 F w r.x (a.tmps.getD d undef))∧
      (∀g,Aside F ρ (dp M0 L base).1 w g->(∀b r c,s::l2=b++r::c->gg X r=true->di L r.i->(dp M0 L (c++base)).2 =true->γ r.i≠g)->Aside F ρ2 (dp M0 L (s::l2++base)).1 w g))
  cases hq:s.q with
  |true=>
   refine same (by simp only [dp];rw [if_pos hq]) λhf _ _=> ?_;simp [gg,hq]at hf
  |false=>
   by_cases hc:di L s.i∧(dp M0 L (l2++base)).2 =true
   ·have hf:=tN s fP hq hc.1;obtain⟨hh,ha⟩:=Sv s fP hf hc.1;obtain⟨b1,tO,Ec,Sw,aaw,aas,aan⟩:=hh.ex;have hZ:(dp M0 L (s::(l2++base))).1 =s.M':=by
     simp only [dp];rw [if_neg (Gb),if_pos hc]
    have hMs:s.M=(dp M0 L (l2++base)).1 :=by rw [st.hM];exact(dS.wN hl hc.2).symm
    have asd:∀g,Aside F ρ (dp M0 L base).1 w g->(∀b r c,l2=b++r::c->gg X r=true->di L r.i->(dp M0 L (c++base)).2 =true->γ r.i≠g)->Aside F ρ1 s.M w g:=by
     intro g h1 h2;rw [hMs];exact a1 g h1 h2
    have ir:=asd (γ s.i) ha λb r c fj nm Bw _=>by
     have hr:r∈l2:=aiE;exact hγ r (iD _ hr) s fP nm hf Bw hc.1 (λe=>(tV (st.pair r (yf _ hr))).1 e.symm)
    rw [<-hMs]at i1;have hlen:ρ1.length=s.M.length:=i1.len;have i2:Inv X w0 S F (ρ1++[tO]) (s.M++[b1]) w:=by
     refine i1.C5 (hd:=tO) (λg hg=> ?_) aaw (aas.mono (λid hd h=>nK (e1 id hd h)) (λ_ h=>h) (λ_ _ _ h=>h) (λ_ _=>rfl));rw [Sw]at hg;injection hg with hg;subst hg;exact⟨ir.lt,.inr hh.new,ir.fz,ir.no⟩
    refine⟨_,by rw [kK,hZ,Ec];exact i2,λid hd h=>nK (e1 id hd h),λb r c fj nm Bw iv dd eU=> ?_,λg hg hr=> ?_⟩
    ·cases b with
     |nil=>
      rw [mE]at fj;injection fj with h1 h2;subst h1;subst h2;exact aan dd eU ρ1 F w hlen
     |cons b0 b=>
      rw [kK]at fj;injection fj with h1 h2;exact(p1 b r c h2 nm Bw iv dd eU).mono (λid hd h=>nK h) (λ_ h=>h) (λ_ _ _ h=>h)
    ·have h1:=asd g hg λb r c fj=>hr (s::b) r c (by rw [fj,kK]);have eN:γ s.i≠g:=hr [] s l2 rfl hf hc.1 hc.2;rw [kK,hZ,Ec];refine⟨h1.lt,h1.fz,λid b hd hb eU eo=> ?_⟩
     by_cases bA:id<s.M.length
     ·rw [jH bA]at hb;rw [jH (by omega)]at eo;exact h1.no id b hd hb eU eo
     ·by_cases G3:id=s.M.length
      ·subst G3;rw [kZ (by omega),hlen,JB]at eo;simp only [FE,Option.some.injEq]at eo;subst eo;rw [Sw];exact λe=>eN (Option.some.inj e)
      ·rw [yl (eu)]at hb;cases hb
   ·refine same (by simp only [dp];rw [if_neg (Gb),if_neg hc]) λ_ ef iv=>hc ⟨ef,iv⟩
end
structure apz(X:Cx)(nt:Nt)(env0:cY)(M0:aV)(w0:World)(S:Sc)(F0:bT)(ρ0:bX)(wb:World)(ds:List Deferred)(tv:Nat->Value)(log:List cx)(L:Array Bool)(γ:Nat->Nat)(F:bT)(ρ:bX)(a:Act)(w:World):Prop where
 inv:Inv X w0 S F ρ (dp M0 L log).1 w
 grow:Grow F0 F ρ0 ρ wb w
 size:a.tmps.size=nt.n
 defs:a.defers=ds
 kept:∀t,nt.mask.testBit t=false->a.tmps.getD t undef=tv t
 wrote:∀l2 s l1,log=l2++s::l1->di L s.i->(gg X s=true->(dp M0 L l1).2 =true)->∀d,s.o.dst=some d->aZ X.K ρ F w s.x (a.tmps.getD d undef)
 bA:∀l2 s l1,log=l2++s::l1->di L s.i->gg X s=true->(dp M0 L l1).2 =false->vO X w0 ρ F a w (γ s.i) s∧Aside F ρ (dp M0 L log).1 w (γ s.i)
 lt:∀s∈log,gg X s=true->di L s.i->γ s.i<w.heap.size
 Mm:∀s∈log,∀s'∈log,gg X s=true->gg X s'=true->di L s.i->di L s'.i->s.i≠s'.i->γ s.i≠γ s'.i
 gk:∀u,(∀s∈log,di L s.i->s.o.dst≠some u)->aZ X.K ρ F w (aA.look env0 u) (a.tmps.getD u undef)
section
variable {nt:Nt} {ops:Array Oper} {env0:cY} {M0:aV}
theorem aEQ(h:gg X t=true):t.q=false:=by
 unfold gg at h;rw [bM]at h;simpa using h.1
theorem W8{α:Type}{b c l2 l1:List α}{s t:α}(h:b++s::c=l2++t::l1):
 (∃m,l2=b++s::m∧c=m++t::l1)∨(b=l2∧s=t∧c=l1)∨(∃m,l1=m++s::c∧b=l2++t::m):=by
 induction b generalizing l2 with
 |nil=>
  cases l2 with
  |nil=>simp only [mE,List.cons.injEq]at h;exact .inr (.inl ⟨rfl,h.1,h.2⟩)
  |cons x l2=>simp only [mE,kK,List.cons.injEq]at h;exact .inl ⟨l2,by rw [h.1];rfl,h.2⟩
 |cons y b ih=>
  cases l2 with
  |nil=>simp only [mE,kK,List.cons.injEq]at h;exact .inr (.inr ⟨b,h.2.symm,by rw [h.1];rfl⟩)
  |cons x l2=>
   simp only [kK,List.cons.injEq]at h;rcases ih h.2 with⟨m,h1,h2⟩|⟨h1,h2,h3⟩|⟨m,h1,h2⟩
   ·exact .inl ⟨m,by rw [h1,h.1];rfl,h2⟩
   ·exact .inr (.inl ⟨by rw [h1,h.1],h2,h3⟩)
   ·exact .inr (.inr ⟨m,h1,by rw [h2,h.1];rfl⟩)
theorem dS.uniq{M:aV}(hL:dS X nt ops env0 M0 log env M){b c b' c':List cx}(h1:log=b++s::c)(h2:log=b'++s::c'):c=c':=by
 have irr:∀{p q r:List cx},log=p++s::(q++s::r)->False:=by
  intro p q r h;obtain⟨_,_,_,_,_,st⟩:=dS.entry (h▸hL);exact(tV (st.pair s (mb _ fP))).1 rfl
 rcases W8 (h1.symm.trans h2)with⟨m,h3,h4⟩|⟨_,_,h⟩|⟨m,h3,h4⟩
 ·exact(irr (p:=b) (q:=m) (r:=c') (by rw [h1,h4])).elim
 ·exact h
 ·exact(irr (p:=b') (q:=m) (r:=c) (by rw [h2,h3])).elim
theorem aCb(hX:X.Okb){rdc:Cy}{n:Nat}{w0 wb:World}{S:Sc}{F0:bT}{ρ0:bX}{ds:List Deferred}{tv:Nat->Value}{Q:Exit->Act->World->Prop}{M:aV}(hL:dS X nt ops env0 M0 log env M)
 (jq:∀i,i<ops.size->∃t∈log,t.i=i)
 (hQ:∀a' w' F' ρ',Inv X w0 S F' ρ' M w'->jg X ρ' F' w' env a'.tmps->a'.tmps.size=nt.n->a'.defers=ds->(∀t,nt.mask.testBit t=false->a'.tmps.getD t undef=tv t)->Grow F0 F' ρ0 ρ' wb w'->Q .normal a' w'):
 ∀(fuel:Nat) (L:Array Bool) (γ:Nat->Nat) (F:bT) (ρ:bX) (a:Act) (w:World),L.size=ops.size->log.countP (λt=> !(L.getD t.i false))<=fuel->sS L log->
  apz X nt env0 M0 w0 S F0 ρ0 wb ds tv log L γ F ρ a w->wpAnyIn (lI rdc.r) n X.P .any ops Q fuel L a w:=by
 have done:∀(L:Array Bool) (γ:Nat->Nat) (F:bT) (ρ:bX) (a:Act) (w:World),(∀t∈log,di L t.i)->apz X nt env0 M0 w0 S F0 ρ0 wb ds tv log L γ F ρ a w->Q .normal a w:=by
  intro L γ F ρ a w ef hm;refine hQ a w F ρ ?_ (λu=> ?_) hm.size hm.defs hm.kept hm.grow
  ·have:=dS.wN hL (L:=L) (u7.2 λs hs _=>ef s hs);rw [<-this];exact hm.inv
  ·rcases dS.look hL u with⟨s,hs,hd,he⟩|⟨hn,he⟩
   ·rw [he];obtain⟨l2,l1,mL⟩:=rL hs;exact hm.wrote l2 s l1 mL (ef s hs) (λ_=>u7.2 λr hr _=>ef r (by rw [mL];exact mb _ (iD _ hr))) u hd
   ·rw [he];exact hm.gk u λs hs _=>hn s hs
 have none_ready:∀(L:Array Bool),L.size=ops.size->Region.ready .any ops L=[]->∀t∈log,di L t.i:=by
  intro L ev hr;have key:∀(l1:List cx) (l2:List cx) (ia:cY) (M':aV),dS X nt ops env0 M0 l1 ia M'->l2++l1=log->∀t∈l1,di L t.i:=aoD;exact λt ht=>key log [] env M hL rfl t ht
 intro fuel
 induction fuel with
 |zero=>
  intro L γ F ρ a w ev abL eJ hm;have ef:∀t∈log,di L t.i:=al4;refine⟨?_,done L γ F ρ a w ef hm⟩;exact amh
 |succ fuel ih=>
  intro L γ F ρ a w ev abL eJ hm;refine⟨λhr=>done L γ F ρ a w (none_ready L ev hr) hm,λi hi=> ?_⟩;rw [Pq]at hi;obtain⟨hf,o,ho,kh⟩:=hi;have cM:i<ops.size:=(wK.1 ho).1;obtain⟨t,ht,rfl⟩:=jq i cM;have abF:t.i<L.size:=by omega
  have jo:¬di L t.i:=aks;obtain⟨l2,l1,mL⟩:=rL ht;obtain⟨gU,M1,aOF,ME,fg,st⟩:=dS.entry (mL▸hL);have D3:t.o=o:=aki;subst D3;have nc:∀j,di (L.setIfInBounds t.i true) j ↔ j=t.i∨di L j:=alF;have aGj:log.countP (λs=> !((L.setIfInBounds t.i true).getD s.i false))<=fuel:=by
   have:=X0 (l:=log) (p:=λt=> !(L.getD t.i false)) (q:=λs=> !((L.setIfInBounds t.i true).getD s.i false)) (λs hs h=>by
    have h':¬di (L.setIfInBounds t.i true) s.i:=by simpa [di]using h
    rw [nc]at h';have:¬di L s.i:=λhh=>h' (.inr hh);simpa [di]using this) ⟨t,ht,by simpa [di]using jo,ajH⟩
   omega
  have K7:sS (L.setIfInBounds t.i true) log:=by
   intro s hs ed e he hb;rw [nc]at ed⊢;rcases ed with h|h
   ·have:=dS.distinct hL s hs t ht h;subst this;exact .inr (kh e he hb)
   ·exact .inr (eJ s hs h e he hb)
  have AS:=dS.closed (L:=L) hL eJ t ht kh;have G4:sS L (l2++t::l1):=mL▸eJ;have rE:dS X nt ops env0 M0 (l2++t::l1) env M:=mL▸hL;have aoW:∀s∈l1,s.i≠t.i:=λs hs e=>(tV (st.pair s hs)).1 e.symm;have R8:∀{l:List cx},(∀s∈l,s∈l1)->dp M0 (L.setIfInBounds t.i true) l=dp M0 L l:=λh=>Xu λs hs _=>by
   rw [nc];exact⟨λhh=>hh.resolve_left (aoW s (h s hs)),.inr⟩
  have aoR:∀s∈log,di L s.i->s≠t:=λs _ ed e=>jo (e▸ed);have tmp_ne:∀(v:Value) (s:cx),s∈log->s≠t->∀d,s.o.dst=some d->(a.put t.o.dst v).tmps.getD d undef=a.tmps.getD d undef:=by
   intro v s hs eT d hd;cases D1:t.o.dst with
   |none=>rfl
   |some d'=>
    have eN:d'≠d:=λe=>eT (dS.dst hL s hs t ht d hd (e▸D1));exact Zp
  have tmp_eq:∀(v:Value) d,t.o.dst=some d->(a.put t.o.dst v).tmps.getD d undef=v:=by
   intro v d hd;have Dw:=(st.dst d hd).1;simp [Act.put,hd,pj,hm.size,Dw]
  have tmp_old:∀(v:Value) u,t.o.dst≠some u->(a.put t.o.dst v).tmps.getD u undef=a.tmps.getD u undef:=by
   intro v u Bo;exact alE
  have aay:∀(v:Value),∀u,nt.mask.testBit u=false->(a.put t.o.dst v).tmps.getD u undef=tv u:=by
   intro v;exact akA
  have ao3:t.q=false->∀s∈l2,s.q=false->di L s.i->gg X s=true:=by
   intro tI s hs fU ed;cases fh:gg X s with
   |true=>rfl
   |false=>
    exfalso;obtain⟨b,c,fj⟩:=rL hs;have hLs:dS X nt ops env0 M0 (b++s::(c++t::l1)) env M:=by have:=rE;rw [fj]at this;simpa using this
    have aOo:sS L (b++s::(c++t::l1)):=by have:=G4;rw [fj]at this;simpa using this
    have dv:s∈log:=by rw [mL];exact yf _ hs
    have:=dS.flag hLs aOo fU fh (eJ s dv ed);rw [u7]at this;exact jo (this t (mb _ fP) tI)
  have fin:∀(γ2:Nat->Nat) (F2:bT) (ρ2:bX) (v:Value) (w2:World),Inv X w0 S F2 ρ2 (dp M0 (L.setIfInBounds t.i true) log).1 w2->Grow F F2 ρ ρ2 w w2->w.heap.size<=w2.heap.size->
   (gg X t=false->aZ X.K ρ2 F2 w2 t.x v)->
   (∀b s c,log=b++s::c->gg X s=true->di (L.setIfInBounds t.i true) s.i->(dp M0 (L.setIfInBounds t.i true) c).2 =true->(s=t∨(dp M0 L c).2 =false)->∀d,s.o.dst=some d->aZ X.K ρ2 F2 w2 s.x ((a.put t.o.dst v).tmps.getD d undef))->
   (∀b s c,log=b++s::c->gg X s=true->di (L.setIfInBounds t.i true) s.i->(dp M0 (L.setIfInBounds t.i true) c).2 =false->vO X w0 ρ2 F2 (a.put t.o.dst v) w2 (γ2 s.i) s∧Aside F2 ρ2 (dp M0 (L.setIfInBounds t.i true) log).1 w2 (γ2 s.i))->
   (∀s∈log,gg X s=true->s≠t->γ2 s.i=γ s.i)->(gg X t=true->w.heap.size<=γ2 t.i∧γ2 t.i<w2.heap.size)->
   wpAnyIn (lI rdc.r) n X.P .any ops Q fuel (L.setIfInBounds t.i true) (a.put t.o.dst v) w2:=by
   intro γ2 F2 ρ2 v w2 uS hg aGc hx aoT Sv hγ xp;have lx:∀s∈log,di (L.setIfInBounds t.i true) s.i->s≠t->di L s.i:=akX;refine ih _ γ2 F2 ρ2 _ w2 (J3) aGj K7 ⟨uS,hm.grow.trans hg,ai5,ai1,aay v,?_,λb s c h1 h2 h3 h4=>Sv b s c h1 h3 h2 h4,?_,?_,?_⟩
   ·intro b s c fj ed amq d hd;have hs:s∈log:=aiE
    by_cases eT:s=t
    ·subst eT;cases uP:gg X s with
     |true=>exact aoT b s c fj uP ed (amq uP) (.inl rfl) d hd
     |false=>rw [tmp_eq v d hd];exact hx uP
    ·have ux:=lx s hs ed eT;cases fh:gg X s with
     |false=>rw [tmp_ne v s hs eT d hd];exact(hm.wrote b s c fj ux (λh=>by rw [fh]at h;cases h) d hd).grow hg
     |true=>
      cases nY:(dp M0 L c).2 with
      |true=>rw [tmp_ne v s hs eT d hd];exact(hm.wrote b s c fj ux (λ_=>nY) d hd).grow hg
      |false=>exact aoT b s c fj fh ed (amq fh) (.inr nY) d hd
   ·intro s hs fh ed
    by_cases eT:s=t
    ·subst eT;exact(xp fh).2
    ·rw [hγ s hs fh eT];exact p9 (hm.lt s hs fh (lx s hs ed eT)) aGc
   ·intro s hs s' dv fh xr ed ux eN
    by_cases eT:s=t
    ·by_cases AQ:s'=t
     ·exact absurd (by rw [eT,AQ]) eN
     ·rw [hγ s' dv xr AQ];have h1:=hm.lt s' dv xr (lx s' dv ux AQ);have h2:=(xp (eT▸fh)).1;rw [eT];omega
    ·by_cases AQ:s'=t
     ·rw [hγ s hs fh eT];have h1:=hm.lt s hs fh (lx s hs ed eT);have h2:=(xp (AQ▸xr)).1;rw [AQ];omega
     ·rw [hγ s hs fh eT,hγ s' dv xr AQ];exact hm.Mm s hs s' dv fh xr (lx s hs ed eT) (lx s' dv ux AQ) eN
   ·intro u hu;have Bo:t.o.dst≠some u:=hu t ht ((nc _).2 (.inl rfl));rw [tmp_old v u Bo];exact ajB
  have hid_flag:t.q=false->∀{b:List cx} {s:cx} {c:List cx},log=b++s::c->s∈l2->(dp M0 L c).2 =false:=by
   intro tI b s c fj hs;obtain⟨b',c',yZ⟩:=rL hs;have e:=dS.uniq hL fj (show log=b'++s::(c'++t::l1)by rw [mL,yZ];simp);rw [e];cases iv:(dp M0 L (c'++t::l1)).2 with
   |false=>rfl
   |true=>
    rw [u7]at iv;exact absurd (iv t (mb _ fP) tI) jo
  have hin_log:∀{b:List cx} {s:cx} {c:List cx},log=b++s::c->s∈log:=λh=>by rw [h];exact mb _ fP
  have lx:∀s∈log,di (L.setIfInBounds t.i true) s.i->s≠t->di L s.i:=akX;have jY:∀{s:cx},s∈l2->s∈log:=λhs=>by rw [mL];exact yf _ hs
  have sc:∀s∈l2,s≠t:=by
   intro s hs e;subst e;obtain⟨b',c',yZ⟩:=rL hs;have:=dS.uniq hL mL (show log=b'++s::(c'++s::l1)by rw [mL,yZ];simp);have:=rM List.length this;simp at this;omega
  cases uP:gg X t with
  |true=>
   have tI:=aEQ uP;obtain⟨b1,Ec,dE⟩:=st.fl uP;have hZ:dp M0 L log=((dp M0 L l1).1,false):=by rw [mL];exact dS.ah4 jo tI
   have uM:dp M0 (L.setIfInBounds t.i true) l1=dp M0 L l1:=R8 (λs hs=>hs);refine dE hm.inv hm.size (λu hu=>dS.reads (P:=λx=>aZ X.K ρ F w x (a.tmps.getD u undef)) jo hu rE G4 kh (λs hs xJ hd=>by
    obtain⟨m,c,L1⟩:=rL hs;exact hm.wrote (l2++t::m) s c (by rw [mL,L1];simp) (AS _ xJ) (λfh=>u7.2 λr hr qw=>AS _ (Px (l2:=m) (L1▸st.rok) fh xJ r hr qw)) u hd) (λh=>hm.gk u (by rw [mL];exact h))) ?_
   intro v1 w1 tO qA Sw Su aaw aas aan;have HP:Inv X w0 S F ρ (dp M0 (L.setIfInBounds t.i true) l1).1 w1:=by
    rw [uM];have:=hm.inv.grown qA;rw [hZ]at this;exact this
   have Kg:=hm.inv.cells qA (by simp)
   let γ2:Nat->Nat:=λj=>if j=t.i then w.heap.size else γ j
   have xp:γ2 t.i=w.heap.size:=by simp [γ2]
   have xq:∀s∈log,s≠t->γ2 s.i=γ s.i:=λs hs eT=>by
    have:s.i≠t.i:=λe=>eT (dS.distinct hL s hs t ht e);simp [γ2,this]
   have Rm:(l2++[t])++l1=log:=by rw [mL];simp
   have hLr:dS X nt ops env0 M0 ((l2++[t])++l1) env M:=Rm▸hL;have tr:∀b s c,log=b++s::c->di L s.i->gg X s=true->(dp M0 L c).2 =false->vO X w0 ρ F (a.put t.o.dst v1) w1 (γ2 s.i) s∧Aside F ρ (dp M0 (L.setIfInBounds t.i true) l1).1 w1 (γ2 s.i):=by
    intro b s c fj ed fh iv;have hs:=hin_log fj;have eT:=aoR s hs ed;obtain⟨h1,h2⟩:=hm.bA b s c fj ed fh iv;rw [xq s hs eT];rw [hZ]at h2;exact⟨h1.mono (λ_ _ h=>h) (λ_ h=>h) Kg (qA.block _ h2.lt (by simp)) (λdd eU=>tmp_ne _ s hs eT dd eU),⟨p9 h2.lt qA.size,h2.fz,by rw [uM];exact h2.no⟩⟩
   have trt:vO X w0 ρ F (a.put t.o.dst v1) w1 (γ2 t.i) t∧Aside F ρ (dp M0 (L.setIfInBounds t.i true) l1).1 w1 (γ2 t.i):=by
    rw [xp];refine⟨⟨⟨b1,tO,Ec,Sw,aaw,aas,λdd eU=>by rw [tmp_eq _ dd eU];exact aan⟩,hm.inv.size⟩,⟨Su,λb hb e=> ?_,λid b hd h1 h2 h3 h4=> ?_⟩⟩
    ·have:=hm.inv.fz b hb;omega
    ·rw [uM]at h1;have iu:(dp M0 L log).1 =(dp M0 L l1).1 :=by rw [hZ]
     have:=(hm.inv.sep id b hd _ (by rw [iu];exact h1) h2 h3 h4).1;omega
   obtain⟨ρ2,i2,e2,p2,a2⟩:=Y5 (L:=L.setIfInBounds t.i true) (γ:=γ2) (a:=a.put t.o.dst v1) hLr HP (λs hs fU ed=>by
    rcases j7.1 hs with hs|hs
    ·exact ao3 tI s hs fU (lx s (jY hs) ed (sc s hs))
    ·rw [Ce.1 hs];exact uP) (λs hs fh ed=>by
    rcases j7.1 hs with hs|hs
    ·obtain⟨b,c,fj⟩:=rL (jY hs);exact tr b s c fj (lx s (jY hs) ed (sc s hs)) fh (hid_flag tI fj hs)
    ·rw [Ce.1 hs];exact trt) (λs hs s' dv fh xr ed ux eN=>by
    rcases j7.1 hs with hs|hs<;>rcases j7.1 dv with dv|dv
    ·rw [xq s (jY hs) (sc s hs),xq s' (jY dv) (sc s' dv)];exact hm.Mm s (jY hs) s' (jY dv) fh xr (lx s (jY hs) ed (sc s hs)) (lx s' (jY dv) ux (sc s' dv)) eN
    ·rw [Ce.1 dv,xp,xq s (jY hs) (sc s hs)];have:=hm.lt s (jY hs) fh (lx s (jY hs) ed (sc s hs));omega
    ·rw [Ce.1 hs,xp,xq s' (jY dv) (sc s' dv)];have:=hm.lt s' (jY dv) xr (lx s' (jY dv) ux (sc s' dv));omega
    ·exact absurd (by rw [Ce.1 hs,Ce.1 dv]) eN)
   rw [Rm]at i2 a2;refine fin γ2 F ρ2 _ _ i2 ⟨λ_ h=>h,e2,hm.inv.xt qA (by simp)⟩ qA.size (λh=>Zh) ?_ ?_ (λs hs _ eT=>xq s hs eT) (λ_=>by rw [xp];exact⟨fk _,Su⟩)
   ·intro b s c fj fh ed iv mw dd eU;rcases W8 (fj.symm.trans mL)with⟨m,h3,h4⟩|⟨h3,h4,h5⟩|⟨m,h3,h4⟩
    ·exact p2 b s (m++[t]) (by rw [h3];simp) fh ed (by rw [show(m++[t])++l1=c by rw [h4];simp];exact iv) dd eU
    ·subst h4;exact p2 l2 s [] rfl fh ed (by rw [mE,<-h5];exact iv) dd eU
    ·exfalso;have h6:dp M0 (L.setIfInBounds t.i true) c=dp M0 L c:=R8 (λr hr=>ai7);rw [h6]at iv;rcases mw with h|h
     ·exact aoW s (by rw [h3];exact mb _ fP) (by rw [h])
     ·rw [h]at iv;cases iv
   ·intro b s c fj fh ed iv;have hs:=hin_log fj;have hH:vO X w0 ρ F (a.put t.o.dst v1) w1 (γ2 s.i) s∧Aside F ρ (dp M0 (L.setIfInBounds t.i true) l1).1 w1 (γ2 s.i):=by
     by_cases eT:s=t
     ·rw [eT];exact trt
     ·refine tr b s c fj (lx s hs ed eT) fh ?_;exact al7
    refine⟨hH.1.mono e2 (λ_ h=>h) (λ_ _ _ h=>h) rfl (λ_ _=>rfl),a2 _ hH.2 λb' r c' yZ nm Bw abJ e=> ?_⟩;have hr:r∈log:=by rw [<-Rm,yZ];simp
    by_cases rm:r.i=s.i
    ·have e1:=dS.distinct hL r hr s hs rm;subst e1;have:=dS.uniq hL fj (show log=b'++r::(c'++l1)by rw [<-Rm,yZ];simp);rw [this,abJ]at iv;cases iv
    ·by_cases wk:r=t
     ·by_cases eT:s=t
      ·exact rm (by rw [wk,eT])
      ·rw [wk,xp,xq s hs eT]at e;have:=hm.lt s hs fh (lx s hs ed eT);omega
     ·by_cases eT:s=t
      ·rw [eT,xp,xq r hr wk]at e;have:=hm.lt r hr nm (lx r hr Bw wk);omega
      ·rw [xq r hr wk,xq s hs eT]at e;exact hm.Mm r hr s hs nm fh (lx r hr Bw wk) (lx s hs ed eT) rm e
  |false=>
   refine st.runs uP (M0:=(dp M0 L log).1) (λhq id bA=>by rw [mL];exact dS.agy jo hq bA rE G4 kh) (λhq=>by
    rw [mL,dS.ah4 jo hq,st.hM];exact dS.wN fg (dS.flag rE G4 hq uP kh))
    hm.inv.aEt hm.size (λu hu=>dS.reads (P:=λx=>aZ X.K ρ F w x (a.tmps.getD u undef)) jo hu rE G4 kh (λs hs xJ hd=>by
     obtain⟨m,c,L1⟩:=rL hs;exact hm.wrote (l2++t::m) s c (by rw [mL,L1];simp) (AS _ xJ) (λfh=>u7.2 λr hr qw=>AS _ (Px (l2:=m) (L1▸st.rok) fh xJ r hr qw)) u hd) (λh=>hm.gk u (by rw [mL];exact h))) ?_
   intro v w' F' ρ' dO hx hg;have uS:=hm.inv.back dO;have tr:∀b s c,log=b++s::c->di L s.i->gg X s=true->(dp M0 L c).2 =false->vO X w0 ρ' F' (a.put t.o.dst v) w' (γ s.i) s∧Aside F' ρ' (if t.q=true then(dp M0 L log).1 else t.M') w' (γ s.i):=by
    intro b s c fj ed fh iv;have hs:=hin_log fj;have eT:=aoR s hs ed;obtain⟨h1,h2⟩:=hm.bA b s c fj ed fh iv;obtain⟨h3,h4⟩:=h2.th dO;exact⟨h1.mono hg.gT hg.hF hg.hw h4 (λdd eU=>tmp_ne _ s hs eT dd eU),h3⟩
   have HI:∀s,gg X s=true->s≠t:=λs fh e=>by rw [e,uP]at fh;cases fh
   cases hq:t.q with
   |true=>
    have same:∀{l:List cx},(∀s∈l,s∈log)->dp M0 (L.setIfInBounds t.i true) l=dp M0 L l:=λh=>Xu λs hs fU=>by
     rw [nc];refine⟨λhh=>hh.resolve_left λe=> ?_,.inr⟩;have:=dS.distinct hL s (h s hs) t ht e;rw [this,hq]at fU;cases fU
    rw [if_pos hq]at uS;have alr:∀{b:List cx} {s:cx} {c:List cx},log=b++s::c->dp M0 (L.setIfInBounds t.i true) c=dp M0 L c:=λfj=>same λr hr=>by rw [fj];exact mb _ (iD _ hr)
    refine fin γ F' ρ' v w' (by rw [same λs hs=>hs];exact uS) hg dO.size (λ_=>hx) ?_ ?_ (λ_ _ _ _=>rfl) (λh=>Zh)
    ·intro b s c fj fh ed iv mw;rw [alr fj]at iv;rcases mw with h|h
     ·exact absurd h (HI s fh)
     ·rw [h]at iv;cases iv
    ·intro b s c fj fh ed iv;rw [alr fj]at iv;have:=tr b s c fj (lx s (hin_log fj) ed (HI s fh)) fh iv;rw [if_pos hq]at this;rw [same λs hs=>hs];exact this
   |false=>
    have hqn:¬t.q=true:=Qd;have ams:dp M0 (L.setIfInBounds t.i true) (t::l1)=(t.M',true):=by
     simp only [dp];rw [if_neg hqn,if_pos ⟨(nc _).2 (.inl rfl),by rw [R8 λs hs=>hs];exact dS.flag rE G4 hq uP kh⟩]
    rw [if_neg hqn]at uS;have trb:∀b s c,log=b++s::c->di L s.i->gg X s=true->(dp M0 L c).2 =false->vO X w0 ρ' F' (a.put t.o.dst v) w' (γ s.i) s∧Aside F' ρ' (dp M0 (L.setIfInBounds t.i true) (t::l1)).1 w' (γ s.i):=by
     intro b s c h1 h2 h3 h4;have:=tr b s c h1 h2 h3 h4;rw [if_neg hqn]at this;rw [ams];exact this
    obtain⟨ρ2,i2,e2,p2,a2⟩:=Y5 (L:=L.setIfInBounds t.i true) (γ:=γ) (a:=a.put t.o.dst v) (base:=t::l1) rE (by rw [ams];exact uS)
     (λs hs fU ed=>ao3 hq s hs fU (lx s (jY hs) ed (sc s hs)))
     (λs hs fh ed=>by
       obtain⟨b,c,fj⟩:=rL (jY hs);exact trb b s c fj (lx s (jY hs) ed (sc s hs)) fh (hid_flag hq fj hs))
     (λs hs s' dv fh xr ed ux eN=>hm.Mm s (jY hs) s' (jY dv) fh xr (lx s (jY hs) ed (sc s hs)) (lx s' (jY dv) ux (sc s' dv)) eN)
    rw [<-mL]at i2 a2;refine fin γ F' ρ2 v w' i2 ⟨hg.hF,λid hd h=>e2 id hd (hg.gT id hd h),hg.hb⟩ dO.size (λ_=>hx.mono e2 (λ_ h=>h) (λ_ _ _ h=>h)) ?_ ?_ (λ_ _ _ _=>rfl) (λh=>Zh)
    ·intro b s c fj fh ed iv mw dd eU;rcases W8 (fj.symm.trans mL)with⟨m,h3,h4⟩|⟨h3,h4,h5⟩|⟨m,h3,h4⟩
     ·exact p2 b s m h3 fh ed (by rw [<-h4];exact iv) dd eU
     ·exact absurd h4 (HI s fh)
     ·exfalso;have h6:dp M0 (L.setIfInBounds t.i true) c=dp M0 L c:=R8 (λr hr=>ai7);rw [h6]at iv;rcases mw with h|h
      ·exact HI s fh h
      ·rw [h]at iv;cases iv
    ·intro b s c fj fh ed iv;have hs:=hin_log fj;have eT:=HI s fh;have nY:(dp M0 L c).2 =false:=al7;have hH:=trb b s c fj (lx s hs ed eT) fh nY;refine⟨hH.1.mono e2 (λ_ h=>h) (λ_ _ _ h=>h) rfl (λ_ _=>rfl),a2 _ hH.2 λb' r c' yZ nm Bw abJ e=> ?_⟩;have LU:r∈l2:=by rw [yZ];exact mb _ fP
     have hr:=jY LU
     by_cases rm:r.i=s.i
     ·have e1:=dS.distinct hL r hr s hs rm;subst e1;have:=dS.uniq hL fj (show log=b'++r::(c'++t::l1)by rw [mL,yZ];simp);rw [this,abJ]at iv;cases iv
     ·exact hm.Mm r hr s hs nm fh (lx r hr Bw (HI r nm)) (lx s hs ed eT) rm e
end
def w7(X:Cx)(T:iw R)(ops:Array Oper)(t:cx)(st:St)(log:List cx)(k:List cx->St->Option R):Option R:=
 aR (log.all (FQ X ops t)&&A8 X t log) (kP T.nt st t.o.dst t.x t.M' λbh=>k (t::log) bh)
def Le(X:Cx)(T:iw R)(ops:Array Oper)(i:Nat)(o:Oper)(cl:Nat)(st:St)(log:List cx)(k:List cx->St->Option R):Option R:=
 match flO X o with
 |true=>
  match o.op with
  | .alloc ty=>aR (((X.ti ty).ok &&X.A4 (oU X ty) ty)&&dt (oU X ty) (X.ti ty).zero) (w7 X T ops ⟨i,o,false,.ptr st.mem.length 0 0,[],cl,st.env,st.mem,st.mem++[.var (oU X ty) (X.ti ty).zero]⟩ st log k)
  | .buildSlice t n ps=>
    (match ab2 X t n (ps.toList.map λp=>(p.1,kY X (lU (iE o) st.env) p.2))with
     |some (e,rows)=>Eg (.row e rows) λb=>w7 X T ops ⟨i,o,false,.aC st.mem.length,[],cl,st.env,st.mem,st.mem++[b]⟩ st log k
     |none=>none)
  |_=>none
 |false=>
 match yh X (kY X (lU (iE o) st.env)) o with
 |some ids=>sd X T (kY X (lU (iE o) st.env)) o st.mem λx _=>w7 X T ops ⟨i,o,true,x,ids,cl,st.env,st.mem,st.mem⟩ st log k
 |none=>
  match Rj X ops (kY X (lU (iE o) st.env)) o with
  |some (t,n,ps)=>B4 X t n (ps.toList.map λp=>(p.1,kY X (lU (iE o) st.env) p.2)) λx=>w7 X T ops ⟨i,o,true,x,[],cl,st.env,st.mem,st.mem⟩ st log k
  |none=>
   match Rz X (kY X (lU (iE o) st.env)) o with
   |some (g,args)=>T.call g args [] λx M'=>aR (M'.isEmpty&&qY x) (w7 X T ops ⟨i,o,true,x,[],cl,st.env,st.mem,st.mem⟩ st log k)
   |none=>
    match po T (kY X (lU (iE o) st.env)) o st.mem with
    |some ids=>sd X T (kY X (lU (iE o) st.env)) o st.mem λx M'=>w7 X T ops ⟨i,o,false,x,ids,cl,st.env,st.mem,M'⟩ st log k
    |none=>none
def Lf(X:Cx)(T:iw R)(ops:Array Oper)(i:Nat)(o:Oper)(cl:Nat)(st:St)(log:List cx)(k:List cx->St->Option R):Option R:=
 w7 X T ops ⟨i,o,true,.ew [],[],cl,st.env,st.mem,st.mem⟩ st log k
def abX(X:Cx)(T:iw R)(ops:Array Oper)(i:Nat)(o:Oper)(cl:Nat)(st:St)(log:List cx)(k:List cx->St->Option R):Option R:=
 match o.guard with
 |none=>Le X T ops i o cl st log k
 |some (j,want)=>
  match Aw ops j with
  |none=>none
  |some d=>
   match look st.env d with
   | .bool b=>
     match b with
     |true=>match want with
      |true=>Le X T ops i o cl {st with env:=(d,.bool true)::st.env} log k
      |false=>Lf X T ops i o cl {st with env:=(d,.bool true)::st.env} log k
     |false=>match want with
      |false=>Le X T ops i o cl {st with env:=(d,.bool false)::st.env} log k
      |true=>Lf X T ops i o cl {st with env:=(d,.bool false)::st.env} log k
   | .ew []=>Lf X T ops i o cl st log k
   |_=>none
def SE(X:Cx)(T:iw R)(ops:Array Oper):dP->List cx->St->(List cx->St->Option R)->Option R
 | [],log,st,k=>k log st
 |i::rest,log,st,k=>
  match ops.toList[i]? with
  |none=>none
  |some o=>
   match qX log o.after.toList with
   |none=>none
   |some cl=>abX X T ops i o cl st log λtg bh=>SE X T ops rest tg bh k
def Z1(X:Cx)(T:iw R)(ops:Array Oper)(st:St)(k:St->Option R):Option R:=
 SE X T ops (alu ops.toList) [] st λlog bh=>aR (Nat.ble log.length ops.size&&(List.range ops.size).all λi=>log.any λt=>t.i==i) (k bh)
section
variable {nt:Nt} {ops:Array Oper} {env0 gU:cY} {M0 M1:aV}
theorem B6(h:w7 X T ops t st log k=some r):
 ∃bh,k (t::log) bh=some r∧(∀s∈log,FQ X ops t s=true)∧A8 X t log=true∧(∀d,t.o.dst=some d->d<T.nt.n∧T.nt.mask.testBit d=true)∧(∀u,look bh.env u=(if t.o.dst=some u then t.x else look st.env u))∧bh.mem=t.M'∧bh.iR=st.iR∧bh.rd=st.rd:=by
 unfold w7 at h;replace h:=dq h;obtain⟨hp,h⟩:=h;rw [bM]at hp;have hq:Kr T ops t st [] (λ_ bh=>k (t::log) bh)=some r:=ajY;obtain⟨bh,h,_,hd,ko,iu,e1,e2⟩:=aga hq;exact⟨bh,h,λs hs=>jS.1 hp.1 s hs,hp.2,hd,ko,iu,e1,e2⟩
theorem Ca(hl:dS X nt ops env0 M0 log gU M1)(h1:∀u,look t.env u=look gU u)(h2:t.M=M1)(h3:t.q=true->t.M'=t.M)(h4:t.q=false->dV t.ids t.M t.M')(h5:gg X t=false->t.SR X nt ops)
 (h5':gg X t=true->∃b,t.M'=t.M++[b]∧t.alk X nt ops b) (h6:ops[t.i]?=some t.o)
 (h7:∀d,t.o.dst=some d->d<nt.n∧nt.mask.testBit d=true) (h8:∀s∈log,FQ X ops t s=true) (h8':A8 X t log=true) (h9:qX log t.o.after.toList=some t.cl)  {M:aV} (jd:∀u,look env u=(if t.o.dst=some u then t.x else look t.env u)) (lZ:M=t.M'):
 dS X nt ops env0 M0 (t::log) env M:=by
 obtain⟨c1,c2⟩:=O8 h9;refine⟨gU,M1,hl,h1,h2,h3,h4,h5,h5',h6,h7,h8,h8',λe he hb=>c1 e (yt) hb,λw hw=> ?_,λu=>by rw [jd u,h1 u],lZ⟩;obtain⟨e,he,hb,hh⟩:=c2 w hw;exact⟨e,yt,hb,hh⟩
theorem XA(hl:dS X T.nt ops env0 M0 log gU M1)(hi:ops[i]?=some o)(hc:qX log o.after.toList=some cl)
 (he:∀u,look st.env u=look gU u) (hm:st.mem=M1) (hw:GJ X ops o st.env false) (h:Lf X T ops i o cl st log k=some r):
 ∃t bh,k (t::log) bh=some r∧dS X T.nt ops env0 M0 (t::log) bh.env bh.mem∧bh.iR=st.iR∧bh.rd=st.rd:=by
 unfold Lf at h;obtain⟨bh,h,hp,tJ,hd,ko,iu,h1,h2⟩:=B6 h;refine⟨_,bh,h,Ca hl he hm (λ_=>rfl) (λhq=>pn) ?_ (λhf=>by simp [gg]at hf) hi hd hp tJ hc ko iu,h1,h2⟩;intro _ Mx _ _ rdc n w0 S F ρ a w Q K hI ev hr hk;unfold wpOpIn;simp only [hi,hw hr,lO,nv];exact⟨λ_ _=>trivial,hk _ w F ρ hI XK (Grow.refl _ _ _)⟩
theorem Xz(hX:X.Okb)(hT:T.oj X)(hl:dS X T.nt ops env0 M0 log gU M1)(hi:ops[i]?=some o)(hc:qX log o.after.toList=some cl)
 (he:∀u,look st.env u=look gU u) (hm:st.mem=M1) (hw:GJ X ops o st.env true) (h:Le X T ops i o cl st log k=some r):
 ∃t bh,k (t::log) bh=some r∧dS X T.nt ops env0 M0 (t::log) bh.env bh.mem∧bh.iR=st.iR∧bh.rd=st.rd:=by
 unfold Le at h;split at h
 ·rename_i tN;have ak6:∀{x:AV} {M':aV},gg X ⟨i,o,false,x,[],cl,st.env,st.mem,M'⟩=false->False:=λhf=>by simp [gg,tN]at hf
  split at h
  ·rename_i ty ho;replace h:=dq h;obtain⟨bz,h⟩:=h;rw [bM,bM]at bz;obtain⟨bh,h,hp,tJ,hd,ko,iu,h1,h2⟩:=B6 h;refine⟨_,bh,h,Ca hl he hm (λhq=>pn) (λ_=>dV.push _ _ _) (λhf=>(ak6 hf).elim) (λ_=>⟨_,rfl,?_⟩) hi hd hp tJ hc ko iu,h1,h2⟩;intro Mx rdc n w0 S F ρ a w Q K hI ev hr hk;obtain⟨i',d,z,f⟩:=hX.facts bz.1.1;have dE:(Instr.alloc ty true (.tuple #[])).run X.P w= .ok (.pointer (some ⟨w.heap.size,0,none⟩)) (w.alloc (.cells z.cells ty)):=by
    simp only [Instr.alloc,fx,f.zeroValue,gE,newVar,newRow,FM,iz,FL]
   unfold wpOpIn;simp only [hi,hw hr,oJ];refine zP (gF) (v:= .pointer (some ⟨w.heap.size,0,none⟩)) (w':=w.alloc (.cells z.cells ty)) (by
    rw [show execOp a.eval o=(do pure (.value (<-Instr.alloc ty true (.tuple #[]))):Sem Next)from kf,fx,dE];rfl) ?_
   refine hk _ _ ⟨.slice (some ⟨w.heap.size,0,none⟩) 1 1,(X.ti ty).zero.length⟩ (FC w _ none) rfl (by simp) rfl ⟨bz.2,rfl,_,_,_,rfl,Pf w _,Gt,bz.1.2⟩ (λρ2 F2 w2 hlen=> ?_);have:=Yo (X:=X) (M:=st.mem) (F:=F2) (w:=w2) (hd:=⟨.slice (some ⟨w.heap.size,0,none⟩) 1 1,(X.ti ty).zero.length⟩) hlen rfl 0 0;exact sP
  ·rename_i t n ps ho;split at h
   ·rename_i e rows hb;rw [ZZ]at h;obtain⟨bh,h,hp,tJ,hd,ko,iu,h1,h2⟩:=B6 h;refine⟨_,bh,h,Ca hl he hm (λhq=>pn) (λ_=>dV.push _ _ _) (λhf=>(ak6 hf).elim) (λ_=>⟨_,rfl,?_⟩) hi hd hp tJ hc ko iu,h1,h2⟩;intro Mx rdc n' w0 S F ρ a w Q K hI ev hr hk;have Tp:∀z,aZ X.K ρ F w (kY X (lU (iE o) st.env) z) (a.eval z):=λz=>Ae hI (Fs λu hu=>hr u (yf _ hu)) z;obtain⟨us,dE,hlen,jX⟩:=aDi hX hb (w:=w) hI.one (ps.toList.map λp=>(p.1,a.eval p.2)) (by simp) (λj p q hp hq=>by
     rw [iT]at hp hq;cases hj:ps.toList[j]? with
     |none=>exact JS
     |some z=>
      rw [hj]at hp hq;simp only [k7,Option.some.injEq]at hp hq;subst hp;subst hq;exact⟨rfl,Tp z.2⟩)
    have e1:(ps.map λ(i,x)=>(i,a.eval x))=(ps.toList.map λp=>(p.1,a.eval p.2)).toArray :=vD;unfold wpOpIn;simp only [hi,hw hr,oJ];refine zP (gF) (v:= .slice (some ⟨w.heap.size,0,none⟩) n n) (w':=w.alloc (.cells us e)) (by
     rw [show execOp a.eval o=(do pure (.value (<-Instr.buildSlice t n (ps.map λ(i,x)=>(i,a.eval x)))):Sem Next)from kf,fx,e1,dE];rfl) ?_
    refine hk _ _ ⟨.slice (some ⟨w.heap.size,0,none⟩) n n,(X.K e).length⟩ (FC w _ none) rfl (by simp) rfl jX (λρ2 F2 w2 aGh=> ?_);exact z8 (M:=st.mem) (hd:=⟨.slice (some ⟨w.heap.size,0,none⟩) n n,(X.K e).length⟩) aGh
   ·exact aX
  ·exact aX
 ·rename_i tN;have Sd:∀{q:Bool} {x:AV} {ids:dP} {M':aV},gg X ⟨i,o,q,x,ids,cl,st.env,st.mem,M'⟩=true->False:=by
   intro q x ids M' hf;simp [gg,tN]at hf
  split at h
  ·rename_i ids hq;obtain⟨y,h,dE⟩:=af9 hX hq h;obtain⟨bh,h,hp,tJ,hd,ko,iu,h1,h2⟩:=B6 h;refine⟨_,bh,h,Ca hl he hm (λ_=>rfl) (λhq=>pn) ?_ (λhf=>(Sd hf).elim) hi hd hp tJ hc ko iu,h1,h2⟩;exact al3
  ·rename_i hq;split at h
   ·rename_i t n ps abG;obtain⟨y,h,dE⟩:=agB hX (age abG) h;obtain⟨bh,h,hp,tJ,hd,ko,iu,h1,h2⟩:=B6 h;refine⟨_,bh,h,Ca hl he hm (λ_=>rfl) (λhq=>pn) ?_ (λhf=>(Sd hf).elim) hi hd hp tJ hc ko iu,h1,h2⟩;exact Sg
   ·split at h
    ·rename_i g args hcq;obtain⟨y,h,dE⟩:=agr hX hT hcq (k:=λy=>w7 X T ops ⟨i,o,true,y,[],cl,st.env,st.mem,st.mem⟩ st log k) h;obtain⟨bh,h,hp,tJ,hd,ko,iu,h1,h2⟩:=B6 h;refine⟨_,bh,h,Ca hl he hm (λ_=>rfl) (λhq=>pn) ?_ (λhf=>(Sd hf).elim) hi hd hp tJ hc ko iu,h1,h2⟩;exact Sg
    ·split at h
     ·rename_i ids hwr;obtain⟨x,M',dE,h,fO⟩:=Jh hX hT h;obtain⟨bh,h,hp,tJ,hd,ko,iu,h1,h2⟩:=B6 h;refine⟨_,bh,h,Ca hl he hm (λhq=>pn) (λ_=>fO ids hwr) ?_ (λhf=>(Sd hf).elim) hi hd hp tJ hc ko iu,h1,h2⟩;exact ama
     ·exact aX
theorem aBp(hX:X.Okb)(hT:T.oj X)(hl:dS X T.nt ops env0 M0 log st.env st.mem)(hi:ops[i]?=some o)(hc:qX log o.after.toList=some cl)
 (h:abX X T ops i o cl st log k=some r):
 ∃t bh,k (t::log) bh=some r∧dS X T.nt ops env0 M0 (t::log) bh.env bh.mem∧bh.iR=st.iR∧bh.rd=st.rd:=by
 unfold abX at h;split at h
 ·rename_i hg;exact Xz hX hT hl hi hc (λ_=>rfl) rfl (λ{ρ F w tmps} _=>W7 hg _) h
 ·rename_i j want hg;split at h
  ·exact aX
  ·rename_i d hd;have hZ:d∈iE o++guardOf ops o:=mb _ (by simp [guardOf,hg,hd]);have yw:∀(b:Bool) (env:cY),look env d= .bool b->GJ X ops o env (b==want):=alW;split at h
   ·rename_i b hb;split at h
    ·split at h
     ·exact Xz hX hT (st:={st with env:=(d,.bool true)::st.env}) hl hi hc (λu=>zS hb u) rfl (yw true _ (Au)) h
     ·exact XA (st:={st with env:=(d,.bool true)::st.env}) hl hi hc (λu=>zS hb u) rfl (yw true _ (Au)) h
    ·split at h
     ·exact Xz hX hT (st:={st with env:=(d,.bool false)::st.env}) hl hi hc (λu=>zS hb u) rfl (yw false _ (Au)) h
     ·exact XA (st:={st with env:=(d,.bool false)::st.env}) hl hi hc (λu=>zS hb u) rfl (yw false _ (Au)) h
   ·rename_i hb;refine XA hl hi hc (λ_=>rfl) rfl (λ{ρ F w tmps} hr=> ?_) h;exact alZ
   ·exact aX
theorem agm(hX:X.Okb){T:iw R}(hT:T.oj X){k:List cx->St->Option R}{r:R}:∀(ord:dP) {log:List cx} {st:St},dS X T.nt ops env0 M0 log st.env st.mem->SE X T ops ord log st k=some r->
 ∃tg bh,k tg bh=some r∧dS X T.nt ops env0 M0 tg bh.env bh.mem∧bh.iR=st.iR∧bh.rd=st.rd
 | [],log,st,hl,h=>⟨log,st,h,hl,rfl,rfl⟩
 |i::rest,log,st,hl,h=>by
  simp only [SE]at h;split at h
  ·exact aX
  ·rename_i o ho;split at h
   ·exact aX
   ·rename_i cl hc;obtain⟨t,c7,h,fg,e1,e2⟩:=aBp hX hT hl (by simpa using ho) hc h;obtain⟨tg,bh,h,tL,e3,e4⟩:=agm hX hT rest fg h;exact⟨tg,bh,h,tL,e3.trans e1,e4.trans e2⟩
theorem azW(hX:X.Okb)(hT:T.oj X){id:Nat}{k:St->Option R}(h:Z1 X T ops st k=some r):
 ∃bh,k bh=some r∧qa X T.nt (.region id ops true) st .normal bh:=by
 unfold Z1 at h;obtain⟨log,bh,h,hl,e1,e2⟩:=agm hX hT (ops:=ops) (env0:=st.env) (M0:=st.mem) _ (log:=[]) (st:=st) (show dS X T.nt ops st.env st.mem [] st.env st.mem from⟨λ_=>rfl,rfl⟩) h;replace h:=dq h;obtain⟨jq,h⟩:=h;rw [bM]at jq;obtain⟨hlen,jq⟩:=jq;refine⟨bh,h,λ{rdc n w0 S F ρ a w Q} hI hs hq=>wpIn_region_any hX.mixed ?_⟩;have hg:=World.ae1 w;have dO:=hI.grown hg;have jB:Grow F F ρ ρ w {w with drawn:=w.drawn+1}:=⟨λ_ h=>h,λ_ _ h=>h,hI.xt hg (by simp)⟩;have dv:=hs.grow jB;have oC:∀i,¬di (Array.replicate ops.size false) i:=akD;have Tl:∀l:List cx,(dp st.mem (Array.replicate ops.size false) l).1 =st.mem:=by
  intro l
  induction l with
  |nil=>rfl
  |cons t l Hx=>
   simp only [dp];split
   ·exact Hx
   ·rw [if_neg λhh=>oC _ hh.1];exact Hx
 refine aCb hX (ds:=a.defers) (tv:=rdc.tv) (wb:=w) (S:=S) (w0:=w0) (F0:=F) (ρ0:=ρ) hl (λi hi=> ?_) (λa' w' F' ρ' uS hE ev HN hkp lW=> ?_) ops.size _ (λ_=>0) F ρ a _ (by simp) ?_ ?_ ?_
 ·have:=jS.1 jq i (Ac.2 hi);exact ajX
 ·refine hq a' w' F' ρ' uS ⟨hE,ev,?_,?_,hkp⟩ lW
  ·rw [e1,HN];exact hs.defs.mono lW.hF lW.hb
  ·exact hs.rd.mono lW.hF lW.hb
 ·exact oh ag5 (uf hlen)
 ·exact λt ht ef=>absurd ef (oC _)
 ·exact⟨by rw [Tl];exact dO,jB,hs.size,rfl,hs.kept,λ_ s _ _ ef=>absurd ef (oC _),λ_ s _ _ ef=>absurd ef (oC _),λs _ _ ef=>absurd ef (oC _),λs _ s' _ _ _ ef=>absurd ef (oC _),λu _=>dv.env u⟩
end
end
end Go.aA
namespace Go.aA
def gv{p:Prop}(h:p:=by rw [h];rfl):p:=h
def al6{p:Prop}(h:p:=by
 obtain⟨m2,m1,iu⟩:=rL zx;have rE:eR X nt ops env0 M0 (m2++s::(m1++t::l1)) env M:=by rw [iu]at hL;simpa using hL
 obtain⟨_,_,_,_,_,Lv⟩:=eR.entry rE;exact Lv.pair t (mb _ fP)):p:=h
end Go.aA
namespace Go.aA
open Go
noncomputable section
variable {X:Cx} {R:Type}
variable{p x:AV}{b:ep}{t:cx}{log:List cx}{k:List cx->St->Option R}{cl i id:Nat}{o:Oper}{r:R}{st:St}{T:iw R}{M:aV}{env:cY}
def cnv(k:Kind)(x:AV):Option AV:=
 match k,x with
 | .slice t,.gQ =>some (.ab t [])
 | .slice _,.aC _=>none
 |_,x=>some x
def DC:ei->bl->Option bl
 |k::ks,x::xs=>(match cnv k x with|some y=>(match DC ks xs with|some ys=>some (y::ys)|none=>none)|none=>none)
 |_,xs=>some xs
theorem aDT{k:Kind}{y:AV}(h:cnv k x=some y)(M:aV)(c:AV->aV->Option R):ma k x M c=c y M:=by
 unfold cnv at h;split at h
 ·injection h with h;subst h;rfl
 ·exact aX
 ·rename_i h1 h2;injection h with h;subst h;unfold ma;split
  ·exact absurd rfl (h1 _ rfl)
  ·exact absurd rfl (h2 _ _ rfl)
  ·rfl
theorem ahy:∀{ks:ei} {xs ys:bl},DC ks xs=some ys->∀(M:aV) (c:bl->aV->Option R),vM ks xs M c=c ys M
 | [],xs,ys,h,M,c=>by
   cases xs<;>(simp only [DC,Option.some.injEq]at h;subst h;rfl)
 |k::ks,[],ys,h,M,c=>by simp only [DC,Option.some.injEq]at h;subst h;rfl
 |k::ks,x::xs,ys,h,M,c=>by
  simp only [DC]at h;split at h
  ·rename_i y hy;split at h
   ·rename_i zs hz;injection h with h;subst h;simp only [vM];rw [aDT hy,ahy hz]
   ·exact aX
  ·exact aX
def GP(X:Cx)(t:TypeId)(p x:AV)(M:aV):Option (Nat×ep):=
 match p with
 | .ptr id i off=>
   match gm M id with
   |some (.var ks cs)=>
    (match x.plain&&(X.ti t).ok &&i==0&&x.cells.length==(X.ti t).size &&decide (off+(X.ti t).size <=ks.length)&&yR ks off x.cells with
     |true=>some (id,.var ks (setAt cs off x.cells))
     |false=>none)
   |some (.row t' xs)=>
    (match x.plain,DC (X.ti t).ks x.cells with
     |true,some xc=>
      (match(X.ti t).ok &&xc.length==(X.ti t).size &&decide (off+(X.ti t).size <=(X.K t').length)&&yR (X.K t') off xc&&decide (i<xs.length)with
       |true=>some (id,.row t' (xs.set i (setAt (xs.getD i []) off xc)))
       |false=>none)
     |_,_=>none)
   |_=>none
 |_=>none
def aaW(X:Cx)(t:TypeId)(p x:AV)(M:aV)(k:Nat->ep->Option R):Option R:=
 match p with
 | .ptr id i off=>
   match gm M id with
   |some (.var ks cs)=>aR (x.plain&&(X.ti t).ok &&i==0&&x.cells.length==(X.ti t).size &&decide (off+(X.ti t).size <=ks.length)&&yR ks off x.cells) (k id (.var ks (setAt cs off x.cells)))
   |some (.row t' xs)=>
    (match x.plain,DC (X.ti t).ks x.cells with
     |true,some xc=>aR ((X.ti t).ok &&xc.length==(X.ti t).size &&decide (off+(X.ti t).size <=(X.K t').length)&&yR (X.K t') off xc&&decide (i<xs.length)) (k id (.row t' (xs.set i (setAt (xs.getD i []) off xc))))
     |_,_=>none)
   |_=>none
 |_=>none
theorem aBK{t:TypeId}{k:Nat->ep->Option R}(h:aaW X t p x M k=some r):∃id b,GP X t p x M=some (id,b)∧k id b=some r:=by
 unfold aaW at h;split at h
 ·split at h
  ·rename_i hb;obtain⟨hc,h⟩:=dq h;exact⟨_,_,by simp only [GP,hb,hc],h⟩
  ·rename_i hb;split at h
   ·rename_i hp kX;obtain⟨hc,h⟩:=dq h;exact⟨_,_,by simp only [GP,hb,hp,kX,hc],h⟩
   ·exact aX
  ·exact aX
 ·exact aX
theorem agu{t:TypeId}(h:GP X t p x M=some (id,b)):wR p=[id]∧id<M.length∧∀(M0:aV),M0[id]?=M[id]?->∀(k:aV->Option R),FX X t p x M0 k=k (M0.set id b):=by
 unfold GP at h;split at h
 ·rename_i id' i off;split at h
  ·rename_i ks cs hb;split at h
   ·rename_i hc;injection h with h;injection h with h1 h2;subst h1;subst h2;rw [fb]at hb;refine⟨rfl,(eZ.1 hb).1,λM0 hM k=> ?_⟩;have Me:M0[id']?=some (.var ks cs):=by rw [hM];exact hb
    unfold FX;simp only [fb,Me,hc,aR]
   ·exact aX
  ·rename_i t' xs hb;split at h
   ·rename_i xc zy kX;split at h
    ·rename_i hc;injection h with h;injection h with h1 h2;subst h1;subst h2;rw [fb]at hb;refine⟨rfl,(eZ.1 hb).1,λM0 hM k=> ?_⟩;have Me:M0[id']?=some (.row t' xs):=by rw [hM];exact hb
     unfold FX;simp only [fb,Me,zy,aR];rw [ahy kX];simp only [fb,Me,hc,aR]
    ·exact aX
   ·exact aX
  ·exact aX
 ·exact aX
theorem aBJ(hX:X.Okb){e:Operand->AV}{t:TypeId}{p x:Operand}(ho:o.op= .store t p x)(h:GP X t (e p) (e x) M=some (id,b)){M0:aV}(hM:M0[id]?=M[id]?):fJ X o e M0 (.ew []) (M0.set id b):=by
 have h1:=(agu (R:=AV×aV) h).2.2 M0 hM (λM'=>some (.ew [],M'));have h2:pz X (KO (AV×aV)) e o M0 (λx M=>some (x,M))=some (.ew [],M0.set id b):=by
  unfold pz;simp only [ho];exact h1
 obtain⟨x',M',dE,he,_⟩:=afN hX (ahM X _) h2;injection he with he;injection he with e1 e2;subst e1;subst e2;exact @dE
def G1(o:Oper):Bool:=match o.op with| .store _ _ _=>true|_=>false
def jJ(t:cx):Bool:= !t.q&&G1 t.o
def lu(t:cx):Nat:=t.ids.headD 0
def Bz(t:cx):ep:=(t.M'[lu t]?).getD .dead
def rP(ops:Array Oper)(t s:cx):Bool:=
 !(t.i==s.i)&& !(t.o.dst.isSome&&t.o.dst==s.o.dst)&&
 (t.cl.testBit s.i||
   (!uy s.o.dst (iE t.o++guardOf ops t.o)&& !uy t.o.dst (iE s.o++guardOf ops s.o)&&
     match t.q,s.q with
     |true,true=>true
     |false,false=>jJ t&&jJ s&& !(Nat.beq (lu t) (lu s))
     |true,false=>t.ids.all λid=>s.keeps id
     |false,true=>(match jJ t with|true=>s.ids.all λid=> !(Nat.beq id (lu t))|false=>s.ids.all λid=>t.keeps id)))
theorem qF{ops:Array Oper}{s:cx}(h:rP ops t s=true):t.i≠s.i∧(∀d,t.o.dst=some d->s.o.dst≠some d)∧
 (t.cl.testBit s.i=true∨((∀d,s.o.dst=some d->d∉iE t.o++guardOf ops t.o)∧(∀d,t.o.dst=some d->d∉iE s.o++guardOf ops s.o)∧(t.q=false->s.q=false->jJ t=true∧jJ s=true∧lu t≠lu s)∧
   (t.q=true->s.q=false->∀id∈t.ids,s.vK id)∧(t.q=false->s.q=true->∀id∈s.ids,(jJ t=true->id≠lu t)∧(jJ t=false->t.vK id)))):=by
 unfold rP at h;rw [bM,bM,z6]at h;obtain⟨⟨h1,h2⟩,h3⟩:=h;refine⟨sU,λd hd hs=>by simp [hd,hs]at h2,?_⟩;rcases h3 with h3|h3
 ·exact .inl h3
 ·refine .inr ?_;rw [bM,bM]at h3;obtain⟨⟨h4,h5⟩,h6⟩:=h3;refine⟨PA h4,PA h5,?_,?_,?_⟩
  ·intro ht hs;rw [ht,hs]at h6;simp only [bM,dX]at h6;exact⟨h6.1.1,h6.1.2,λe=>by rw [e]at h6;simp at h6⟩
  ·exact aah
  ·intro ht hs id bA;rw [ht,hs]at h6;simp only at h6;constructor
   ·intro hl;rw [hl]at h6;have:=jS.1 h6 id bA;intro e;rw [e]at this;simp at this
   ·intro hl;rw [hl]at h6;exact cx.agj (jS.1 h6 id bA)
def cx.amA(X:Cx)(nt:Nt)(ops:Array Oper)(t:cx):Prop:=
 ∀{M0:aV},M0[lu t]?=t.M[lu t]?->
  ∀{rdc:Cy} {n:Nat} {w0:World} {S:Sc} {F:bT} {ρ:bX} {a:Act} {w:World} {Q:Exit->Act->World->Prop} {K:Act->World->Prop},Inv X w0 S F ρ M0 w->a.tmps.size=nt.n->
   (∀u∈iE t.o++guardOf ops t.o,aZ X.K ρ F w (look t.env u) (a.tmps.getD u undef))->
   (∀v w' F' ρ',Inv X w0 S F' ρ' (M0.set (lu t) (Bz t)) w'->aZ X.K ρ' F' w' t.x v->Grow F F' ρ ρ' w w'->K (a.put t.o.dst v) w')->wpOpIn (lI rdc.r) n X.P ops Q t.i K a w
structure aaI(X:Cx)(nt:Nt)(ops:Array Oper)(t:cx)(log:List cx)(gU:cY)(M1:aV)(env:cY)(M:aV):Prop where
 K5:∀u,look t.env u=look gU u
 hM:t.M=M1
 hq:t.q=true->t.M'=t.M
 fO:t.q=false->dV t.ids t.M t.M'
 runs:jJ t=false->t.SR X nt ops
 lc:jJ t=true->t.amA X nt ops∧lu t<t.M.length∧t.M'=t.M.set (lu t) (Bz t)
 op:ops[t.i]?=some t.o
 dst:∀d,t.o.dst=some d->d<nt.n∧nt.mask.testBit d=true
 pair:∀s∈log,rP ops t s=true
 pre:∀e∈t.o.after,Region.binds .any e=true->∃s∈log,s.i=e.on
 cl:∀w,t.cl.testBit w=true->∃e∈t.o.after,Region.binds .any e=true∧(w=e.on∨∃s∈log,s.i=e.on∧s.cl.testBit w=true)
 lk:∀u,look env u=(if t.o.dst=some u then t.x else look gU u)
 mem:M=t.M'
def eR(X:Cx)(nt:Nt)(ops:Array Oper)(env0:cY)(M0:aV):List cx->cY->aV->Prop
 | [],env,M=>(∀u,look env u=look env0 u)∧M=M0
 |t::log,env,M=>∃gU M1,eR X nt ops env0 M0 log gU M1∧aaI X nt ops t log gU M1 env M
def gM(M0:aV)(L:Array Bool):List cx->aV
 | []=>M0
 |t::log=>if t.q=false∧di L t.i then(if jJ t=true then(gM M0 L log).set (lu t) (Bz t)else t.M')else gM M0 L log
theorem aEP(h:jJ t=true):t.q=false:=by
 unfold jJ at h;rw [bM]at h;simpa using h.1
section
variable {nt:Nt} {ops:Array Oper} {env0:cY} {M0:aV} {L:Array Bool}
theorem eR.look:∀{log:List cx} {env:cY} {M:aV},eR X nt ops env0 M0 log env M->∀u,(∃s∈log,s.o.dst=some u∧aA.look env u=s.x)∨((∀s∈log,s.o.dst≠some u)∧aA.look env u=aA.look env0 u)
 | [],env,M,⟨h,_⟩,u=> .inr ⟨λs hs=>by simp at hs,h u⟩
 |t::log,env,M,⟨_,_,hl,st⟩,u=>by
  rw [st.lk u];split
  ·rename_i hd;exact .inl ⟨t,fP,hd,rfl⟩
  ·rename_i hd;rcases eR.look hl u with⟨s,hs,h⟩|⟨h1,h2⟩
   ·exact .inl ⟨s,iD _ hs,h⟩
   ·exact akG
theorem eR.closed:∀{log:List cx} {env:cY} {M:aV},eR X nt ops env0 M0 log env M->sS L log->∀t∈log,(∀e∈t.o.after,Region.binds .any e=true->di L e.on)->∀w,t.cl.testBit w=true->di L w
 | [],_,_,_,_,t,ht,_,_,_=>by simp at ht
 |t::log,_,_,⟨_,_,hl,st⟩,eJ,s,hs,hp,w,hw=>by
  have ih:=eR.closed hl (λa ha=>eJ a (iD _ ha));exact alT
theorem eR.entry{t:cx}{l1:List cx}:∀{l2:List cx} {ia:cY} {M':aV},eR X nt ops env0 M0 (l2++t::l1) ia M'->∃gU M1 env M,eR X nt ops env0 M0 l1 gU M1∧aaI X nt ops t l1 gU M1 env M
 | [],_,_,⟨_,_,hl,st⟩=>⟨_,_,_,_,hl,st⟩
 |_::l2,_,_,⟨_,_,hl,_⟩=>eR.entry (l2:=l2) hl
theorem eR.distinct:∀{env:cY} {M:aV},eR X nt ops env0 M0 log env M->∀s∈log,∀t∈log,s.i=t.i->s=t:=by
 induction log with
 |nil=>exact Qr
 |cons a log ih=>
  intro env M h s hs t ht e;obtain⟨_,_,hl,st⟩:=h;rcases gX.1 hs with rfl|dv<;>rcases gX.1 ht with rfl|wj
  ·rfl
  ·exact absurd e (qF (st.pair t wj)).1
  ·exact absurd e.symm (qF (st.pair s dv)).1
  ·exact ih hl s dv t wj e
theorem eR.dst{log:List cx}:∀{env:cY} {M:aV},eR X nt ops env0 M0 log env M->∀s∈log,∀t∈log,∀d,s.o.dst=some d->t.o.dst=some d->s=t:=by
 induction log with
 |nil=>exact Qr
 |cons a log ih=>
  intro env M h s hs t ht d h1 h2;obtain⟨_,_,hl,st⟩:=h;rcases gX.1 hs with rfl|dv<;>rcases gX.1 ht with rfl|wj
  ·rfl
  ·exact absurd h2 ((qF (st.pair t wj)).2.1 d h1)
  ·exact absurd h1 ((qF (st.pair s dv)).2.1 d h2)
  ·exact ih hl s dv t wj d h1 h2
theorem eR.wN:∀{log:List cx} {env:cY} {M:aV},eR X nt ops env0 M0 log env M->(∀s∈log,s.q=false->di L s.i)->gM M0 L log=M
 | [],_,_,⟨_,h⟩,_=>h.symm
 |t::log,_,_,⟨_,_,hl,st⟩,h=>by
  have ih:=eR.wN hl (λs hs=>h s (iD _ hs));simp only [gM];cases hq:t.q with
  |false=>
   rw [if_pos ⟨rfl,h t fP hq⟩];split
   ·rename_i kW;rw [ih,<-st.hM,st.mem];exact(st.lc kW).2.2.symm
   ·exact st.mem.symm
  |true=>rw [if_neg (by simp),ih,st.mem,st.hq hq,st.hM]
theorem eR.PY:∀{log:List cx} {env:cY} {M:aV},eR X nt ops env0 M0 log env M->(∀s∈log,s.q=false->jJ s=false->di L s.i)->(gM M0 L log).length =M.length
 | [],_,_,⟨_,h⟩,_=>gv
 |t::log,_,_,⟨_,_,hl,st⟩,h=>by
  have ih:=eR.PY hl (λs hs=>h s (iD _ hs));simp only [gM];cases hq:t.q with
  |true=>rw [if_neg (by simp),ih,st.mem,st.hq hq,st.hM]
  |false=>
   cases kW:jJ t with
   |true=>
    have hm:=(st.lc kW).2.2
    by_cases ef:di L t.i
    ·rw [if_pos ⟨rfl,ef⟩,if_pos rfl,zZ,ih,st.mem,hm,zZ,st.hM]
    ·rw [if_neg (λhh=>ef hh.2),ih,st.mem,hm,zZ,st.hM]
   |false=>rw [if_pos ⟨rfl,h t fP hq kW⟩,if_neg (by simp),st.mem]
theorem aEe{gU:cY}{M1:aV}(st:aaI X nt ops t log gU M1 env M)(kW:jJ t=true):t.M'[lu t]?=some (Bz t):=by
 obtain⟨_,h2,h3⟩:=st.lc kW;rw [h3,qK h2]
theorem eR.ah3{t:cx}{l1:List cx}{id:Nat}(jo:¬di L t.i){v:Option ep}:
 ∀{l2:List cx} {ia:cY} {M':aV},eR X nt ops env0 M0 (l2++t::l1) ia M'->sS L (l2++t::l1)->(gM M0 L (t::l1))[id]?=v->
  (∀s∈l2,s.q=false->di L s.i->rP ops s t=true->jJ s=true->id≠lu s)->(∀s∈l2,s.q=false->di L s.i->rP ops s t=true->jJ s=false->∀l env M,eR X nt ops env0 M0 (s::l) env M->s.M'[id]?=s.M[id]?)->
  (gM M0 L (l2++t::l1))[id]?=v
 | [],_,_,_,_,h0,_,_=>h0
 |s::l2,ia,M',hL,eJ,h0,h1,h2=>by
  obtain⟨_,_,hl,st⟩:=_root_.id hL;have ih:=eR.ah3 jo (l2:=l2) hl (λa ha=>eJ a (iD _ ha)) h0 (λr hr=>h1 r (iD _ hr)) (λr hr=>h2 r (iD _ hr));simp only [kK,gM]
  by_cases hc:s.q=false∧di L s.i
  ·have hp:=st.pair t (mb _ fP);rw [if_pos hc];split
   ·rename_i kW;rw [kI (Ne.symm (h1 s fP hc.1 hc.2 hp kW))];exact ih
   ·rename_i kW;have aoZ:jJ s=false:=by simpa using kW
    rw [h2 s fP hc.1 hc.2 hp aoZ _ _ _ hL,st.hM];rw [<-ih];have oD:=eR.closed (L:=L) hL eJ s fP (eJ s fP hc.2);have:gM M0 L (l2++t::l1)=_:=eR.wN (L:=L) hl λr hr qw=>by
     obtain⟨_,_,h|⟨_,_,h,_⟩⟩:=qF (st.pair r hr)
     ·exact oD _ h
     ·have:=(h hc.1 qw).1;rw [aoZ]at this;cases this
    rw [this]
  ·rw [if_neg hc];exact ih
theorem eR.reads{t:cx}{l1:List cx}(jo:¬di L t.i){u:Nat}(hu:u∈iE t.o++guardOf ops t.o){P:AV->Prop}:
 ∀{l2:List cx} {ia:cY} {M':aV},eR X nt ops env0 M0 (l2++t::l1) ia M'->sS L (l2++t::l1)->(∀e∈t.o.after,Region.binds .any e=true->di L e.on)->
  (∀s∈l1,t.cl.testBit s.i=true->s.o.dst=some u->P s.x)->((∀s∈l2++t::l1,di L s.i->s.o.dst≠some u)->P (aA.look env0 u))->P (aA.look t.env u)
 | [],ia,M',hL,eJ,kh,hw,h0=>by
   obtain⟨_,_,hl,st⟩:=hL;rw [st.K5 u];rcases eR.look hl u with⟨s,hs,hd,he⟩|⟨hn,he⟩
   ·rw [he];refine hw s hs ?_ hd;obtain⟨_,_,h|⟨h,_⟩⟩:=qF (st.pair s hs)
    ·exact h
    ·exact absurd hu (h u hd)
   ·exact akU
 |s::l2,ia,M',hL,eJ,kh,hw,h0=>by
  obtain⟨_,_,hl,st⟩:=_root_.id hL;refine eR.reads jo hu (l2:=l2) hl (λa ha=>eJ a (iD _ ha)) kh hw λhn=>h0 λr hr qx hd=> ?_;rcases gX.1 hr with rfl|hr
  ·have oD:=eR.closed (L:=L) hL eJ r fP (eJ r fP qx);obtain⟨_,_,h|⟨_,h,_⟩⟩:=qF (st.pair t (mb _ fP))
   ·exact jo (oD _ h)
   ·exact h u hd hu
  ·exact hn r hr qx hd
theorem Xt{L':Array Bool}:∀{log:List cx},(∀s∈log,s.q=false->(di L s.i ↔ di L' s.i))->gM M0 L log=gM M0 L' log
 | [],_=>rfl
 |t::log,h=>by
  have ih:=Xt (L':=L') (log:=log) λs hs=>h s (iD _ hs);simp only [gM]
  by_cases hq:t.q=false
  ·have:=h t fP hq
   by_cases ef:di L t.i
   ·rw [ih,if_pos ⟨hq,ef⟩];exact(if_pos ⟨hq,this.1 ef⟩).symm
   ·rw [if_neg (λhh=>ef hh.2),if_neg (λhh=>ef (this.2 hh.2)),ih]
  ·rw [if_neg (λhh=>hq hh.1),if_neg (λhh=>hq hh.1),ih]
end
structure apy(X:Cx)(nt:Nt)(env0:cY)(M0:aV)(w0:World)(S:Sc)(F0:bT)(ρ0:bX)(wb:World)(ds:List Deferred)(tv:Nat->Value)(log:List cx)(L:Array Bool)(F:bT)(ρ:bX)(a:Act)(w:World):Prop where
 inv:Inv X w0 S F ρ (gM M0 L log) w
 grow:Grow F0 F ρ0 ρ wb w
 size:a.tmps.size=nt.n
 defs:a.defers=ds
 kept:∀t,nt.mask.testBit t=false->a.tmps.getD t undef=tv t
 wrote:∀s∈log,di L s.i->∀d,s.o.dst=some d->aZ X.K ρ F w s.x (a.tmps.getD d undef)
 gk:∀u,(∀s∈log,di L s.i->s.o.dst≠some u)->aZ X.K ρ F w (aA.look env0 u) (a.tmps.getD u undef)
section
variable {nt:Nt} {ops:Array Oper} {env0:cY} {M0:aV}
theorem aCa{rdc:Cy}{n:Nat}{w0 wb:World}{S:Sc}{F0:bT}{ρ0:bX}{ds:List Deferred}{tv:Nat->Value}{Q:Exit->Act->World->Prop}(hL:eR X nt ops env0 M0 log env M)
 (jq:∀i,i<ops.size->∃t∈log,t.i=i)
 (hQ:∀a' w' F' ρ',Inv X w0 S F' ρ' M w'->jg X ρ' F' w' env a'.tmps->a'.tmps.size=nt.n->a'.defers=ds->(∀t,nt.mask.testBit t=false->a'.tmps.getD t undef=tv t)->Grow F0 F' ρ0 ρ' wb w'->Q .normal a' w'):
 ∀(fuel:Nat) (L:Array Bool) (F:bT) (ρ:bX) (a:Act) (w:World),L.size=ops.size->log.countP (λt=> !(L.getD t.i false))<=fuel->sS L log->
  apy X nt env0 M0 w0 S F0 ρ0 wb ds tv log L F ρ a w->wpAnyIn (lI rdc.r) n X.P .any ops Q fuel L a w:=by
 have done:∀(L:Array Bool) (F:bT) (ρ:bX) (a:Act) (w:World),(∀t∈log,di L t.i)->apy X nt env0 M0 w0 S F0 ρ0 wb ds tv log L F ρ a w->Q .normal a w:=by
  intro L F ρ a w ef hm;refine hQ a w F ρ ?_ (λu=> ?_) hm.size hm.defs hm.kept hm.grow
  ·have:=eR.wN hL (L:=L) (λs hs _=>ef s hs);rw [<-this];exact hm.inv
  ·rcases eR.look hL u with⟨s,hs,hd,he⟩|⟨hn,he⟩
   ·rw [he];exact hm.wrote s hs (ef s hs) u hd
   ·rw [he];exact hm.gk u λs hs _=>hn s hs
 have none_ready:∀(L:Array Bool),L.size=ops.size->Region.ready .any ops L=[]->∀t∈log,di L t.i:=by
  intro L ev hr;have key:∀(l1:List cx) (l2:List cx) (ia:cY) (M':aV),eR X nt ops env0 M0 l1 ia M'->l2++l1=log->∀t∈l1,di L t.i:=aoD;exact λt ht=>key log [] env M hL rfl t ht
 intro fuel
 induction fuel with
 |zero=>
  intro L F ρ a w ev abL eJ hm;have ef:∀t∈log,di L t.i:=al4;refine⟨?_,done L F ρ a w ef hm⟩;exact amh
 |succ fuel ih=>
  intro L F ρ a w ev abL eJ hm;refine⟨λhr=>done L F ρ a w (none_ready L ev hr) hm,λi hi=> ?_⟩;rw [Pq]at hi;obtain⟨hf,o,ho,kh⟩:=hi;have cM:i<ops.size:=(wK.1 ho).1;obtain⟨t,ht,rfl⟩:=jq i cM;have abF:t.i<L.size:=by omega
  have jo:¬di L t.i:=aks;obtain⟨l2,l1,rfl⟩:=rL ht;obtain⟨gU,M1,aOF,ME,fg,st⟩:=eR.entry hL;have D3:t.o=o:=aki;subst D3;have AS:=eR.closed (L:=L) hL eJ t ht kh;have ao9:∀s∈l2++t::l1,di L s.i->∀w,s.cl.testBit w=true->di L w:=λs hs ed=>eR.closed (L:=L) hL eJ s hs (eJ s hs ed);have nc:∀j,di (L.setIfInBounds t.i true) j ↔ j=t.i∨di L j:=alF;have gk:∀(id:Nat),(∀s∈l1,s.q=false->t.cl.testBit s.i=true∨s.vK id)->(gM M0 L l1)[id]?=t.M[id]?:=by
   intro id hk;rw [st.hM];have key:∀(l l':List cx) (e:cY) (N:aV),l'++l=l1->eR X nt ops env0 M0 l e N->(gM M0 L l)[id]?=N[id]?:=by
    intro l
    induction l with
    |nil=>intro _ _ _ _ h;rw [h.2];rfl
    |cons s l Hx=>
     intro l' e N D5 hls;obtain⟨_,_,Tm,oz⟩:=hls;have ih0:=Hx (l'++[s]) _ _ (by simpa using D5) Tm;have ir:s∈l1:=aiR;have hsm:s∈l2++t::l1:=mb _ (iD _ ir);simp only [gM];cases fU:s.q with
     |true=>rw [if_neg (by simp),ih0,oz.mem,oz.hq fU,oz.hM]
     |false=>
      by_cases ef:di L s.i
      ·rw [if_pos ⟨rfl,ef⟩];split
       ·rename_i kW;obtain⟨_,h2,h3⟩:=oz.lc kW;have hlen:(gM M0 L l).length =s.M.length:=by
         rw [oz.hM];refine eR.PY Tm λr hr qw rn=> ?_;obtain⟨_,_,h|⟨_,_,h,_⟩⟩:=qF (oz.pair r hr)
         ·exact ao9 s hsm ef _ h
         ·have:=(h fU qw).2.1;rw [rn]at this;cases this
        by_cases bA:id=lu s
        ·subst bA;rw [qK (by omega),oz.mem,aEe oz kW]
        ·rw [kI (Ne.symm bA),ih0,oz.mem,h3,kI (Ne.symm bA),oz.hM]
       ·exact rM (·[id]?) oz.mem.symm
      ·rw [if_neg (λhh=>ef hh.2),ih0];rcases hk s ir fU with h|h
       ·exact absurd (AS _ h) ef
       ·rw [oz.mem,h.at (oz.fO fU),oz.hM]
   exact key l1 [] _ _ rfl fg
  have Db:gM M0 L (t::l1)=gM M0 L l1:=by
   simp only [gM];rw [if_neg λhh=>jo hh.2]
  have new:∀(id:Nat),(∀s∈l2,s.q=false->di L s.i->rP ops s t=true->jJ s=true->id≠lu s)->(∀s∈l2,s.q=false->di L s.i->rP ops s t=true->jJ s=false->s.vK id)->(gM M0 L l1)[id]?=t.M[id]?->(gM M0 L (l2++t::l1))[id]?=t.M[id]?:=by
   intro id h1 h2 h0;refine eR.ah3 jo hL eJ (by rw [Db];exact h0) h1 λs hs fU ed hp kW l env M hLs=> ?_;obtain⟨_,_,_,kE⟩:=hLs;exact(h2 s hs fU ed hp kW).at (kE.fO fU)
  have fin:∀(F2:bT) (ρ2:bX) (v:Value) (w2:World),Inv X w0 S F2 ρ2 (gM M0 (L.setIfInBounds t.i true) (l2++t::l1)) w2->Grow F F2 ρ ρ2 w w2->aZ X.K ρ2 F2 w2 t.x v->wpAnyIn (lI rdc.r) n X.P .any ops Q fuel (L.setIfInBounds t.i true) (a.put t.o.dst v) w2:=by
   intro F' ρ' v w' dO hg hx;refine ih (L.setIfInBounds t.i true) F' ρ' _ w' (J3) ?_ ?_ ⟨dO,hm.grow.trans hg,ai5,ai1,?_,?_,?_⟩
   ·have:=X0 (l:=l2++t::l1) (p:=λt=> !(L.getD t.i false)) (q:=λs=> !((L.setIfInBounds t.i true).getD s.i false)) (λs hs h=>by
     have h':¬di (L.setIfInBounds t.i true) s.i:=by simpa [di]using h
     rw [nc]at h';have:¬di L s.i:=λhh=>h' (.inr hh);simpa [di]using this) ⟨t,ht,by simpa [di]using jo,ajH⟩
    omega
   ·intro s hs ed e he hb;rw [nc]at ed⊢;rcases ed with h|h
    ·have:=eR.distinct hL s hs t ht h;subst this;exact .inr (kh e he hb)
    ·exact .inr (eJ s hs h e he hb)
   ·exact akA
   ·intro s hs ed d hd;rw [nc]at ed
    by_cases eT:s=t
    ·subst eT;have Dw:=(st.dst d hd).1;have:(a.put s.o.dst v).tmps.getD d undef=v:=by
      simp [Act.put,hd,pj,hm.size,Dw]
     rw [this];exact hx
    ·have ux:di L s.i:=by
      rcases ed with h|h
      ·exact absurd (eR.distinct hL s hs t ht h) eT
      ·exact h
     have:(a.put t.o.dst v).tmps.getD d undef=a.tmps.getD d undef:=by
      cases D1:t.o.dst with
      |none=>rfl
      |some d'=>
       have eN:d'≠d:=λe=>eT (eR.dst hL s hs t ht d hd (e▸D1));exact Zp
     rw [this];exact(hm.wrote s hs ux d hd).grow hg
   ·intro u hu;have Bo:t.o.dst≠some u:=hu t ht ((nc _).2 (.inl rfl));have:(a.put t.o.dst v).tmps.getD u undef=a.tmps.getD u undef:=alE;rw [this];exact ajB
  have ak7:∀u∈iE t.o++guardOf ops t.o,aZ X.K ρ F w (aA.look t.env u) (a.tmps.getD u undef):=λu hu=>
   eR.reads (P:=λx=>aZ X.K ρ F w x (a.tmps.getD u undef)) jo hu hL eJ kh (λs hs xJ hd=>hm.wrote s (mb _ (iD _ hs)) (AS _ xJ) u hd) (hm.gk u)
  have C4:∀s∈l2,di L s.i->rP ops s t=true->(t.q=false->s.q=false->jJ s=true∧jJ t=true∧lu s≠lu t)∧(s.q=false->t.q=true->∀id∈t.ids,(jJ s=true->id≠lu s)∧(jJ s=false->s.vK id)):=by
   intro s hs ed hp;obtain⟨_,_,h|⟨_,_,h1,_,h2⟩⟩:=qF hp
   ·exact absurd (ao9 s (yf _ hs) ed _ h) jo
   ·exact⟨λa b=>h1 b a,λa b=>h2 a b⟩
  cases kW:jJ t with
  |true=>
   have tI:=aEP kW;obtain⟨dE,aO9,Ec⟩:=st.lc kW;have hM0:(gM M0 L (l2++t::l1))[lu t]?=t.M[lu t]?:=by
    refine new _ (λs hs fU ed hp _=> ?_) (λs hs fU ed hp hl=> ?_) (gk _ λs hs fU=> ?_)
    ·exact λe=>((C4 s hs ed hp).1 tI fU).2.2 e.symm
    ·have:=((C4 s hs ed hp).1 tI fU).1;rw [hl]at this;cases this
    ·obtain⟨_,_,h|⟨_,_,h,_⟩⟩:=qF (st.pair s hs)
     ·exact .inl h
     ·obtain⟨_,h2,h3⟩:=h tI fU;obtain⟨b,c,fj⟩:=rL hs;obtain⟨_,_,_,_,_,kE⟩:=eR.entry (fj▸fg);refine .inr (.inr ?_);rw [(kE.lc h2).2.2,kI (Ne.symm h3)]
   refine dE (M0:=gM M0 L (l2++t::l1)) hM0 hm.inv hm.size ak7 ?_;intro v w' F' ρ' dO hx hg;refine fin F' ρ' v w' ?_ hg hx;have hZ:gM M0 (L.setIfInBounds t.i true) (l2++t::l1)=(gM M0 L (l2++t::l1)).set (lu t) (Bz t):=by
    have key:∀(b:List cx),(∀s∈b,s∈l2)->gM M0 (L.setIfInBounds t.i true) (b++t::l1)=(gM M0 L (b++t::l1)).set (lu t) (Bz t):=by
     intro b
     induction b with
     |nil=>
      intro _;rw [mE,Db];simp only [gM];rw [if_pos ⟨tI,(nc _).2 (.inl rfl)⟩,if_pos kW]
      congr 1
      refine Xt λs hs _=> ?_;rw [nc];exact⟨λh=>h.resolve_left λe=>(qF (st.pair s hs)).1 e.symm,.inr⟩
     |cons s b LK=>
      intro hb;have aoN:=LK (λr hr=>hb r (iD _ hr));have zx:=hb s fP;have eT:s.i≠t.i:=by
       obtain⟨m2,m1,iu⟩:=rL zx;have rE:eR X nt ops env0 M0 (m2++s::(m1++t::l1)) env M:=by rw [iu]at hL;simpa using hL
       obtain⟨_,_,_,_,_,Lv⟩:=eR.entry rE;exact(qF (Lv.pair t (mb _ fP))).1
      have hp:rP ops s t=true:=al6;simp only [kK,gM]
      by_cases hc:s.q=false∧di L s.i
      ·obtain⟨hsl,_,eN⟩:=(C4 s zx hc.2 hp).1 tI hc.1;rw [if_pos ⟨hc.1,(nc _).2 (.inr hc.2)⟩,if_pos hsl,if_pos hc,if_pos hsl,aoN,List.set_comm _ _ eN]
      ·rw [if_neg hc,if_neg λhh=>hc ⟨hh.1,((nc _).1 hh.2).resolve_left eT⟩];exact aoN
    exact key l2 λs hs=>hs
   rw [hZ];exact dO
  |false=>
   refine st.runs kW (M0:=gM M0 L (l2++t::l1)) (λhq id bA=> ?_) (λhq=> ?_) hm.inv hm.size ak7 ?_
   ·refine new _ (λs hs fU ed hp hl=>((C4 s hs ed hp).2 fU hq id bA).1 hl) (λs hs fU ed hp hl=>((C4 s hs ed hp).2 fU hq id bA).2 hl) (gk _ λs hs fU=> ?_);obtain⟨_,_,h|⟨_,_,_,h,_⟩⟩:=qF (st.pair s hs)
    ·exact .inl h
    ·exact .inr (h hq fU id bA)
   ·have h1:gM M0 L l1=t.M:=by
     rw [st.hM];refine eR.wN fg λs hs fU=> ?_;obtain⟨_,_,h|⟨_,_,h,_⟩⟩:=qF (st.pair s hs)
     ·exact AS _ h
     ·have:=(h hq fU).1;rw [kW]at this;cases this
    have key:∀(b:List cx),(∀s∈b,s∈l2)->gM M0 L (b++t::l1)=gM M0 L (t::l1):=by
     intro b
     induction b with
     |nil=>intro _;rfl
     |cons s b LK=>
      intro hb;have zx:=hb s fP;have hp:rP ops s t=true:=al6;simp only [kK,gM];rw [if_neg λhh=>by
       have:=((C4 s zx hh.2 hp).1 hq hh.1).2.1;rw [kW]at this;cases this]
      rw [LK λr hr=>hb r (iD _ hr)];rfl
    rw [key l2 λs hs=>hs,Db,h1]
   ·intro v w' F' ρ' dO hx hg;refine fin F' ρ' v w' ?_ hg hx;have hZ:gM M0 (L.setIfInBounds t.i true) (l2++t::l1)=if t.q then gM M0 L (l2++t::l1)else t.M':=by
     cases hq:t.q with
     |true=>
      rw [if_pos rfl];refine Xt λs hs fU=> ?_;rw [nc];constructor
      ·rintro(h|h)
       ·have:=eR.distinct hL s hs t ht h;subst this;rw [hq]at fU;cases fU
       ·exact h
      ·exact .inr
     |false=>
      rw [if_neg (by simp)];have key:∀(b:List cx),(∀s∈b,s∈l2)->gM M0 (L.setIfInBounds t.i true) (b++t::l1)=t.M':=by
       intro b
       induction b with
       |nil=>
        intro _;simp only [mE,gM];rw [if_pos ⟨hq,(nc _).2 (.inl rfl)⟩,if_neg (by simp [kW])]
       |cons s b LK=>
        intro hb;have zx:=hb s fP;obtain⟨m2,m1,iu⟩:=rL zx;have rE:eR X nt ops env0 M0 (m2++s::(m1++t::l1)) env M:=by rw [iu]at hL;simpa using hL
        obtain⟨_,_,_,_,_,Lv⟩:=eR.entry rE;have hp:rP ops s t=true:=Lv.pair t (mb _ fP);simp only [kK,gM];rw [if_neg λhh=>by
         have ed:di L s.i:=((nc _).1 hh.2).resolve_left (qF hp).1;have:=((C4 s zx ed hp).1 hq hh.1).2.1;rw [kW]at this;cases this]
        exact LK λr hr=>hb r (iD _ hr)
      exact key l2 λs hs=>hs
    rw [hZ];exact dO
end
def vA(T:iw R)(ops:Array Oper)(t:cx)(st:St)(log:List cx)(k:List cx->St->Option R):Option R:=
 aR (log.all (rP ops t)) (kP T.nt st t.o.dst t.x t.M' λbh=>k (t::log) bh)
def Lc(X:Cx)(T:iw R)(ops:Array Oper)(i:Nat)(o:Oper)(cl:Nat)(st:St)(log:List cx)(k:List cx->St->Option R):Option R:=
 match o.op with
 | .store ty p x=>
   aaW X ty (kY X (lU (iE o) st.env) p) (kY X (lU (iE o) st.env) x) st.mem λid b=>match X.pk with
    |true=>vA T ops ⟨i,o,false,.ew [],[id],cl,st.env,st.mem,st.mem.set id b⟩ st log k
    |false=>G5 (st.mem.set id b) id λM'=>vA T ops ⟨i,o,false,.ew [],[id],cl,st.env,st.mem,M'⟩ st log k
 |_=>
 match yh X (kY X (lU (iE o) st.env)) o with
 |some ids=>sd X T (kY X (lU (iE o) st.env)) o st.mem λx _=>vA T ops ⟨i,o,true,x,ids,cl,st.env,st.mem,st.mem⟩ st log k
 |none=>
  match Rj X ops (kY X (lU (iE o) st.env)) o with
  |some (t,n,ps)=>B4 X t n (ps.toList.map λp=>(p.1,kY X (lU (iE o) st.env) p.2)) λx=>vA T ops ⟨i,o,true,x,[],cl,st.env,st.mem,st.mem⟩ st log k
  |none=>
   match Rz X (kY X (lU (iE o) st.env)) o with
   |some (g,args)=>T.call g args [] λx M'=>aR (M'.isEmpty&&qY x) (vA T ops ⟨i,o,true,x,[],cl,st.env,st.mem,st.mem⟩ st log k)
   |none=>
    match po T (kY X (lU (iE o) st.env)) o st.mem with
    |some ids=>sd X T (kY X (lU (iE o) st.env)) o st.mem λx M'=>vA T ops ⟨i,o,false,x,ids,cl,st.env,st.mem,M'⟩ st log k
    |none=>none
def Ld(T:iw R)(ops:Array Oper)(i:Nat)(o:Oper)(cl:Nat)(st:St)(log:List cx)(k:List cx->St->Option R):Option R:=
 vA T ops ⟨i,o,true,.ew [],[],cl,st.env,st.mem,st.mem⟩ st log k
def abW(X:Cx)(T:iw R)(ops:Array Oper)(i:Nat)(o:Oper)(cl:Nat)(st:St)(log:List cx)(k:List cx->St->Option R):Option R:=
 match o.guard with
 |none=>Lc X T ops i o cl st log k
 |some (j,want)=>
  match Aw ops j with
  |none=>none
  |some d=>
   match look st.env d with
   | .bool b=>
     match b with
     |true=>match want with
      |true=>Lc X T ops i o cl {st with env:=(d,.bool true)::st.env} log k
      |false=>Ld T ops i o cl {st with env:=(d,.bool true)::st.env} log k
     |false=>match want with
      |false=>Lc X T ops i o cl {st with env:=(d,.bool false)::st.env} log k
      |true=>Ld T ops i o cl {st with env:=(d,.bool false)::st.env} log k
   | .ew []=>Ld T ops i o cl st log k
   |_=>none
def SD(X:Cx)(T:iw R)(ops:Array Oper):dP->List cx->St->(List cx->St->Option R)->Option R
 | [],log,st,k=>k log st
 |i::rest,log,st,k=>
  match ops.toList[i]? with
  |none=>none
  |some o=>
   match qX log o.after.toList with
   |none=>none
   |some cl=>abW X T ops i o cl st log λtg bh=>SD X T ops rest tg bh k
def Z0(X:Cx)(T:iw R)(ops:Array Oper)(st:St)(k:St->Option R):Option R:=
 SD X T ops (alu ops.toList) [] st λlog bh=>aR (Nat.ble log.length ops.size&&(List.range ops.size).all λi=>log.any λt=>t.i==i) (k bh)
def alf(i:Nat):List Edge->Bool
 | []=>false
 |e::es=>(Region.binds .any e&&Nat.beq e.on i)||alf i es
def ahN:Nat->List Oper->Bool
 |_,[]=>false
 |i,o::os=>(G1 o&&ahO i os)||ahN (i+1) os
where ahO (i:Nat):List Oper->Bool
 | []=>false
 |o::os=>(G1 o&& !alf i o.after.toList)||ahO i os
def aaC(X:Cx)(T:iw R)(ops:Array Oper)(draw:Bool)(st:St)(k:St->Option R):Option R:=
 match draw with
 |false=>qR X T ops ops.toList st k
 |true=>match ahN 0 ops.toList with
  |true=>Z0 X T ops st k
  |false=>Z1 X T ops st k
section
variable {nt:Nt} {ops:Array Oper} {env0 gU:cY} {M0 M1:aV}
theorem Fo(h:vA T ops t st log k=some r):
 ∃bh,k (t::log) bh=some r∧(∀s∈log,rP ops t s=true)∧(∀d,t.o.dst=some d->d<T.nt.n∧T.nt.mask.testBit d=true)∧(∀u,look bh.env u=(if t.o.dst=some u then t.x else look st.env u))∧bh.mem=t.M'∧bh.iR=st.iR∧bh.rd=st.rd:=by
 unfold vA at h;replace h:=dq h;obtain⟨hp,h⟩:=h;have hq:Kr T ops t st [] (λ_ bh=>k (t::log) bh)=some r:=ajY;obtain⟨bh,h,_,hd,ko,iu,e1,e2⟩:=aga hq;exact⟨bh,h,λs hs=>jS.1 hp s hs,hd,ko,iu,e1,e2⟩
theorem Fw(hl:eR X nt ops env0 M0 log gU M1)(h1:∀u,look t.env u=look gU u)(h2:t.M=M1)(h3:t.q=true->t.M'=t.M)(h4:t.q=false->dV t.ids t.M t.M')(h5:jJ t=false->t.SR X nt ops)
 (h5':jJ t=true->t.amA X nt ops∧lu t<t.M.length∧t.M'=t.M.set (lu t) (Bz t)) (h6:ops[t.i]?=some t.o)
 (h7:∀d,t.o.dst=some d->d<nt.n∧nt.mask.testBit d=true) (h8:∀s∈log,rP ops t s=true) (h9:qX log t.o.after.toList=some t.cl)   (jd:∀u,look env u=(if t.o.dst=some u then t.x else look t.env u)) (lZ:M=t.M'):
 eR X nt ops env0 M0 (t::log) env M:=by
 obtain⟨c1,c2⟩:=O8 h9;refine⟨gU,M1,hl,h1,h2,h3,h4,h5,h5',h6,h7,h8,λe he hb=>c1 e (yt) hb,λw hw=> ?_,λu=>by rw [jd u,h1 u],lZ⟩;obtain⟨e,he,hb,hh⟩:=c2 w hw;exact⟨e,yt,hb,hh⟩
theorem Xy(hl:eR X T.nt ops env0 M0 log gU M1)(hi:ops[i]?=some o)(hc:qX log o.after.toList=some cl)
 (he:∀u,look st.env u=look gU u) (hm:st.mem=M1) (hw:GJ X ops o st.env false) (h:Ld T ops i o cl st log k=some r):
 ∃t bh,k (t::log) bh=some r∧eR X T.nt ops env0 M0 (t::log) bh.env bh.mem∧bh.iR=st.iR∧bh.rd=st.rd:=by
 unfold Ld at h;obtain⟨bh,h,hp,hd,ko,iu,h1,h2⟩:=Fo h;refine⟨_,bh,h,Fw hl he hm (λ_=>rfl) (λhq=>pn) ?_ (λhf=>by simp [jJ]at hf) hi hd hp hc ko iu,h1,h2⟩;intro _ Mx _ _ rdc n w0 S F ρ a w Q K hI ev hr hk;unfold wpOpIn;simp only [hi,hw hr,lO,nv];exact⟨λ_ _=>trivial,hk _ w F ρ hI XK (Grow.refl _ _ _)⟩
theorem Xx(hX:X.Okb)(hT:T.oj X)(hl:eR X T.nt ops env0 M0 log gU M1)(hi:ops[i]?=some o)(hc:qX log o.after.toList=some cl)
 (he:∀u,look st.env u=look gU u) (hm:st.mem=M1) (hw:GJ X ops o st.env true) (h:Lc X T ops i o cl st log k=some r):
 ∃t bh,k (t::log) bh=some r∧eR X T.nt ops env0 M0 (t::log) bh.env bh.mem∧bh.iR=st.iR∧bh.rd=st.rd:=by
 unfold Lc at h;split at h
 ·rename_i ty p x ho
  ·obtain⟨id,b,eT,h⟩:=aBK h;obtain⟨_,cM,_⟩:=agu (R:=R) eT;have h':vA T ops ⟨i,o,false,.ew [],[id],cl,st.env,st.mem,st.mem.set id b⟩ st log k=some r:=by
    split at h
    ·exact h
    ·rw [YO]at h;exact h
   obtain⟨bh,h,hp,hd,ko,iu,h1,h2⟩:=Fo h';refine⟨_,bh,h,Fw hl he hm (λhq=>pn) (λ_=>dV.set _ _ _) (λhf=>by simp [jJ,G1,ho]at hf) (λ_=> ?_) hi hd hp hc ko iu,h1,h2⟩;have hb:Bz ⟨i,o,false,.ew [],[id],cl,st.env,st.mem,st.mem.set id b⟩=b:=by
    show((st.mem.set id b)[id]?).getD .dead =b;rw [qK cM];rfl
   refine⟨?_,cM,by rw [hb];rfl⟩;intro Mx hM rdc n w0 S F ρ a w Q K hI ev hr hk;rw [hb]at hk;unfold wpOpIn;simp only [hi,hw hr,oJ];exact aBJ hX ho eT (M0:=Mx) hM hI (λz=>Ae hI (Fs λu hu=>hr u (yf _ hu)) z) (λv w' ρ' F' dO hg hx=>hk v w' F' ρ' dO hx hg)
 ·rename_i tK;have Sb:∀{q:Bool} {x:AV} {ids:dP} {M':aV},jJ ⟨i,o,q,x,ids,cl,st.env,st.mem,M'⟩=true->False:=by
   intro q x ids M' hf;have h2:G1 o=true:=by
    unfold jJ at hf;rw [bM]at hf;exact hf.2
   unfold G1 at h2;split at h2
   ·rename_i ty p x2 ho;exact tK _ _ _ ho
   ·cases h2
  split at h
  ·rename_i ids hq;obtain⟨y,h,dE⟩:=af9 hX hq h;obtain⟨bh,h,hp,hd,ko,iu,h1,h2⟩:=Fo h;refine⟨_,bh,h,Fw hl he hm (λ_=>rfl) (λhq=>pn) ?_ (λhf=>(Sb hf).elim) hi hd hp hc ko iu,h1,h2⟩;exact al3
  ·rename_i hq;split at h
   ·rename_i t n ps abG;obtain⟨y,h,dE⟩:=agB hX (age abG) h;obtain⟨bh,h,hp,hd,ko,iu,h1,h2⟩:=Fo h;refine⟨_,bh,h,Fw hl he hm (λ_=>rfl) (λhq=>pn) ?_ (λhf=>(Sb hf).elim) hi hd hp hc ko iu,h1,h2⟩;exact Sg
   ·split at h
    ·rename_i g args hcq;obtain⟨y,h,dE⟩:=agr hX hT hcq (k:=λy=>vA T ops ⟨i,o,true,y,[],cl,st.env,st.mem,st.mem⟩ st log k) h;obtain⟨bh,h,hp,hd,ko,iu,h1,h2⟩:=Fo h;refine⟨_,bh,h,Fw hl he hm (λ_=>rfl) (λhq=>pn) ?_ (λhf=>(Sb hf).elim) hi hd hp hc ko iu,h1,h2⟩;exact Sg
    ·split at h
     ·rename_i ids hwr;obtain⟨x,M',dE,h,fO⟩:=Jh hX hT h;obtain⟨bh,h,hp,hd,ko,iu,h1,h2⟩:=Fo h;refine⟨_,bh,h,Fw hl he hm (λhq=>pn) (λ_=>fO ids hwr) ?_ (λhf=>(Sb hf).elim) hi hd hp hc ko iu,h1,h2⟩;exact ama
     ·exact aX
theorem aBo(hX:X.Okb)(hT:T.oj X)(hl:eR X T.nt ops env0 M0 log st.env st.mem)(hi:ops[i]?=some o)(hc:qX log o.after.toList=some cl)
 (h:abW X T ops i o cl st log k=some r):
 ∃t bh,k (t::log) bh=some r∧eR X T.nt ops env0 M0 (t::log) bh.env bh.mem∧bh.iR=st.iR∧bh.rd=st.rd:=by
 unfold abW at h;split at h
 ·rename_i hg;exact Xx hX hT hl hi hc (λ_=>rfl) rfl (λ{ρ F w tmps} _=>W7 hg _) h
 ·rename_i j want hg;split at h
  ·exact aX
  ·rename_i d hd;have hZ:d∈iE o++guardOf ops o:=mb _ (by simp [guardOf,hg,hd]);have yw:∀(b:Bool) (env:cY),look env d= .bool b->GJ X ops o env (b==want):=alW;split at h
   ·rename_i b hb;split at h
    ·split at h
     ·exact Xx hX hT (st:={st with env:=(d,.bool true)::st.env}) hl hi hc (λu=>zS hb u) rfl (yw true _ (Au)) h
     ·exact Xy (st:={st with env:=(d,.bool true)::st.env}) hl hi hc (λu=>zS hb u) rfl (yw true _ (Au)) h
    ·split at h
     ·exact Xx hX hT (st:={st with env:=(d,.bool false)::st.env}) hl hi hc (λu=>zS hb u) rfl (yw false _ (Au)) h
     ·exact Xy (st:={st with env:=(d,.bool false)::st.env}) hl hi hc (λu=>zS hb u) rfl (yw false _ (Au)) h
   ·rename_i hb;refine Xy hl hi hc (λ_=>rfl) rfl (λ{ρ F w tmps} hr=> ?_) h;exact alZ
   ·exact aX
theorem agl(hX:X.Okb){T:iw R}(hT:T.oj X){k:List cx->St->Option R}{r:R}:∀(ord:dP) {log:List cx} {st:St},eR X T.nt ops env0 M0 log st.env st.mem->SD X T ops ord log st k=some r->
 ∃tg bh,k tg bh=some r∧eR X T.nt ops env0 M0 tg bh.env bh.mem∧bh.iR=st.iR∧bh.rd=st.rd
 | [],log,st,hl,h=>⟨log,st,h,hl,rfl,rfl⟩
 |i::rest,log,st,hl,h=>by
  simp only [SD]at h;split at h
  ·exact aX
  ·rename_i o ho;split at h
   ·exact aX
   ·rename_i cl hc;obtain⟨t,c7,h,fg,e1,e2⟩:=aBo hX hT hl (by simpa using ho) hc h;obtain⟨tg,bh,h,tL,e3,e4⟩:=agl hX hT rest fg h;exact⟨tg,bh,h,tL,e3.trans e1,e4.trans e2⟩
theorem azV(hX:X.Okb)(hT:T.oj X){k:St->Option R}(h:Z0 X T ops st k=some r):
 ∃bh,k bh=some r∧qa X T.nt (.region id ops true) st .normal bh:=by
 unfold Z0 at h;obtain⟨log,bh,h,hl,e1,e2⟩:=agl hX hT (ops:=ops) (env0:=st.env) (M0:=st.mem) _ (log:=[]) (st:=st) (show eR X T.nt ops st.env st.mem [] st.env st.mem from⟨λ_=>rfl,rfl⟩) h;replace h:=dq h;obtain⟨jq,h⟩:=h;rw [bM]at jq;obtain⟨hlen,jq⟩:=jq;refine⟨bh,h,λ{rdc n w0 S F ρ a w Q} hI hs hq=>wpIn_region_any hX.mixed ?_⟩;have hg:=World.ae1 w;have dO:=hI.grown hg;have jB:Grow F F ρ ρ w {w with drawn:=w.drawn+1}:=⟨λ_ h=>h,λ_ _ h=>h,hI.xt hg (by simp)⟩;have dv:=hs.grow jB;have oC:∀i,¬di (Array.replicate ops.size false) i:=akD;have Tl:∀l:List cx,gM st.mem (Array.replicate ops.size false) l=st.mem:=by
  intro l
  induction l with
  |nil=>rfl
  |cons t l Hx=>
   simp only [gM];rw [if_neg λhh=>oC _ hh.2];exact Hx
 refine aCa (ds:=a.defers) (tv:=rdc.tv) (wb:=w) (S:=S) (w0:=w0) (F0:=F) (ρ0:=ρ) hl (λi hi=> ?_) (λa' w' F' ρ' uS hE ev HN hkp lW=> ?_) ops.size _ F ρ a _ (by simp) ?_ ?_ ?_
 ·have:=jS.1 jq i (Ac.2 hi);exact ajX
 ·refine hq a' w' F' ρ' uS ⟨hE,ev,?_,?_,hkp⟩ lW
  ·rw [e1,HN];exact hs.defs.mono lW.hF lW.hb
  ·exact hs.rd.mono lW.hF lW.hb
 ·exact oh ag5 (uf hlen)
 ·exact λt ht ef=>absurd ef (oC _)
 ·exact⟨by rw [Tl];exact dO,jB,hs.size,rfl,hs.kept,λs _ ef=>absurd ef (oC _),λu _=>dv.env u⟩
theorem aAJ(hX:X.Okb)(hT:T.oj X){draw:Bool}{k:St->Option R}(h:aaC X T ops draw st k=some r):
 ∃bh,k bh=some r∧qa X T.nt (.region id ops draw) st .normal bh:=by
 unfold aaC at h;split at h
 ·obtain⟨bh,h,hr⟩:=afM hX hT ops.toList 0 (λi=>by simp) h;refine⟨bh,h,λ{rdc n w0 S F ρ a w Q} hI hs hq=>wpIn_region ?_⟩;have:=hr (n:=n) hI hs hq;exact sP
 ·split at h
  ·exact azV hX hT h
  ·exact azW hX hT h
end
end
end Go.aA
namespace Go.aA
def wX{p:Prop}(h:p:=by simp [w4,hl]):p:=h
def ZJ{p:Prop}(h:p:=by exact⟨_,a₁,w₁,hq,.of_steps (.one h0 N9) Sx⟩):p:=h
end Go.aA
namespace Go.aA
def Pd:=@Go.wpIn_block
end Go.aA
namespace Go.aA
open Go
noncomputable section
variable {X:Cx} {R:Type}
variable{c:Code}{p:Nat}
def w4(root:Code):List Bool->Option Code
 | []=>some root
 |b::p=>
  match w4 root p with
  |some (.seq x y)=>some (bif b then y else x)
  |some (.cond _ x y)=>some (bif b then y else x)
  |some (.block _ x)=>bif b then none else some x
  |some (.loop x)=>bif b then none else some x
  |some (.scope x)=>bif b then none else some x
  |some (.rangeFunc _ _ x y)=>some (bif b then y else x)
  |_=>none
def enc:List Bool->Nat
 | []=>1
 |b::p=>2*enc p+(bif b then 1 else 0)
def P1:∀p,1<=enc p
 | []=>fk _
 |b::p=>by have:=P1 p;simp only [enc];omega
def aid:∀{p q:List Bool},enc p=enc q->p=q
 | [],[],_=>rfl
 | [],b::q,h=>by
   have:=P1 q;simp only [enc]at h;cases b<;>simp at h<;>omega
 |b::p,[],h=>by
  have:=P1 p;simp only [enc]at h;cases b<;>simp at h<;>omega
 |b::p,c::q,h=>by
  simp only [enc]at h;have h2:enc p=enc q∧b=c:=by cases b<;>cases c<;>simp at h⊢<;>omega
  rw [aid h2.1,h2.2]
def At(root:Code)(p:Nat)(c:Code):Prop:=∃l,enc l=p∧w4 root l=some c
def At.root(c:Code):At c 1 c:=⟨[],rfl,rfl⟩
def At.det{root:Code}(h:At root p c)(l:List Bool)(hl:enc l=p):w4 root l=some c:=by
 obtain⟨l',h1,h2⟩:=h;rw [aid (hl.trans h1.symm)];exact h2
def At.down{root d:Code}(h:At root p c)(b:Bool)(hd:∀l,w4 root l=some c->w4 root (b::l)=some d):At root (2*p+(bif b then 1 else 0)) d:=by
 obtain⟨l,h1,h2⟩:=h;exact⟨b::l,by simp only [enc,h1],hd l h2⟩
def Ex.nO:Ex->Exit
 | .normal => .normal
 | .exit i=> .exit i
 | .ret => .ret
structure kz(R:Type) where
 iq:iw R
 loop:Nat->St->(Ex->St->Option R)->Option R
 range:Nat->St->(Ex->St->Option R)->Option R
 cut:Nat->Option (St->(Ex->St->Option R)->Option R)
structure kz.Ok(X:Cx)(root:Code)(L:kz R):Prop where
 iq:L.iq.oj X
 loop:∀{p c st k r},At root p (.loop c)->L.loop p st k=some r->∃e bh,qa X L.iq.nt (.loop c) st (Ex.nO e) bh∧k e bh=some r
 range:∀{p g ps x y st k r},At root p (.rangeFunc g ps x y)->L.range p st k=some r->∃e bh,qa X L.iq.nt (.rangeFunc g ps x y) st (Ex.nO e) bh∧k e bh=some r
 cut:∀{p c f st k r},At root p c->L.cut p=some f->f st k=some r->∃e bh,qa X L.iq.nt c st (Ex.nO e) bh∧k e bh=some r
def amx(o:Option (St->(Ex->St->Option R)->Option R))(other:(Ex->St->Option R)->Option R)(st:St)(k:Ex->St->Option R):Option R:=
 match o with
 |some f=>f st k
 |none=>other k
def PW(c:Operand)(b:Bool)(st:St):St:=match c with| .tmp t=>{st with env:=(t,.bool b)::st.env}|_=>st
def n8(X:Cx)(L:kz R):Code->Nat->St->(Ex->St->Option R)->Option R
 | .skip,_,st,k=>k .normal st
 | .label _,_,st,k=>k .normal st
 | .region _ ops draw,_,st,k=>aaC X L.iq ops draw st λbh=>k .normal bh
 | .seq a b,p,st,k=>amx (L.cut (2*p)) (λk'=>n8 X L a (2*p) st k') st λe bh=>match e with| .normal =>n8 X L b (2*p+1) bh k| .exit i=>k (.exit i) bh| .ret =>k .ret bh
 | .cond c a b,p,st,k=>
   match kY X st.env c with
   | .bool t=>(match t with|true=>n8 X L a (2*p) (PW c true st) k|false=>n8 X L b (2*p+1) (PW c false st) k)
   |_=>none
 | .block i a,p,st,k=>n8 X L a (2*p) st λe bh=>match e with| .normal =>k .normal bh| .exit j=>(match Nat.beq j i with|true=>k .normal bh|false=>k (.exit j) bh)| .ret =>k .ret bh
 | .scope a,p,st,k=>n8 X L a (2*p) st k
 | .loop _,p,st,k=>L.loop p st k
 | .rangeFunc _ _ _ _,p,st,k=>L.range p st k
 | .exit i,_,st,k=>k (.exit i) st
 | .ret,_,st,k=>k .ret st
 |_,_,_,_=>none
section
variable {F:Fence} {n:Nat} {P:Program} {b:Frame} {a:Act} {k:List Item} {cs:List Frame} {w:World} {Q:Exit->Act->World->Prop}
def N9:step P (lone (b.atR a (.code (.scope c)::k)) cs w)= .next (lone (b.atR a (.code c:: .inScope c::k)) cs w):=
 step_lone_go (by simp [stepG,stepG.exec,Frame.atR])
def axP:step P (lone (b.atR a (.inScope c::k)) cs w)= .next (lone (b.atR a k) cs w):=
 step_lone_go (by simp [stepG,stepG.exec,Frame.atR])
def aAq(h:c.wpIn F n P (λe a w=>(∀l,e≠ .goto l)∧Q e a w) a w):(Code.scope c).wpIn F n P Q a w:=by
 intro b k cs kV hb hr;have h0:(lone (b.atR a (.code (.scope c)::k)) cs w).fenced P F:=fenced_calm hb hr rfl;obtain⟨e,a₁,w₁,⟨hg,hq⟩,Sx⟩:=h b (.inScope c::k) cs kV hb hr;cases e with
 |normal=>exact⟨.normal,a₁,w₁,hq,.head h0 N9 (StepsIn.trans Sx (.one (fenced_calm hb hr rfl) axP))⟩
 |exit id'=>
  have hx:exitTo id' (.inScope c::k)=exitTo id' k:=by simp [exitTo]
  exact⟨.exit id',a₁,w₁,hq,λk' hk=> .head h0 N9 (Sx.1 k' (by rw [hx];exact hk)),
   λnW hk=>let⟨k₁,h1,h2⟩:=Sx.2 nW (by rw [hx];exact hk);⟨k₁,h1,.head h0 N9 h2⟩⟩
 |goto l=>exact absurd rfl (hg l)
 |ret=>exact ZJ
 |panic ch=>exact ZJ
 |outgrown=>exact ZJ
end
def afF{nt:Nt}{st:St}{rdc:Cy}{F:bT}{ρ:bX}{a:Act}{w:World}{c:Operand}{b:Bool}(h:gD X nt st rdc F ρ a w)(hc:kY X st.env c= .bool b):gD X nt (PW c b st) rdc F ρ a w:=by
 cases c with
 |tmp t=>exact h.refine hc
 |_=>exact h
def afG(c:Operand)(b:Bool)(st:St):(PW c b st).mem =st.mem:=by cases c<;>rfl
def tX(hX:X.Okb){root:Code}{L:kz R}(hL:L.Ok X root):∀(c:Code) {p:Nat} {st:St} {k:Ex->St->Option R} {r:R},At root p c->n8 X L c p st k=some r->
 ∃e bh,qa X L.iq.nt c st (Ex.nO e) bh∧k e bh=some r
 | .skip,p,st,k,r,_,h=>⟨.normal,st,λ{rdc n w0 S F ρ a w Q} hI hs hq=>wpIn_skip (hq a w F ρ hI hs (Grow.refl _ _ _)),h⟩
 | .label l,p,st,k,r,_,h=>⟨.normal,st,λ{rdc n w0 S F ρ a w Q} hI hs hq=>wpIn_label (hq a w F ρ hI hs (Grow.refl _ _ _)),h⟩
 | .region id ops draw,p,st,k,r,_,h=>by
   obtain⟨bh,h,hr⟩:=aAJ hX hL.iq (id:=id) (k:=λbh=>k .normal bh) h;exact⟨.normal,bh,hr,h⟩
 | .seq x y,p,st,k,r,eV,h=>by
   simp only [n8]at h;have hax:At root (2*p) x:=eV.down false λl hl=>wX;have h':∃e c7,qa X L.iq.nt x st (Ex.nO e) c7∧(match e with| .normal =>n8 X L y (2*p+1) c7 k| .exit i=>k (.exit i) c7| .ret =>k .ret c7)=some r:=by
    unfold amx at h;split at h
    ·rename_i f hf;exact hL.cut hax hf h
    ·exact tX hX hL x hax h
   obtain⟨e,c7,h1,h⟩:=h';cases e with
   |normal=>
    obtain⟨e,kE,h2,h⟩:=tX hX hL y (eV.down true λl hl=>wX) h;refine⟨e,kE,λ{rdc n w0 S F ρ a w Q} hI hs hq=>wpIn_seq (h1 hI hs λa' w' F' ρ' dO dv hg=> ?_),h⟩;exact h2 dO dv λEl qo tT sY Dy Dv jC=>hq El qo tT sY Dy Dv (hg.trans jC)
   |exit i=>exact⟨.exit i,c7,λ{rdc n w0 S F ρ a w Q} hI hs hq=>wpIn_seq (h1 hI hs λa' w' F' ρ' dO dv hg=>hq a' w' F' ρ' dO dv hg),h⟩
   |ret=>exact⟨.ret,c7,λ{rdc n w0 S F ρ a w Q} hI hs hq=>wpIn_seq (h1 hI hs λa' w' F' ρ' dO dv hg=>hq a' w' F' ρ' dO dv hg),h⟩
 | .cond c x y,p,st,k,r,eV,h=>by
   simp only [n8]at h;split at h
   ·rename_i t ht;have Tp:∀{w0:World} {S:Sc} {F:bT} {ρ:bX} {a:Act} {w:World} {rdc:Cy},Inv X w0 S F ρ st.mem w->gD X L.iq.nt st rdc F ρ a w->a.eval c= .bool t:=by
     intro w0 S F ρ a w rdc hI hs;have:=Ae hI hs.env c;rw [ht]at this;generalize a.eval c=v at this;cases this;rfl
    split at h
    ·obtain⟨e,c7,h1,h⟩:=tX hX hL x (eV.down false λl hl=>wX) h;exact⟨e,c7,λ{rdc n w0 S F ρ a w Q} hI hs hq=>wpIn_cond_true (Tp hI hs) (h1 (by rw [afG];exact hI) (afF hs ht) hq),h⟩
    ·obtain⟨e,c7,h1,h⟩:=tX hX hL y (eV.down true λl hl=>wX) h;exact⟨e,c7,λ{rdc n w0 S F ρ a w Q} hI hs hq=>wpIn_cond_false (Tp hI hs) (h1 (by rw [afG];exact hI) (afF hs ht) hq),h⟩
   ·exact aX
 | .block i x,p,st,k,r,eV,h=>by
   simp only [n8]at h;obtain⟨e,c7,h1,h⟩:=tX hX hL x (eV.down false λl hl=>wX) h;cases e with
   |normal=>exact⟨.normal,c7,λ{rdc n w0 S F ρ a w Q} hI hs hq=>Pd (h1 hI hs λa' w' F' ρ' dO dv hg=>hq a' w' F' ρ' dO dv hg),h⟩
   |exit j=>
    simp only at h;split at h
    ·rename_i hj;have hj:j=i:=dU hj;refine⟨.normal,c7,λ{rdc n w0 S F ρ a w Q} hI hs hq=>Pd (h1 hI hs λa' w' F' ρ' dO dv hg=> ?_),h⟩;simp only [Ex.nO,Exit.inBlock,hj,oJ];exact hq a' w' F' ρ' dO dv hg
    ·rename_i hj;have hj:j≠i:=λe=>by subst e;simp at hj
     refine⟨.exit j,c7,λ{rdc n w0 S F ρ a w Q} hI hs hq=>Pd (h1 hI hs λa' w' F' ρ' dO dv hg=> ?_),h⟩;simp only [Ex.nO,Exit.inBlock,if_neg hj];exact hq a' w' F' ρ' dO dv hg
   |ret=>exact⟨.ret,c7,λ{rdc n w0 S F ρ a w Q} hI hs hq=>Pd (h1 hI hs λa' w' F' ρ' dO dv hg=>hq a' w' F' ρ' dO dv hg),h⟩
 | .loop c,p,st,k,r,eV,h=>hL.loop eV h
 | .rangeFunc g ps x y,p,st,k,r,eV,h=>hL.range eV h
 | .exit i,p,st,k,r,_,h=>⟨.exit i,st,λ{rdc n w0 S F ρ a w Q} hI hs hq=>wpIn_exit (hq a w F ρ hI hs (Grow.refl _ _ _)),h⟩
 | .ret,p,st,k,r,_,h=>⟨.ret,st,λ{rdc n w0 S F ρ a w Q} hI hs hq=>wpIn_ret (hq a w F ρ hI hs (Grow.refl _ _ _)),h⟩
 | .scope x,p,st,k,r,eV,h=>by
   simp only [n8]at h;obtain⟨e,c7,h1,h⟩:=tX hX hL x (eV.down false λl hl=>wX) h;exact⟨e,c7,λ{rdc n w0 S F ρ a w Q} hI hs hq=>aAq (h1 hI hs λa' w' F' ρ' dO dv hg=>⟨λl=>by cases e<;>simp [Ex.nO],hq a' w' F' ρ' dO dv hg⟩),h⟩
 | .goto _,_,_,_,_,_,h=>by simp [n8]at h
 | .refuse _,_,_,_,_,_,h=>by simp [n8]at h
end
end Go.aA
namespace Go.aA
def ajm{p:Prop}(h:p:=by simp [Instr.sureAddr,fx,stuck,Sem.run,Result.andThen]at h1):p:=h
end Go.aA
namespace Go.aA
open Go
noncomputable section
variable {X:Cx} {R:Type}
variable{k:AV->aV->Option R}{c:Code}{fn:Func}{f:FuncId}{rs:List ResultVar}{r:R}{st:St}{args:bl}{M:aV}
def oY:Hd:=⟨.nilFunc,0⟩
def aAE{Mc:aV}{bR:dP}{m:Nat}:dV bR M (merge m M bR Mc):=
 ⟨by rw [afl];omega,λid bA hn=>by unfold merge;rw [jH (by rw [Ff];exact bA),Pz bR _ M hn]⟩
def rV:Nat->bl->cY
 |_,[]=>[]
 |i,x::xs=>(i,x)::rV (i+1) xs
def W9:∀(xs:bl) (i t:Nat),look (rV i xs) t=if i<=t then(xs[t- i]?).getD .top else .top
 | [],i,t=>by simp [rV,p0,look_nil]
 |x::xs,i,t=>by
  simp only [rV,p0,look_nil]
  by_cases ht:t=i
  ·subst ht;simp
  ·have:(t==i)=false:=by simpa using ht
   simp only [this,lO,nv];rw [W9 xs (i+1) t]
   by_cases h:i<=t
   ·rw [if_pos (by omega),if_pos h,show t- i=(t-(i+1))+1 by omega];simp
   ·rw [if_neg (by omega),if_neg h]
def CY(X:Cx)(rv:ResultVar)(st:St)(k:AV->Option R):Option R:=
 match rv with
 | .tmp t=>k (look st.env t)
 | .cell a t=>vr X t (look st.env a) st.mem k
def Rq(X:Cx)(rs:List ResultVar)(st:St)(k:AV->aV->Option R):Option R:=
 match rs with
 | []=>k (.ew []) st.mem
 | [a]=>CY X a st λx=>k x st.mem
 | [a,b]=>CY X a st λx=>CY X b st λy=>k (.ew [x,y]) st.mem
 | [a,b,c]=>CY X a st λx=>CY X b st λy=>CY X c st λz=>k (.ew [x,y,z]) st.mem
 |_=>none
def abf(tmps:Array Value):ResultVar->Sem Value
 | .tmp t=>pure (tmps.getD t undef)
 | .cell a t=>do loadVar t (<-asAddr (tmps.getD a undef))
def E8(hX:X.Okb){rv:ResultVar}{k:AV->Option R}(h:CY X rv st k=some r):
 ∃x,k x=some r∧∀{nt:Nt} {rdc:Cy} {w0:World} {S:Sc} {F:bT} {ρ:bX} {a:Act} {w:World},Inv X w0 S F ρ st.mem w->gD X nt st rdc F ρ a w->∃v,(abf a.tmps rv).run X.P w= .ok v w∧aZ X.K ρ F w x v:=by
 cases rv with
 |tmp t=>exact⟨_,h,λ{nt rdc w0 S F ρ a w} hI hs=>⟨_,rfl,hs.env t⟩⟩
 |cell a t=>
  obtain⟨x,h,hd⟩:=afq hX h;refine⟨x,h,λ{nt rdc w0 S F ρ act w} hI hs=> ?_⟩;obtain⟨v,h1,h2⟩:=hd hI (hs.env a);refine⟨v,?_,h2⟩;unfold Instr.loadAt at h1;simp only [abf];generalize act.tmps.getD a undef=p at h1;cases p with
  |pointer o=>
   cases o with
   |some ad=>exact h1
   |none=>exact ajm
  |_=>exact ajm
def aAI(hX:X.Okb)(rm:fn.results.toList=rs)(h:Rq X rs st k=some r):
 ∃x,k x st.mem=some r∧∀{nt:Nt} {rdc:Cy} {w0:World} {S:Sc} {F:bT} {ρ:bX} {a:Act} {w:World},Inv X w0 S F ρ st.mem w->gD X nt st rdc F ρ a w->∃v,(results fn a.tmps).run X.P w= .ok v w∧aZ X.K ρ F w x v:=by
 have yT:∀tmps,results fn tmps=(do let vs<-fn.results.mapM (abf tmps);pure (if h:vs.size=1 then vs[0]else .tuple vs)):=by
  intro tmps;unfold results
  congr 1
 have Sp:fn.results=rs.toArray:=by rw [<-rm]
 unfold Rq at h;split at h
 ·exact⟨_,h,λ{nt rdc w0 S F ρ a w} hI hs=>⟨.tuple #[],by rw [yT,Sp];simp [fx],.ew [] [] rfl (λj x v h _=>hU)⟩⟩
 ·rename_i a;obtain⟨x,h,hd⟩:=E8 hX h;refine⟨x,h,λ{nt rdc w0 S F ρ act w} hI hs=> ?_⟩;obtain⟨v,h1,h2⟩:=hd hI hs;exact⟨v,by rw [yT,Sp];simp [fx,h1],h2⟩
 ·rename_i a b;obtain⟨x,h,hd⟩:=E8 hX h;obtain⟨y,h,mz⟩:=E8 hX h;refine⟨_,h,λ{nt rdc w0 S F ρ act w} hI hs=> ?_⟩;obtain⟨v,h1,h2⟩:=hd hI hs;obtain⟨v2,h3,h4⟩:=mz hI hs;refine⟨.tuple #[v,v2],by rw [yT,Sp];simp [fx,h1,h3],.ew [x,y] [v,v2] rfl (λj z u hz hu=> ?_)⟩
  match j with
  |0=>simp at hz hu;subst hz;subst hu;exact h2
  |1=>simp at hz hu;subst hz;subst hu;exact h4
  |j+2=>simp at hz
 ·rename_i a b c;obtain⟨x,h,hd⟩:=E8 hX h;obtain⟨y,h,mz⟩:=E8 hX h;obtain⟨z,h,hd3⟩:=E8 hX h;refine⟨_,h,λ{nt rdc w0 S F ρ act w} hI hs=> ?_⟩;obtain⟨v,h1,h2⟩:=hd hI hs;obtain⟨v2,h3,h4⟩:=mz hI hs;obtain⟨v3,h5,h6⟩:=hd3 hI hs;refine⟨.tuple #[v,v2,v3],by rw [yT,Sp];simp [fx,h1,h3,h5],.ew [x,y,z] [v,v2,v3] rfl (λj q u hz hu=> ?_)⟩
  match j with
  |0=>simp at hz hu;subst hz;subst hu;exact h2
  |1=>simp at hz hu;subst hz;subst hu;exact h4
  |2=>simp at hz hu;subst hz;subst hu;exact h6
  |j+3=>simp at hz
 ·cases h
def Rr(X:Cx)(rs:List ResultVar)(k:AV->aV->Option R)(e:Ex)(st:St):Option R:=
 match e with
 | .exit _=>none
 |_=>match st.iR with| []=>Rq X rs st k|_=>none
def y6(X:Cx)(L:kz R)(c:Code)(rs:List ResultVar)(args:bl)(M:aV)(k:AV->aV->Option R):Option R:=
 aR (Nat.ble args.length L.iq.nt.n) (n8 X L c 1 ⟨rV 0 args,M,[],.out⟩ (Rr X rs k))
def Grow.less{F0 F:bT}{ρ ρ':bX}{wb w:World}(g:Grow F0 F ρ ρ' wb w){D:Nat}(hD:∀a,F0 a->a.block≠D)(o:Obj):Grow F0 (less F D) ρ ρ' wb (w.putObj D o):=
 ⟨λa ha=>⟨g.hF a ha,hD a ha⟩,g.gT,λa ha=>by rw [rS (hD a ha)];exact g.hb a ha⟩
def afn{fn:Func}{tmps:Array Value}{M:aV}{env:cY}{w0 wb:World}{S:Sc}{F0:bT}{ρ ρ':bX}{x:AV}(nZ:∀a,S.F0 a->F0 a)
 (yT:∀{F:bT} {w:World},Inv X w0 S F ρ' M w->jg X ρ' F w env tmps->∃v,(results fn tmps).run X.P w= .ok v w∧aZ X.K ρ' F w x v):
 ∀(ms:dP) {F:bT} {w:World},Inv X w0 S F ρ' M w->jg X ρ' F w env tmps->ms.Nodup->(∀D∈ms,(∀a,F0 a->a.block≠D)∧F ⟨D,0,none⟩∧w.heap[D]?=some (.deferred (some [])))->Grow F0 F ρ ρ' wb w->
  LeavesInM Fence.wide 0 X.P fn tmps (λe w'=>∃v ρ' F',e= .returned v∧Inv X w0 S F' ρ' M w'∧Grow F0 F' ρ ρ' wb w'∧aZ X.K ρ' F' w' x v) (ms.map λD=>({target:= .collected D,args:= #[]}:Deferred)) .returning w
 | [],F,w,hI,hE,_,_,hg=>by
   obtain⟨v,h1,h2⟩:=yT hI hE;exact⟨v,h1,v,ρ',F,rfl,hI,hg,h2⟩
 |D::ms,F,w,hI,hE,Br,L0,hg=>by
  obtain⟨h1,h2,h3⟩:=L0 D (by simp);have hc:=atH h3;refine⟨by simp,.inl ⟨D,_,rfl,run_takeDeferred h3,afn nZ yT ms (hI.OI h2 hc (λa ha=>h1 a (nZ a ha)) _) (hE.less hc _) (CB.1 Br).2 (λD' hD'=> ?_) (hg.less h1 _)⟩⟩;have eN:D'≠D:=by rintro rfl;exact(CB.1 Br).1 hD'
  obtain⟨k1,k2,k3⟩:=L0 D' (by simp [hD']);exact⟨k1,⟨k2,eN⟩,by rw [rS eN];exact k3⟩
def aBX(hX:X.Okb){nt:Nt}(hf:X.P.funcs[f]?=some fn)(hb:fn.body=some c)(hn:fn.ntmps=nt.n)
 (hc:∀(vs:Array Value) (w:World),(callFunc f vs).run X.P w= .ok (.enter f vs) w)  (rm:fn.results.toList=rs)    
 (hle:args.length<=nt.n) {e:Ex} {bh:St} (dE:qa X nt c ⟨rV 0 args,M,[],.out⟩ (Ex.nO e) bh) (h:Rr X rs k e bh=some r):
 ∃x M',lP X f args M x M'∧k x M'=some r:=by
 have he:e≠ .normal ->e= .ret :=by
  intro eN;cases e with
  |normal=>exact absurd rfl eN
  |ret=>rfl
  |exit i=>simp [Rr]at h
 have Dx:(match bh.iR with| []=>Rq X rs bh k|_=>none)=some r:=by
  cases e with
  |normal=>exact h
  |ret=>exact h
  |exit i=>simp [Rr]at h
 split at Dx
 ·rename_i ao5;obtain⟨x,hk,yT⟩:=aAI hX rm Dx;refine⟨x,bh.mem,⟨hc,λ{w0 S F ρ w vs} hI hr=> ?_⟩,hk⟩;refine(YX (n:=0)).1 (callsIn_of_wp_marks hf hb trivial ?_);have hlen:=hr.1;have:=dE (rdc:=⟨none,F,λt=>(vs.toArray++Array.replicate (fn.ntmps- vs.toArray.size) undef).getD t undef⟩) (n:=0) (Q:=bodyPostM Fence.wide 0 X.P fn (λe w'=>∃v ρ' F',e= .returned v∧Inv X w0 S F' ρ' bh.mem w'∧Grow F F' ρ ρ' w w'∧aZ X.K ρ' F' w' x v))
   (a:={tmps:=vs.toArray++Array.replicate (fn.ntmps- vs.toArray.size) undef,defers:=[]}) hI ⟨λt=> ?_,?_,Marks.nil _ _ (λ_ h=>h),.inl rfl,λt _=>rfl⟩ ?_
  ·exact this
  ·rw [W9,if_pos (ym _)];cases hx:args[t- 0]? with
   |none=>exact .top _
   |some y=>
    have ht:t<vs.length:=QJ;have hv:(vs.toArray++Array.replicate (fn.ntmps- vs.toArray.size) undef).getD t undef=vs[t]:=by
     rw [pj,JD (Gc)];simp [ht]
    rw [hv];exact hr.2 t y _ (JY) (dD ht)
  ·simp only [Array.size_append,JC,Array.size_replicate,hlen,hn];omega
  ·intro a' w' F' ρ' dO dv hg;have hd:Marks F' w' F a'.defers:=by have:=dv.defs;rw [ao5]at this;exact this
   obtain⟨_,ms,aOc,aOb,aOa⟩:=hd;have ak8:LeavesInM Fence.wide 0 X.P fn a'.tmps (λe w'=>∃v ρ' F',e= .returned v∧Inv X w0 S F' ρ' bh.mem w'∧Grow F F' ρ ρ' w w'∧aZ X.K ρ' F' w' x v) a'.defers .returning w':=by
    rw [aOc];exact afn (env:=bh.env) hI.fin (λ{F2 w2} i2 e2=>yT (rdc:=⟨none,λ_=>False,λt=>a'.tmps.getD t undef⟩) (a:={tmps:=a'.tmps,defers:=[]}) i2 ⟨e2,dv.size,by rw [ao5];exact Marks.nil _ _ (λ_ h=>h.elim),.inl rfl,λt _=>rfl⟩) ms dO dv.env aOb aOa hg
   by_cases eN:e= .normal
   ·subst eN;exact ak8
   ·rw [he eN];exact ak8
 ·cases Dx
def OS(hX:X.Okb){L:kz R}(hL:L.Ok X c)(hf:X.P.funcs[f]?=some fn)(hb:fn.body=some c)(hn:fn.ntmps=L.iq.nt.n)
 (hc:∀(vs:Array Value) (w:World),(callFunc f vs).run X.P w= .ok (.enter f vs) w)  (rm:fn.results.toList=rs)     (h:y6 X L c rs args M k=some r):
 ∃x M',lP X f args M x M'∧k x M'=some r:=by
 unfold y6 at h;replace h:=dq h;obtain⟨hle,h⟩:=h;obtain⟨e,bh,dE,h⟩:=tX hX hL c (At.root c) h;exact aBX hX hf hb hn hc rm (uf hle) dE h
end
end Go.aA
namespace Go.aA
def aak{p:Prop}(h:p:=by
 have ir:=hs.grow g1;obtain⟨F2,ρ2,i2,s2,g2⟩:=hr (nt:=nt) (rdc:=rdc) (a:=a) i1 ⟨ir.env,ir.size,ir.defs,ir.rd,ir.kept⟩;exact⟨F2,ρ2,i2,s2,g1.trans g2⟩):p:=h
def alX{p:Prop}(h:p:=by
 rw [zX]at fN;split at fN
 ·rename_i ej;subst ej;split at fN
  ·injection fN with fN;subst fN;rw [hk]at oX;injection oX with oX;subst oX;rfl
  ·cases fN
 ·exact tY q1 oX fN):p:=h
def alM{p:Prop}(h:p:=by
 have ir:=hs.grow g1;obtain⟨F2,ρ2,i2,s2,g2⟩:=hr (nt:=nt) (rdc:=rdc) (a:=a) i1 ⟨ir.env.over r1,ir.size,ir.defs,ir.rd,ir.kept⟩;exact⟨F2,ρ2,i2,s2,g1.trans g2⟩):p:=h
def yr{p:Prop}(h:p:=by exact tW hX cs h):p:=h
def ZC{p:Prop}(h:p:=by rw [hI.len];exact(eZ.1 hb).1):p:=h
def Qq{p:Prop}(h:p:=by simp [xm]at h):p:=h
def Qp{p:Prop}(h:p:=by simp [AL]at h):p:=h
def F9{p:Prop}(h:p:=by rw [dU h]):p:=h
def Zl{p:Prop}(h:p:=by exact⟨F2,ρ2,i2,s2,g1.trans g2⟩):p:=h
def Qk{p:Prop}(h:p:=by simp [DS]at h):p:=h
end Go.aA
namespace Go.aA
def X4:=@List.headD_cons
def X3:=@List.tail_cons
end Go.aA
namespace Go.aA
open Go
noncomputable section
variable {X:Cx} {R O:Type}
variable{x:AV}{tmps:Array Value}{S:Sc}{st:St}{w w0:World}{F:bT}{bR:dP}{ρ:bX}
inductive eK where
 |cell(k:Kind)
 |aC(j:Nat)
 |ptr(j i off:Nat)
 |iB(j:Nat)
 |mpr(j:Nat)
 |iF
 |ke
 |fn(f:FuncId)
 |cl(f:FuncId)(ps:List (Nat×Nat×Nat))
 |vw(j:Nat)
 |gQ
 |jR
 |any
inductive Sh where
 |one(s:eK)
 |agg(ss:List eK)
 |dC(f:FuncId)(ss:List eK)
inductive fB where
 |row(t:TypeId)
 |eW(t:TypeId)
 |var(ks:ei)(ss:List eK)
 |arr(ks:ei)
 |mp(k:Kind)(ag:Bool)(ks:ei)
 |loop(s:Nat)(es:List (Nat×Sh))(xl:Option Ex)
 |gone
def AV.fL:AV->List AV| .dC _ _ cs=>cs|_=>[]
def AV.id:AV->Nat| .aC id=>id| .ptr id _ _=>id| .iB id=>id| .mp id=>id| .vw id _ _=>id|_=>0
def ep.rows:ep->List Row| .row _ xs=>xs| .eW _ xs=>xs|_=>[]
def ep.cells:ep->List AV| .var _ cs=>cs|_=>[]
def ep.au:ep->List (AV×AV)| .map _ _ _ es=>es|_=>[]
def ep.abr:ep->List (Nat×AV)| .loop _ env _ _=>env|_=>[]
def y8:eK->AV->AV
 | .cell k,x=>ld k x
 | .aC j,_=> .aC j
 | .ptr j i off,_=> .ptr j i off
 | .iB j,_=> .iB j
 | .mpr j,_=> .mp j
 | .iF,_=> .iF
 | .ke,_=> .ke
 | .fn f,_=> .dC f [] []
 | .cl f ps,_=> .dC f [] (ps.map λp=> .ptr p.1 p.2.1 p.2.2)
 | .vw j,x=> .vw j x.vlo x.vn
 | .gQ,_=> .gQ
 | .jR,_=> .jR
 | .any,x=>x
def Hl:List (Nat×Nat×Nat)->bl->Bool
 | [],[]=>true
 |p::ps,.ptr j i off::cs=>Nat.beq j p.1&&Nat.beq i p.2.1&&Nat.beq off p.2.2&&Hl ps cs
 |_,_=>false
def aEE:∀{ps:List (Nat×Nat×Nat)} {cs:bl},Hl ps cs=true->(ps.map λp=>AV.ptr p.1 p.2.1 p.2.2)=cs:=by
 intro ps cs h
 induction ps generalizing cs with
 |nil=>
  cases cs with
  |nil=>rfl
  |cons _ _=>simp [Hl]at h
 |cons p ps ih=>
  cases cs with
  |nil=>simp [Hl]at h
  |cons c cs=>
   cases c<;>simp only [Hl,lO]at h
   rw [bM,bM,bM]at h;rw [nu,ih h.2,dU h.1.1.1,dU h.1.1.2,dU h.1.2]
def S3:eK->AV->Bool
 | .cell k,x=>iJ k x
 | .aC j,.aC i=>Nat.beq i j
 | .ptr j i off,.ptr j' i' yQ=>Nat.beq j' j&&Nat.beq i' i&&Nat.beq yQ off
 | .iB j,.iB i=>Nat.beq i j
 | .mpr j,.mp i=>Nat.beq i j
 | .iF,.iF =>true
 | .ke,.ke =>true
 | .fn f,.dC g [] []=>Nat.beq g f
 | .cl f ps,.dC g [] cs=>Nat.beq g f&&Hl ps cs
 | .vw j,.vw i _ _=>Nat.beq i j
 | .gQ,.gQ =>true
 | .jR,.jR =>true
 | .any,_=>true
 |_,_=>false
def P3{s:eK}(h:S3 s x=true):y8 s x=x:=by
 unfold S3 at h;split at h
 ·exact Fx h
 ·rw [dU h];rfl
 ·rw [bM,bM]at h;rw [dU h.1.1,dU h.1.2,dU h.2];rfl
 ·rw [dU h];rfl
 ·rw [dU h];rfl
 ·rfl
 ·rfl
 ·rw [dU h];rfl
 ·rw [bM]at h;simp only [y8];rw [aEE h.2,dU h.1]
 ·simp only [y8,AV.vlo,AV.vn];rw [dU h]
 ·rfl
 ·rfl
 ·rfl
 ·exact aX
def GH:List eK->bl->bl
 | [],_=>[]
 |s::ss,xs=>y8 s (xs.headD .top)::GH ss xs.tail
def xm:List eK->bl->Bool
 | [],[]=>true
 |s::ss,x::xs=>S3 s x&&xm ss xs
 |_,_=>false
def PE:∀{ss:List eK} {xs:bl},xm ss xs=true->GH ss xs=xs
 | [],[],_=>rfl
 |s::ss,x::xs,h=>by
  simp only [xm,bM]at h;simp only [GH,X4,X3];rw [P3 h.1,PE h.2]
 | [],_::_,h=>Qq
 |_::_,[],h=>Qq
def Lh:Sh->AV->AV
 | .one s,x=>y8 s x
 | .agg ss,x=> .agg (GH ss x.cells)
 | .dC f ss,x=> .dC f [] (GH ss x.fL)
def Hk:Sh->AV->Bool
 | .one s,x=>S3 s x
 | .agg ss,.agg cs=>xm ss cs
 | .dC f ss,.dC g [] cs=>Nat.beq g f&&xm ss cs
 |_,_=>false
def YV{s:Sh}(h:Hk s x=true):Lh s x=x:=by
 unfold Hk at h;split at h
 ·exact P3 h
 ·simp only [Lh,AV.cells];rw [PE h]
 ·rw [bM]at h;simp only [Lh,AV.fL];rw [PE h.2,dU h.1]
 ·exact aX
def Rx:List (Nat×Sh)->cY->cY
 | [],_=>[]
 |e::es,env=>(e.1,Lh e.2 (env.headD (0,.top)).2)::Rx es env.tail
def AL:List (Nat×Sh)->cY->Bool
 | [],[]=>true
 |e::es,x::env=>Nat.beq x.1 e.1&&Hk e.2 x.2&&AL es env
 |_,_=>false
def ahF:∀{es:List (Nat×Sh)} {env:cY},AL es env=true->Rx es env=env
 | [],[],_=>rfl
 |e::es,x::env,h=>by
  simp only [AL,bM]at h;simp only [Rx,X4,X3];rw [YV h.1.2,ahF h.2,<-dU h.1.1]
 | [],_::_,h=>Qp
 |_::_,[],h=>Qp
def okX:Option Ex->Option Ex->Bool
 |none,none=>true
 |some .ret,some .ret =>true
 |some (.exit i),some (.exit j)=>Nat.beq i j
 |_,_=>false
def aiz{a b:Option Ex}(h:okX a b=true):a=b:=by
 unfold okX at h;split at h
 ·rfl
 ·rfl
 ·exact F9
 ·exact aX
def AU:fB->ep->ep
 | .row t,b=> .row t b.rows
 | .eW t,b=> .eW t b.rows
 | .var ks ss,b=> .var ks (GH ss b.cells)
 | .arr ks,b=> .var ks b.cells
 | .mp k ag ks,b=> .map k ag ks b.au
 | .loop s es p,b=> .loop s (Rx es b.abr) false p
 | .gone,_=> .dead
def okB:fB->ep->Bool
 | .row t,.row t' _=>t'==t
 | .eW t,.eW t' _=>t'==t
 | .var ks ss,.var zn cs=>zn==ks&&xm ss cs
 | .arr ks,.var zn _=>zn==ks
 | .mp k ag ks,.map k' ag' zn _=>k'==k&&ag'==ag&&zn==ks
 | .loop s es p,.loop s' env false p'=>Nat.beq s' s&&AL es env&&okX p' p
 | .gone,.dead =>true
 |_,_=>false
def aEc{s:fB}{b:ep}(h:okB s b=true):AU s b=b:=by
 unfold okB at h;split at h
 ·simp only [AU,ep.rows];rw [eq_of_beq h]
 ·simp only [AU,ep.rows];rw [eq_of_beq h]
 ·rw [bM]at h;simp only [AU,ep.cells];rw [PE h.2,eq_of_beq h.1]
 ·simp only [AU,ep.cells];rw [eq_of_beq h]
 ·rw [bM,bM]at h;simp only [AU,ep.au];rw [eq_of_beq h.1.1,eq_of_beq h.1.2,eq_of_beq h.2]
 ·rw [bM,bM]at h;simp only [AU,ep.abr];rw [ahF h.1.2,dU h.1.1,aiz h.2]
 ·rfl
 ·exact aX
def SN:List fB->aV->aV
 | [],_=>[]
 |s::ss,M=>AU s (M.headD .dead)::SN ss M.tail
def DS:List fB->aV->Bool
 | [],[]=>true
 |s::ss,b::M=>okB s b&&DS ss M
 |_,_=>false
def YW:∀{ss:List fB} {M:aV},DS ss M=true->SN ss M=M
 | [],[],_=>rfl
 |s::ss,x::xs,h=>by
  simp only [DS,bM]at h;simp only [SN,X4,X3];rw [aEc h.1,YW h.2]
 | [],_::_,h=>Qk
 |_::_,[],h=>Qk
structure ay where
 env:List (Nat×Sh)
 mem:List fB
variable{σ:ay}
def DD(lk:Nat->AV):List (Nat×Sh)->cY
 | []=>[]
 |(t,s)::es=>(t,Lh s (lk t))::DD lk es
def Hm(lk:Nat->AV):List (Nat×Sh)->Bool
 | []=>true
 |(t,s)::es=>Hk s (lk t)&&Hm lk es
def aps(σ:ay)(lk:Nat->AV)(M:aV):St:=⟨DD lk σ.env,SN σ.mem M,[],.tA⟩
def agT{lk:Nat->AV}:∀{es:List (Nat×Sh)},Hm lk es=true->∀t,look (DD lk es) t=lk t∨look (DD lk es) t= .top
 | [],_,t=> .inr rfl
 |(u,s)::es,h,t=>by
  simp only [Hm,bM]at h;simp only [DD,p0,look_nil]
  by_cases ht:t=u
  ·subst ht;simp only [Pu,oJ];rw [YV h.1];exact .inl rfl
  ·have:(t==u)=false:=by simpa using ht
   simp only [this,lO,nv];exact agT h.2 t
def Gk(σ:ay)(bR:dP)(st:St):St:=aps σ (λt=>gN (idx bR) 4 (look st.env t)) (qf st.mem bR)
def wP(σ:ay)(bR:dP)(st:St):Bool:=vu st.mem bR&&Hm (λt=>gN (idx bR) 4 (look st.env t)) σ.env&&DS σ.mem (qf st.mem bR)
def OC(h:wP σ bR st=true):vu st.mem bR=true∧(Gk σ bR st).mem =qf st.mem bR∧
 ∀t,look (Gk σ bR st).env t=gN (idx bR) 4 (look st.env t)∨look (Gk σ bR st).env t= .top :=by
 unfold wP at h;rw [bM,bM]at h;exact⟨h.1.1,YW h.2,agT h.1.2⟩
def XX(hX:X.Ok)(h:wP σ bR st=true)(hI:Inv X w0 S F ρ st.mem w)(he:jg X ρ F w st.env tmps):jg X (sub oY ρ bR) F w (Gk σ bR st).env tmps:=by
 obtain⟨h1,h2,h3⟩:=OC h;have hs:=agt h1;have cM:∀i∈bR,i<ρ.length:=λi hi=>by rw [hI.len];exact hs.lt i hi
 intro t;rcases h3 t with e|e
 ·rw [e];exact(he t).gN hX.kinds (ahR cM oY) 4
 ·rw [e];exact .top _
inductive Cv where
 |ma(t:Nat)(k:Kind)
 |mk(t:Nat)(ty:TypeId)
 |tF(i:cY->aV->Nat)(c:Nat)(ty:TypeId)
 |apk(i:cY->aV->Nat)(t:TypeId)
 |jj(t:Nat)(ks:ei)
 |mov(t:Nat)
 |nP(i:cY->aV->Nat)(c:Nat)(ty:TypeId)
def kj(X:Cx):List Cv->St->(St->Option R)->Option R
 | [],st,k=>k st
 | .ma t kd::cs,st,k=>ma kd (look st.env t) st.mem λx M=>kj X cs {st with env:=(t,x)::st.env,mem:=M} k
 | .mk t ty::cs,st,k=>
   match look st.env t with
   | .gQ =>kj X cs {st with env:=(t,.aC st.mem.length)::st.env,mem:=st.mem++[.row ty []]} k
   |_=>kj X cs st k
 | .tF i c ty::cs,st,k=>
   match gm st.mem (i st.env st.mem)with
   |some (.var ks xs)=>
    match xs[c]?,ks[c]? with
    |some .gQ,some .any =>kj X cs {st with mem:=(st.mem++[ep.row ty []]).set (i st.env st.mem) (.var ks (xs.set c (.aC st.mem.length)))} k
    |_,_=>kj X cs st k
   |_=>kj X cs st k
 | .jj t ks::cs,st,k=>
   match look st.env t with
   | .agg xs=>aR (Nat.beq xs.length ks.length) (vM ks xs st.mem λys M=>kj X cs {st with env:=(t,.agg ys)::st.env,mem:=M} k)
   |_=>kj X cs st k
 | .apk i t::cs,st,k=>ma (.slice t) (.aC (i st.env st.mem)) st.mem λ_ M=>kj X cs {st with mem:=M} k
 | .mov t::cs,st,k=>
   match look st.env t with
   | .aC id=>
     match gm st.mem id with
     |some (.row ty xs)=>kj X cs {st with env:=(t,.aC st.mem.length)::st.env,mem:=st.mem.set id .dead ++[.row ty xs]} k
     |_=>kj X cs st k
   |_=>kj X cs st k
 | .nP i c ty::cs,st,k=>
   match gm st.mem (i st.env st.mem)with
   |some (.var ks xs)=>
    match xs[c]?,ks[c]? with
    |some (.aC id),some .any =>
     match gm st.mem id with
     |some (.row t rs)=>aR (ty==t) (kj X cs {st with mem:=(st.mem.set id (.eW t rs)).set (i st.env st.mem) (.var ks (xs.set c (.ab t rs)))} k)
     |some (.eW t rs)=>aR (ty==t) (kj X cs {st with mem:=st.mem.set (i st.env st.mem) (.var ks (xs.set c (.ab t rs)))} k)
     |_=>kj X cs st k
    |_,_=>kj X cs st k
   |_=>kj X cs st k
def jg.over{env:cY}(h:jg X ρ F w env tmps){d:Nat}(hx:aZ X.K ρ F w x (tmps.getD d undef)):jg X ρ F w ((d,x)::env) tmps:=by
 intro t;simp only [p0,look_nil]
 by_cases ht:t=d
 ·subst ht;simpa using hx
 ·have:(t==d)=false:=by simpa using ht
  simp only [this,lO,nv];exact h t
def ahw{M M1:aV}{i c id:Nat}{ks:ei}{xs:bl}{t:TypeId}{rs:aW}(hI:Inv X w0 S F ρ M w)(hb:M[i]?=some (.var ks xs))(hx:xs[c]?=some (.aC id))(hk:ks[c]?=some .any)(hM:M1[i]?=some (.var ks xs))
 (hf:ma (.slice t) (.aC id) M (λx M'=>some (x,M'))=some (.ab t rs,M1)):∃F',Inv X w0 S F' ρ (M1.set i (.var ks (xs.set c (.ab t rs)))) w∧Grow F F' ρ ρ w w:=by
 obtain⟨x',M',e,hl,_,hd⟩:=Fy (X:=X) hf;injection e with e;injection e with e1 e2;subst e1;subst e2;obtain⟨F1,i1,g1,r1⟩:=hd hI;refine⟨F1,?_,g1⟩;have cM:i<ρ.length:=ZC;have hh:ρ[i]?=some ρ[i]:=dD cM;obtain⟨p1,p2,g0,aOH,e0,p3,p4,⟨p5,p6⟩,_⟩:=hI.rep _ _ _ hb hh;obtain⟨q1,q2,g,cur,e,q3,q4,⟨q5,q6⟩,q7⟩:=i1.rep _ _ _ hM hh;refine i1.write hM rfl hh (g:=g) (Zx) ⟨rfl,rfl,rfl,fk _,λ_ _ _=>rfl⟩ ⟨?_,by simpa using q2,g,cur,e,q3,q4,⟨by simpa using q5,λj x v fN hv=> ?_⟩,q7⟩
 ·refine YM (by simpa using iS q1) λj k x oX fN=> ?_;exact alX
 ·rw [zX]at fN;split at fN
  ·rename_i ej;subst ej;split at fN
   ·injection fN with fN;subst fN;have eg:g0=g:=by rw [p3]at q3;simpa using q3
    subst eg;have ec:aOH=cur:=by rw [p4]at q4;injection q4 with q4;injection q4
    subst ec;exact r1 v (p6 _ _ v hx hv)
   ·cases fN
  ·exact q6 j x v fN hv
def tW(hX:X.Ok){k:St->Option R}{r:R}:∀(cs:List Cv) {st:St},kj X cs st k=some r->∃bh,k bh=some r∧bh.iR=st.iR∧bh.rd=st.rd∧
 ∀{nt:Nt} {rdc:Cy} {w0:World} {S:Sc} {F:bT} {ρ:bX} {a:Act} {w:World},Inv X w0 S F ρ st.mem w->gD X nt st rdc F ρ a w->∃F' ρ',Inv X w0 S F' ρ' bh.mem w∧gD X nt bh rdc F' ρ' a w∧Grow F F' ρ ρ' w w
 | [],st,h=>⟨st,h,rfl,rfl,λ{nt rdc w0 S F ρ a w} hI hs=>⟨F,ρ,hI,hs,Grow.refl _ _ _⟩⟩
 | .ma t kd::cs,st,h=>by
   simp only [kj,fb]at h;obtain⟨x,M',h,hl,_,hd⟩:=Fy (X:=X) h;obtain⟨bh,h,e1,e2,hr⟩:=tW hX cs h;refine⟨bh,h,e1,e2,λ{nt rdc w0 S F ρ a w} hI hs=> ?_⟩;obtain⟨F1,i1,g1,r1⟩:=hd hI;obtain⟨F2,ρ2,i2,s2,g2⟩:=hr (nt:=nt) (rdc:=rdc) (a:=a) i1 ⟨(hs.env.grow g1).over (r1 _ (hs.env t)),hs.size,(hs.grow g1).defs,(hs.grow g1).rd,hs.kept⟩;exact Zl
 | .jj t ks::cs,st,h=>by
   simp only [kj,fb]at h;split at h
   ·rename_i xs hx;replace h:=dq h;obtain⟨_,h⟩:=h;obtain⟨ys,M',h,hl,_,hd⟩:=OR (X:=X) _ _ _ h;obtain⟨bh,h,e1,e2,hr⟩:=tW hX cs h;refine⟨bh,h,e1,e2,λ{nt rdc w0 S F ρ a w} hI hs=> ?_⟩;obtain⟨F1,i1,g1,r1⟩:=hd hI;have ir:=hs.grow g1;have hv:=hs.env t;rw [hx]at hv;have jX:aZ X.K ρ F1 w (.agg ys) (a.tmps.getD t undef):=by
     generalize a.tmps.getD t undef=v at hv;cases hv with
     |agg _ vs hl hr=>
      have:=r1 vs ⟨hl,hr⟩;exact .agg ys vs this.1 this.2
    obtain⟨F2,ρ2,i2,s2,g2⟩:=hr (nt:=nt) (rdc:=rdc) (a:=a) i1 ⟨ir.env.over jX,ir.size,ir.defs,ir.rd,ir.kept⟩;exact Zl
   ·exact yr
 | .apk i t::cs,st,h=>by
   simp only [kj,fb]at h;obtain⟨x,M',h,hl,_,hd⟩:=Fy (X:=X) h;obtain⟨bh,h,e1,e2,hr⟩:=tW hX cs h;refine⟨bh,h,e1,e2,λ{nt rdc w0 S F ρ a w} hI hs=> ?_⟩;obtain⟨F1,i1,g1,r1⟩:=hd hI;exact aak
 | .mov t::cs,st,h=>by
   simp only [kj,fb]at h;split at h
   ·rename_i id hv;split at h
    ·rename_i ty xs hb;obtain⟨bh,h,e1,e2,hr⟩:=tW hX cs h;refine⟨bh,h,e1,e2,λ{nt rdc w0 S F ρ a w} hI hs=> ?_⟩;have cM:id<ρ.length:=ZC;have hh:ρ[id]?=some ρ[id]:=dD cM;have i0:=hI.rep _ _ _ hb hh;have g1:Grow F F ρ (ρ++[ρ[id]]) w w:=⟨λ_ h=>h,λ_ _ h=>nK h,λ_ _=>rfl⟩;have i1:Inv X w0 S F (ρ++[ρ[id]]) (st.mem.set id .dead ++[.row ty xs]) w:=
      hI.move hb rfl hh (row:=none) ⟨rfl,rfl,rfl,fk _,λ_ _ _=>rfl⟩ (.inl rfl) (λg hg=>⟨(hI.sep id _ _ g hb rfl hh hg).1,.inl hg⟩) (hI.one _ _ hh) (km.mono (b:= .row ty xs) g1.gT g1.hF (λ_ _ _ h=>h) (λ_ _=>rfl) i0)
     have r1:aZ X.K (ρ++[ρ[id]]) F w (.aC st.mem.length) (a.tmps.getD t undef):=by
      have:=hs.env t;rw [hv]at this;generalize a.tmps.getD t undef=v at this;cases this with
      |aC _ hd h2=>
       rw [hh]at h2;injection h2 with h2;rw [<-h2];exact aZ.aC (K:=X.K) _ ρ[id] (Gh)
     exact alM
    ·exact yr
   ·exact yr
 | .nP i c ty::cs,st,h=>by
   simp only [kj,fb]at h;split at h
   ·rename_i ks xs hb;split at h
    ·rename_i id hx hk;split at h
     ·rename_i t rs LV;replace h:=dq h;obtain⟨ht,h⟩:=h;have ht:=eq_of_beq ht;subst ht;obtain⟨bh,h,e1,e2,hr⟩:=tW hX cs h;refine⟨bh,h,e1,e2,λ{nt rdc w0 S F ρ a w} hI hs=> ?_⟩;have eN:id≠i st.env st.mem:=by intro e;subst e;rw [hb]at LV;cases LV
      obtain⟨F1,i1,g1⟩:=ahw hI hb hx hk (M1:=st.mem.set id (.eW ty rs)) (id:=id) (t:=ty) (rs:=rs) (by rw [kI eN];exact hb) (by simp [ma,fb,LV,aR]);exact aak
     ·rename_i t rs LV;replace h:=dq h;obtain⟨ht,h⟩:=h;have ht:=eq_of_beq ht;subst ht;obtain⟨bh,h,e1,e2,hr⟩:=tW hX cs h;refine⟨bh,h,e1,e2,λ{nt rdc w0 S F ρ a w} hI hs=> ?_⟩;obtain⟨F1,i1,g1⟩:=ahw hI hb hx hk (M1:=st.mem) (id:=id) (t:=ty) (rs:=rs) hb (by simp [ma,fb,LV,aR]);exact aak
     ·exact yr
    ·exact yr
   ·exact yr
 | .mk t ty::cs,st,h=>by
   simp only [kj,fb]at h;split at h
   ·rename_i hn;obtain⟨bh,h,e1,e2,hr⟩:=tW hX cs h;refine⟨bh,h,e1,e2,λ{nt rdc w0 S F ρ a w} hI hs=> ?_⟩;have hv:a.tmps.getD t undef= .slice none 0 0:=by
     have:=hs.env t;rw [hn]at this;generalize a.tmps.getD t undef=v at this;cases this;rfl
    have i1:Inv X w0 S F (ρ++[⟨.slice none 0 0,(X.K ty).length⟩]) (st.mem++[.row ty []]) w:=hI.C5 (hd:=⟨.slice none 0 0,(X.K ty).length⟩) (λg hg=>QI) rfl
     ⟨rfl,λi row h=>hU,.inl ⟨rfl,rfl⟩⟩
    have g1:Grow F F ρ (ρ++[⟨.slice none 0 0,(X.K ty).length⟩]) w w:=⟨λ_ h=>h,λ_ _ h=>nK h,λ_ _=>rfl⟩;have r1:aZ X.K (ρ++[⟨.slice none 0 0,(X.K ty).length⟩]) F w (.aC st.mem.length) (a.tmps.getD t undef):=by
     rw [hv];exact aZ.aC (K:=X.K) _ ⟨.slice none 0 0,(X.K ty).length⟩ (Gh)
    exact alM
   ·exact yr
 | .tF i c ty::cs,st,h=>by
   simp only [kj,fb]at h;split at h
   ·rename_i ks xs hb;split at h
    ·rename_i hx hk;obtain⟨bh,h,e1,e2,hr⟩:=tW hX cs h;refine⟨bh,h,e1,e2,λ{nt rdc w0 S F ρ a w} hI hs=> ?_⟩;have i1:Inv X w0 S F (ρ++[⟨.slice none 0 0,(X.K ty).length⟩]) (st.mem++[.row ty []]) w:=hI.C5 (hd:=⟨.slice none 0 0,(X.K ty).length⟩) (λg hg=>QI) rfl
      ⟨rfl,λi row h=>hU,.inl ⟨rfl,rfl⟩⟩
     have g1:Grow F F ρ (ρ++[⟨.slice none 0 0,(X.K ty).length⟩]) w w:=⟨λ_ h=>h,λ_ _ h=>nK h,λ_ _=>rfl⟩;have cM:i st.env st.mem<ρ.length:=ZC;have hh:(ρ++[(⟨.slice none 0 0,(X.K ty).length⟩:Hd)])[i st.env st.mem]?=some ρ[i st.env st.mem]:=nK (dD cM);have wy:(st.mem++[ep.row ty []])[i st.env st.mem]?=some (.var ks xs):=nK hb;obtain⟨q1,q2,g,cur,e,q3,q4,⟨q5,q6⟩,q7⟩:=i1.rep _ _ _ wy hh;have i2:Inv X w0 S F (ρ++[⟨.slice none 0 0,(X.K ty).length⟩]) ((st.mem++[ep.row ty []]).set (i st.env st.mem) (.var ks (xs.set c (.aC st.mem.length)))) w:=by
      refine i1.write wy rfl hh (g:=g) (Zx) ⟨rfl,rfl,rfl,fk _,λ_ _ _=>rfl⟩ ⟨?_,by simpa using q2,g,cur,e,q3,q4,⟨by simpa using q5,λj x v fN hv=> ?_⟩,q7⟩
      ·refine YM (by simpa using iS q1) λj k x oX fN=> ?_;exact alX
      ·rw [zX]at fN;split at fN
       ·rename_i ej;subst ej;split at fN
        ·injection fN with fN;subst fN;have:=q6 c _ v hx hv;cases this;exact aZ.aC (K:=X.K) _ ⟨.slice none 0 0,(X.K ty).length⟩ (Gh)
        ·cases fN
       ·exact q6 j x v fN hv
     have ir:=hs.grow g1;obtain⟨F2,ρ2,i2,s2,g2⟩:=hr (nt:=nt) (rdc:=rdc) (a:=a) i2 ⟨ir.env,ir.size,ir.defs,ir.rd,ir.kept⟩;exact Zl
    ·exact yr
   ·exact yr
end
noncomputable section
variable {X:Cx} {R O:Type}
def aGM(X:Cx)(nt:Nt)(c:Code)(m:Nat)(st:St)(e:Exit)(bh:St):Prop:=
 ∀{rdc:Cy} {n:Nat} {w0:World} {S:Sc} {F:bT} {ρ:bX} {a:Act} {w:World} {Q:Exit->Act->World->Prop},Inv X w0 S F ρ st.mem w->gD X nt st rdc F ρ a w->
  (∀a' w' F' ρ',Inv X w0 S F' ρ' bh.mem w'->gD X nt bh rdc F' ρ' a' w'->qT m F F' ρ ρ' w w'->Q e a' w')->c.wpIn (lI rdc.r) n X.P Q a w
def qT.trans{m:Nat}{F F' tT:bT}{ρ ρ' sY:bX}{w w' qo:World}(h:qT m F F' ρ ρ' w w')(k:qT m F' tT ρ' sY w' qo):qT m F tT ρ sY w qo:=
 ⟨λa ha=>k.hF a (h.hF a ha),λid hd hm hh=>k.gT id hd hm (h.gT id hd hm hh),λa ha=>(k.hb a (h.hF a ha)).trans (h.hb a ha)⟩
def pre(m:Nat)(bR:dP):Bool:=(bR.take m)==List.range m
def aDx{m:Nat}{bR:dP}(h:pre m bR=true){j:Nat}(hj:j<m):bR[j]?=some j:=by
 have e:bR.take m=List.range m:=by simpa [pre]using h
 have:(bR.take m)[j]?=some j:=by rw [e,ud hj]
 rw [og,if_pos hj]at this;exact this
def QV(m mask:Nat)(bR:dP)(st so:St):St:=
 {env:=Dn (nT m bR st.mem.length) 4 so.env++st.env.filter (λp=> !mask.testBit p.1),mem:=merge m st.mem bR so.mem,iR:=st.iR,rd:=st.rd}
def afI:∀(A B:cY) (t:Nat),look (A++B) t=look A t∨look (A++B) t=look B t
 | [],B,t=> .inr rfl
 |(u,x)::A,B,t=>by
  simp only [kK,p0,look_nil]
  by_cases ht:t=u
  ·subst ht;simp
  ·have:(t==u)=false:=by simpa using ht
   simp only [this,lO,nv];exact afI A B t
def agA(mask:Nat):∀(env:cY) (t:Nat),look (env.filter (λp=> !mask.testBit p.1)) t= .top ∨(mask.testBit t=false∧look (env.filter (λp=> !mask.testBit p.1)) t=look env t)
 | [],t=> .inl rfl
 |(u,x)::env,t=>by
  have ih:=agA mask env t;rw [List.filter_cons]
  by_cases hu:mask.testBit u=true
  ·rw [if_neg (by simp [hu])];rcases ih with h|⟨h1,h2⟩
   ·exact .inl h
   ·refine .inr ⟨h1,?_⟩;have ht:(t==u)=false:=by
     by_cases ht:t=u
     ·subst ht;rw [hu]at h1;cases h1
     ·exact Gc
    simp only [p0,look_nil,ht,lO,nv];exact h2
  ·have nG:mask.testBit u=false:=by simpa using hu
   rw [if_pos (by simp [nG])];simp only [p0,look_nil]
   by_cases ht:t=u
   ·subst ht;exact .inr ⟨nG,by simp⟩
   ·have:(t==u)=false:=by simpa using ht
    simp only [this,lO,nv];exact ih
end
noncomputable section
variable {X:Cx} {R O:Type}
variable{w:World}{F:bT}{ρ:bX}{vs:fI}
def Gm(X:Cx)(f:FuncId)(m:Nat)(args:bl)(M:aV)(x:AV)(M':aV):Prop:=
 ∀{w0:World} {S:Sc} {F:bT} {ρ:bX} {w:World} {vs:fI},Inv X w0 S F ρ M w->dz X.K ρ F w args vs->
  Calls X.P f vs.toArray w (λe w'=>∃v ρ' F',e= .returned v∧Inv X w0 S F' ρ' M' w'∧qT m F F' ρ ρ' w w'∧aZ X.K ρ' F' w' x v)
def Az(n:Nat)(env:cY):bl:=(List.range n).map λt=>look env t
def agw{args:bl}(h:dz X.K ρ F w args vs):jg X ρ F w (rV 0 args) vs.toArray:=by
 intro t;rw [W9,if_pos (ym _)];cases hx:args[t- 0]? with
 |none=>exact .top _
 |some y=>
  have ht:t<vs.length:=by have:=(eZ.1 hx).1;have:=h.1;omega
  have hv:vs.toArray.getD t undef=vs[t]:=by simp [pj,ht]
  rw [hv];exact h.2 t y _ (JY) (dD ht)
def ahj{env:cY}(h:jg X ρ F w env vs.toArray):dz X.K ρ F w (Az vs.length env) vs:=by
 refine⟨by simp [Az],λj x v hx hv=> ?_⟩;simp only [Az,iT]at hx;have hj:j<vs.length:=(eZ.1 hv).1;rw [ud hj]at hx;simp only [k7,Option.some.injEq]at hx;subst hx;have:=h j;have jQ:vs.toArray.getD j undef=v:=by
  rw [dD hj]at hv;injection hv with hv;simp [pj,hj,hv]
 rw [jQ]at this;exact this
end
end Go.aA
namespace Go.aA
def CG{p:Prop}(h:p:=by simp at hb):p:=h
end Go.aA
namespace Go.aA
def oi:=@List.map_append
def ag7:=@List.length_eq_zero_iff
def X6:=@Go.World.alloc_heap_new
end Go.aA
namespace Go.aA
open Go
noncomputable section
variable {X:Cx} {R:Type}
variable{ps:Array Tmp}{id s:Nat}{g:Operand}{r:R}{w:World}{args:bl}{F:bT}{M:aV}
def Marks.putObj{F:bT}{w:World}{db:bT}{ds:List Deferred}(h:Marks F w db ds){g:Nat}{lp:Loop}(hg:w.heap[g]?=some (.loop lp))(o:Obj):Marks F (w.putObj g o) db ds:=by
 obtain⟨h0,ms,h1,h2,h3⟩:=h;refine⟨h0,ms,h1,h2,λD hD=>⟨(h3 D hD).1,(h3 D hD).2.1,?_⟩⟩;have eN:D≠g:=by
  rintro rfl;have:=(h3 D hD).2.2;rw [hg]at this;cases this
 rw [rS eN];exact(h3 D hD).2.2
def Inv.rewrite{w0:World}{S:Sc}{ρ:bX}(hI:Inv X w0 S F ρ M w){D:Nat}(hF:F ⟨D,0,none⟩)(hD:∀a v,a.block=D->w.cell? a≠some v)(hN:∀a,S.F0 a->a.block≠D)(o:Obj):
 Inv X w0 S F ρ M (w.putObj D o):=by
 have i:=hI.OI hF hD hN o;exact⟨i.os,i.tape,i.output,i.size,i.frame,i.len,λid b hd hb hh=>(i.rep id b hd hb hh).mono (λ_ _ h=>h) (λ_ h=>h.1) (λ_ _ _ h=>h) (λ_ _=>rfl),
  λid b hd g hb eU hh dT=>⟨by simpa using(hI.sep id b hd g hb eU hh dT).1,(hI.sep id b hd g hb eU hh dT).2⟩,
  i.iX,λa ha=>by simpa using hI.fz a ha,λg=>(i.gh g).mono (λ_ _ h=>h) (λ_ h=>h.1) (λ_ _ _ h=>h),i.one,hI.gk,hI.fin⟩
def Inv.th{w0 w:World}{S:Sc}{F:bT}{ρ:bX}{M:aV}(hI:Inv X w0 S F ρ M w){mk:Option Nat}(h1:∀D,mk=some D->D<w.heap.size∧w0.heap.size<=D)
 (h2:∀(D:Nat) (id:Nat) b hd,mk=some D->M[id]?=some b->b.iM=false->ρ[id]?=some hd->hd.eM≠some D):
 Inv X w0 S (λa=>F a∨∃D,mk=some D∧a.block=D) ρ M w where
 os:=hI.os
 tape:=hI.tape
 output:=hI.output
 size:=hI.size
 frame:=hI.frame
 len:=hI.len
 rep:=λid b hd hb hh=>(hI.rep id b hd hb hh).mono (λ_ _ h=>h) (λ_ h=> .inl h) (λ_ _ hF hc=>hc) (λ_ _=>rfl)
 sep:=λid b hd g hb eU hh dT=>let⟨a1,a2,a3⟩:=hI.sep id b hd g hb eU hh dT;⟨a1,a2,λa ha=>by
  rcases ha with ha|⟨D,hD,e⟩
  ·exact a3 a ha
  ·intro e';exact h2 D id b hd hD hb eU hh (by rw [dT,<-e',e])⟩
 iX:=hI.iX
 fz:=λa ha=>by
  rcases ha with ha|⟨D,hD,e⟩
  ·exact hI.fz a ha
  ·rw [e];exact(h1 D hD).1
 gh:=λg=>(hI.gh g).mono (λ_ _ h=>h) (λ_ h=> .inl h) (λ_ _ _ h=>h)
 one:=hI.one
 gk:=λa ha=>by
  rcases ha with ha|⟨D,hD,e⟩
  ·exact hI.gk a ha
  ·rw [e];exact .inr (.inr (h1 D hD).2)
 fin:=λa ha=> .inl (hI.fin a ha)
def kQ:dP->bl->cY->Option cY
 | [],[],env=>some env
 |p::ps,x::xs,env=>kQ ps xs ((p,x)::env)
 |_,_,_=>none
def ahk{ρ:bX}{F:bT}{w:World}:∀(ps:dP) {xs:bl} {env ia:cY} {tmps:Array Value} {vs:fI},kQ ps xs env=some ia->jg X ρ F w env tmps->dz X.K ρ F w xs vs->(∀p∈ps,p<tmps.size)->
 jg X ρ F w ia ((ps.zip vs).foldl (λt p=>t.setIfInBounds p.1 p.2) tmps)∧((ps.zip vs).foldl (λt p=>t.setIfInBounds p.1 p.2) tmps).size =tmps.size
 | [],[],env,ia,tmps,vs,h,he,_,_=>by
   simp only [kQ,Option.some.injEq]at h;subst h;simpa using he
 |p::ps,x::xs,env,ia,tmps,[],h,he,hr,hp=>by have:=hr.1;simp at this
 |p::ps,x::xs,env,ia,tmps,v::vs,h,he,hr,hp=>by
  simp only [kQ]at h;have hx:=hr.2 0 x v rfl rfl;have nW:dz X.K ρ F w xs vs:=⟨by simpa using hr.1,λj x' v' fN fT=>hr.2 (j+1) x' v' (by simpa using fN) (by simpa using fT)⟩;have:=ahk ps h (he.put (hp p (by simp)) hx) nW (λq hq=>by simpa using hp q (Gb));simp only [List.zip_cons_cons,List.foldl_cons];exact⟨this.1,by rw [this.2];simp⟩
 | [],_::_,_,_,_,_,h,_,_,_=>by simp [kQ]at h
 |_::_,[],_,_,_,_,h,_,_,_=>by simp [kQ]at h
def amt(e:Ex):Option Ex:=match e with| .normal =>none| .exit i=>some (.exit i)| .ret =>some .ret
def ala(e:Ex):Bool:=match e with| .normal =>true|_=>false
def FW(X:Cx)(L:kz R)(s p:Nat)(id:Nat)(args:bl)(M:aV)(k:AV->aV->Option R):Option R:=
 match gm M id with
 |some (.loop s' env false none)=>
  aR (Nat.beq s' s&&Nat.beq (X.site s).nt L.iq.nt.n&&(X.site s).params.toList.all λt=>Nat.blt t L.iq.nt.n)
   (match kQ (X.site s).params.toList args env with
    |none=>none
    |some ia=>
     n8 X L (X.site s).assign (2*p) ⟨ia,M.set id .dead,[],.tA⟩ λe c7=>
      match e,c7.iR with
      | .normal,[]=>
        n8 X L (X.site s).body (2*p+1) c7 λe kE=>
         match gm kE.mem id with
         |some .dead =>k (.bool (ala e)) (kE.mem.set id (.loop s env false (amt e)))
         |_=>none
      |_,_=>none)
 |_=>none
def azU{nt:Nt}{s':Nat}{env ia:cY}(hb:M[id]?=some (.loop s' env false none))(zz:(X.site s').nt =nt.n)(LX:∀t∈(X.site s').params.toList,t<nt.n)
 (Sr:kQ (X.site s').params.toList args env=some ia) {e1 e2:Ex} {c7 kE:St} (Mb:e1= .normal) (aar:qa X nt (X.site s').assign ⟨ia,M.set id .dead,[],.tA⟩ (Ex.nO e1) c7) (AR:c7.iR=[])
 (aaq:qa X nt (X.site s').body c7 (Ex.nO e2) kE) (mi:kE.mem[id]?=some .dead):P5 X id args M (.bool (ala e2)) (kE.mem.set id (.loop s' env false (amt e2))):=by
 subst Mb;intro rd n w0 S F ρ w vs hd g hI hr HL hv;obtain⟨g',lp,fT,Dd,hp1,Th,hp3,hp4,hp5,_,hp6,_,hp7,_⟩:=hI.rep _ _ _ hb HL;rw [hv]at fT;injection fT with fT;injection fT with fT;injection fT with fT;subst fT;have aES:lp.state= .ready :=hp6 rfl rfl;have aO5:lp.pending=none:=hp7;have yY:hd.eM=some g:=oo;obtain⟨q1,q2,q3⟩:=hI.sep _ _ _ _ hb rfl HL yY;have hN:∀a,S.F0 a->a.block≠g:=λa ha=>q3 a (hI.fin a ha);have hnc:=Iz Dd;have hlen:args.length=(X.site s').params.toList.length :=by
  have:∀(ps:dP) (xs:bl) (env ia:cY),kQ ps xs env=some ia->xs.length=ps.length:=by
   intro ps
   induction ps with
   |nil=>intro xs env ia h;cases xs with|nil=>rfl|cons _ _=>simp [kQ]at h
   |cons p ps ih=>intro xs env ia h;cases xs with|nil=>simp [kQ]at h|cons x xs=>simp only [kQ]at h;simp [ih _ _ _ h]
  exact this _ _ _ _ Sr
 refine⟨lp.fn,_,lp.assign,lp.body,run_yield Dd (by rw [hp1];simp [hr.1,hlen]),roundIn_of_wpIn trivial ?_⟩;rw [Th,hp3];have i1:Inv X w0 S (λa=>F a∨a.block=g) ρ (M.set id .dead) w:=hI.freeze hb rfl HL yY rfl trivial;have g1:Grow F (λa=>F a∨a.block=g) ρ ρ w w:=⟨λ_ h=> .inl h,λ_ _ h=>h,λ_ _=>rfl⟩;have aaA:(Array.foldl (λtmps (x:Nat×Value)=>tmps.setIfInBounds x.1 x.2) lp.tmps (lp.params.zip vs.toArray))=((X.site s').params.toList.zip vs).foldl (λt p=>t.setIfInBounds p.1 p.2) lp.tmps:=by
  rw [<-Yc,Array.toList_zip,hp1]
 have amm:=ahk (X:=X) _ Sr (hp5.grow g1) (hr.grow g1) (λt ht=>by rw [hp4,zz];exact LX t ht);refine aar (rdc:=⟨some g,λ_=>False,λt=>(((X.site s').params.toList.zip vs).foldl (λt p=>t.setIfInBounds p.1 p.2) lp.tmps).getD t undef⟩) (n:=n) i1
  ⟨by simp only [aaA];exact amm.1,by simp only [aaA];rw [amm.2,hp4,zz],Marks.nil _ _ (λ_ h=>h.elim),.inr ⟨g,lp,rfl,.inr rfl,Dd⟩,λt _=>by simp only [aaA]⟩ ?_
 intro a1 w1 F1 ρ1 i2 s2 g2;have qA:Grow F F1 ρ ρ1 w w1:=g1.trans g2;have TA:F1 ⟨g,0,none⟩:=g2.hF _ (.inr rfl);have uO:w1.heap[g]?=some (.loop lp):=(g2.hb ⟨g,0,none⟩ (.inr rfl)).trans Dd;refine⟨_,run_beginRound uO aES,?_⟩;have i3:=i2.rewrite TA (Iz uO) hN (.loop {lp with state:= .busy });have Su:g<w1.heap.size:=(wK.1 uO).1;have uN:(w1.putObj g (.loop {lp with state:= .busy })).heap[g]?=some (.loop {lp with state:= .busy }):=X7 Su;have wv:Grow F F1 ρ ρ1 w (w1.putObj g (.loop {lp with state:= .busy })):=⟨qA.hF,qA.gT,λa ha=>by rw [rS (q3 a ha)];exact qA.hb a ha⟩;have s3:gD X nt c7 ⟨some g,λ_=>False,λt=>(((X.site s').params.toList.zip vs).foldl (λt p=>t.setIfInBounds p.1 p.2) lp.tmps).getD t undef⟩ F1 ρ1 a1 (w1.putObj g (.loop {lp with state:= .busy })):=by
  refine⟨λt=>((s2.env t).less (Iz uO) _).mono (λ_ _ h=>h) (λ_ h=>h.1) (λ_ _ _ h=>h),s2.size,?_,.inr ⟨g,_,rfl,TA,uN⟩,s2.kept⟩;have:=s2.defs;rw [AR]at this⊢;exact Marks.putObj this uO _
 refine aaq (rdc:=⟨some g,λ_=>False,λt=>(((X.site s').params.toList.zip vs).foldl (λt p=>t.setIfInBounds p.1 p.2) lp.tmps).getD t undef⟩) (n:=n) i3 s3 ?_;intro a2 w3 F3 ρ3 i4 s4 g4;have hF3:F3 ⟨g,0,none⟩:=g4.hF _ TA;have hh3:w3.heap[g]?=some (.loop {lp with state:= .busy }):=(g4.hb ⟨g,0,none⟩ TA).trans uN;have aoY:g<w3.heap.size:=(wK.1 hh3).1;have aaz:Grow F F3 ρ ρ3 w w3:=wv.trans g4;have aOj:ρ3[id]?=some hd:=aaz.gT _ _ HL;have key:∀(jump:Option Code) (pe:Option Ex),jump=pe.bind Ex.code->jump.isNone=pe.isNone->pe≠some .normal ->∃v w',(Instr.endRound g jump).run X.P w3= .ok v w'∧∃v' ρ' F',Ending.returned v= .returned v'∧Inv X w0 S F' ρ' (kE.mem.set id (.loop s' env false pe)) w'∧Grow F F' ρ ρ' w w'∧aZ X.K ρ' F' w' (.bool pe.isNone) v':=by
  intro jump pe hj D6 hpe;have rW:=Iz hh3;refine⟨_,_,run_endRound jump hh3,_,ρ3,less F3 g,rfl,?_,aaz.less q3 _,by rw [D6];exact .bool _⟩;refine(i4.OI hF3 rW hN _).aEr mi aOj yY (by simpa using aoY) q2 (λa ha=>ha.2) (λid' b' dI mQ ow eo lv=>(i4.sep id' b' dI g mQ ow eo lv).2.2 _ hF3 rfl) ?_;have hE:jg X ρ3 (less F3 g) (w3.putObj g (.loop {lp with state:=if jump.isNone then .ready else .done,pending:=jump})) env lp.tmps:=(hp5.grow aaz).less rW _;refine⟨g,_,hv,X7 aoY,hp1,Th,hp3,hp4,hE,(λh=>aX),λ_ h=> ?_,λ_ h=> ?_,hj,hpe⟩
  ·subst h;simp only [Option.isNone_none]at D6;simp [D6]
  ·cases pe with
   |none=>exact absurd rfl h
   |some _=>simp only [Option.isNone_some]at D6;simp [D6]
 cases e2 with
 |normal=>obtain⟨v,w',k1,k2⟩:=key none none rfl rfl (by simp);exact⟨v,w',k1,k2⟩
 |exit i=>obtain⟨v,w',k1,k2⟩:=key (some (.exit i)) (some (.exit i)) rfl rfl (by simp);exact⟨v,w',k1,k2⟩
 |ret=>obtain⟨v,w',k1,k2⟩:=key (some .ret) (some .ret) rfl rfl (by simp);exact⟨v,w',k1,k2⟩
def ae3(hX:X.Okb){root:Code}{L:kz R}(hL:L.Ok X root){p:Nat}(eV:At root p (.rangeFunc g ps (X.site s).assign (X.site s).body)){k:AV->aV->Option R}
 (h:FW X L s p id args M k=some r):∃x M',P5 X id args M x M'∧k x M'=some r:=by
 unfold FW at h;simp only [fb]at h;split at h
 case h_2=>cases h
 rename_i s' env hb;replace h:=dq h;obtain⟨hc,h⟩:=h;rw [bM,bM]at hc;obtain⟨⟨dv,zz⟩,LX⟩:=hc;have dv:s'=s:=dU dv;subst dv;have zz:(X.site s').nt =L.iq.nt.n:=dU zz;have LX:∀t∈(X.site s').params.toList,t<L.iq.nt.n:=λt ht=>by have:=jS.1 LX t ht;simpa using this
 split at h
 case h_1=>cases h
 rename_i ia Sr;obtain⟨e1,c7,aar,h⟩:=tX hX hL _ (eV.down false λl hl=>wX) h;split at h
 case h_2=>cases h
 rename_i AR;obtain⟨e2,kE,aaq,h⟩:=tX hX hL _ (eV.down true λl hl=>wX) h;split at h
 case h_2=>cases h
 rename_i mi;exact⟨_,_,azU hb zz LX Sr rfl aar AR aaq mi,h⟩
def P0(X:Cx)(T:iw R)(s:Nat)(th:dP)(g:Operand)(st:St)(k:Ex->St->Option R):Option R:=
 match kY X st.env g,st.iR with
 | .dC f [] fL,[]=>
   T.call f (.iB st.mem.length::fL) (st.mem++[.loop s (lU th st.env) false none]) λ_ M2=>
    match gm M2 (st.mem.length)with
    |some (.loop _ _ false pe)=>k (pe.getD .normal) {st with mem:=M2.set st.mem.length .dead }
    |_=>none
 |_,_=>none
def aBq{rdc:Option Nat}(mv:KF F w rdc)(fn:FuncId)(tmps:Array Value)(ps:Array Tmp)(ag bd:Code):
 ∃l mk w1 lp,(Instr.enterLoop fn tmps ps ag bd rdc).run X.P w= .ok (l,(mk:Option Nat).toList.map (λD=>({target:= .collected D,args:= #[]}:Deferred))) w1∧w.grownBy w1 none∧w1.heap[l]?=some (.loop lp)∧w.heap.size<=l∧
  (∀D,mk=some D->w.heap.size<=D∧D≠l∧w1.heap[D]?=some (.deferred (some [])))∧lp.state= .ready ∧lp.pending=none∧lp.params=ps∧lp.assign=ag∧lp.body=bd∧lp.tmps=tmps:=by
 have ga:∀(w:World) (o:Obj),w.grownBy (w.alloc o) none:=λw o=>FC w o none;rcases mv with rfl|⟨g,r,rfl,_,hg⟩
 ·refine⟨w.heap.size+1,some w.heap.size,(w.alloc (.deferred (some []))).alloc (.loop {state:= .ready,pending:=none,fn,tmps,params:=ps,assign:=ag,body:=bd,defers:=w.heap.size}),{state:= .ready,pending:=none,fn,tmps,params:=ps,assign:=ag,body:=bd,defers:=w.heap.size},run_enterLoop_outer fn tmps ps ag bd,?_,?_,by omega,(λD hD=> ?_),rfl,rfl,rfl,rfl,rfl,rfl⟩
  ·exact⟨rfl,rfl,rfl,eu,λk hk _=>by rw [(ga (w.alloc (.deferred (some []))) _).block k (eu) (by simp),(ga w _).block k hk (by simp)]⟩
  ·have:=X6 (w.alloc (.deferred (some []))) (.loop {state:= .ready,pending:=none,fn,tmps,params:=ps,assign:=ag,body:=bd,defers:=w.heap.size})
   rwa [World.size_alloc]at this
  ·injection hD with hD;subst hD;refine⟨fk _,by omega,?_⟩;rw [(ga (w.alloc (.deferred (some []))) _).block _ (by simp) (by simp)];exact X6 w _
 ·exact⟨w.heap.size,none,w.alloc (.loop {state:= .ready,pending:=none,fn,tmps,params:=ps,assign:=ag,body:=bd,defers:=r.defers}),{state:= .ready,pending:=none,fn,tmps,params:=ps,assign:=ag,body:=bd,defers:=r.defers},run_enterLoop_inner hg fn tmps ps ag bd,ga _ _,X6 w _,fk _,(λD hD=>by cases hD),rfl,rfl,rfl,rfl,rfl,rfl⟩
def ae4(hX:X.Okb){T:iw R}(hT:T.oj X){th:dP}{ag bd:Code}(yB:X.site s=⟨T.nt.n,ps,ag,bd⟩){st:St}{k:Ex->St->Option R}
 (h:P0 X T s th g st k=some r):∃e bh,qa X T.nt (.rangeFunc g ps ag bd) st (Ex.nO e) bh∧k e bh=some r:=by
 unfold P0 at h;simp only [fb]at h;split at h
 case h_2=>cases h
 rename_i f fL hg HN;obtain⟨x,M2,⟨pV,su⟩,h,_⟩:=hT.call h;split at h
 case h_2=>cases h
 rename_i s2 aPc pe jb;refine⟨_,_,λ{rdc n w0 S F ρ a w Q} hI hs hq=> ?_,h⟩;have h1:=Ae hI hs.env g;rw [hg]at h1;generalize hv:a.eval g=vf at h1;cases h1 with
 |dC _ _ _ v1 v2 fg fY r1 r2=>
 have wc:v1=[]:=ag7.1 (by simpa using fg);subst wc;refine wpIn_rangeFunc λfn _=> ?_;obtain⟨l,mk,w1,lp,aEV,jB,hl,aOf,Tk,p1,p2,p3,p4,p5,p6⟩:=aBq (X:=X) hs.rd fn a.tmps ps ag bd;have cM:l<w1.heap.size:=(wK.1 hl).1;refine⟨l,_,w1,{target:= .fn (.func f) v2.toArray,args:= #[.func (.yield l) #[] #[]]},w1,f,#[.func (.yield l) #[] #[]]++v2.toArray,w1,aEV,?_,λ_ _=>trivial,?_,λhd=>by simp [lI,Fence.wide]at hd,?_⟩
 ·simp only [resolve,hv];simp [go_sem]
 ·simp [invoke,go_sem,pV]
 have gr0:Grow F F ρ ρ w w1:=⟨λ_ h=>h,λ_ _ h=>h,λa ha=>jB.block _ (hI.fz a ha) (by simp)⟩;have i1:Inv X w0 S F (ρ++[⟨.pointer (some ⟨l,0,none⟩),0⟩]) (st.mem++[.loop s (lU th st.env) false none]) w1:=by
  refine hI.push jB (λg' jC=> ?_) rfl ?_
  ·simp only [Hd.eM,Value.eM,Option.some.injEq]at jC;subst jC;exact⟨aOf,cM⟩
  ·refine⟨l,lp,rfl,hl,by rw [p3,yB],by rw [p4,yB],by rw [p5,yB],by rw [p6,yB];exact hs.size,?_,(λh=>aX),λ_ _=>p1,λ_ h=>absurd rfl h,p2,by simp⟩;rw [p6];have he:jg X (ρ++[⟨.pointer (some ⟨l,0,none⟩),0⟩]) F w1 st.env a.tmps:=(hs.env.grow gr0).grow ⟨λ_ h=>h,λ_ _ h=>nK h,λ_ _=>rfl⟩;exact Fs λu _=>he u
 have i2:Inv X w0 S (λa=>F a∨∃D,mk=some D∧a.block=D) (ρ++[⟨.pointer (some ⟨l,0,none⟩),0⟩]) (st.mem++[.loop s (lU th st.env) false none]) w1:=by
  refine i1.th (λD hD=> ?_) (λD id b hd hD hb eU hh e=> ?_)
  ·obtain⟨m1,_,m3⟩:=Tk D hD;exact⟨(wK.1 m3).1,oh hI.size m1⟩
  ·obtain⟨m1,m2,_⟩:=Tk D hD
   by_cases bA:id<st.mem.length
   ·rw [jH bA]at hb;rw [jH (by rw [hI.len];exact bA)]at hh;have:=(hI.sep id b hd D hb eU hh e).1;omega
   ·rw [kZ (by rw [hI.len];omega)]at hh;have aOi:id- ρ.length=0:=by
     have:=(eZ.1 hh).1;simp at this;exact this
    rw [aOi]at hh;simp only [FE,Option.some.injEq]at hh;subst hh;simp only [Hd.eM,Value.eM,Option.some.injEq]at e;exact m2 e.symm
 have g2:Grow F (λa=>F a∨∃D,mk=some D∧a.block=D) ρ (ρ++[⟨.pointer (some ⟨l,0,none⟩),0⟩]) w w1:=⟨λ_ h=> .inl h,λ_ _ h=>nK h,gr0.hb⟩;have hyl:(ρ++[(⟨.pointer (some ⟨l,0,none⟩),0⟩:Hd)])[st.mem.length]?=some ⟨.pointer (some ⟨l,0,none⟩),0⟩:=Gh;have xb:dz X.K (ρ++[⟨.pointer (some ⟨l,0,none⟩),0⟩]) (λa=>F a∨∃D,mk=some D∧a.block=D) w1 (.iB st.mem.length::fL) (.func (.yield l) #[] #[]::v2):=by
  refine⟨by simp [fY],λj y v hy hv=> ?_⟩;cases j with
  |zero=>simp at hy hv;subst hy;subst hv;exact .iB _ _ l hyl rfl
  |succ j=>simp at hy hv;exact(r2 j y v hy hv).grow g2
 have yC:=su i2 xb;have ef:CallsIn Fence.wide (n- 1) X.P f (.func (.yield l) #[] #[]::v2).toArray w1 _:=YX.2 yC;have jY:CallsIn (lI rdc.r) (n- 1) X.P f (.func (.yield l) #[] #[]::v2).toArray w1 _:=ef;have e1: #[Value.func (.yield l) #[] #[]]++v2.toArray=(.func (.yield l) #[] #[]::v2).toArray :=vD;rw [e1];refine jY.mono ?_;rintro en w2 ⟨v,ρ',F',rfl,i3,g3,_⟩;have bA:ρ'[st.mem.length]?=some ⟨.pointer (some ⟨l,0,none⟩),0⟩:=g3.gT _ _ hyl;obtain⟨g',S9,fT,uN,_,_,_,_,_,_,k1,k2,k3,k4⟩:=i3.rep _ _ _ jb bA;simp only [Value.pointer.injEq,Option.some.injEq,Addr.mk.injEq]at fT;obtain⟨rfl,_⟩:=fT;have Bs:S9.state≠ .busy :=by
  cases pe with
  |none=>rw [k1 rfl rfl];simp
  |some _=>rw [k2 rfl (by simp)];simp
 have hFl:∀a,F a->a.block≠l:=λa ha e=>by have:=hI.fz a ha;omega
 have i4:Inv X w0 S (λa=>F' a∨a.block=l) ρ' (M2.set st.mem.length .dead) w2:=i3.freeze jb rfl bA rfl rfl trivial;have i5:=i4.OI (D:=l) (.inr rfl) (Iz uN) (λa ha=>hFl a (hI.fin a ha)) (.loop {S9 with state:= .exhausted });have g5:Grow F (less (λa=>F' a∨a.block=l) l) ρ ρ' w (w2.putObj l (.loop {S9 with state:= .exhausted })):=(g2.trans (g3.trans ⟨λ_ h=> .inl h,λ_ _ h=>h,λ_ _=>rfl⟩)).less hFl _;have abx:gD X T.nt {st with mem:=M2.set st.mem.length .dead } rdc (less (λa=>F' a∨a.block=l) l) ρ' {a with defers:=mk.toList.map (λD=>({target:= .collected D,args:= #[]}:Deferred))++a.defers} (w2.putObj l (.loop {S9 with state:= .exhausted })):=by
  refine⟨hs.env.grow g5,hs.size,?_,hs.rd.mono g5.hF g5.hb,hs.kept⟩;have hd:=hs.defs;rw [HN]at hd;simp only [HN];obtain⟨d0,ms,d1,d2,d3⟩:=Marks.mono g5.hF g5.hb hd;refine⟨d0,mk.toList++ms,by rw [oi,d1],?_,λD hD=> ?_⟩
  ·cases mk with
   |none=>simpa using d2
   |some D=>
    simp only [Option.toList_some,List.singleton_append,CB];refine⟨λhD=> ?_,d2⟩;obtain⟨_,ms',e1',_,e3⟩:=hd;have:ms=ms':=by
     have:=d1.symm.trans e1';have inj:∀(a b:dP),a.map (λD=>({target:= .collected D,args:= #[]}:Deferred))=b.map (λD=>({target:= .collected D,args:= #[]}:Deferred))->a=b:=by
      intro a
      induction a with
      |nil=>intro b hb;cases b with|nil=>rfl|cons _ _=>simp at hb
      |cons x a ih=>intro b hb;cases b with
       |nil=>exact CG
       |cons y b=>simp only [nu,List.cons.injEq,Deferred.mk.injEq,Target.collected.injEq]at hb;rw [hb.1.1,ih b hb.2]
     exact inj _ _ this
    subst this;have:=hI.fz _ (e3 D hD).2.1;have:=(Tk D rfl).1;simp at*;omega
  ·rw [j7]at hD;rcases hD with hD|hD
   ·have hD:mk=some D:=by simpa using hD
    obtain⟨m1,m2,m3⟩:=Tk D hD;have aay:w2.heap[D]?=w1.heap[D]?:=g3.hb ⟨D,0,none⟩ (.inr ⟨D,hD,rfl⟩);refine⟨λa ha e=> ?_,⟨.inl (g3.hF _ (.inr ⟨D,hD,rfl⟩)),m2⟩,?_⟩
    ·have:=hI.fz a (hd.1 a ha);omega
    ·rw [rS m2,aay];exact m3
   ·exact d3 D hD
 refine⟨pe.bind Ex.code,_,by rw [<-k3];exact run_endLoop uN Bs,?_⟩;cases pe with
 |none=>exact hq _ _ _ _ i5 abx g5
 |some e=>
  cases e with
  |normal=>exact absurd rfl k4
  |exit i=>exact wpIn_exit (hq _ _ _ _ i5 abx g5)
  |ret=>exact wpIn_ret (hq _ _ _ _ i5 abx g5)
end
end Go.aA
namespace Go.aA
def ako{p:Prop}(h:p:=by
 rw [Pm];exact dE hI hs λa' w' F' ρ' dO dv hg=>hq a' w' F' ρ' dO dv hg):p:=h
end Go.aA
namespace Go.aA
def Pm:=@Go.roundsIn_succ
end Go.aA
namespace Go.aA
open Go
noncomputable section
variable {X:Cx} {R O:Type}
variable{g:FuncId}{p:Nat}{r:R}{run:bl->aV->(AV->aV->Option R)->Option R}
abbrev oT(R:Type):=St->(Ex->St->Option R)->Option R
variable{es:List (Nat×oT R)}{P:Nat×oT R->Prop}
def Gq:List (Nat×oT R)->Nat->oT R
 | [],_=>λ_ _=>none
 |e::es,p=>match Nat.beq p e.1 with|true=>e.2|false=>Gq es p
def Ks:List (Nat×oT R)->Nat->Option (oT R)
 | [],_=>none
 |e::es,p=>match Nat.beq p e.1 with|true=>some e.2|false=>Ks es p
def iQ{α:Type}(P:α->Prop):List α->Prop
 | []=>True
 |e::es=>P e∧iQ P es
def agc(hP:iQ P es){st:St}{k:Ex->St->Option R}(h:Gq es p st k=some r):∃f,P (p,f)∧f st k=some r:=by
 induction es with
 |nil=>simp [Gq]at h
 |cons e es ih=>
  simp only [Gq]at h;cases hb:Nat.beq p e.1 with
  |true=>
   simp only [hb]at h;have:=dU hb;subst this;exact⟨e.2,hP.1,h⟩
  |false=>simp only [hb]at h;exact ih hP.2 h
def aBj(hP:iQ P es){f:oT R}(h:Ks es p=some f):P (p,f):=by
 induction es with
 |nil=>simp [Ks]at h
 |cons e es ih=>
  simp only [Ks]at h;split at h
  ·rename_i hb;have:=dU hb;subst this;injection h with h;subst h;exact hP.1
  ·exact ih hP.2 h
def alj(X:Cx)(root:Code)(nt:Nt)(e:Nat×oT R):Prop:=∀{c st k r},At root e.1 (.loop c)->e.2 st k=some r->∃x bh,qa X nt (.loop c) st (Ex.nO x) bh∧k x bh=some r
def aik(X:Cx)(root:Code)(nt:Nt)(e:Nat×oT R):Prop:=∀{g ps a b st k r},At root e.1 (.rangeFunc g ps a b)->e.2 st k=some r->∃x bh,qa X nt (.rangeFunc g ps a b) st (Ex.nO x) bh∧k x bh=some r
def amE(X:Cx)(root:Code)(nt:Nt)(e:Nat×oT R):Prop:=∀{c st k r},At root e.1 c->e.2 st k=some r->∃x bh,qa X nt c st (Ex.nO x) bh∧k x bh=some r
structure CE(R:Type) where
 f:FuncId
 test:bl->aV->Bool
 wr:bl->aV->Option dP
 run:bl->aV->(AV->aV->Option R)->Option R
def Gr:List (CE R)->FuncId->bl->aV->(AV->aV->Option R)->Option R
 | [],_,_,_,_=>none
 |e::es,f,args,M,k=>match Nat.beq f e.f&&e.test args M with|true=>e.run args M k|false=>Gr es f args M k
def Gp:List (CE R)->FuncId->bl->aV->Option dP
 | [],_,_,_=>none
 |e::es,f,args,M=>match Nat.beq f e.f&&e.test args M with|true=>e.wr args M|false=>Gp es f args M
def tp(X:Cx)(e:CE R):Prop:=∀{args M k r},e.run args M k=some r->∃x M',lP X e.f args M x M'∧k x M'=some r∧∀ids,e.wr args M=some ids->dV ids M M'
def agd{es:List (CE R)}(hP:iQ (tp X) es){f:FuncId}{args:bl}{M:aV}{k:AV->aV->Option R}(h:Gr es f args M k=some r):
 ∃x M',lP X f args M x M'∧k x M'=some r∧∀ids,Gp es f args M=some ids->dV ids M M':=by
 induction es with
 |nil=>simp [Gr]at h
 |cons e es ih=>
  simp only [Gr]at h;split at h
  ·rename_i hb;have mQ:=hb;rw [bM]at hb;have:=dU hb.1;subst this;obtain⟨x,M',h1,h2,h3⟩:=hP.1 h;refine⟨x,M',h1,h2,λids hi=> ?_⟩;simp only [Gp,mQ]at hi;exact h3 ids hi
  ·rename_i hb;obtain⟨x,M',h1,h2,h3⟩:=ih hP.2 h;refine⟨x,M',h1,h2,λids hi=> ?_⟩;simp only [Gp,hb]at hi;exact h3 ids hi
def alC(nt:Nt)(cs:List (CE R))(y:Nat->bl->aV->(AV->aV->Option R)->Option R)(ls rs ks:List (Nat×oT R)):kz R:=
 ⟨⟨nt,Gp cs,Gr cs,y⟩,Gq ls,Gq rs,Ks ks⟩
def Em(X:Cx)(y:Nat->bl->aV->(AV->aV->Option R)->Option R):Prop:=∀{id args M k r},y id args M k=some r->∃x M',P5 X id args M x M'∧k x M'=some r
def Hr:Nat->bl->aV->(AV->aV->Option R)->Option R:=λ_ _ _ _=>none
def aiC:Em X (Hr (R:=R)):=λ{_ _ _ _ _} h=>aX
def aCH{root:Code}{nt:Nt}{cs:List (CE R)}{y:Nat->bl->aV->(AV->aV->Option R)->Option R}{ls rs ks:List (Nat×oT R)}(hc:iQ (tp X) cs)(hy:Em X y)
 (hl:iQ (alj X root nt) ls) (hr:iQ (aik X root nt) rs) (hk:iQ (amE X root nt) ks):(alC nt cs y ls rs ks).Ok X root where
 iq:=⟨λ{f args M k r} h=>agd hc h,λ{id args M k r} h=>hy h⟩
 loop:=λ{p c st k r} eV h=>by
  obtain⟨f,h1,h2⟩:=agc hl h;exact h1 eV h2
 range:=λ{p g ps a b st k r} eV h=>by
  obtain⟨f,h1,h2⟩:=agc hr h;exact h1 eV h2
 cut:=λ{p c f st k r} eV hf h=>aBj hk hf eV h
def JO(X:Cx)(L:kz R)(c:Code)(p:Nat):Nat->St->(Ex->St->Option R)->Option R
 |0,_,_=>none
 |n+1,st,k=>n8 X L c p st λe bh=>match e with| .normal =>JO X L c p n bh k| .exit i=>k (.exit i) bh| .ret =>k .ret bh
def WV(hX:X.Okb){root c:Code}{p:Nat}{L:kz R}(hL:L.Ok X root)(eV:At root p (.loop c)):∀(fuel:Nat) {st:St} {k:Ex->St->Option R} {r:R},JO X L c (2*p) fuel st k=some r->
 ∃e bh,k e bh=some r∧∀{rdc:Cy} {n:Nat} {w0:World} {S:Sc} {F:bT} {ρ:bX} {a:Act} {w:World} {Q:Exit->Act->World->Prop},Inv X w0 S F ρ st.mem w->gD X L.iq.nt st rdc F ρ a w->
  (∀a' w' F' ρ',Inv X w0 S F' ρ' bh.mem w'->gD X L.iq.nt bh rdc F' ρ' a' w'->Grow F F' ρ ρ' w w'->Q (Ex.nO e) a' w')->Code.roundsIn (lI rdc.r) n X.P c Q fuel a w
 |0,st,k,r,h=>aX
 |fuel+1,st,k,r,h=>by
  simp only [JO]at h;obtain⟨e,c7,dE,h⟩:=tX hX hL c (eV.down false λl hl=>wX) h;cases e with
  |normal=>
   obtain⟨e',bh,hk,hr⟩:=WV hX hL eV fuel h;refine⟨e',bh,hk,λ{rdc n w0 S F ρ a w Q} hI hs hq=> ?_⟩;rw [Pm];refine dE hI hs λa' w' F' ρ' dO dv hg=> ?_;exact hr dO dv λEl qo tT sY Dy Dv K4=>hq El qo tT sY Dy Dv (hg.trans K4)
  |exit i=>
   refine⟨.exit i,c7,h,λ{rdc n w0 S F ρ a w Q} hI hs hq=> ?_⟩;exact ako
  |ret=>
   refine⟨.ret,c7,h,λ{rdc n w0 S F ρ a w Q} hI hs hq=> ?_⟩;exact ako
def inl(g:FuncId)(run:bl->aV->(AV->aV->Option R)->Option R):List (CE R):=[⟨g,λ_ _=>true,λ_ _=>none,run⟩]
def Y8(nt:Nt)(cs:List (CE R)):iw R:=⟨nt,Gp cs,Gr cs,Hr⟩
def aBS{nt:Nt}{cs:List (CE R)}(hc:iQ (tp X) cs):(Y8 nt cs).oj X:=⟨λ{f args M k r} h=>agd hc h,λ{_ _ _ _ _} h=>aX⟩
def aER(h:∀{args M k r},run args M k=some r->∃x M',lP X g args M x M'∧k x M'=some r):iQ (tp X) (inl g run):=
 ⟨λ{args M k r} hr=>by
   obtain⟨x,M',h1,h2⟩:=h hr;exact⟨x,M',h1,h2,λids hi=>by cases hi⟩,trivial⟩
def aDO{test:bl->aV->Bool}(h:∀{args M k r},run args M k=some r->∃x M',lP X g args M x M'∧k x M'=some r):
 tp X ⟨g,test,λ_ M=>some (List.range M.length),λargs M k=>run args M λx M'=>aR (Nat.ble M.length M'.length) (k x M')⟩:=by
 intro args M k r hr;obtain⟨x,M',h1,h2⟩:=h hr;replace h2:=dq h2;obtain⟨hle,h2⟩:=h2;refine⟨x,M',h1,h2,λids hi=> ?_⟩;injection hi with hi;subst hi;exact⟨uf hle,λi hi hn=>absurd (Ac.2 hi) hn⟩
def CF:List (Nat×TypeId)->bl->bl
 | [],xs=>xs
 |p::ps,xs=>CF ps (match xs[p.1]? with|some .gQ =>xs.set p.1 (.ab p.2 [])|_=>xs)
def afE{ρ:bX}{F:bT}{w:World}{vs:fI}:∀(ps:List (Nat×TypeId)) {xs:bl},dz X.K ρ F w xs vs->dz X.K ρ F w (CF ps xs) vs
 | [],xs,h=>h
 |p::ps,xs,h=>by
  refine afE ps ?_;split
  ·rename_i hx;refine⟨by simp [h.1],λj y v hy hv=> ?_⟩
   by_cases e:j=p.1
   ·subst e;have cM:p.1<xs.length:=(eZ.1 hx).1;rw [qK cM]at hy;injection hy with hy;subst hy;have:=h.2 p.1 _ v hx hv;cases this;exact .kM _
   ·rw [kI (Ne.symm e)]at hy;exact h.2 j y v hy hv
  ·exact h
def aEJ{e:CE R}(h:tp X e)(ps:List (Nat×TypeId))(test:bl->aV->Bool):tp X ⟨e.f,test,λargs M=>e.wr (CF ps args) M,λargs M k=>e.run (CF ps args) M k⟩:=by
 intro args M k r hr;obtain⟨x,M',h1,h2,h3⟩:=h hr;exact⟨x,M',⟨h1.1,λ{w0 S F ρ w vs} hI hv=>h1.2 hI (afE ps hv)⟩,h2,h3⟩
end
end Go.aA
namespace Go.aA
def wW{p:Prop}(h:p:=by simpa using hn):p:=h
end Go.aA
namespace Go.aA
open Go
noncomputable section
variable {X:Cx}
variable{P:Program}
def aGH:TI:=⟨false,.other,0,0,[],[]⟩
def oN:List (Nat×TI)->Nat->TI
 | [],_=>aGH
 |e::es,t=>match Nat.beq t e.1 with|true=>e.2|false=>oN es t
def aam:List (Nat×Site)->Nat->Site
 | [],_=>⟨0,#[],.skip,.skip⟩
 |e::es,t=>match Nat.beq t e.1 with|true=>e.2|false=>aam es t
def Fv{l:List (Nat×TI)}(h:iQ (λe=>e.2=xj P e.1∧e.2.ok=true) l)(t:Nat):((oN l t).ok =true->oN l t=xj P t)∧((oN l t).ok =false->(oN l t).ks =[]):=by
 induction l with
 |nil=>exact⟨λh=>(aX),λ_=>rfl⟩
 |cons e es ih=>
  simp only [oN];cases hb:Nat.beq t e.1 with
  |true=>
   have:=dU hb;subst this;exact⟨λ_=>h.1.1,λhf=>(by have:=h.1.2;rw [hf]at this;cases this)⟩
  |false=>exact ih h.2
def ZS:List (Nat×Nat)->Nat->Nat->Bool
 | [],_,_=>false
 |e::es,d,t=>match Nat.beq d e.1&&Nat.beq t e.2 with|true=>true|false=>ZS es d t
def um:dP->Nat->Bool
 | [],_=>false
 |e::es,t=>match Nat.beq t e with|true=>true|false=>um es t
def ahr{l:dP}(h:iQ (λe=>AT P e=true) l)(t:Nat)(ht:um l t=true):AT P t=true:=by
 induction l with
 |nil=>cases ht
 |cons e es ih=>
  simp only [um]at ht;cases hb:Nat.beq t e with
  |true=>
   have:=dU hb;subst this;exact h.1
  |false=>rw [hb]at ht;exact ih h.2 ht
def alike_refl(a:TI):TI.alike a a:=⟨rfl,rfl,rfl,rfl,rfl,rfl⟩
def aGy{P:Program}{l:List (Nat×TI)}{s:Nat->Site}{el:dP}{gl:Nat->AV}{vw:Nat->TypeId->Bool}(L7:∀g,gl g= .top ∨(gl g).pure =true)(hm:P.follows .mixedOrders =true)(h:iQ (λe=>e.2=xj P e.1∧e.2.ok=true) l)(he:iQ (λe=>AT P e=true) el):(⟨P,oN l,s,gl,um el,true,vw,none⟩:Cx).Ok where
 eqs:=ahr he
 facts:=λ{t} ht=>afL (X:=⟨P,oN l,s,gl,um el,true,vw,none⟩) (by rw [show(Cx.ti ⟨P,oN l,s,gl,um el,true,vw,none⟩ t)=oN l t from rfl,(Fv h t).1 ht];exact alike_refl _) ht
 mixed:=hm
 bad:=λt=>(Fv h t).2
 gh:=L7
 ZV:=λ_=>aAH (X:=⟨P,oN l,s,gl,um el,true,vw,none⟩) (λt=>(Fv h t).1) (λt=>(Fv h t).2)
 ub:=λu h=>aX
 pkt:=rfl
def A2(e:TI):TI:=⟨e.ok,e.u,e.size,e.bytes,e.zero,e.ks.map Kind.v⟩
def aE5{P:Program}{l:List (Nat×TI)}{s:Nat->Site}{el:dP}{gl:Nat->AV}{vw:Nat->TypeId->Bool}{ub:Option Ub}(Bn:∀u,ub=some u->apx P u)(L7:∀g,gl g= .top ∨(gl g).pure =true)(hm:P.follows .mixedOrders =true)(h:iQ (λe=>e.2=xj P e.1∧e.2.ok=true) l)(he:iQ (λe=>AT P e=true) el):(⟨P,λt=>A2 (oN l t),s,gl,um el,false,vw,ub⟩:Cx).Okb where
 eqs:=ahr he
 facts:=λ{t} ht=>afL (X:=⟨P,λt=>A2 (oN l t),s,gl,um el,false,vw,ub⟩) (by
  rw [show(Cx.ti ⟨P,λt=>A2 (oN l t),s,gl,um el,false,vw,ub⟩ t)=A2 (oN l t)from rfl,(Fv h t).1 ht];exact⟨rfl,rfl,rfl,rfl,rfl,by simp [A2]⟩) ht
 mixed:=hm
 bad:=λt ht=>by
  show(A2 (oN l t)).ks =[];have:=(Fv h t).2 ht;simp [A2,this]
 gh:=L7
 ZV:=λh=>aX
 ub:=Bn
def aFk{t:TypeId}(h:(match P.info? t with|some j=> !Nat.beq j.size 0|none=>false)=true):∃j,P.info? t=some j∧j.size≠0:=by
 split at h
 ·rename_i j hj;exact⟨j,hj,λe=>by rw [e]at h;simp at h⟩
 ·exact aX
def enters{f:FuncId}{fn:Func}{c:Code}(hf:P.funcs[f]?=some fn)(hb:fn.body=some c)(hn:(fn.name== "runtime.NumGoroutine")=false)(vs:Array Value)(w:World):(callFunc f vs).run P w= .ok (.enter f vs) w:=by
 have hp:(program).run P w= .ok P w:=rfl;have hn':fn.name≠ "runtime.NumGoroutine" :=wW
 simp [callFunc,fx,hp,Result.andThen,hf,hn',hb]
end
end Go.aA
namespace Go.aA
def fa{p:Prop}(h:p:=by rw [this];rfl):p:=h
def yz{p:Prop}(h:p:=by simp [DataW.TrodAll]at h):p:=h
def akk{p:Prop}(h:p:=by
 rw [j7]at hx;rcases hx with hx|hx
 ·exact a3 x hx
 ·exact b3 x hx):p:=h
def akf{p:Prop}(h:p:=by
 have:=f.jN;rw [f.u]at hu;cases d<;>simp_all [mK]):p:=h
def ajI{p:Prop}(h:p:=by
 rw [zr];simp only [ng,O9,Pn,agY];omega):p:=h
def ajn{p:Prop}(h:p:=by
 have:=dz.append a1 b1
 rwa [<-agZ,PJ]at this):p:=h
end Go.aA
namespace Go.aA
def PJ:=@List.take_append_drop
def Jq:=@List.sum_cons
def agY:=@Function.comp_def
def X8:=@Option.map_eq_some_iff
end Go.aA
namespace Go.aA
open Go Go.ChangeShapes Go.WideShapes Go.ChangeAt Go.RowKit
noncomputable section
variable {X:Cx}
variable{H:Type}{t:TypeId}{enc:TypeId×Value->H}{v:Value}{S:qb}
inductive Wf(K:TypeId->ei):AV->Prop
 |int(k:IntKind)(n:Int)(h:(Lit.int k n).wf =true):Wf K (.int k n)
 |bool(b:Bool):Wf K (.bool b)
 |str(s:ByteArray)(h:s.size<=maxLen):Wf K (.str s)
 |ab(t:TypeId)(xs:aW)(hl:xs.length<=maxLen)(hk:∀row∈xs,dt (K t) row=true)(h:∀row∈xs,∀x∈row,Wf K x):Wf K (.ab t xs)
def WfL(K:TypeId->ei)(row:Row):Prop:=∀x∈row,Wf K x
mutual
def xx:AV->Nat
 | .ab _ xs=>oB xs+1
 |_=>1
def ja:bl->Nat
 | []=>0
 |x::xs=>xx x+ja xs
def oB:List bl->Nat
 | []=>0
 |r::rs=>ja r+oB rs
end
mutual
def ng{H:Type}:DataW H->Nat
 | .slice e s=>rX e+rX s+1
 | .agg p=>rX p+1
 |_=>1
def rX{H:Type}:List (DataW H)->Nat
 | []=>0
 |d::r=>ng d+rX r
end
def aDE(x:AV):1<=xx x:=by cases x<;>simp [xx]
def ah1:∀row:bl,row.length<=ja row
 | []=>ym _
 |x::xs=>by have:=ah1 xs;have:=aDE x;simp only [ja,mf];omega
def Fp:∀a b:bl,ja (a++b)=ja a+ja b
 | [],b=>by simp [ja]
 |x::a,b=>by simp only [kK,ja,Fp a b];omega
def PF(d:DataW H):1<=ng d:=by cases d<;>simp [ng]
def O9{H:Type}:∀l:List (DataW H),rX l=(l.map ng).sum
 | []=>rfl
 |d::l=>by simp only [rX,nu,Jq,O9 l]
def aiA:∀{rs:List bl} {ns:dP},rs.length=ns.length->(∀(i:Nat) r n,rs[i]?=some r->ns[i]?=some n->ja r<=n)->oB rs<=ns.sum
 | [],[],_,_=>fk _
 |r::rs,n::ns,hl,h=>by
  have:=h 0 r n rfl rfl;have:=aiA (rs:=rs) (ns:=ns) (pw) λi r' n' h1 h2=>h (i+1) r' n' (sU) (qc);simp only [oB,Jq];omega
 | [],_::_,hl,_=>by simp at hl
 |_::_,[],hl,_=>by simp at hl
def JR(X:Cx):Nat->List (Nat×TypeId)->Nat->Bool
 |o,[],n=>o==n
 |o,f::fs,n=>f.1==o&&JR X (o+(X.ti f.2).size) fs n
def Hg(X:Cx)(S:qb)(t:TypeId):Bool:=
 (X.ti t).ok &&match(X.ti t).u with
   | .int k=>(X.ti t).ks == [.int k]
   | .bool =>(X.ti t).ks == [.bool]
   | .str =>(X.ti t).ks == [.str]
   | .slice e=>(X.ti t).ks == [.slice e]&&S.contains e&&Nat.blt 0 (X.ti e).size
   | .struct fs=>(X.ti t).ks ==fs.flatMap (λf=>(X.ti f.2).ks)&&JR X 0 fs (X.ti t).size &&fs.all (λf=>S.contains f.2)
   | .array m e=>(X.ti t).ks ==(List.replicate m (X.ti e).ks).flatten &&S.contains e&&(m*(X.ti e).size ==(X.ti t).size)
   |_=>false
def DL(X:Cx)(S:qb):Bool:=S.all (Hg X S)
def Y6(h:DL X S=true)(ht:S.contains t=true):Hg X S t=true:=by
 unfold DL at h;exact jS.1 h t (Gc)
def Xa:∀{ks ls:ei} {r s:Row},dt ks r=true->dt ls s=true->dt (ks++ls) (r++s)=true
 | [],_,[],_,_,h=>h
 |k::ks,ls,x::r,s,h,h'=>by
  simp only [dt,bM]at h;simp only [kK,dt,bM];exact⟨h.1,Xa h.2 h'⟩
 | [],_,_::_,_,h,_=>CJ
 |_::_,_,[],_,h,_=>CJ
section
variable {w:World} {ρ:bX}
def there(w:World)(a:Addr):Prop:=a.block<w.heap.size
def Reads(X:Cx)(ρ:bX)(w:World)(ks:ei)(cs:fI)(row:Row):Prop:=dz X.K ρ (there w) w row cs∧dt ks row=true∧WfL X.K row
def afk{cs:fI}:∀(fs:List (Nat×TypeId)) (ns:dP) (o:Nat),fs.length=ns.length->o<=cs.length->JR X o fs cs.length=true->(∀f∈fs,(X.ti f.2).ks.length =(X.ti f.2).size)->
 (∀(j:Nat) f n,fs[j]?=some f->ns[j]?=some n->∃row,Reads X ρ w (X.ti f.2).ks ((cs.drop f.1).take (X.ti f.2).size) row∧ja row<=n)->∃row,Reads X ρ w (fs.flatMap λf=>(X.ti f.2).ks) (cs.drop o) row∧ja row<=ns.sum
 | [],ns,o,_,ho,h,_,_=>by
   have:o=cs.length:=by simpa [JR]using h
   subst this;exact⟨[],⟨by simp [dz],rfl,λx hx=>wT⟩,ym _⟩
 |_::_,[],_,hl,_,_,_,_=>by simp at hl
 |f::fs,n::ns,o,hl,ho,h,jk,hr=>by
  simp only [JR,bM,iy]at h;obtain⟨h1,h2⟩:=h;obtain⟨r1,⟨a1,a2,a3⟩,an⟩:=hr 0 f n rfl rfl;rw [h1]at a1;have fg:((cs.drop o).take (X.ti f.2).size).length =(X.ti f.2).size :=by rw [a1.1,iS a2];exact jk f (by simp)
  have ho2:o+(X.ti f.2).size <=cs.length:=by simp at fg;omega
  obtain⟨r2,⟨b1,b2,b3⟩,bn⟩:=afk fs ns (o+(X.ti f.2).size) (pw) ho2 h2 (λg hg=>jk g (by simp [hg])) (λj g m hg hm=>hr (j+1) g m (by simpa using hg) (Qi));refine⟨r1++r2,⟨?_,?_,λx hx=> ?_⟩,by rw [Fp,Jq];omega⟩
  ·exact ajn
  ·simp only [vd];exact Xa a2 b2
  ·exact akk
def afH{cs:fI}{ks:ei}{sz:Nat}(jk:ks.length=sz):∀(ns:dP) (o:Nat),o+ns.length*sz=cs.length->(∀(i:Nat) n,ns[i]?=some n->∃row,Reads X ρ w ks ((cs.drop (o+i*sz)).take sz) row∧ja row<=n)->∃row,Reads X ρ w (List.replicate ns.length ks).flatten (cs.drop o) row∧ja row<=ns.sum
 | [],o,ho,_=>by
   have:o=cs.length:=by simpa using ho
   subst this;exact⟨[],⟨by simp [dz],rfl,λx hx=>wT⟩,ym _⟩
 |n::ns,o,ho,hr=>by
  obtain⟨r1,⟨a1,a2,a3⟩,an⟩:=hr 0 n rfl;simp only [Nat.zero_mul,yg]at a1;rw [mf]at ho;have e1:(ns.length+1)*sz=ns.length*sz+sz:=Nat.succ_mul _ sz;obtain⟨r2,⟨b1,b2,b3⟩,bn⟩:=afH (cs:=cs) jk ns (o+sz) (by omega) (λi m hi=>by
   have:=hr (i+1) m (CL);have e2:(i+1)*sz=i*sz+sz:=Nat.succ_mul i sz;rw [e2,show o+(i*sz+sz)=o+sz+i*sz by omega]at this;exact this)
  refine⟨r1++r2,⟨?_,?_,λx hx=> ?_⟩,by rw [Fp,Jq];omega⟩
  ·exact ajn
  ·simp only [mf,Ya,Cc];exact Xa a2 b2
  ·exact akk
def Jk{k:Kind}{x:AV}(hr:aZ X.K ρ (there w) w x v)(hk:iJ k x=true)(hw:Wf X.K x):Reads X ρ w [k] [v] [x]:=
 ⟨⟨rfl,λj y u hy hu=>by
   cases j with
   |zero=>simp at hy hu;subst hy;subst hu;exact hr
   |succ j=>simp at hy⟩,by simp [dt,hk],λy hy=>by simp at hy;subst hy;exact hw⟩
def NR(hX:X.Ok){S:qb}(hS:DL X S=true){H:Type}{enc:TypeId×Value->H}:∀(n:Nat) {fuel:Nat} {t:TypeId} {cs:fI} {x:DataW H×List MemPlace},fuel<n->S.contains t=true->
 DataW.trod enc X.P w 0 (λ_=>true) true fuel t cs=some x->∃row,Reads X ρ w (X.ti t).ks cs row∧ja row<=ng x.1
 |0,_,_,_,_,h,_,_=>absurd h (Nat.not_lt_zero _)
 |n+1,fuel,t,cs,x,hfu,ht,hx=>by
  have h:=Y6 hS ht;simp only [Hg,bM]at h;obtain⟨bz,h⟩:=h;obtain⟨i,d,z,f⟩:=hX.facts bz;have rW:∀t',(X.ti t').ok =true->X.P.cellsOf t'=(X.ti t').size :=λt' abB=>by
   obtain⟨i',d',z',f'⟩:=hX.facts abB;simp [Program.cellsOf,f'.info,f'.size]
  have hlen:∀t',(X.ti t').ok =true->(X.ti t').ks.length =(X.ti t').size :=λt' abB=>by
   obtain⟨i',d',z',f'⟩:=hX.facts abB;rw [f'.ks,f'.size]
  have R9:∀{t'},S.contains t'=true->(X.ti t').ok =true:=λ{t'} hm=>by
   have:=Y6 hS hm;simp only [Hg,bM]at this;exact this.1
  split at h
  ·rename_i k hu;have hk:(X.ti t).ks =[.int k]:=jU;obtain⟨m,rfl,_,hwf⟩:=DataW.trod_int (f.aoM hu) hx;rw [hk];exact⟨_,Jk (.int k m) (by simp [iJ]) (.int k m hwf),PF x.1⟩
  ·rename_i hu;have hk:(X.ti t).ks =[.bool]:=jU;have dW:X.P.underlying t=some .bool :=akf;obtain⟨b,rfl,_⟩:=DataW.trod_bool dW hx;rw [hk];exact⟨_,Jk (.bool b) rfl (.bool b),PF x.1⟩
  ·rename_i hu;have hk:(X.ti t).ks =[.str]:=jU;have dW:X.P.underlying t=some .string :=akf;obtain⟨s,rfl,_,hs⟩:=DataW.trod_string dW hx;rw [hk];exact⟨_,Jk (.str s) rfl (.str s hs),PF x.1⟩
  ·rename_i e hu;simp only [bM,iy]at h;obtain⟨⟨hk,mv⟩,ot⟩:=h;have ot:0<(X.ti e).size :=by simpa using ot
   have K1:=R9 mv;rcases DataW.trod_slice (f.slice hu) hx with⟨rfl,_⟩|⟨a,len,cap,elems,rest,m,hfm,rfl,zr,_,kW,Md,hel,aat,_,_⟩
   ·rw [hk];exact⟨_,Jk (.kM e) (by simp [iJ]) (.ab e [] (by simp) (λrow h=>hU) (λrow h=>hU)),PF x.1⟩
   ·rw [hk];have each:∀i,i<len->∃vs row,w.cells? 0 (a.add (i*(X.ti e).size)) (X.ti e).size =some vs∧Reads X ρ w (X.ti e).ks vs row∧∀n,(elems.map λd=>ng d.1)[i]?=some n->ja row<=n:=by
     intro i hi;have:=aat i hi;rw [rW e K1,dD (by omega)]at this;rw [Option.bind_eq_some_iff]at this;obtain⟨vs,h1,h2⟩:=this;obtain⟨row,h3,h4⟩:=NR hX hS n (by omega) mv h2;exact⟨vs,row,h1,h3,λm hm=>by
      rw [iT,dD (by omega)]at hm;cases hm;exact h4⟩
    have hch:∃g:Nat->fI×Row,∀i,i<len->w.cells? 0 (a.add (i*(X.ti e).size)) (X.ti e).size =some (g i).1 ∧Reads X ρ w (X.ti e).ks (g i).1 (g i).2 ∧∀n,(elems.map λd=>ng d.1)[i]?=some n->ja (g i).2 <=n:=by
     refine⟨λi=>if hi:i<len then((each i hi).choose,(each i hi).choose_spec.choose)else([],[]),λi hi=> ?_⟩;simp only [hi,dif_pos];exact(each i hi).choose_spec.choose_spec
    obtain⟨g,hg⟩:=hch;have qy:=hlen e K1;have Hz:((List.range len).map λi=>(g i).2).length =len:=by simp
    have rep:=aZ.ab (K:=X.K) (ρ:=ρ) (F:=there w) (w:=w) e ((List.range len).map λi=>(g i).2) a cap ((List.range len).map λi=>(g i).1) (by simp) (by simpa using kW) Md
     (λi row hi=>by
       have cM:i<len:=QR;simp only [iT,ud cM,k7,Option.some.injEq]at hi;subst hi;exact(hg i cM).2.1.2.1)
     (λi vs hi=>by
       have cM:i<len:=QR;simp only [iT,ud cM,k7,Option.some.injEq]at hi;subst hi;obtain⟨c1,c2,_⟩:=hg i cM;have zu:(g i).1.length =(X.K e).length :=by rw [c2.1.1,iS c2.2.1];rfl
       refine⟨zu,λj v hj=> ?_⟩;have L5:j<(X.ti e).size :=by have:=(eZ.1 hj).1;rw [zu]at this;rw [<-qy];exact this
       have ak9:w.cell? (a.add (i*(X.K e).length +j))=some v:=by
        have aao:=World.cells?_some c1;obtain⟨_,aao⟩:=aao;have:=aao.2 j L5;rw [hj]at this;have e2:(X.K e).length =(X.ti e).size :=qy;rw [e2]
        rwa [Aa]at this
       exact⟨ak9,World.block_lt_of_cell? w _ ak9⟩)
     (λi row vs hi fy j y v hy hv=>by
       have cM:i<len:=QR;simp only [iT,ud cM,k7,Option.some.injEq]at hi fy;subst hi;subst fy;exact(hg i cM).2.1.1.2 j y v hy hv)
    rw [Hz]at rep;refine⟨_,Jk rep (by simp [iJ]) (.ab e _ (by rw [Hz];omega) (λrow ik=> ?_) λrow ik y hy=> ?_),?_⟩
    ·obtain⟨i,hi,rfl⟩:=Ab.1 ik;exact(hg i (Ac.1 hi)).2.1.2.1
    ·obtain⟨i,hi,rfl⟩:=Ab.1 ik;exact(hg i (Ac.1 hi)).2.1.2.2 y hy
    ·have:=aiA (rs:=(List.range len).map λi=>(g i).2) (ns:=elems.map λd=>ng d.1) (by simp [hel]) λi r n h1 h2=>by
      have cM:i<len:=by have:=(eZ.1 h1).1;simpa using this
      simp only [iT,ud cM,k7,Option.some.injEq]at h1;subst h1;exact(hg i cM).2.2 n h2
     rw [zr];simp only [ng,O9,Pn,ja,xx,agY];omega
  ·rename_i fs hu;simp only [bM,iy]at h;obtain⟨⟨hk,yW⟩,jq⟩:=h;obtain⟨gs,dW,rfl⟩:=f.struct hu;obtain⟨xs,m,hfm,zr,eJ,zq,aEU⟩:=DataW.trod_struct dW hx;rw [hk];rw [rW t bz]at eJ;have:=afk (X:=X) (ρ:=ρ) (w:=w) (cs:=cs) (gs.toList.map λf=>(f.offset,f.type)) (xs.map λd=>ng d.1) 0 (by simp [zq]) (ym _) (by rw [eJ];exact yW)
    (λg hg=>hlen _ (R9 (jS.1 jq g hg))) (λj g k hg hn=>by
      have mv:=jS.1 jq g (mT hg);rw [iT,X8]at hg;obtain⟨q,hq,rfl⟩:=hg;have iK:gs[j]?=some q:=by simpa using hq
      have hf:=aEU j q iK;rw [rW _ (R9 mv)]at hf;rw [iT,X8]at hn;obtain⟨y,hy,rfl⟩:=hn;rw [hy]at hf;exact NR hX hS n (by omega) mv hf)
   obtain⟨row,h1,h2⟩:=this;refine⟨row,sU,?_⟩;exact ajI
  ·rename_i m e hu;simp only [bM,iy]at h;obtain⟨⟨hk,mv⟩,hmul⟩:=h;have K1:=R9 mv;obtain⟨xs,m',hfm,zr,eJ,zq,aat⟩:=DataW.trod_array (f.array hu) hx;rw [hk];rw [rW t bz]at eJ;have:=afH (X:=X) (ρ:=ρ) (w:=w) (cs:=cs) (hlen e K1) (xs.map λd=>ng d.1) 0 (by rw [ey,zq];omega) (λi k hi=>by
    rw [iT,X8]at hi;obtain⟨y,hy,rfl⟩:=hi;have hf:=aat i (Zz);rw [rW _ K1,hy]at hf;simpa using NR hX hS n (by omega) mv hf)
   obtain⟨row,h1,h2⟩:=this;rw [ey,zq]at h1;refine⟨row,sU,?_⟩;exact ajI
  ·exact aX
end
def RD(X:Cx)(t:TypeId)(x:AV):Prop:=((X.ti t).u.agg =true∧∃row,x= .agg row∧dt (X.ti t).ks row=true∧WfL X.K row)∨((X.ti t).u.agg =false∧dt (X.ti t).ks [x]=true∧Wf X.K x)
def Hq:AV->Nat
 | .agg row=>ja row
 |x=>xx x
def KU(xs:bl):Nat:=(xs.map Hq).sum
def azG(hX:X.Ok)(hS:DL X S=true){w:World}{base:Nat}{ρ:bX}{d:DataW H}{ps:List MemPlace}(mv:S.contains t=true)(h:DataW.Trod enc X.P w 0 (λ_=>true) true t v d ps)
 (bz:Value.okWide X.P w .any base t v):∃x,(RD X t x∧Hq x<=ng d)∧aZ X.K ρ (there w) w x v:=by
 obtain⟨fuel,h⟩:=h;obtain⟨row,hr,hn⟩:=NR hX hS (ρ:=ρ) (fuel+1) (by omega) mv h;have sr:=Y6 hS mv;have xG:(X.ti t).ok =true:=by
  simp only [Hg,bM]at sr;exact sr.1
 obtain⟨i,dd,z,f⟩:=hX.facts xG;cases fO:(X.ti t).u.agg with
 |true=>
  have hv:∃cs,v= .agg cs:=by
   unfold Value.okWide at bz;rw [f.jN]at bz;rw [f.u]at fO;cases dd<;>simp [mK,wB.agg]at fO
   ·obtain⟨cs,h1,_⟩:=bz;exact⟨cs,h1⟩
   ·obtain⟨cs,h1,_⟩:=bz;exact⟨cs,h1⟩
  obtain⟨cs,rfl⟩:=hv;have hc:(Value.agg cs).cells.toList =cs.toList:=rfl;rw [hc]at hr;refine⟨.agg row,⟨.inl ⟨fO,row,rfl,hr.2.1,hr.2.2⟩,hn⟩,?_⟩;have:=aZ.agg (K:=X.K) (ρ:=ρ) (F:=there w) (w:=w) row cs.toList hr.1.1 hr.1.2;exact sP
 |false=>
  have qy:(X.ti t).ks.length =1:=by
   simp only [Hg,bM]at sr;have h2:=sr.2;split at h2
   ·rename_i k hu;have:(X.ti t).ks =[.int k]:=qc;exact fa
   ·have:(X.ti t).ks =[.bool]:=by simpa using h2
    exact fa
   ·have:(X.ti t).ks =[.str]:=by simpa using h2
    exact fa
   ·simp only [bM,iy]at h2;rw [h2.1.1];rfl
   ·rename_i hu;rw [hu]at fO;simp [wB.agg]at fO
   ·rename_i hu;rw [hu]at fO;simp [wB.agg]at fO
   ·cases h2
  have rn:=iS hr.2.1;rw [qy]at rn;obtain⟨x,rfl⟩:=List.length_eq_one_iff.1 rn;have eJ:v.cells.toList.length=1:=by rw [hr.1.1,rn]
  have hv:v.cells.toList=[v]:=by
   cases v with
   |agg cs=>
    exfalso;unfold Value.okWide at bz;rw [f.jN]at bz;rw [f.u]at fO;cases dd<;>simp [mK,wB.agg]at fO<;>simp [Cell.okWide,Cell.ok,f.jN]at bz
   |_=>rfl
  rw [hv]at hr;have hw:=hr.2.2 x (by simp);exact⟨x,⟨.inr ⟨fO,hr.2.1,hw⟩,by cases hw<;>simpa [Hq,ja]using hn⟩,hr.1.2 0 x v rfl rfl⟩
def aAp{w0 w:World}{F:bT}{ρ:bX}{M:aV}{F0:bT}(hI:Inv X w0 ⟨λ_=>False,F0⟩ F ρ M w):Below w0.heap.size w0 w:=
 ⟨hI.os,hI.tape,hI.output,hI.size,λk hk=>hI.frame k hk (λh=>h)⟩
def azb{w w':World}(h:Below w.heap.size w w')(may:MemPlace->Prop):w.keptBut w' may:=by
 refine⟨h.os,h.output,λi hi=> ?_⟩;rw [h.block i hi];exact(World.keptBut_refl w may).2.2 i hi
def aBW(hX:X.Ok)(w:World)(hg:∀g,aZ X.K [] (there w) w (X.gh g) (.pointer (some ⟨g,0,none⟩))):Inv X w ⟨λ_=>False,there w⟩ (there w) [] [] w where
 os:=rfl
 tape:=rfl
 output:=rfl
 size:=fk _
 frame:=λ_ _ _=>rfl
 len:=rfl
 rep:=λid b hd hb _=>CG
 sep:=λid b hd g hb _ _ _=>CG
 iX:=λid id' b b' hd dI g _ hb _ _ _ _ _ _=>CG
 fz:=λa ha=>ha
 gh:=hg
 one:=λid hd hh=>by simp at hh
 gk:=λa ha=> .inl ha
 fin:=λa ha=>ha
def Q5(X:Cx):qb->bl->Prop
 | [],[]=>True
 |t::ts,x::xs=>RD X t x∧Q5 X ts xs
 |_,_=>False
def aeU(hX:X.Ok){S:qb}(hS:DL X S=true){w:World}{base:Nat}{ρ:bX}{H:Type}{enc:TypeId×Value->H}:∀{ts:qb} {vs:fI} {ds:List (DataW H)} {ps:List MemPlace},(ts.all S.contains)=true->
 DataW.TrodAll enc X.P w 0 (λ_=>true) true ts vs ds ps->(∀(j:Nat) t v,ts[j]?=some t->vs[j]?=some v->Value.okWide X.P w .any base t v)->∃xs,(Q5 X ts xs∧KU xs<=rX ds)∧dz X.K ρ (there w) w xs vs
 | [],[],[],ps,_,_,_=>⟨[],⟨trivial,fk _⟩,by simp [dz]⟩
 |t::ts,v::vs,d::ds,ps,mv,h,bz=>by
  obtain⟨p,q,h1,h2,_⟩:=h;simp only [FN,bM]at mv;obtain⟨x,⟨hx,hn⟩,hr⟩:=azG hX hS (ρ:=ρ) mv.1 h1 (bz 0 t v rfl rfl);obtain⟨xs,⟨Hz,tK⟩,rm⟩:=aeU hX hS (ρ:=ρ) (ts:=ts) (vs:=vs) mv.2 h2 (λj t' v' ht hv=>bz (j+1) t' v' (Gc) (by simpa using hv));refine⟨x::xs,⟨⟨hx,Hz⟩,by simp only [KU,nu,Jq,rX]at tK⊢;omega⟩,by simp [rm.1],λj y u hy hu=> ?_⟩;cases j with
  |zero=>simp at hy hu;subst hy;subst hu;exact hr
  |succ j=>simp at hy hu;exact rm.2 j y u hy hu
 | [],[],_::_,_,_,h,_=>yz
 | [],_::_,_,_,_,h,_=>yz
 |_::_,[],_,_,_,h,_=>yz
 |_::_,_::_,[],_,_,h,_=>yz
def aex{P:Program}{H:Type}{enc:TypeId×Value->H}(hl:laidOutB P=true){w w':World}(hb:Below w.heap.size w w'):∀{ts:qb} {vs:fI} {ds:List (DataW H)} {ps:List MemPlace},(ts.all λt=>P.readableRec t&&Nat.blt t P.types.size)=true->
 DataW.TrodAll enc P w 0 (λ_=>true) true ts vs ds ps->(∀x∈ps,x.block<w.heap.size)->DataW.TrodAll enc P w' 0 (λb=>decide (b<w.heap.size)) true ts vs ds ps
 | [],[],[],ps,_,h,_=>h
 |t::ts,v::vs,d::ds,ps,mv,h,cM=>by
  obtain⟨p,q,h1,h2,rfl⟩:=h;simp only [FN,bM]at mv;exact⟨p,q,Below.trod hl mv.1.1 (by simpa using mv.1.2) h1 hb (λx hx=>cM x (by simp [hx])),aex hl hb (ts:=ts) (vs:=vs) mv.2 h2 (λx hx=>cM x (by simp [hx])),rfl⟩
 | [],[],_::_,_,_,h,_=>yz
 | [],_::_,_,_,_,h,_=>yz
 |_::_,[],_,_,_,h,_=>yz
 |_::_,_::_,[],_,_,h,_=>yz
def aza(hX:X.Ok)(hl:laidOutB X.P=true){f:FuncId}{fn:Func}{s:ChangeSpec}{ts:qb}{tb:TypeId}(hts:fn.params.toList=ts)(wk:fn.resultTypes= #[tb]) (htb:X.P.underlying tb=some .bool)
  (hS:DL X S=true) (mv:(ts.all S.contains)=true) (hrr:(ts.all λt=>X.P.readableRec t&&Nat.blt t X.P.types.size)=true) (hv:s.vars=[])  
 (hs:∀ds:List (DataW H),ds.length=ts.length->s.fn H ds={results:=[.lit (.bool true)],args:=ds})
 (W:World) (hg:∀g,aZ X.K [] (there W) W (X.gh g) (.pointer (some ⟨g,0,none⟩))) (base:Nat) (args:Array Value) (ds gs:List (DataW H)) (before:List MemPlace) (G2:∀(j:Nat) t v,fn.params[j]?=some t->args[j]?=some v->Value.okWide X.P W .any base t v)
 (hW:DataW.Whole enc X.P fn.params.toList s.vars false W args.toList ds gs before)
 (aOg:∀xs,Q5 X ts xs->KU xs<=rX ds->∃m M',Gm X f m xs [] (.bool true) M'):
 Calls X.P f args W λe W'=>∃v,e= .returned v∧s.post enc X.P fn false true false false W args v W':=by
 have hW':=hW;obtain⟨p,q,hA,hV,hpq,HM,Br⟩:=hW;rw [hv]at hV;obtain⟨rfl,rfl⟩:=trodVars_none hV;rw [Ad]at hpq;have aN8:p=before:=hpq.symm;subst aN8;have HS:=hA;rw [hts]at hA;have hlen:ds.length=ts.length:=by
  have:∀(ts:qb) (vs:fI) (ds:List (DataW H)) (ps:List MemPlace),DataW.TrodAll enc X.P W 0 (λ_=>true) true ts vs ds ps->ds.length=ts.length:=by
   intro ts
   induction ts with
   |nil=>intro vs ds ps h;cases vs<;>cases ds<;>simp_all [DataW.TrodAll]
   |cons t ts ih=>
    intro vs ds ps h;cases vs with
    |nil=>cases ds<;>simp [DataW.TrodAll]at h
    |cons v vs=>
     cases ds with
     |nil=>exact yz
     |cons d ds=>obtain⟨_,_,_,h2,_⟩:=h;simp [ih _ _ _ h2]
  exact this _ _ _ _ hA
 obtain⟨xs,⟨Hz,hnv⟩,jX⟩:=aeU hX hS (ρ:=[]) mv hA (λj t v ht hv=>G2 j t v (by rw [<-hts]at ht;simpa using ht) (by simpa using hv));obtain⟨m,M',yC⟩:=aOg xs Hz hnv;have:=yC (aBW hX W hg) jX;refine this.mono ?_;rintro e W' ⟨v,ρ',F',rfl,hI,_,hr⟩;refine⟨v,rfl,?_⟩;cases hr;have hb:=aAp hI;have cM:∀x∈p,x.block<W.heap.size:=λx hx=>by simpa using hW'.lt x hx
 have L9:s.fn H (ds++[])={results:=[.lit (.bool true)],args:=ds}:=by rw [Ad];exact hs ds hlen
 refine⟨ds,[],p,[],p,[],hW',?_,?_,?_,azb hb _,λh=>aX⟩
 ·rw [L9,wk];exact trodAll_mk1 (shut_bool htb true)
 ·rw [L9];rw [hts];exact aex hl hb hrr hA cM
 ·rw [L9,hv];exact rfl
end
end Go.aA
namespace Go.aA
def akw{p:Prop}(h:p:=by
 injection hi with hi;subst hi;exact⟨uf hle,λi hi hn=>absurd (Ac.2 hi) hn⟩):p:=h
def yo{p:Prop}(h:p:=by rw [hc];rfl):p:=h
end Go.aA
namespace Go.aA
def Yj:=@Go.wpIn_loop_rounds
end Go.aA
namespace Go.aA
open Go Go.ChangeShapes Go.WideShapes Go.ChangeAt Go.RowKit
noncomputable section
variable {X:Cx} {R:Type}
variable{Y:Cx}{f p rounds s:Nat}{r:R}{α:Type}{args:bl}{M:aV}
structure FI where
 c:Code
 nt:Nt
 rs:List ResultVar
variable{fi:FI}{I:List (Nat×FI)}
def DF(X:Cx)(f:Nat)(fi:FI):Prop:=∃fn,X.P.funcs[f]?=some fn∧fn.body=some fi.c∧fn.ntmps=fi.nt.n∧fn.results.toList=fi.rs∧∀(vs:Array Value) (w:World),(callFunc f vs).run X.P w= .ok (.enter f vs) w
def ca(fn:Func):FI:=⟨fn.body.getD .skip,⟨fn.ntmps,2^fn.ntmps- 1⟩,fn.results.toList⟩
def aE2{fn:Func}(hf:X.P.funcs[f]?=some fn)(hb:fn.body.isSome=true)(hn:(fn.name== "runtime.NumGoroutine")=false):DF X f (ca fn):=by
 obtain⟨c,hc⟩:=Option.isSome_iff_exists.1 hb;refine⟨fn,hf,?_,rfl,rfl,enters hf hc hn⟩;show fn.body=some (fn.body.getD .skip);exact yo
def Ap:List (Nat×FI)->Nat->Option FI
 | [],_=>none
 |e::es,f=>match Nat.beq f e.1 with|true=>some e.2|false=>Ap es f
def aCE(h:iQ (λe=>DF X e.1 e.2) I)(hf:Ap I f=some fi):DF X f fi:=by
 induction I with
 |nil=>cases hf
 |cons e es ih=>
  simp only [Ap]at hf;cases hb:Nat.beq f e.1 with
  |true=>
   rw [hb]at hf;injection hf with hf;subst hf;have:=dU hb;subst this;exact h.1
  |false=>rw [hb]at hf;exact ih h.2 hf
def abY:Nat->Nat->List Bool
 |0,_=>[]
 |n+1,p=>match Nat.ble p 1 with|true=>[]|false=>(Nat.beq (p %2) 1)::abY n (p/2)
def Q3(root:Code)(p:Nat):Option Code:=match Nat.beq (enc (abY p.log2.succ.succ p)) p with|true=>w4 root (abY p.log2.succ.succ p)|false=>none
def agP{root c d:Code}(h:Q3 root p=some d)(eV:At root p c):d=c:=by
 unfold Q3 at h;split at h
 ·rename_i hb;have:=eV.det _ (dU hb);rw [h]at this;injection this
 ·exact aX
def oS(f:α->Bool)(l:List α):Bool:=List.rec (motive:=λ_=>Bool) true (λx _ ih=>Bool.rec (motive:=λ_=>Bool) false ih (f x)) l
def Cm{α:Type}{f:α->Bool}:∀{l:List α},oS f l=true->∀x∈l,f x=true
 | [],_,x,hx=>wT
 |y::l,h,x,hx=>by
  have h':Bool.rec (motive:=λ_=>Bool) false (oS f l) (f y)=true:=h;cases hy:f y with
  |false=>rw [hy]at h';cases h'
  |true=>
   rw [hy]at h';rcases gX.1 hx with rfl|hx
   ·exact hy
   ·exact Cm h' x hx
def wA(n:Nat)(x:AV):Bool:=
 match x with
 | .int _ _=>true
 | .bool _=>true
 | .str _=>true
 | .iF =>true
 | .gQ =>true
 | .ke =>true
 | .mg =>true
 | .top =>true
 | .ptr id _ _=>Nat.ble (Nat.succ id) n
 | .aC id=>Nat.ble (Nat.succ id) n
 | .iB id=>Nat.ble (Nat.succ id) n
 | .mp id=>Nat.ble (Nat.succ id) n
 | .lz id _=>Nat.ble (Nat.succ id) n
 | .vw id _ _=>Nat.ble (Nat.succ id) n
 | .jR =>true
 |_=>false
def np(n:Nat)(x:AV):Bool:=
 match x with
 | .agg cs=>oS (wA n) cs
 | .dC _ a b=>oS (wA n) a&&oS (wA n) b
 |x=>wA n x
def HY(n:Nat)(x:AV):Bool:=
 match x with
 | .ew cs=>oS (np n) cs
 |x=>np n x
def Mp(n:Nat)(b:ep):Bool:=
 match b with
 | .var _ cs=>oS (np n) cs
 | .row _ xs=>oS (oS (np n)) xs
 | .map _ _ _ es=>oS (λe=>np n e.1&&np n e.2) es
 | .loop _ env _ _=>oS (λp=>np n p.2) env
 | .HW =>true
 | .dead =>true
 | .eW _ _=>false
section
variable {w:World} {F:bT} {ρ:bX} {n:Nat}
def FH{l:List α}{n id:Nat}(bA:Nat.ble (Nat.succ id) n=true){x:α}(h:l[id]?=some x):(l.take n)[id]?=some x:=by
 have:=uf bA;rw [og,if_pos (by omega)];exact h
def aZ.wA{K:TypeId->ei}{x:AV}{v:Value}(h:aZ K ρ F w x v)(hb:wA n x=true):aZ K (ρ.take n) F w x v:=by
 cases h<;>simp only [aA.wA,lO]at hb<;>first
  |exact .top _
  |exact .int _ _
  |exact .bool _
  |exact .str _
  |exact .iF
  |exact .gQ
  |exact .ke
  |exact .mg
  |exact .jR _ _
  |skip
 ·rename_i id i off hd g o m c bA hv;exact .ptr id i off hd g o m c (FH hb bA) hv
 ·rename_i id hd bA;exact .aC id hd (FH hb bA)
 ·rename_i id hd g bA hv;exact .iB id hd g (FH hb bA) hv
 ·rename_i id hd bA;exact .mp id hd (FH hb bA)
 ·rename_i id m hd g o k c cap bA hv;exact .lz id m hd g o k c cap (FH hb bA) hv
 ·rename_i id lo m hd g o k c cap bA hv hc jb;exact .vw id lo m hd g o k c cap (FH hb bA) hv hc jb
 ·exact .tw _ _
 ·exact .tu _ _ _ _
def dz.bd{K:TypeId->ei}{xs:bl}{vs:fI}(h:dz K ρ F w xs vs){f:AV->Bool}(hf:∀{x v},aZ K ρ F w x v->f x=true->aZ K (ρ.take n) F w x v)(hb:oS f xs=true):dz K (ρ.take n) F w xs vs:=
 ⟨h.1,λj x v hx hv=>hf (h.2 j x v hx hv) (Cm hb x (mT hx))⟩
def aZ.np{K:TypeId->ei}{x:AV}{v:Value}(h:aZ K ρ F w x v)(hb:np n x=true):aZ K (ρ.take n) F w x v:=by
 unfold aA.np at hb;split at hb
 ·cases h with
  |agg cs vs hl hc=>exact .agg _ _ hl (dz.bd (vs:=vs) ⟨hl,hc⟩ (λh hb=>aZ.wA h hb) hb).2
 ·rw [bM]at hb;cases h with
  |dC f a b vf vc hf hc h1 h2=>exact .dC _ _ _ _ _ hf hc (dz.bd (vs:=vf) ⟨hf,h1⟩ (λh hb=>aZ.wA h hb) hb.1).2 (dz.bd (vs:=vc) ⟨hc,h2⟩ (λh hb=>aZ.wA h hb) hb.2).2
 ·exact h.wA hb
def aZ.HY{K:TypeId->ei}{x:AV}{v:Value}(h:aZ K ρ F w x v)(hb:HY n x=true):aZ K (ρ.take n) F w x v:=by
 unfold aA.HY at hb;split at hb
 ·cases h with
  |ew cs vs hl hc=>exact .ew _ _ hl (dz.bd (vs:=vs) ⟨hl,hc⟩ (λh hb=>aZ.np h hb) hb).2
 ·exact h.np hb
def aDJ{env:cY}(hb:oS (λp=>np n p.2) env=true)(t:Nat):look env t= .top ∨np n (look env t)=true:=by
 induction env with
 |nil=>exact .inl rfl
 |cons p env ih=>
  have h1:=Cm hb p fP;have h2:oS (λp:Nat×AV=>np n p.2) env=true:=by
   have h':Bool.rec (motive:=λ_=>Bool) false (oS (λp:Nat×AV=>np n p.2) env) (np n p.2)=true:=hb;rw [h1]at h';exact h'
  obtain⟨u,x⟩:=p;rw [p0];split
  ·exact .inr h1
  ·exact ih h2
def km.bd{hd:Hd}{b:ep}(h:km X ρ F w hd b)(hb:Mp n b=true):km X (ρ.take n) F w hd b:=by
 cases b with
 |var ks cs=>
  obtain⟨h1,h2,g,cur,e,h3,h4,h5,h6⟩:=h;exact⟨h1,h2,g,cur,e,h3,h4,h5.bd (λh hb=>aZ.np h hb) hb,h6⟩
 |row t xs=>
  obtain⟨h1,h2,h3⟩:=h;refine⟨h1,h2,?_⟩;rcases h3 with h3|⟨g,o,c,cur,e1,e2,e3,e4,e5,e6⟩
  ·exact .inl h3
  ·refine .inr ⟨g,o,c,cur,e1,e2,e3,e4,e5,λi row hi j x hx=> ?_⟩;obtain⟨v,hv,hr⟩:=e6 i row hi j x hx;exact⟨v,hv,hr.np (Cm (Cm hb row (mT hi)) x (mT hx))⟩
 |map kd ag ks es=>
  obtain⟨h0,g,mes,clock,h1,h2,h3,h4⟩:=h;refine⟨h0,g,mes,clock,h1,h2,h3,λi e me he hm=> ?_⟩;obtain⟨h5,h6,h7⟩:=h4 i e me he hm;have:=Cm hb e (mT he);rw [bM]at this;exact⟨h5,h6.np this.1,h7.np this.2⟩
 |loop s env busy xl=>
  obtain⟨g,lp,h1,h2,h3,h4,h5,h6,h7,h8⟩:=h;refine⟨g,lp,h1,h2,h3,h4,h5,h6,λt=> ?_,h8⟩;rcases aDJ hb t with e|e
  ·rw [e];exact .top _
  ·exact(h7 t).np e
 |HW=>exact h
 |eW t xs=>simp [Mp]at hb
 |dead=>trivial
def FO(X:Cx):Prop:=∀(g:Nat) {ρ ρ':bX} {F:bT} {w:World} {v:Value},aZ X.K ρ F w (X.gh g) v->aZ X.K ρ' F w (X.gh g) v
def Inv.cut(hG:FO X){w0:World}{S:Sc}(hI:Inv X w0 S F ρ M w)(hb:oS (Mp n) (M.take n)=true):Inv X w0 S F (ρ.take n) (M.take n) w:=by
 have tk:∀{α:Type} {l:List α} {i:Nat} {x:α},(l.take n)[i]?=some x->l[i]?=some x:=by
  intro α l i x h;rw [og]at h;split at h
  ·exact h
  ·exact aX
 exact{
  os:=hI.os,tape:=hI.tape,output:=hI.output,size:=hI.size,frame:=hI.frame
  len:=by rw [pg,pg,hI.len]
  rep:=λid b hd h1 h2=>(hI.rep id b hd (tk h1) (tk h2)).bd (Cm hb b (mT h1))
  sep:=λid b hd g h1 h2 h3=>hI.sep id b hd g (tk h1) h2 (tk h3)
  iX:=λid id' b b' hd dI g eN h1 h2 h3 h4 h5 h6=>hI.iX id id' b b' hd dI g eN (tk h1) (tk h2) h3 h4 (tk h5) (tk h6)
  fz:=hI.fz
  gh:=λg=>hG g (hI.gh g)
  one:=λid hd h=>hI.one id hd (tk h)
  gk:=hI.gk,fin:=hI.fin}
def lP.cut(hG:FO X){f:FuncId}{args:bl}{M M':aV}{x:AV}(h:lP X f args M x M')(hx:HY M.length x=true)(hb:oS (Mp M.length) (M'.take M.length)=true):lP X f args M x (M'.take M.length):=by
 refine⟨h.1,λ{w0 S F ρ w vs} hI hr=>(h.2 hI hr).mono ?_⟩;rintro e w' ⟨v,ρ',F',rfl,dO,hg,nW⟩;refine⟨v,ρ'.take M.length,F',rfl,dO.cut hG hb,⟨hg.hF,λid hd hh=> ?_,hg.hb⟩,nW.HY hx⟩;have cM:id<ρ.length:=(eZ.1 hh).1;rw [hI.len]at cM;rw [og,if_pos cM];exact hg.gT id hd hh
end
def ab0(n:Nat)(x:AV)(M:aV)(k:aV->Option R):Option R:=
 match Nat.beq n M.length with
 |true=>k M
 |false=>sw (λb k=>k b) (M.take n) λM1=>match HY n x&&oS (Mp n) M1 with|true=>k M1|false=>k M
def aB8(hG:FO X){f:FuncId}{M':aV}{x:AV}(h:lP X f args M x M'){k:aV->Option R}(hk:ab0 M.length x M' k=some r):∃M2,lP X f args M x M2∧k M2=some r:=by
 unfold ab0 at hk;split at hk
 ·exact⟨M',h,hk⟩
 ·rw [sR (λ_ _=>rfl)]at hk;split at hk
  ·rename_i hb;rw [bM]at hb;exact⟨_,h.cut hG hb.1 hb.2,hk⟩
  ·exact⟨M',h,hk⟩
section
variable {w:World} {F:bT} {ρ:bX}
end
structure SI where
 s:Nat
 f:Nat
 p:Nat
variable{Ss:List SI}
def Qa:List SI->Nat->Nat->Option Nat
 | [],_,_=>none
 |e::es,f,p=>match Nat.beq f e.f&&Nat.beq p e.p with|true=>some e.s|false=>Qa es f p
def P9:List SI->Nat->Option (Nat×Nat)
 | [],_=>none
 |e::es,s=>match Nat.beq s e.s with|true=>some (e.f,e.p)|false=>P9 es s
def codeF(I:List (Nat×FI))(f:Nat):Code:=match Ap I f with|some fi=>fi.c|none=> .skip
def Bh(I:List (Nat×FI))(f:Nat):Nt:=match Ap I f with|some fi=>fi.nt|none=>⟨0,0⟩
def DE(X:Cx)(I:List (Nat×FI))(e:SI):Prop:=∃g,At (codeF I e.f) e.p (.rangeFunc g (X.site e.s).params (X.site e.s).assign (X.site e.s).body)∧(X.site e.s).nt =(Bh I e.f).n
def LA(X:Cx)(I:List (Nat×FI))(Ss:List SI)(rounds:Nat):Nat->Nat->kz R
 |0,f=>⟨⟨Bh I f,λ_ _ _=>none,λ_ _ _ _=>none,Hr⟩,λ_ _ _=>none,λ_ _ _=>none,λ_=>none⟩
 |n+1,f=>⟨⟨Bh I f,λ_ _ M=>some (List.range M.length),
   λg args M k=>sw zI args λargs=>match Ap I g with
    |some fi=>qD M.length λm=>y6 X (LA X I Ss rounds n g) fi.c fi.rs args M λx M'=>uT x λx=>ab0 m x M' λM'=>aR (Nat.ble m M'.length) (k x M')
    |none=>none,
   λid args M k=>sw zI args λargs=>match gm M id with
    |some (.loop s _ _ _)=>(match P9 Ss s with
     |some (f',p)=>FW X (LA X I Ss rounds n f') s p id args M k
     |none=>none)
    |_=>none⟩,
  λp st k=>match Q3 (codeF I f) p with
   |some (.loop c)=>JO X (LA X I Ss rounds n f) c (2*p) rounds st k
   |_=>none,
  λp st k=>match Qa Ss f p,Q3 (codeF I f) p with
   |some s,some (.rangeFunc g _ _ _)=>P0 X (LA X I Ss rounds n f).iq s (List.range (Bh I f).n) g st k
   |_,_=>none,
  λ_=>none⟩
def aBO(h:iQ (DE X I) Ss)(hs:Qa Ss f p=some s):DE X I ⟨s,f,p⟩:=by
 induction Ss with
 |nil=>cases hs
 |cons e es ih=>
  simp only [Qa]at hs;cases hb:Nat.beq f e.f&&Nat.beq p e.p with
  |true=>
   rw [hb]at hs;injection hs with hs;rw [bM]at hb;have h1:=dU hb.1;have h2:=dU hb.2;subst h1;subst h2;subst hs;exact h.1
  |false=>rw [hb]at hs;exact ih h.2 hs
def aBN(h:iQ (DE X I) Ss)(hs:P9 Ss s=some (f,p)):DE X I ⟨s,f,p⟩:=by
 induction Ss with
 |nil=>cases hs
 |cons e es ih=>
  simp only [P9]at hs;cases hb:Nat.beq s e.s with
  |true=>
   rw [hb]at hs;injection hs with hs;injection hs with h1 h2;have h3:=dU hb;subst h1;subst h2;subst h3;exact h.1
  |false=>rw [hb]at hs;exact ih h.2 hs
def KH(n f:Nat):(LA (R:=R) X I Ss rounds n f).iq.nt =Bh I f:=by cases n<;>rfl
def aib(hX:X.Okb)(hI:iQ (λe=>DF X e.1 e.2) I){n:Nat}(hf:Ap I f=some fi)(hL:(LA (R:=R) X I Ss rounds n f).Ok X (codeF I f))
   {k:AV->aV->Option R}  (h:y6 X (LA X I Ss rounds n f) fi.c fi.rs args M k=some r):∃x M',lP X f args M x M'∧k x M'=some r:=by
 obtain⟨fn,h1,h2,h3,h4,h5⟩:=aCE hI hf;have hc:codeF I f=fi.c:=by unfold codeF;rw [hf]
 rw [hc]at hL;refine OS hX hL h1 h2 ?_ h5 h4 h;rw [KH,h3];show fi.nt.n=(Bh I f).n;unfold Bh;rw [hf]
def KG(hX:X.Okb)(hG:FO X){I:List (Nat×FI)}(hI:iQ (λe=>DF X e.1 e.2) I){Ss:List SI}(hS:iQ (DE X I) Ss){rounds:Nat}:∀(n f:Nat),(LA (R:=R) X I Ss rounds n f).Ok X (codeF I f)
 |0,f=>⟨⟨λ{_ _ _ _ _} h=>(aX),λ{_ _ _ _ _} h=>(aX)⟩,λ{_ _ _ _ _} _ h=>(aX),λ{_ _ _ _ _ _ _ _} _ h=>(aX),λ{_ _ _ _ _ _} _ h _=>(aX)⟩
 |n+1,f=>by
  refine⟨⟨λ{g args M k r} h=> ?_,λ{id args M k r} h=> ?_⟩,λ{p c st k r} eV h=> ?_,λ{p g ps x y st k r} eV h=> ?_,λ{p c f' st k r} eV h hk=> ?_⟩
  ·simp only [LA]at h;rw [sR CW]at h;split at h
   ·rename_i fi xI;rw [QZ]at h;obtain⟨x,M0,h1,h2⟩:=aib hX hI xI (KG hX hG hI hS n g) h;rw [Q0]at h2;obtain⟨M',h1,h2⟩:=aB8 hG h1 h2;replace h2:=dq h2;obtain⟨hle,h2⟩:=h2;refine⟨x,M',h1,h2,λids hi=> ?_⟩;exact akw
   ·exact aX
  ·simp only [LA]at h;rw [sR CW]at h;split at h
   ·rename_i s _ _ _ _;split at h
    ·rename_i f' p hsb;obtain⟨g,eV,zz⟩:=aBN hS hsb;exact ae3 hX (KG hX hG hI hS n f') eV h
    ·exact aX
   ·exact aX
  ·simp only [LA]at h;split at h
   ·rename_i c' hc;have:=agP hc eV;injection this with this;subst this;obtain⟨e,bh,hk,hr⟩:=WV hX (KG hX hG hI hS n f) eV rounds h;refine⟨e,bh,λ{rdc n' w0 S F ρ a w Q} dO hs hq=>Yj rounds (hr dO ?_ ?_),hk⟩
    ·rw [KH]at hs⊢;exact hs
    ·intro a' w' F' ρ' h1 h2 h3;refine hq a' w' F' ρ' h1 ?_ h3;rw [KH]at h2⊢;exact h2
   ·exact aX
  ·simp only [LA]at h;split at h
   ·rename_i s g' ni x' y' hs hc;have pU:=agP hc eV;injection pU with e1 e2 e3 e4;subst e1;subst e2;subst e3;subst e4;obtain⟨g2,aOq,zz⟩:=aBO hS hs;obtain⟨l,fg,fY⟩:=aOq;have:=eV.det l fg;rw [fY]at this;injection this with this;injection this with e1 e2 e3 e4;have yB:X.site s=⟨(LA (R:=R) X I Ss rounds n f).iq.nt.n,ni,x',y'⟩:=by
     rw [KH];show X.site s=⟨(Bh I f).n,ni,x',y'⟩;rw [<-zz,<-e2,<-e3,<-e4]
    obtain⟨e,bh,h1,h2⟩:=ae4 hX (KG hX hG hI hS n f).iq yB h;refine⟨e,bh,?_,h2⟩;rw [KH]at h1⊢;exact h1
   ·exact aX
  ·simp only [LA]at h;exact aX
def asB(o:Option Bool):Bool:=match o with|some b=>b|none=>false
def kB(x:AV)(_:aV):Option Bool:=match x with| .bool b=>some b|_=>none
def aBD(hX:X.Okb)(hG:FO X)(hI:iQ (λe=>DF X e.1 e.2) I)(hS:iQ (DE X I) Ss){n:Nat}(hf:Ap I f=some fi)
 (h:asB (y6 X (LA X I Ss rounds n f) fi.c fi.rs [] [] kB)=true):lP X f [] [] (.bool true) []:=by
 unfold asB at h;split at h
 ·rename_i b hb;subst h;obtain⟨x,M',h1,h2⟩:=aib hX hI hf (KG hX hG hI hS n f) hb;unfold kB at h2;split at h2
  ·injection h2 with h2;subst h2;have:=h1.cut hG (x:= .bool true) rfl (by rw [sL,Yv];rfl)
   rwa [sL,Yv]at this
  ·cases h2
 ·cases h
def lP.aFb(hP:Y.P=X.P)(hG:∀g,Y.gh g= .top){f:FuncId}(h:lP Y f [] [] (.bool true) [])(M:aV):lP X f [] M (.bool true) M:=by
 refine⟨by rw [<-hP];exact h.1,λ{w0 S F ρ w vs} hI hr=> ?_⟩;have abD:vs=[]:=Cg (show vs.length=0 from by have:=hr.1;simp only [sL]at this;omega);subst abD;have hi:Inv Y w ⟨λ_=>False,F⟩ F [] [] w:={
  os:=rfl,tape:=rfl,output:=rfl,size:=fk _,frame:=λ_ _ _=>rfl,len:=rfl
  rep:=λid b hd hb _=>CG
  sep:=λid b hd g hb _ _ _=>CG
  iX:=λid id' b b' hd dI g _ hb _ _ _ _ _ _=>CG
  fz:=hI.fz,gh:=λg=>by rw [hG g];exact .top _
  one:=λid hd hh=>by simp at hh
  gk:=λa ha=> .inl ha,fin:=λa ha=>ha}
 have h2:=h.2 hi (vs:=[]) ⟨rfl,λj x v hx=>wT⟩;rw [hP]at h2;refine h2.mono ?_;rintro e w' ⟨v,ρ',F',rfl,dO,hg,hv⟩;have nm:∀g,g<w.heap.size->w'.heap[g]?=w.heap[g]?:=λg cM=>dO.frame g cM (λh=>h);refine⟨v,ρ,F',rfl,?_,⟨hg.hF,λ_ _ h=>h,hg.hb⟩,by cases hv;exact .bool _⟩;exact{
  os:=dO.os.trans hI.os,tape:=dO.tape.trans hI.tape,output:=dO.output.trans hI.output,size:=oh hI.size dO.size
  frame:=λg cM hn=>(nm g (p9 cM hI.size)).trans (hI.frame g cM hn)
  len:=hI.len
  rep:=λid b hd h1 h2=>by
   cases dI:b.iM with
   |true=>exact(hI.rep id b hd h1 h2).O0 (λ_ _ h=>h) hg.hF hg.hw dI
   |false=>exact(hI.rep id b hd h1 h2).mono (λ_ _ h=>h) hg.hF hg.hw (λg dT=>nm g (hI.sep id b hd g h1 dI h2 dT).1)
  sep:=λid b hd g h1 h2 h3 h4=>by
   obtain⟨s1,s2,s3⟩:=hI.sep id b hd g h1 h2 h3 h4;refine⟨p9 s1 dO.size,s2,λa ha=> ?_⟩;rcases dO.gk a ha with h|h|h
   ·exact s3 a h
   ·exact h.elim
   ·intro e;omega
  iX:=hI.iX
  fz:=dO.fz
  gh:=λg=>(hI.gh g).mono (λ_ _ h=>h) hg.hF hg.hw
  one:=hI.one
  gk:=λa ha=>by
   rcases dO.gk a ha with h|h|h
   ·exact hI.gk a h
   ·exact h.elim
   ·exact .inr (.inr (oh hI.size h))
  fin:=λa ha=>hg.hF a (hI.fin a ha)}
def kce{R:Type}(f:FuncId):CE R:=⟨f,λ_ _=>true,λ_ _=>some [],λargs M k=>match args with| []=>k (.bool true) M|_=>none⟩
def aEM{R:Type}(hP:Y.P=X.P)(hG:∀g,Y.gh g= .top){f:FuncId}(h:lP Y f [] [] (.bool true) []):tp X (kce (R:=R) f):=by
 intro args M k r hr;cases args with
 |cons a b=>cases hr
 |nil=>exact⟨_,_,h.aFb hP hG M,hr,λids hi=>dV.refl _ _⟩
end
end Go.aA

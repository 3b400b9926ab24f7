/-
  The engine, part Ad: closed runs: calls, loops and ranges all run in place.
-/
import Derived.Test.YtomkobcipaligaaGreatDoorW1
import Derived.LoopNIn
import Derived.RangeFuncLeaves
import Derived.RangeFuncNested
import Derived.ProofKit
import Derived.OpenShut
import Derived.Carry
import Derived.ChangeArms
set_option linter.all false
set_option linter.deprecated false
set_option maxHeartbeats 4000000
namespace Go.az
def zW{p:Prop}(h:p:=by exact⟨y,h,λM' _ k'=>by unfold pf;simp only [ho];exact hd _ _⟩):p:=h
def akV{p:Prop}(h:p:=by
 rename_i hb;replace h:=di h;obtain⟨e,h⟩:=h;split at h
 ·rename_i h1;exact⟨_,h,λM' hM R' k'=>by have hm:=hM id (by simp [wg]);simp only [eY,uP,hm,hb,h1,e,aP]⟩
 ·rename_i h1;replace h:=di h;obtain⟨e2,h⟩:=h;exact⟨_,h,λM' hM R' k'=>by have hm:=hM id (by simp [wg]);simp only [eY,uP,hm,hb,h1,e,e2,aP]⟩):p:=h
def Ze{p:Prop}(h:p:=by
 rename_i hb;replace h:=di h;obtain⟨e2,h⟩:=h;exact⟨_,h,λM' hM R' k'=>by have hm:=hM id (by simp [mi]);simp only [eY,xx,h1,h2,hm,hb,e,e2,aP]⟩):p:=h
def Qo{p:Prop}(h:p:=by
 rename_i h1 h2;exact⟨_,h,λM' _ R' k'=>by simp only [wL,h1,h2]⟩):p:=h
def akn{p:Prop}(h:p:=by
 obtain⟨y,h,hd⟩:=WG h;exact⟨y,h,λM' hM R' k'=>by unfold xI;have hm:=hM id (by simp [Cj]);simp only [eY,h1,h2,h3,h4,hm,hb,h5,h6,h7,aP];exact hd R' k'⟩):p:=h
def akm{p:Prop}(h:p:=by
 simp only [ho]at h⊢;split at h
 ·rename_i z hz;injection h with h;injection h with h3 h4;subst h3;subst h4;exact⟨rfl,λM2=>by simp only [hz]⟩
 ·cases h):p:=h
def ajH{p:Prop}(h:p:=by
 rename_i hc;simp only [hc]at h;obtain⟨y,h,hd⟩:=aCZ _ _ h;exact⟨y,h,λM' _ k'=>by unfold pf;simp only [ho,hc];exact hd _ _⟩):p:=h
def ajF{p:Prop}(h:p:=by
 replace h:=di h;obtain⟨e1,h⟩:=h;split at h
 ·rename_i cs h3;exact⟨_,h,λR' k'=>by simp only [h1,h2,h3,e1,aP]⟩
 ·cases h):p:=h
def YH{p:Prop}(h:p:=by exact⟨y,h,λM' hM k'=>by unfold pf;simp only [ho];exact hd M' hM _ _⟩):p:=h
def ajy{p:Prop}(h:p:=by
 replace h:=di h;obtain⟨e2,h⟩:=h;exact⟨_,h,λM' _ R' k'=>by simp only [eY,xx,h1,h2,e,e2,aP]⟩):p:=h
def B7{p:Prop}(h:p:=by exact⟨_,h,λR' k'=>rfl⟩):p:=h
def oW{p:Prop}(h:p:=by cases hq):p:=h
def ai6{p:Prop}(h:p:=by
 rename_i h1 h2;obtain⟨b,h,hd⟩:=aBX h;exact⟨_,h,λR' k'=>hd _ _⟩):p:=h
def aiD{p:Prop}(h:p:=by exact⟨_,h,λM' _ R' k'=>by simp only [eY,xx,h1,h2,e,aP]⟩):p:=h
def Yq{p:Prop}(h:p:=by unfold pf;simp only [ho]):p:=h
def aid{p:Prop}(h:p:=by
 rename_i h1 h2;exact⟨_,h,λR' k'=>by simp only [h1,h2]⟩):p:=h
def ahV{p:Prop}(h:p:=by exact⟨_,h,λM' _ k'=>by unfold pf;simp only [ho,hc]⟩):p:=h
def ahu{p:Prop}(h:p:=by exact⟨_,h,λR' k'=>by simp only [h1,h2,h3,e,aP]⟩):p:=h
end Go.az
namespace Go.az
open Go
noncomputable section
variable {X:Cx} {R R':Type} {M M':aW}
variable{i x:AV}{k:AV->Option R}{ps:Array (Nat×Operand)}{ok:Bool}{n:Nat}{o:Oper}{e:Operand->AV}{hi lo:Option AV}{r:R}{T:ia R}{T':ia R'}{t:TypeId}{ids:dI}
def xk(f:(R:Type)->(AV->Option R)->Option R):Prop:=∀{R:Type} {k:AV->Option R} {r:R},f R k=some r->∃y,k y=some r∧∀(R':Type) (k':AV->Option R'),f R' k'=k' y
def aBX{k:Bool->Option R}(h:zY x k=some r):∃b,k b=some r∧∀(R':Type) (k':Bool->Option R'),zY x k'=k' b:=by
 unfold zY at h;split at h
 ·exact B7
 ·exact B7
 ·split at h
  ·exact bh
  ·rename_i he;exact⟨_,h,λR' k'=>by simp only [zY,he]⟩
 ·exact bh
def aC0(op:BinOp)(t:TypeId)(x y:AV):xk λ_ k=>JK X op t x y k:=by
 intro R k r h;simp only [JK]at h⊢;split at h
 ·rename_i kx a ky b;cases op<;>simp only at h⊢<;>first
   |(replace h:=di h;obtain⟨e,h⟩:=h
     first
      |(exact⟨_,h,λR' k'=>by simp only [e,aP]⟩)
      |(replace h:=di h;obtain⟨e2,h⟩:=h
        exact⟨_,h,λR' k'=>by simp only [e,e2,aP]⟩)
      |(cases h))
   |cases h
 ·rename_i a b;split at h
  ·exact aid
  ·exact aid
  ·exact bh
 ·rename_i xs ys;split at h
  ·rename_i fs h1 h2 h3;split at h
   ·exact bh
   ·rename_i bb Sm;split at h
    ·exact⟨_,h,λR' k'=>by simp only [h1,h2,h3,Sm]⟩
    ·exact⟨_,h,λR' k'=>by simp only [h1,h2,h3,Sm]⟩
    ·exact bh
  ·exact bh
 ·split at h
  ·exact ai6
  ·exact ai6
  ·exact bh
 ·exact bh
def aDT(op:UnOp)(x:AV):xk λ_ k=>Ru op x k:=by
 intro R k r h;simp only [Ru]at h⊢;split at h
 ·exact B7
 ·exact B7
 ·exact bh
def aBY(s d:TypeId)(x:AV):xk λ_ k=>Qb X s d x k:=by
 intro R k r h;simp only [Qb]at h⊢;split at h
 ·rename_i h1 h2 h3;exact⟨_,h,λR' k'=>by simp only [h1,h2,h3]⟩
 ·exact bh
def aCY(x:AV):xk λ_ k=>N2 x k:=by
 intro R k r h;simp only [N2]at h⊢;split at h
 ·exact B7
 ·exact B7
 ·exact B7
 ·exact bh
def ayl(t:TypeId)(x:AV)(f:Nat):xk λ_ k=>Ii X t x f k:=by
 intro R k r h;simp only [Ii]at h⊢;split at h
 ·rename_i fs h1 h2;split at h
  ·rename_i off ft h3;replace h:=di h;obtain⟨e,h⟩:=h;split at h
   ·exact ahu
   ·exact ahu
   ·exact bh
  ·exact bh
 ·exact bh
def ago(t:TypeId)(cs:bp)(off:Nat):xk λ_ k=>FB X t cs off k:=by
 intro R k r h;simp only [FB]at h⊢;replace h:=di h;obtain⟨e,h⟩:=h;split at h
 ·rename_i h1;exact⟨_,h,λR' k'=>by simp only [h1,e,aP]⟩
 ·rename_i h1;replace h:=di h;obtain⟨e2,h⟩:=h;exact⟨_,h,λR' k'=>by simp only [h1,e,e2,aP]⟩
def aAR(t:TypeId)(x:AV)(f:Nat):xk λ_ k=>IS X t x f k:=by
 intro R k r h;simp only [IS]at h⊢;split at h
 ·rename_i fs cs h1 h2;split at h
  ·rename_i off ft h3;obtain⟨y,h,hd⟩:=ago _ _ _ h;exact⟨y,h,λR' k'=>hd R' k'⟩
  ·exact bh
 ·exact bh
def aAQ(t:TypeId)(x i:AV):xk λ_ k=>IQ X t x i k:=by
 intro R k r h;simp only [IQ]at h⊢;split at h
 ·rename_i len e cs kk n h1 h2;replace h:=di h;obtain⟨e1,h⟩:=h;obtain⟨y,h,hd⟩:=ago _ _ _ h;exact⟨y,h,λR' k'=>by simp only [h1,h2,e1,aP];exact hd R' k'⟩
 ·rename_i h1 h2;replace h:=di h;obtain⟨e1,h⟩:=h;split at h
  ·exact bh
  ·rename_i b hb;exact⟨_,h,λR' k'=>by simp only [h1,h2,e1,hb,aP]⟩
 ·exact bh
def aAS(t:TypeId)(ps:cV):xk λ_ k=>IT X t ps k:=by
 intro R k r h;simp only [IT]at h⊢;split at h
 ·rename_i fs h1 h2;exact ajF
 ·rename_i n e h1 h2;exact ajF
 ·exact bh
def aCZ(f:Int->Int->Int)(xs:bp):xk λ_ k=>zZ f xs k:=by
 intro R k r h;simp only [zZ]at h⊢;split at h
 ·split at h
  ·rename_i h1;exact⟨_,h,λR' k'=>by simp only [h1]⟩
  ·exact bh
 ·exact bh
def aBu{p:AV}(h:uP X t p M k=some r):∃y,k y=some r∧∀(M':aW),(∀id∈wg p,M'[id]?=M[id]?)->∀(R':Type) (k':AV->Option R'),uP X t p M' k'=k' y:=by
 unfold uP at h;simp only [eY]at h;split at h
 ·replace h:=di h;obtain⟨e,h⟩:=h;split at h
  ·rename_i h1;exact⟨_,h,λM' _ R' k'=>by simp only [eY,uP,h1,e,aP]⟩
  ·rename_i h1;replace h:=di h;obtain⟨e2,h⟩:=h;exact⟨_,h,λM' _ R' k'=>by simp only [eY,uP,h1,e,e2,aP]⟩
 ·rename_i id i off;split at h
  ·exact akV
  ·exact akV
  ·exact bh
 ·exact bh
def axW(h:xx X t x i M k=some r):∃y,k y=some r∧∀(M':aW),(∀id∈mi x,M'[id]?=M[id]?)->∀(R':Type) (k':AV->Option R'),xx X t x i M' k'=k' y:=by
 unfold xx at h;simp only [eY]at h;split at h
 ·split at h
  ·rename_i h1 h2;replace h:=di h;obtain⟨e,h⟩:=h;split at h
   ·exact ajy
   ·rename_i id;split at h
    ·exact Ze
    ·exact Ze
    ·exact bh
   ·exact ajy
   ·rename_i id lo m;split at h
    ·exact Ze
    ·exact bh
   ·exact bh
  ·rename_i h1 h2;replace h:=di h;obtain⟨e,h⟩:=h;split at h
   ·exact aiD
   ·exact aiD
   ·exact bh
  ·exact bh
 ·exact bh
def ad4(h:∀id∈mi x,M'[id]?=M[id]?):rowsOf M' x=rowsOf M x:=by
 cases x<;>simp only [eY,rowsOf]
 ·rename_i id;rw [h id (by simp [mi])]
 ·rename_i id lo m;rw [h id (by simp [mi])]
def azz{e:TypeId}(h1:(X.ti t).ok =true)(h2:(X.ti t).u = .slice e)(hx:∀id m,x≠ .kU id m)(GV:∀id lo m,x≠ .vw id lo m):wL X t x M k=match rowsOf M x with|some (_,xs)=>k (.int .i64 xs.length)|none=>none:=by
 cases x<;>first
  |exact absurd rfl (hx _ _)
  |exact absurd rfl (GV _ _ _)
  |(unfold wL;simp only [h1,h2];rfl)
  |(unfold wL;simp only [h1,h2];generalize rowsOf M _=o;cases o<;>rfl)
def O3(h:wL X t x M k=some r):∃y,k y=some r∧∀(M':aW),(∀id∈mi x,M'[id]?=M[id]?)->∀(R':Type) (k':AV->Option R'),wL X t x M' k'=k' y:=by
 unfold wL at h;split at h
 ·exact Qo
 ·exact Qo
 ·exact Qo
 ·exact Qo
 ·rename_i e h1 h2 fJ aMJ;split at h
  ·rename_i o xs hr;refine⟨_,h,λM' hM R' k'=> ?_⟩;have:=ad4 (M:=M) (M':=M') hM;rw [azz h1 h2 fJ aMJ,this,hr]
  ·exact bh
 ·exact bh
def aAH{mx:Option AV}{k:AV->aW->Option R}(hx:mi x=[])(h:zI X t x lo hi mx M k=some r):
 ∃y,k y M=some r∧∀(M':aW) (R':Type) (k':AV->aW->Option R'),zI X t x lo hi mx M' k'=k' y M':=by
 have gW:∀M',rowsOf M' x=rowsOf M x:=λM'=>ad4 (by rw [hx];simp);unfold zI at h;simp only [eY]at h;split at h
 ·rename_i e h1 h2;split at h
  ·rename_i o xs h3;split at h
   ·rename_i l hh m h4 h5 h6;replace h:=di h;obtain⟨h7,h⟩:=h;split at h
    ·replace h:=di h;obtain⟨h8,h⟩:=h;exact⟨_,h,λM' R' k'=>by unfold zI;simp only [eY,h1,h2,gW M',h3,h4,h5,h6,h7,h8,aP]⟩
    ·exact⟨_,h,λM' R' k'=>by unfold zI;simp only [eY,h1,h2,gW M',h3,h4,h5,h6,h7,aP]⟩
    ·simp [mi]at hx
    ·exact bh
   ·exact bh
  ·exact bh
 ·cases h
def aBt(h:Cd X t x lo hi M k=some r):∃y,k y=some r∧∀(M':aW),(∀id∈mi x,M'[id]?=M[id]?)->∀(R':Type) (k':AV->Option R'),Cd X t x lo hi M' k'=k' y:=by
 unfold Cd at h;simp only [eY]at h;split at h
 ·rename_i id;split at h
  ·rename_i h1 h2;split at h
   ·rename_i hb;split at h
    ·rename_i h3 h4;replace h:=di h;obtain⟨e,h⟩:=h;exact⟨_,h,λM' hM R' k'=>by have hm:=hM id (by simp [mi]);simp only [eY,Cd,h1,h2,hm,hb,h3,h4,e,aP]⟩
    ·exact bh
   ·exact bh
  ·exact bh
 ·exact bh
def WG{et:TypeId}{o:Option AV}(h:wH X et ok k o=some r):∃y,k y=some r∧∀(R':Type) (k':AV->Option R'),wH X et ok k' o=k' y:=
 ⟨_,ae0 h,λR' k'=>by cases o<;>cases ok<;>rfl⟩
def az6(h:xI X t x i ok M k=some r):∃y,k y=some r∧∀(M':aW),(∀id∈Cj x,M'[id]?=M[id]?)->∀(R':Type) (k':AV->Option R'),xI X t x i ok M' k'=k' y:=by
 unfold xI at h;simp only [eY]at h;split at h
 case h_2=>cases h
 rename_i kt et h1 h2;split at h
 case h_2=>cases h
 rename_i kd h3;replace h:=di h;obtain⟨h4,h⟩:=h;cases x<;>simp only at h<;>try (cases h;done)
 case lG=>
  obtain⟨y,h,hd⟩:=WG h;exact⟨y,h,λM' _ R' k'=>by unfold xI;simp only [eY,h1,h2,h3,h4,aP];exact hd R' k'⟩
 case mp id=>
  split at h
  case h_2=>cases h
  rename_i vG ag ks es hb;replace h:=di h;obtain⟨h5,h⟩:=h;split at h
  ·rename_i h6;split at h
   ·rename_i y' h7;exact akn
   ·rename_i h7;exact akn
  ·rename_i h6;rw [Og]at h;obtain⟨y,h,hd⟩:=WG h;exact⟨y,h,λM' hM R' k'=>by unfold xI;have hm:=hM id (by simp [Cj]);simp only [eY,h1,h2,h3,h4,hm,hb,h5,h6,aP,Og];exact hd R' k'⟩
def xG(X:Cx)(e:Operand->AV)(o:Oper):Option dI:=
 match o.op with
 | .move _=>some []
 | .assign _=>some []
 | .pick _ _ _=>some []
 | .binOp _ _ _ _ _=>some []
 | .unOp _ _ _=>some []
 | .convert s d _=>(match Ga X s d with|true=>none|false=>some [])
 | .fieldAddr _ _ _=>some []
 | .field _ _ _=>some []
 | .index _ _ _=>some []
 | .extract _ _=>some []
 | .makeFunc _ _ _=>some []
 | .nilCheck _=>some []
 | .build _ _=>some []
 | .load _ x=>some (wg (e x))
 | .indexAddr _ x _=>some (mi (e x))
 | .slice _ x _ _ mx=>match ZG X o (e x) mx with|true=>some (mi (e x))|false=>match mi (e x)with| []=>some []|_=>none
 | .call c=>
   match c.callee with
   | .builtin .len =>some (c.args.toList.flatMap λx=>mi (e x))
   | .builtin .min =>some []
   | .builtin .max =>some []
   |_=>none
 | .lookup _ x _ _=>some (Cj (e x))
 |_=>none
def azn{k:AV->aW->Option R}(hq:xG X e o=some ids)(h:pf X T e o M k=some r):
 ∃y,k y M=some r∧∀(M':aW),(∀id∈ids,M'[id]?=M[id]?)->∀(k':AV->aW->Option R'),pf X T' e o M' k'=k' y M':=by
 unfold xG at hq;unfold pf at h;split at hq
 all_goals (rename_i ho;simp only [ho]at h)
 ·exact⟨_,h,λM' _ k'=>Yq⟩
 ·exact⟨_,h,λM' _ k'=>Yq⟩
 ·split at h
  ·rename_i t hc;split at h
   ·exact ahV
   ·exact ahV
  ·exact bh
 ·obtain⟨y,h,hd⟩:=aC0 (X:=X) _ _ _ _ h;exact zW
 ·obtain⟨y,h,hd⟩:=aDT _ _ h;exact zW
 ·split at hq
  ·exact oW
  obtain⟨y,h,hd⟩:=aBY (X:=X) _ _ _ h;exact zW
 ·obtain⟨y,h,hd⟩:=ayl (X:=X) _ _ _ h;exact zW
 ·obtain⟨y,h,hd⟩:=aAR (X:=X) _ _ _ h;exact zW
 ·obtain⟨y,h,hd⟩:=aAQ (X:=X) _ _ _ h;exact zW
 ·split at h
  ·rename_i vs hv;split at h
   ·rename_i y hy;exact⟨_,h,λM' _ k'=>by unfold pf;simp only [ho,hv,hy]⟩
   ·exact bh
  ·exact bh
 ·rename_i fn first fG
  cases fn with
  |func f=>exact⟨_,h,λM' _ k'=>Yq⟩
  |_=>exact bh
 ·obtain⟨y,h,hd⟩:=aCY _ h;exact zW
 ·obtain⟨y,h,hd⟩:=aAS (X:=X) _ _ h;exact zW
 ·injection hq with hq;subst hq;obtain⟨y,h,hd⟩:=aBu h;exact YH
 ·injection hq with hq;subst hq;obtain⟨y,h,hd⟩:=axW h;exact YH
 ·split at hq
  ·rename_i y0;simp only [y0]at h;injection hq with hq;subst hq;obtain⟨y,h,hd⟩:=aBt h;exact⟨y,h,λM' hM k'=>by unfold pf;simp only [ho,y0];exact hd M' hM _ _⟩
  ·rename_i y0;simp only [y0]at h;split at hq
   ·rename_i hx;obtain⟨y,h,hd⟩:=aAH hx h;exact⟨y,h,λM' hM k'=>by unfold pf;simp only [ho,y0];exact hd M' _ _⟩
   ·exact oW
 ·rename_i c;split at hq
  ·rename_i hc;simp only [hc]at h;injection hq with hq;subst hq;split at h
   ·rename_i t x ht hx;obtain⟨y,h,hd⟩:=O3 h;refine⟨y,h,λM' hM k'=> ?_⟩;unfold pf;simp only [ho,hc,ht,hx];exact hd M' (λid bA=>hM id (by rw [hx];simpa using bA)) _ _
   ·exact bh
  ·exact ajH
  ·exact ajH
  ·exact oW
 ·injection hq with hq;subst hq;obtain⟨y,h,hd⟩:=az6 h;exact YH
 ·cases hq
def aAs{M1:aW}(hi:KP X e o=true)(hq:xG X e o=some ids)(h:Gy X e o M=some (x,M1)):M1=M∧∀M2,Gy X e o M2=some (x,M2):=by
 unfold KP at hi;unfold xG at hq;unfold Gy at h⊢;split at hi
 ·rename_i op t a b u ho;exact akm
 ·rename_i s d a ho;simp only [ho,hi]at hq;exact oW
 ·rename_i t a lo hi2 mx ho;exact akm
 ·rename_i c ho;simp only [ho]at hq;split at hi
  ·rename_i hc;simp only [hc]at hq;cases hq
  ·rename_i hc;simp only [hc]at hq;cases hq
  ·rename_i f hc;simp only [hc]at hq;cases hq
  ·cases hi
 ·cases hi
def azm{k:AV->aW->Option R}(hq:xG X e o=some ids)(h:wK X T e o M k=some r):
 ∃y,k y M=some r∧∀(M':aW),(∀id∈ids,M'[id]?=M[id]?)->∀(k':AV->aW->Option R'),wK X T' e o M' k'=k' y M':=by
 unfold wK at h;split at h
 ·rename_i hi;split at h
  ·rename_i x M1 hx;rw [YR]at h;obtain⟨h1,h2⟩:=aAs hi hq hx;subst h1;exact⟨x,h,λM' _ k'=>by unfold wK;simp only [hi,h2 M',YR]⟩
  ·exact bh
 ·rename_i hi;obtain⟨y,h1,h2⟩:=azn (T':=T') hq h;exact⟨y,h1,λM' hM k'=>by unfold wK;simp only [hi];exact h2 M' hM k'⟩
def az4{k:AV->aW->Option R}(hq:xG X e o=some ids)(h:rC X T e o M k=some r):
 ∃y,k y M=some r∧∀(M':aW),(∀id∈ids,M'[id]?=M[id]?)->∀(k':AV->aW->Option R'),rC X T' e o M' k'=k' y M':=by
 rw [XJ]at h;obtain⟨y,h1,h2⟩:=azm (T':=T') hq h;exact⟨y,h1,λM' hM k'=>by rw [XJ];exact h2 M' hM k'⟩
def JX(R:Type):ia R:=⟨⟨0,0⟩,λ_ _ _=>none,λ_ _ _ _=>none,λ_ _ _ _=>none⟩
def agy(X:Cx)(R:Type):(JX R).nX X:=⟨λh=>by simp [JX]at h,λh=>by simp [JX]at h⟩
def aeU(hX:X.Okb){k:AV->aW->Option R}(hq:xG X e o=some ids)(h:rC X T e o M k=some r):
 ∃y,k y M=some r∧∀(M':aW),(∀id∈ids,M'[id]?=M[id]?)->fF X o e M' y M':=by
 obtain⟨y,h1,h2⟩:=az4 (T':=JX (AV×aW)) hq h;refine⟨y,h1,λM' hM=> ?_⟩;obtain⟨x,M1,h3,h4,_⟩:=Ip hX (agy X _) (h2 M' hM λx M=>some (x,M));injection h4 with h4;injection h4 with h4 h5;subst h4;subst h5;exact h3
def Ju:List Oper->Nat
 | []=>0
 |o::os=>match o.op with
  | .buildSlice _ _ _=>Ju os+1
  | .call c=>(match c.callee with| .value _=>Ju os+1|_=>Ju os)
  |_=>Ju os
def Qr(X:Cx)(ops:Array Oper)(e:Operand->AV)(o:Oper):Option (TypeId×Nat×Array (Nat×Operand)):=
 match o.op with
 | .buildSlice t n ps=>
   match(Nat.blt 1 (Ju ops.toList)&&Nat.blt 0 n)&&ps.toList.all λp=>aER (e p.2)with
   |true=>some (t,n,ps)
   |false=>none
 |_=>none
def aeZ{ops:Array Oper}(h:Qr X ops e o=some (t,n,ps)):o.op= .buildSlice t n ps:=by
 unfold Qr at h;split at h
 ·rename_i ho;split at h
  ·injection h with h;injection h with h1 h;injection h with h2 h3;subst h1;subst h2;subst h3;exact ho
  ·exact bh
 ·exact bh
def afl(hX:X.Okb)(ho:o.op= .buildSlice t n ps)(h:BA X t n (ps.toList.map λp=>(p.1,e p.2)) k=some r):
 ∃y,k y=some r∧∀(M':aW),fF X o e M' y M':=by
 obtain⟨y,h1,_,hd⟩:=atL hX h;refine⟨y,h1,λM'=>fF.tO (s:=λρe=>Instr.buildSlice t n (ps.map λ(i,x)=>(i,ρe x))) (gj) (λρe=>jQ) (λ{w0 S F ρ w ρe} hI hr=> ?_)⟩;have:=hd (ps.toList.map λp=>(p.1,ρe p.2)) hI (by simp) (λj p q hp hq=>by
  rw [iH]at hp hq;cases hj:ps.toList[j]? with
  |none=>exact I2
  |some z=>
   rw [hj]at hp hq;simp only [kz,Option.some.injEq]at hp hq;subst hp;subst hq;exact⟨rfl,hr z.2⟩)
 have e1:(ps.map λ(i,x)=>(i,ρe x))=(ps.toList.map λp=>(p.1,ρe p.2)).toArray :=uV;rw [e1];exact this
end
end Go.az
namespace Go.az
def zT{p:Prop}(h:p:=by have:=each (j:=0) rfl;cases this):p:=h
def B6{p:Prop}(h:p:=by simpa using hi):p:=h
def aiW{p:Prop}(h:p:=by
 have:=jN.1 ja i hi;rw [bS]at this;simpa using this.1):p:=h
def aik{p:Prop}(h:p:=by
 have:=jN.1 hk _ (dO hj);rw [e]at this;cases this):p:=h
end Go.az
namespace Go.az
def BZ:=@List.nodup_cons
def fL:=@List.mem_cons_self
def iq:=@List.mem_cons_of_mem
end Go.az
namespace Go.az
open Go
noncomputable section
variable {X:Cx} {R:Type}
variable{ρ':bY}
def gw(f:Nat->Option Nat):Nat->AV->AV
 |0,_=> .top
 |n+1,x=>
  match x with
  | .aA id=>match f id with|some j=> .aA j|none=> .top
  | .ptr id i off=>match f id with|some j=> .ptr j i off|none=> .top
  | .ik id=>match f id with|some j=> .ik j|none=> .top
  | .mp id=>match f id with|some j=> .mp j|none=> .top
  | .kU id m=>match f id with|some j=> .kU j m|none=> .top
  | .vw id lo m=>match f id with|some j=> .vw j lo m|none=> .top
  | .agg cs=> .agg (cs.map (gw f n))
  | .ep cs=> .ep (cs.map (gw f n))
  | .du g first fG=> .du g (first.map (gw f n)) (fG.map (gw f n))
  |x=>x
def Ren(f:Nat->Option Nat)(ρ ρ':bY):Prop:=∀(id j:Nat) hd,f id=some j->ρ[id]?=some hd->ρ'[j]?=some hd
def aY.gw{K:TypeId->dZ}(hK:∀t,∀k∈K t,k≠ .any){f:Nat->Option Nat}{ρ ρ':bY}(hf:Ren f ρ ρ'){F:bT}{w:World}:∀(n:Nat) {x:AV} {v:Value},aY K ρ F w x v->aY K ρ' F w (gw f n x) v
 |0,_,v,_=> .top v
 |n+1,x,v,h=>by
  have ih:=λ{x:AV} {v:Value} (h:aY K ρ F w x v)=>aY.gw hK hf n h;have RX:∀{xs:bp} {vs:fA},(∀(j:Nat) x v,xs[j]?=some x->vs[j]?=some v->aY K ρ F w x v)->∀(j:Nat) x v,(xs.map (az.gw f n))[j]?=some x->vs[j]?=some v->aY K ρ' F w x v:=by
   intro xs vs h j x v hx hv;rw [iH]at hx;cases hj:xs[j]? with
   |none=>rw [hj]at hx;cases hx
   |some y=>
    rw [hj]at hx;simp only [kz,Option.some.injEq]at hx;subst hx;exact ih (h j y v hj hv)
  cases h with
  |top v=>exact .top v
  |int k n=>exact .int k n
  |bool b=>exact .bool b
  |str s=>exact .str s
  |agg cs vs hl h=>exact .agg _ vs (oZ) (RX h)
  |ep cs vs hl h=>exact .ep _ vs (oZ) (RX h)
  |iw=>exact .iw
  |ij t row off a vs hk hl hc h=>exact(aY.ij (ρ:=ρ) t row off a vs hk hl hc h).pure hK rfl
  |ptr id i off hd g o m c bA hv=>
   simp only [az.gw];split
   ·rename_i j hj;exact .ptr j i off hd g o m c (hf id j hd hj bA) hv
   ·exact .top _
  |kj t=>exact .kj t
  |ab t xs a cap vss hl lj jT hk hc h=>exact(aY.ab (ρ:=ρ) t xs a cap vss hl lj jT hk hc h).pure hK rfl
  |aA id hd bA=>
   simp only [az.gw];split
   ·rename_i j hj;exact .aA j hd (hf id j hd hj bA)
   ·exact .top _
  |gE=>exact .gE
  |du g first fG vf vc h1 h2 h3 h4=>exact .du g _ _ vf vc (sl) (pU) (RX h3) (RX h4)
  |jP=>exact .jP
  |ik id hd g bA hv=>
   simp only [az.gw];split
   ·rename_i j hj;exact .ik j hd g (hf id j hd hj bA) hv
   ·exact .top _
  |mp id hd bA=>
   simp only [az.gw];split
   ·rename_i j hj;exact .mp j hd (hf id j hd hj bA)
   ·exact .top _
  |lG=>exact .lG
  |kU id m hd g o n' c cap bA hv=>
   simp only [az.gw];split
   ·rename_i j hj;exact .kU j m hd g o n' c cap (hf id j hd hj bA) hv
   ·exact .top _
  |vw id lo m hd g o n' c cap bA hv hc hb=>
   simp only [az.gw];split
   ·rename_i j hj;exact .vw j lo m hd g o n' c cap (hf id j hd hj bA) hv hc hb
   ·exact .top _
  |sK id lo=>
   simp only [az.gw];split
   ·exact .sK _ lo
   ·exact .top _
  |sJ id lo a cap=>
   simp only [az.gw];split
   ·exact .sJ _ lo a cap
   ·exact .top _
  |jF a cap=>exact .jF a cap
def dt.gw{K:TypeId->dZ}(hK:∀t,∀k∈K t,k≠ .any){f:Nat->Option Nat}{ρ ρ':bY}(hf:Ren f ρ ρ'){F:bT}{w:World}(n:Nat){xs:bp}{vs:fA}(h:dt K ρ F w xs vs):dt K ρ' F w (xs.map (az.gw f n)) vs:=by
 refine⟨by simpa using h.1,λj x v hx hv=> ?_⟩;rw [iH]at hx;cases hj:xs[j]? with
 |none=>rw [hj]at hx;cases hx
 |some y=>
  rw [hj]at hx;simp only [kz,Option.some.injEq]at hx;subst hx;exact(h.2 j y v hj hv).gw hK hf n
def CF(f:Nat->Option Nat)(n:Nat)(env:cV):cV:=env.map λp=>(p.1,gw f n p.2)
def afj(f:Nat->Option Nat)(n:Nat):∀(env:cV) (t:Nat),look (CF f n env) t=gw f n (look env t)∨look (CF f n env) t= .top
 | [],t=> .inr rfl
 |(u,x)::env,t=>by
  unfold CF;simp only [nf,pN,look_nil]
  by_cases ht:t=u
  ·subst ht;simp
  ·have:(t==u)=false:=by simpa using ht
   simp only [this,lg,ng];exact afj f n env t
def iU.gw(hX:X.Ok){f:Nat->Option Nat}{ρ ρ':bY}(hf:Ren f ρ ρ'){F:bT}{w:World}(n:Nat){env:cV}{tmps:Array Value}(h:iU X ρ F w env tmps):iU X ρ' F w (CF f n env) tmps:=by
 intro t;rcases afj f n env t with e|e
 ·rw [e];exact(h t).gw hX.kinds hf n
 ·rw [e];exact .top _
def Kind.fix:Kind->Bool| .any =>false|_=>true
def sA(f:Nat->Option Nat):ed->ed
 | .var ks cs=>match ks.all Kind.fix with|true=> .var ks cs|false=> .var ks (cs.map (gw f 4))
 | .loop s env b p=> .loop s (CF f 4 env) b p
 | .map kd ag ks es=>match ks.all Kind.fix with|true=> .map kd ag ks es|false=> .map kd ag ks (es.map λe=>(e.1,gw f 4 e.2))
 |b=>b
def xW(f:Nat->Option Nat):ed->Bool
 | .var ks cs=>match ks.all Kind.fix with|true=>true|false=>dk ks (cs.map (gw f 4))
 | .map _ ag ks es=>match ks.all Kind.fix with|true=>true|false=>es.all λe=>dk ks (gw f 4 e.2).cells &&(gw f 4 e.2).shape ag
 |_=>true
def ET(f:Nat->Option Nat)(b:ed):(sA f b).iB =b.iB:=by
 cases b<;>simp only [sA]<;>first|rfl|(split<;>rfl)
def aY.fix{K:TypeId->dZ}(hK:∀t,∀k∈K t,k≠ .any){ρ ρ':bY}{F:bT}{w:World}{ks:dZ}(hk:ks.all Kind.fix=true){x:AV}{v:Value}(hx:dk ks x.cells=true)(h:aY K ρ F w x v):aY K ρ' F w x v:=by
 have each:∀{j:Nat} {y:AV},x.cells[j]?=some y->y.pure=true:=λ{j y} hy=>by
  have hl:=iG hx;have hj:j<ks.length:=Yt;refine Ia (λe=> ?_) (tF hx (dz hj) hy);exact aik
 cases h with
 |agg cs vs hl hr=>exact .agg cs vs hl λj y u hy hu=>(hr j y u hy hu).pure hK (each hy)
 |top v=>have:=each (j:=0) (y:= .top) rfl;cases this
 |ep cs vs hl hr=>have:=each (j:=0) (y:= .ep cs) rfl;cases this
 |int k n=>exact .int k n
 |bool b=>exact .bool b
 |str s=>exact .str s
 |iw=>exact .iw
 |ij t row off a vs oL hl hc hr=>exact aY.pure hK (.ij t row off a vs oL hl hc hr) (each (j:=0) rfl)
 |kj t=>exact .kj t
 |ab t xs a cap vss hl lj jT oL hc hr=>exact aY.pure hK (.ab t xs a cap vss hl lj jT oL hc hr) (each (j:=0) rfl)
 |gE=>exact .gE
 |du f first fG vf vc hf hc h1 h2=>exact aY.pure hK (.du f first fG vf vc hf hc h1 h2) (each (j:=0) rfl)
 |jP=>exact .jP
 |lG=>exact .lG
 |ptr id i off hd g o n c bA hv=>exact zT
 |aA id hd bA=>exact zT
 |ik id hd g bA hv=>exact zT
 |kU id m hd g o n c cap bA hv=>exact zT
 |vw id lo m hd g o n c cap bA hv hc hb=>exact zT
 |sK id lo=>exact zT
 |sJ id lo a cap=>exact zT
 |jF a cap=>exact .jF a cap
 |mp id hd bA=>exact zT
def aea{kd:Kind}(nu:kd≠ .any){x:AV}(h:iA kd x=true):x.pure=true:=Ia nu h
def jV.gw(hX:X.Ok){f:Nat->Option Nat}{ρ ρ':bY}(hf:Ren f ρ ρ'){F:bT}{w:World}{hd:Hd}{b:ed}(bB:xW f b=true)(h:jV X ρ F w hd b):jV X ρ' F w hd (sA f b):=by
 cases b with
 |var ks cs=>
  obtain⟨h1,h2,g,cur,e,hv,hh,hr,hy⟩:=h;simp only [sA];simp only [xW]at bB;split
  ·rename_i hk;refine⟨h1,h2,g,cur,e,hv,hh,⟨hr.1,λj x v hx hv=>(hr.2 j x v hx hv).pure hX.kinds ?_⟩,hy⟩;have hl:=iG h1;have hj:j<ks.length:=PS;refine Ia (λe=> ?_) (tF h1 (dz hj) hx);exact aik
  ·rename_i hk;rw [hk]at bB;exact⟨bB,pU,g,cur,e,hv,hh,hr.gw hX.kinds hf 4,hy⟩
 |row t xs=>
  obtain⟨h1,h2,h3⟩:=h;refine⟨h1,h2,?_⟩;rcases h3 with h3|⟨g,o,c,cur,hv,hh,h4,h5,h6,h7⟩
  ·exact .inl h3
  ·refine .inr ⟨g,o,c,cur,hv,hh,h4,h5,h6,λi row hi j x hx=> ?_⟩;obtain⟨v,kr,hr⟩:=h7 i row hi j x hx;refine⟨v,kr,hr.pure hX.kinds ?_⟩;have hk:=h2 i row hi;have hl:=iG hk;have hj:j<(X.K t).length :=PS;exact Ia (hX.kinds t _ (dO hj)) (tF hk (dz hj) hx)
 |map kd ag ks es=>
  obtain⟨nu,g,mes,clock,hv,hh,ei,uw⟩:=h;simp only [sA];simp only [xW]at bB;split
  ·rename_i hk;exact⟨nu,g,mes,clock,hv,hh,ei,λi e me he hm=>let⟨a,r1,r2⟩:=uw i e me he hm;⟨a,r1.pure hX.kinds (aea nu a.1),r2.fix hX.kinds hk a.2.1⟩⟩
  ·rename_i hk;rw [hk]at bB;refine⟨nu,g,mes,clock,hv,hh,Jc,λi e me he hm=> ?_⟩;rw [iH]at he;cases hi:es[i]? with
   |none=>rw [hi]at he;cases he
   |some e0=>
    rw [hi]at he;simp only [kz,Option.some.injEq]at he;subst he;obtain⟨a,r1,r2⟩:=uw i e0 me hi hm;have:=jN.1 bB e0 (mD hi);rw [bS]at this;exact⟨⟨a.1,this.1,this.2⟩,r1.pure hX.kinds (aea nu a.1),r2.gw hX.kinds hf 4⟩
 |loop s env busy wQ=>
  obtain⟨g,lp,hv,hh,h1,h2,h3,h4,h5,h6⟩:=h;exact⟨g,lp,hv,hh,h1,h2,h3,h4,h5.gw hX hf 4,h6⟩
 |G9=>exact h
 |eN t xs=>exact aY.pure hX.kinds h rfl
 |dead=>trivial
def idx:dI->Nat->Option Nat
 | [],_=>none
 |i::is,id=>if id==i then some 0 else(idx is id).map (·+1)
def agX:∀{bN:dI} {id j:Nat},idx bN id=some j->bN[j]?=some id
 | [],id,j,h=>by simp [idx]at h
 |i::is,id,j,h=>by
  simp only [idx]at h;split at h
  ·rename_i hi;injection h with h;subst h;simpa using Eq.symm (B6)
  ·cases hx:idx is id with
   |none=>rw [hx]at h;cases h
   |some m=>
    rw [hx]at h;simp only [kz,Option.some.injEq]at h;subst h;simpa using agX hx
def nJ(m:Nat)(bN:dI)(n:Nat)(j:Nat):Option Nat:=match Nat.blt j m with|true=>bN[j]?|false=>some (n+(j- m))
def sub(d:Hd)(ρ:bY)(bN:dI):bY:=bN.map λi=>ρ.getD i d
def pX(M:aW)(bN:dI):aW:=bN.map λi=>sA (idx bN) (M.getD i .dead)
def uQ(M:aW)(bN:dI):Bool:=distinct bN&&bN.all λi=>Nat.blt i M.length&&xW (idx bN) (M.getD i .dead)
where distinct:dI->Bool
 | []=>true
 |i::is=> !is.contains i&&distinct is
def T8:∀{bN:dI},uQ.distinct bN=true->bN.Nodup
 | [],_=> .nil
 |i::is,h=>by
  simp only [uQ.distinct,bS]at h;exact BZ.2 ⟨by simpa using h.1,T8 h.2⟩
def sC:aW->dI->aW->aW
 |M,i::is,b::bs=>sC (M.set i b) is bs
 |M,_,_=>M
def EC:∀(bN:dI) (bs M:aW),(sC M bN bs).length =M.length
 | [],_,_=>by simp [sC]
 |_::_,[],_=>by simp [sC]
 |i::is,b::bs,M=>by simp only [sC];rw [EC is bs];simp
def OH:∀(bN:dI) (bs M:aW) {id:Nat},id∉bN->(sC M bN bs)[id]?=M[id]?
 | [],_,_,_,_=>by simp [sC]
 |_::_,[],_,_,_=>by simp [sC]
 |i::is,b::bs,M,id,h=>by
  simp only [sC];rw [OH is bs _ (λh'=>h (iq _ h')),kh (λe=>h (by rw [e];exact fL))]
def Xm:∀(bN:dI) (bs M:aW),bN.Nodup->(∀i∈bN,i<M.length)->∀{j i:Nat} {b:ed},bN[j]?=some i->bs[j]?=some b->(sC M bN bs)[i]?=some b
 | [],_,_,_,_,j,i,b,h,_=>gM
 |_::_,[],_,_,_,j,i,b,_,h=>gM
 |i0::is,b0::bs,M,hn,hl,j,i,b,hi,hb=>by
  simp only [sC];rw [BZ]at hn;cases j with
  |zero=>
   simp at hi hb;subst hi;subst hb;rw [OH is bs _ hn.1,qu (hl i0 fL)]
  |succ j=>
   simp at hi hb;exact Xm is bs _ hn.2 (λk hk=>by simpa using hl k (iq _ hk)) hi hb
def merge(m:Nat)(M:aW)(bN:dI)(Mc:aW):aW:=sC M bN ((Mc.take m).map (sA (nJ m bN M.length))++List.replicate (bN.length- m) .dead)++(Mc.drop m).map (sA (nJ m bN M.length))
def Ff(m:Nat)(M:aW)(bN:dI)(Mc:aW):Bool:=Nat.ble m bN.length&&Nat.ble m Mc.length&&Mc.all (xW (nJ m bN M.length))
structure qz(m:Nat)(F F':bT)(ρ ρ':bY)(w w':World):Prop where
 hF:∀a,F a->F' a
 gG:∀(id:Nat) hd,id<m->ρ[id]?=some hd->ρ'[id]?=some hd
 hb:∀a,F a->w'.heap[a.block]?=w.heap[a.block]?
def Grow.toF{F F':bT}{ρ:bY}{w w':World}(h:Grow F F' ρ ρ' w w')(m:Nat):qz m F F' ρ ρ' w w':=⟨h.hF,λid hd _ hh=>h.gG id hd hh,h.hb⟩
def qz.hw{m:Nat}{F F':bT}{ρ:bY}{w w':World}(h:qz m F F' ρ ρ' w w'):∀a v,F a->w.cell? a=some v->w'.cell? a=some v:=λa _ ha hc=>aeJ (h.hb a ha) hc
section
variable {w0 w w':World} {S:Sc} {F F':bT} {ρ pg:bY} {M ot:aW} {bN:dI}
def hand(ρ:bY)(M:aW)(bN:dI)(F:bT):Sc:=⟨λg=>∃i∈bN,∃b hd,M[i]?=some b∧b.iB=false∧ρ[i]?=some hd∧hd.eC=some g,F⟩
def OZ{d:Hd}{j i:Nat}(h:bN[j]?=some i)(hi:i<ρ.length):(sub d ρ bN)[j]?=ρ[i]?:=by
 simp only [sub,iH,h,kz,List.getD,dz hi,oR]
def agD(cF:∀i∈bN,i<ρ.length)(d:Hd):Ren (idx bN) ρ (sub d ρ bN):=by
 intro id j hd hj hh;have:=agX hj;rw [OZ this (cF _ (mD this)),hh]
def Inv.alz(hX:X.Ok)(hI:Inv X w0 S F ρ M w)(bB:uQ M bN=true)(d:Hd):Inv X w0 S F (az.sub d ρ bN) (pX M bN) w∧Inv X w (hand ρ M bN F) F (az.sub d ρ bN) (pX M bN) w:=by
 unfold uQ at bB;rw [bS]at bB;obtain⟨aax,ja⟩:=bB;have AW:=T8 aax;have cF:∀i∈bN,i<M.length:=λi hi=>aiW;have kp:∀i∈bN,xW (idx bN) (M.getD i .dead)=true:=λi hi=>by
  have:=jN.1 ja i hi;rw [bS]at this;exact this.2
 have ak2:∀i∈bN,i<ρ.length:=λi hi=>by rw [hI.len];exact cF i hi
 have back:∀{j:Nat} {c:ed},(pX M bN)[j]?=some c->∃i b,bN[j]?=some i∧M[i]?=some b∧c=sA (idx bN) b∧xW (idx bN) b=true:=by
  intro j c hc;simp only [pX,iH]at hc;cases hj:bN[j]? with
  |none=>rw [hj]at hc;cases hc
  |some i=>
   rw [hj]at hc;have hi:=cF i (mD hj);simp only [kz,Option.some.injEq,List.getD,dz hi,oR]at hc;have h2:=kp i (mD hj);simp only [List.getD,dz hi,oR]at h2;exact⟨i,M[i],rfl,dz hi,hc.symm,h2⟩
 have Js:∀{j:Nat} {h:Hd},(az.sub d ρ bN)[j]?=some h->∃i,bN[j]?=some i∧ρ[i]?=some h:=by
  intro j h hh;cases hj:bN[j]? with
  |none=>simp only [az.sub,iH,hj]at hh;cases hh
  |some i=>rw [OZ hj (ak2 i (mD hj))]at hh;exact⟨i,rfl,hh⟩
 have h1:∀(id:Nat) b hd,(pX M bN)[id]?=some b->(az.sub d ρ bN)[id]?=some hd->jV X (az.sub d ρ bN) F w hd b:=by
  intro j c h hc hh;obtain⟨i,b,h1,h2,rfl,h3⟩:=back hc;obtain⟨i',qU,h4⟩:=Js hh;rw [h1]at qU;injection qU with qU;subst qU;exact(hI.rep i b h h2 h4).gw hX (agD ak2 d) h3
 have h2:∀(j:Nat) c h g,(pX M bN)[j]?=some c->c.iB=false->(az.sub d ρ bN)[j]?=some h->h.eC=some g->(g<w.heap.size∧(S g∨w0.heap.size<=g)∧∀a,F a->a.block≠g)∧(hand ρ M bN F) g:=by
  intro j c h g hc eK hh dQ;obtain⟨i,b,h1,h2,rfl,h3⟩:=back hc;obtain⟨i',qU,h4⟩:=Js hh;rw [h1]at qU;injection qU with qU;subst qU;rw [ET]at eK;exact⟨hI.sep i b h g h2 eK h4 dQ,i,mD h1,b,h,h2,eK,h4,dQ⟩
 have h3:∀(j j':Nat) c c' h h' g,j≠j'->(pX M bN)[j]?=some c->(pX M bN)[j']?=some c'->c.iB=false->c'.iB=false->(az.sub d ρ bN)[j]?=some h->(az.sub d ρ bN)[j']?=some h'->h.eC=some g->h'.eC≠some g:=by
  intro j j' c c' h h' g eD hc zf eK od hh eo dQ;obtain⟨i,b,h1,h2,rfl,h3⟩:=back hc;obtain⟨i',b',qU,h2',rfl,A2⟩:=back zf;obtain⟨i2,e1,h4⟩:=Js hh;obtain⟨i2',e2,h4'⟩:=Js eo;rw [h1]at e1;injection e1 with e1;subst e1;rw [qU]at e2;injection e2 with e2;subst e2;rw [ET]at eK od;refine hI.iN i i' b b' h h' g (λe=>eD ?_) h2 h2' eK od h4 h4' dQ;subst e;have l1:=(eU.1 h1).1;have l2:=(eU.1 qU).1;exact(List.getElem?_inj l1 AW).1 (h1.trans qU.symm)
 have h4:∀(id:Nat) hd,(az.sub d ρ bN)[id]?=some hd->hd.v.oneCell'=true:=by
  intro j h hh;obtain⟨i,_,h4⟩:=Js hh;exact hI.one i h h4
 have h5:∀g,aY X.K (az.sub d ρ bN) F w (X.fT g) (.pointer (some ⟨g,0,none⟩)):=λg=>(hI.fT g).aA2 hX.kinds (hX.fT g);have h6:(az.sub d ρ bN).length =(pX M bN).length :=by simp [az.sub,pX]
 exact⟨⟨hI.os,hI.tape,hI.output,hI.size,hI.frame,h6,h1,λj c h g p1 p2 p3 p4=>(h2 j c h g p1 p2 p3 p4).1,h3,hI.fz,h5,h4,hI.fV,hI.fin⟩,
  ⟨rfl,rfl,rfl,gz _,λ_ _ _=>rfl,h6,h1,λj c h g p1 p2 p3 p4=>⟨(h2 j c h g p1 p2 p3 p4).1.1,.inl (h2 j c h g p1 p2 p3 p4).2,(h2 j c h g p1 p2 p3 p4).1.2.2⟩,h3,hI.fz,h5,h4,λa ha=> .inl ha,λa ha=>ha⟩⟩
def Inv.sub(hX:X.Ok)(hI:Inv X w0 S F ρ M w)(bB:uQ M bN=true)(d:Hd):Inv X w (hand ρ M bN F) F (az.sub d ρ bN) (pX M bN) w:=(hI.alz hX bB d).2
end
end
end Go.az
namespace Go.az
def PB{p:Prop}(h:p:=by simp [ed.iB]):p:=h
end Go.az
namespace Go.az
def afM:=@Bool.eq_false_iff
end Go.az
namespace Go.az
open Go
noncomputable section
variable {X:Cx} {R:Type}
variable {w0 w w':World} {S:Sc} {F F':bT} {ρ pg:bY} {M ot:aW} {bN:dI} {m:Nat}
structure XA(M:aW)(bN:dI):Prop where
 nd:bN.Nodup
 lt:∀i∈bN,i<M.length
def afd(bB:uQ M bN=true):XA M bN:=by
 unfold uQ at bB;rw [bS]at bB;obtain⟨aax,ja⟩:=bB;refine⟨T8 aax,λi hi=> ?_⟩;exact aiW
def ad7:(merge m M bN ot).length =M.length+(ot.length- m):=by
 simp [merge,EC]
def Iu(hs:XA M bN)(hm:Ff m M bN ot=true){id:Nat}{b:ed}(h:(merge m M bN ot)[id]?=some b):
 (id∉bN∧id<M.length∧M[id]?=some b)∨b= .dead ∨∃j c,nJ m bN M.length j=some id∧ot[j]?=some c∧b=sA (nJ m bN M.length) c∧xW (nJ m bN M.length) c=true:=by
 unfold Ff at hm;rw [bS,bS]at hm;obtain⟨⟨K8,hle⟩,ja⟩:=hm;have hle:m<=ot.length:=tL hle;have K8:m<=bN.length:=tL K8;have ro:∀{j:Nat} {c:ed},ot[j]?=some c->xW (nJ m bN M.length) c=true:=λhj=>jN.1 ja _ (mD hj);unfold merge at h
 by_cases bA:id<M.length
 ·rw [ju (by rw [EC];exact bA)]at h
  by_cases aam:id∈bN
  ·obtain⟨j,hj⟩:=zA aam;have Ld:=(eU.1 hj).1
   by_cases zd:j<m
   ·have hjc:j<ot.length:=by omega
    have hb:((ot.take m).map (sA (nJ m bN M.length))++List.replicate (bN.length- m) .dead)[j]?=some (sA (nJ m bN M.length) ot[j]):=by
     rw [ju (eh),iH,nV,if_pos zd,dz hjc];rfl
    rw [Xm bN _ M hs.nd hs.lt hj hb]at h;injection h with h;have:Nat.blt j m=true:=by simpa using zd
    exact .inr (.inr ⟨j,ot[j],by simp only [nJ,this];exact hj,dz hjc,h.symm,ro (dz hjc)⟩)
   ·have hb:((ot.take m).map (sA (nJ m bN M.length))++List.replicate (bN.length- m) .dead)[j]?=some .dead :=by
     rw [kv (eh),EZ,if_pos (eh)]
    rw [Xm bN _ M hs.nd hs.lt hj hb]at h;injection h with h;exact .inr (.inl h.symm)
  ·rw [OH bN _ M aam]at h;exact .inl ⟨aam,bA,h⟩
 ·rw [kv (by rw [EC];omega),EC,iH,qt]at h;cases hc:ot[m+(id- M.length)]? with
  |none=>rw [hc]at h;cases h
  |some c=>
   rw [hc]at h;simp only [kz,Option.some.injEq]at h;refine .inr (.inr ⟨_,c,?_,hc,h.symm,ro hc⟩);have:Nat.blt (m+(id- M.length)) m=false:=by
    rw [afM];simp
   simp only [nJ,this,Option.some.injEq];omega
def aAG(hI:Inv X w0 S F ρ M w)(hs:XA M bN)(d:Hd)(hg:qz m F F' (sub d ρ bN) pg w w'):Ren (nJ m bN M.length) pg (ρ++pg.drop m):=by
 intro j id hd hj hh;have hlen:=hI.len;simp only [nJ]at hj;split at hj
 ·rename_i hb;have zd:j<m:=Ja;have hi:id<ρ.length:=by rw [hlen];exact hs.lt id (mD hj)
  rw [ju hi];have h1:(sub d ρ bN)[j]?=some ρ[id]:=by rw [OZ hj hi,dz hi]
  have:=hg.gG j _ zd h1;rw [hh]at this;injection this with this;rw [dz hi,this]
 ·rename_i hb;have zd:¬j<m:=λcF=>by rw [(by simpa using cF:Nat.blt j m=true)]at hb;cases hb
  simp only [Option.some.injEq]at hj;subst hj;rw [kv (by omega),qt,<-hh]
  congr 1
  omega
def Inv.merge(hX:X.Ok)(hI:Inv X w0 S F ρ M w)(bB:uQ M bN=true)(d:Hd)(hC:Inv X w (hand ρ M bN F) F' pg ot w')(hg:qz m F F' (az.sub d ρ bN) pg w w')(hm:Ff m M bN ot=true):
 Inv X w0 S F' (ρ++pg.drop m) (az.merge m M bN ot) w'∧Grow F F' ρ (ρ++pg.drop m) w w'∧Ren (nJ m bN M.length) pg (ρ++pg.drop m):=by
 have hs:=afd bB;have aan:=aAG hI hs d hg;have hlen:=hI.len;have aNQ:=hC.len;have ei:w.heap.size<=w'.heap.size:=hC.size;have jS:∀(id:Nat) hd,ρ[id]?=some hd->(ρ++pg.drop m)[id]?=some hd:=λid hd h=>ahD;have kK:Grow F F' ρ (ρ++pg.drop m) w w':=⟨hg.hF,jS,hg.hb⟩;have apart:∀{id:Nat} {b:ed} {hd:Hd} {g:Nat},id∉bN->M[id]?=some b->b.iB=false->ρ[id]?=some hd->hd.eC=some g->g<w.heap.size∧¬(hand ρ M bN F) g:=by
  intro id b hd g sY hb eK hh dQ;refine⟨(hI.sep id b hd g hb eK hh dQ).1,?_⟩;rintro⟨i,hi,b',dC,nv,od,eo,kQ⟩;exact hI.iN id i b b' hd dC g (λe=>sY (e▸hi)) hb nv eK od hh eo dQ kQ
 have handed:∀{g:Nat},(hand ρ M bN F) g->S g∨w0.heap.size<=g:=by
  rintro g ⟨i,_,b',dC,nv,od,eo,kQ⟩;exact(hI.sep i b' dC g nv od eo kQ).2.1
 have cρ:∀{id:Nat} {h:Hd},id<M.length->(ρ++pg.drop m)[id]?=some h->ρ[id]?=some h:=by
  intro id h bA hh;rw [ju (by omega)]at hh;exact hh
 have Gu:∀{j id:Nat} {c:ed} {h:Hd},nJ m bN M.length j=some id->ot[j]?=some c->(ρ++pg.drop m)[id]?=some h->pg[j]?=some h:=by
  intro j id c h hj hc hh;have hl:j<pg.length:=by have:=(eU.1 hc).1;omega
  have:=aan j id _ hj (dz hl);rw [hh]at this;injection this with this;rw [dz hl,this]
 refine⟨⟨hC.os.trans hI.os,hC.tape.trans hI.tape,hC.output.trans hI.output,nW hI.size ei,λg h1 h2=> ?_,?_,λid b hd hb hh=> ?_,λid b hd g hb eK hh dQ=> ?_,
  λid id' b b' hd dC g eD hb nv eK od hh eo dQ kQ=> ?_,hC.fz,λg=>(hI.fT g).grow kK,λid hd hh=> ?_,λa ha=> ?_,λa ha=>hg.hF _ (hI.fin a ha)⟩,kK,aan⟩
 ·refine(hC.frame g (pR h1 hI.size) (λh=> ?_)).trans (hI.frame g h1 h2);rcases handed h with h|h
  ·exact h2 h
  ·omega
 ·rw [ad7,fy,zw];omega
 ·rcases Iu hs hm hb with⟨sY,cF,hb⟩|rfl|⟨j,c,hj,hc,rfl,kp⟩
  ·have hh:=cρ cF hh
   by_cases eK:b.iB=true
   ·exact(hI.rep id b hd hb hh).N9 jS hg.hF hg.hw eK
   ·refine(hI.rep id b hd hb hh).mono jS hg.hF hg.hw λg dQ=> ?_;obtain⟨a1,a2⟩:=apart sY hb (by simpa using eK) hh dQ;exact hC.frame g a1 a2
  ·trivial
  ·exact(hC.rep j c hd hc (Gu hj hc hh)).gw hX aan kp
 ·rcases Iu hs hm hb with⟨sY,cF,hb⟩|rfl|⟨j,c,hj,hc,rfl,kp⟩
  ·have hh:=cρ cF hh;obtain⟨a1,a2,a3⟩:=hI.sep id b hd g hb eK hh dQ;refine⟨pR a1 ei,a2,λa ha e=> ?_⟩;rcases hC.fV a ha with h|h|h
   ·exact a3 a h e
   ·exact(apart sY hb eK hh dQ).2 (e▸h)
   ·omega
  ·exact absurd eK (PB)
  ·rw [ET]at eK;obtain⟨a1,a2,a3⟩:=hC.sep j c hd g hc eK (Gu hj hc hh) dQ;refine⟨a1,?_,a3⟩;rcases a2 with a2|a2
   ·exact handed a2
   ·exact .inr (nW hI.size a2)
 ·have mixed:∀{id id' j:Nat} {b c:ed} {hd dC:Hd} {g:Nat},id∉bN->M[id]?=some b->b.iB=false->ρ[id]?=some hd->hd.eC=some g->ot[j]?=some c->c.iB=false->pg[j]?=some dC->dC.eC=some g->False:=by
   intro id id' j b c hd dC g sY hb eK hh dQ hc od eo kQ;obtain⟨a1,a2⟩:=apart sY hb eK hh dQ;rcases(hC.sep j c dC g hc od eo kQ).2.1 with h|h
   ·exact a2 h
   ·omega
  rcases Iu hs hm hb with⟨sY,cF,hb⟩|rfl|⟨j,c,hj,hc,rfl,kp⟩
  ·rcases Iu hs hm nv with⟨anH,CV,nv⟩|rfl|⟨j',c',rL,zf,rfl,aMN⟩
   ·exact hI.iN id id' b b' hd dC g eD hb nv eK od (cρ cF hh) (cρ CV eo) dQ kQ
   ·exact absurd od (PB)
   ·rw [ET]at od;exact mixed (id':=0) sY hb eK (cρ cF hh) dQ zf od (Gu rL zf eo) kQ
  ·exact absurd eK (PB)
  ·rw [ET]at eK;rcases Iu hs hm nv with⟨anH,CV,nv⟩|rfl|⟨j',c',rL,zf,rfl,aMN⟩
   ·exact mixed (id':=0) anH nv od (cρ CV eo) kQ hc eK (Gu hj hc hh) dQ
   ·exact absurd od (PB)
   ·rw [ET]at od;refine hC.iN j j' c c' hd dC g (λe=>eD ?_) hc zf eK od (Gu hj hc hh) (Gu rL zf eo) dQ kQ;subst e;rw [hj]at rL;injection rL
 ·by_cases bA:id<ρ.length
  ·rw [ju bA]at hh;exact hI.one id hd hh
  ·rw [kv (by omega),qt]at hh;exact hC.one _ hd hh
 ·rcases hC.fV a ha with h|h|h
  ·exact hI.fV a h
  ·exact .inr (handed h)
  ·exact .inr (.inr (nW hI.size h))
end
noncomputable section
variable {X:Cx} {R:Type} {M M':aW}
variable{x:AV}{g:FuncId}{o:Oper}{e:Operand->AV}{args:bp}
def JF:AV->Bool| .int _ _| .bool _| .str _| .iw | .ij _ _ _| .ab _ _| .jP | .du _ [] []=>true|_=>false
def qF:AV->Bool| .agg cs=>cs.all JF|x=>JF x
def ae1(h:JF x=true):x.pure=true:=by
 unfold JF at h;split at h<;>first|rfl|cases h
def aY.qF(hX:X.Ok){ρ ρ':bY}{F:bT}{w:World}{x:AV}{v:Value}(hq:qF x=true)(h:aY X.K ρ F w x v):aY X.K ρ' F w x v:=by
 cases h with
 |agg cs vs hl hr=>exact .agg cs vs hl λj y u hy hu=>(hr j y u hy hu).pure hX.kinds (ae1 (jN.1 hq y (mD hy)))
 |int k n=>exact .int k n
 |bool b=>exact .bool b
 |str s=>exact .str s
 |iw=>exact .iw
 |ij t row off a vs hk hl hc hr=>exact aY.pure hX.kinds (.ij t row off a vs hk hl hc hr) rfl
 |kj t=>exact .kj t
 |ab t xs a cap vss hl lj jT hk hc hr=>exact aY.pure hX.kinds (.ab t xs a cap vss hl lj jT hk hc hr) rfl
 |jP=>exact .jP
 |du f first fG vf vc hf hc h1 h2=>exact aY.pure hX.kinds (.du f first fG vf vc hf hc h1 h2) (ae1 (by simpa only [az.qF]using hq))
 |_=>exact absurd hq (by simp [az.qF,JF])
def dt.qF(hX:X.Ok){ρ ρ':bY}{F:bT}{w:World}{xs:bp}{vs:fA}(hq:xs.all qF=true)(h:dt X.K ρ F w xs vs):dt X.K ρ' F w xs vs:=
 ⟨h.1,λj y u hy hu=>(h.2 j y u hy hu).qF hX (jN.1 hq y (mD hy))⟩
def hdQ:Hd:=⟨.nilFunc,0⟩
def lh.lift(hX:X.Ok){f:FuncId}(h:lh X f args [] x [])(ha:args.all qF=true)(hx:qF x=true)(M:aW):lh X f args M x M:=by
 refine⟨h.1,λ{w0 S F ρ w vs} hI hr=> ?_⟩;have bB:uQ M []=true:=rfl;have hs:=hI.sub hX bB hdQ;have nM:dt X.K (az.sub hdQ ρ []) F w args vs:=hr.qF hX ha;refine(h.2 hs nM).mono ?_;rintro e w' ⟨v,ρ',F',rfl,dG,hg,hv⟩;obtain⟨i3,g3,_⟩:=hI.merge (m:=0) hX bB hdQ dG (hg.toF 0) rfl;have hm:az.merge 0 M [] []=M:=by simp [az.merge,sC]
 rw [hm]at i3;exact⟨v,_,F',rfl,i3,g3,hv.qF hX hx⟩
def aAV{c:Call}(ho:o.op= .call c){f:Operand}(mv:c.callee= .value f){first fG:bp}(hf:e f= .du g first fG)
 (h:lh X g (first++c.args.toList.map e++fG) M x M'):fF X o e M x M':=by
 obtain⟨pG,rM⟩:=h;intro rd n w0 S F ρ w act next Q hI hr hn;have h1:=hr f;rw [hf]at h1;generalize hv:act.eval f=vf at h1;cases h1 with
 |du _ _ _ v1 v2 eZ fP r1 r2=>
  exact ans
def aE6(X:Cx)(t:TypeId):Bool:=(X.ti t).ok &&(X.ti t).ks.all λk=>match k with| .int _=>true| .bool =>true| .str =>true|_=>false
def QE(X:Cx)(e:Operand->AV)(o:Oper):Option (FuncId×bp):=
 match o.op with
 | .call c=>
   match c.callee with
   | .value f=>
     match e f with
     | .du g first fG=>
       match(aE6 X o.type&&(first++c.args.toList.map e++fG).all qF)&&X.pk with
       |true=>some (g,first++c.args.toList.map e++fG)
       |false=>none
     |_=>none
   |_=>none
 |_=>none
def afb(hX:X.Okb){T:ia R}(hT:T.nX X){k:AV->Option R}{r:R}(hq:QE X e o=some (g,args))
 (h:(T.call g args [] λx M'=>aP (M'.isEmpty&&qF x) (k x))=some r):∃y,k y=some r∧∀(M':aW),fF X o e M' y M':=by
 unfold QE at hq;split at hq
 case h_2=>cases hq
 rename_i c ho;split at hq
 case h_2=>cases hq
 rename_i f mv;split at hq
 case h_2=>cases hq
 rename_i g' first fG hf
 split at hq
 case h_2=>cases hq
 rename_i ja;injection hq with hq;injection hq with h1 h2;subst h1;subst h2;obtain⟨x,M1,hc,h,_⟩:=hT.call h;replace h:=di h;obtain⟨h1,h⟩:=h;rw [bS]at h1 ja;obtain⟨ja,K5⟩:=ja;rw [bS]at ja;have:M1=[]:=by simpa using h1.1
 subst this;exact⟨x,h,λM'=>aAV ho mv hf (hc.lift (hX.ok K5) ja.2 h1.2 M')⟩
end
end Go.az
namespace Go.az
def Jl{p:Prop}(h:p:=by
 intro y h;cases y<;>first|rfl|cases h):p:=h
def YB{p:Prop}(h:p:=by
 intro a y h;cases y<;>first|cases h|skip
 rw [dE h]):p:=h
def Fv{p:Prop}(h:p:=by simpa using ht):p:=h
def aiM{p:Prop}(h:p:=by
 simp only [bS]at h;rw [dE h.1.1,dE h.1.2,dE h.2]):p:=h
def aiw{p:Prop}(h:p:=by
 obtain⟨e',ux,hh⟩:=h2 w hw;exact⟨e',iq _ ux,hh⟩):p:=h
def ah2{p:Prop}(h:p:=by
 intro cs ih y h;cases y<;>first|cases h|skip
 rw [ih _ h]):p:=h
end Go.az
namespace Go.az
open Go
noncomputable section
variable {X:Cx} {R:Type}
variable{id:Nat}
structure cx where
 i:Nat
 o:Oper
 q:Bool
 x:AV
 ids:dI
 cl:Nat
 env:cV
 M:aW
 M':aW
variable{s:cx}
def ir(o:Oper):dI:=o.op.operands.toList.filterMap λ| .tmp t=>some t|_=>none
def guardOf(ops:Array Oper)(o:Oper):dI:=match o.guard with|some (j,_)=>(zX ops j).toList |none=>[]
def lr(rs:dI)(env:cV):cV:=rs.map λu=>(u,look env u)
theorem af9(env:cV)(t:Nat):∀rs:dI,look (lr rs env) t=look env t∧t∈rs∨look (lr rs env) t= .top
 | []=> .inr rfl
 |u::rs=>by
  unfold lr;simp only [nf,pN,look_nil]
  by_cases ht:t=u
  ·subst ht;simp
  ·have:(t==u)=false:=by simpa using ht
   simp only [this,lg,ng];rcases af9 env t rs with⟨h,hm⟩|h
   ·exact .inl ⟨h,iq _ hm⟩
   ·exact .inr h
def QB:List cx->Nat->Option Nat
 | [],_=>none
 |t::log,i=>if t.i==i then some t.cl else QB log i
def qE(log:List cx):List Edge->Option Nat
 | []=>some 0
 |e::es=>
  if Region.binds .any e then
   match QB log e.on,qE log es with
   |some m,some r=>some (2^e.on|||m|||r)
   |_,_=>none
  else qE log es
theorem aAq{log:List cx}{i m:Nat}(h:QB log i=some m):∃t∈log,t.i=i∧t.cl=m:=by
 induction log with
 |nil=>exact bh
 |cons t log ih=>
  simp only [QB]at h;split at h
  ·rename_i ht;injection h with h;exact⟨t,fL,Fv,h⟩
  ·obtain⟨s,hs,h1⟩:=ih h;exact⟨s,iq _ hs,h1⟩
theorem Oh{log:List cx}:∀{es:List Edge} {m:Nat},qE log es=some m->
 (∀e∈es,Region.binds .any e=true->∃t∈log,t.i=e.on)∧∀w,m.testBit w=true->∃e∈es,Region.binds .any e=true∧(w=e.on∨∃t∈log,t.i=e.on∧t.cl.testBit w=true)
 | [],m,h=>by
   simp only [qE,Option.some.injEq]at h;subst h;exact⟨λe he=>by simp at he,λw hw=>by simp at hw⟩
 |e::es,m,h=>by
  simp only [qE]at h;split at h
  ·rename_i hb;split at h
   ·rename_i a r ha hr;injection h with h;subst h;obtain⟨t,ht,R8,htc⟩:=aAq ha;obtain⟨h1,h2⟩:=Oh hr;refine⟨λe' ux nv=> ?_,λw hw=> ?_⟩
    ·rcases gN.1 ux with rfl|ux
     ·exact⟨t,ht,R8⟩
     ·exact h1 e' ux nv
    ·rw [Nat.testBit_or,Nat.testBit_or,zy,zy]at hw;rcases hw with(hw|hw)|hw
     ·rw [Nat.testBit_two_pow]at hw;exact⟨e,fL,hb,.inl (by simpa using Eq.symm (by simpa using hw))⟩
     ·exact⟨e,fL,hb,.inr ⟨t,ht,R8,by rw [htc];exact hw⟩⟩
     ·exact aiw
   ·exact bh
  ·rename_i hb;obtain⟨h1,h2⟩:=Oh h;refine⟨λe' ux nv=> ?_,λw hw=> ?_⟩
   ·rcases gN.1 ux with rfl|ux
    ·exact absurd nv hb
    ·exact h1 e' ux nv
   ·exact aiw
def tY(o:Option Nat)(l:dI):Bool:=match o with|some d=>l.contains d|none=>false
theorem OJ{o:Option Nat}{l:dI}(h:(!tY o l)=true):∀d,o=some d->d∉l:=by
 intro d hd hm;subst hd;simp [tY,hm]at h
def uS{α:Type}(f:α->α->Bool):List α->List α->Bool
 | [],[]=>true
 |x::xs,y::ys=>f x y&&uS f xs ys
 |_,_=>false
theorem BM{α:Type}{f:α->α->Bool}(hf:∀x y,f x y=true->x=y):∀{xs ys:List α},uS f xs ys=true->xs=ys
 | [],[],_=>rfl
 | [],_::_,h=>by simp [uS]at h
 |_::_,[],h=>by simp [uS]at h
 |x::xs,y::ys,h=>by
  simp only [uS,bS]at h;rw [hf x y h.1,BM hf h.2]
def Jy:AV->AV->Bool
 | .int k a,.int k' b=>k==k'&&a==b
 | .bool a,.bool b=>a==b
 | .iw,.iw =>true
 | .ptr a i o,.ptr b j p=>Nat.beq a b&&Nat.beq i j&&Nat.beq o p
 | .aA a,.aA b=>Nat.beq a b
 | .gE,.gE =>true
 | .jP,.jP =>true
 | .ik a,.ik b=>Nat.beq a b
 | .mp a,.mp b=>Nat.beq a b
 | .lG,.lG =>true
 | .kU a n,.kU b m=>Nat.beq a b&&Nat.beq n m
 | .vw a l n,.vw b k m=>Nat.beq a b&&Nat.beq l k&&Nat.beq n m
 | .jF,.jF =>true
 | .str a,.str b=>decide (a=b)
 |_,_=>false
theorem Xj(x y:AV)(h:Jy x y=true):x=y:=by
 cases x<;>cases y<;>simp_all [Jy]
def Jw(x:AV):AV->Bool:=AV.rec (motive_1:=λ_=>AV->Bool) (motive_2:=λ_=>List AV->Bool) (motive_3:=λ_=>List bp->Bool) (λ_=>false) (λk a y=>match y with| .int k' b=>k==k'&&a==b|_=>false) (λa y=>match y with| .bool b=>a==b|_=>false) (λa y=>match y with| .str b=>decide (a=b)|_=>false)
 (λ_ ih y=>match y with| .agg ys=>ih ys|_=>false) (λ_ ih y=>match y with| .ep ys=>ih ys|_=>false) (λy=>match y with| .iw =>true|_=>false)
 (λt _ off ih y=>match y with| .ij t' row yq=>Nat.beq t t'&&Nat.beq off yq&&ih row|_=>false) (λa i o y=>match y with| .ptr b j p=>Nat.beq a b&&Nat.beq i j&&Nat.beq o p|_=>false)
 (λt _ ih y=>match y with| .ab t' ys=>Nat.beq t t'&&ih ys|_=>false) (λa y=>match y with| .aA b=>Nat.beq a b|_=>false) (λy=>match y with| .gE =>true|_=>false)
 (λf _ _ kn fb y=>match y with| .du g a b=>Nat.beq f g&&kn a&&fb b|_=>false) (λy=>match y with| .jP =>true|_=>false) (λa y=>match y with| .ik b=>Nat.beq a b|_=>false) (λa y=>match y with| .mp b=>Nat.beq a b|_=>false)
 (λy=>match y with| .lG =>true|_=>false) (λa n y=>match y with| .kU b m=>Nat.beq a b&&Nat.beq n m|_=>false) (λa l n y=>match y with| .vw b k m=>Nat.beq a b&&Nat.beq l k&&Nat.beq n m|_=>false) (λy=>match y with| .jF =>true|_=>false)
 (λl=>match l with| []=>true|_=>false) (λ_ _ kn fb l=>match l with|y::ys=>kn y&&fb ys| []=>false) (λl=>match l with| []=>true|_=>false) (λ_ _ kn fb l=>match l with|y::ys=>kn y&&fb ys| []=>false) x
def Fo(x:bp):bp->Bool:=AV.rec_1 (motive_1:=λ_=>AV->Bool) (motive_2:=λ_=>List AV->Bool) (motive_3:=λ_=>List bp->Bool) (λ_=>false) (λk a y=>match y with| .int k' b=>k==k'&&a==b|_=>false) (λa y=>match y with| .bool b=>a==b|_=>false) (λa y=>match y with| .str b=>decide (a=b)|_=>false)
 (λ_ ih y=>match y with| .agg ys=>ih ys|_=>false) (λ_ ih y=>match y with| .ep ys=>ih ys|_=>false) (λy=>match y with| .iw =>true|_=>false)
 (λt _ off ih y=>match y with| .ij t' row yq=>Nat.beq t t'&&Nat.beq off yq&&ih row|_=>false) (λa i o y=>match y with| .ptr b j p=>Nat.beq a b&&Nat.beq i j&&Nat.beq o p|_=>false)
 (λt _ ih y=>match y with| .ab t' ys=>Nat.beq t t'&&ih ys|_=>false) (λa y=>match y with| .aA b=>Nat.beq a b|_=>false) (λy=>match y with| .gE =>true|_=>false)
 (λf _ _ kn fb y=>match y with| .du g a b=>Nat.beq f g&&kn a&&fb b|_=>false) (λy=>match y with| .jP =>true|_=>false) (λa y=>match y with| .ik b=>Nat.beq a b|_=>false) (λa y=>match y with| .mp b=>Nat.beq a b|_=>false)
 (λy=>match y with| .lG =>true|_=>false) (λa n y=>match y with| .kU b m=>Nat.beq a b&&Nat.beq n m|_=>false) (λa l n y=>match y with| .vw b k m=>Nat.beq a b&&Nat.beq l k&&Nat.beq n m|_=>false) (λy=>match y with| .jF =>true|_=>false)
 (λl=>match l with| []=>true|_=>false) (λ_ _ kn fb l=>match l with|y::ys=>kn y&&fb ys| []=>false) (λl=>match l with| []=>true|_=>false) (λ_ _ kn fb l=>match l with|y::ys=>kn y&&fb ys| []=>false) x
def XX(x:List bp):List bp->Bool:=AV.rec_2 (motive_1:=λ_=>AV->Bool) (motive_2:=λ_=>List AV->Bool) (motive_3:=λ_=>List bp->Bool) (λ_=>false) (λk a y=>match y with| .int k' b=>k==k'&&a==b|_=>false) (λa y=>match y with| .bool b=>a==b|_=>false) (λa y=>match y with| .str b=>decide (a=b)|_=>false)
 (λ_ ih y=>match y with| .agg ys=>ih ys|_=>false) (λ_ ih y=>match y with| .ep ys=>ih ys|_=>false) (λy=>match y with| .iw =>true|_=>false)
 (λt _ off ih y=>match y with| .ij t' row yq=>Nat.beq t t'&&Nat.beq off yq&&ih row|_=>false) (λa i o y=>match y with| .ptr b j p=>Nat.beq a b&&Nat.beq i j&&Nat.beq o p|_=>false)
 (λt _ ih y=>match y with| .ab t' ys=>Nat.beq t t'&&ih ys|_=>false) (λa y=>match y with| .aA b=>Nat.beq a b|_=>false) (λy=>match y with| .gE =>true|_=>false)
 (λf _ _ kn fb y=>match y with| .du g a b=>Nat.beq f g&&kn a&&fb b|_=>false) (λy=>match y with| .jP =>true|_=>false) (λa y=>match y with| .ik b=>Nat.beq a b|_=>false) (λa y=>match y with| .mp b=>Nat.beq a b|_=>false)
 (λy=>match y with| .lG =>true|_=>false) (λa n y=>match y with| .kU b m=>Nat.beq a b&&Nat.beq n m|_=>false) (λa l n y=>match y with| .vw b k m=>Nat.beq a b&&Nat.beq l k&&Nat.beq n m|_=>false) (λy=>match y with| .jF =>true|_=>false)
 (λl=>match l with| []=>true|_=>false) (λ_ _ kn fb l=>match l with|y::ys=>kn y&&fb ys| []=>false) (λl=>match l with| []=>true|_=>false) (λ_ _ kn fb l=>match l with|y::ys=>kn y&&fb ys| []=>false) x
theorem afZ(x:AV):∀(y:AV),Jw x y=true->x=y:=by
 refine AV.rec (motive_1:=λx=>∀y,Jw x y=true->x=y) (motive_2:=λl=>∀l',Fo l l'=true->l=l') (motive_3:=λl=>∀l',XX l l'=true->l=l') ?_ ?_ ?_ ?_ ?_ ?_ ?_ ?_ ?_ ?_ ?_ ?_ ?_ ?_ ?_ ?_ ?_ ?_ ?_ ?_ ?_ ?_ ?_ ?_ x
 ·intro y h;cases h
 ·intro k a y h;cases y<;>first|cases h|skip
  rename_i k' b;have h:(k==k'&&a==b)=true:=h;simp only [bS,ic]at h;rw [h.1,h.2]
 ·intro a y h;cases y<;>first|cases h|skip
  rename_i b;have h:(a==b)=true:=h;rw [ic]at h;rw [h]
 ·intro a y h;cases y<;>first|cases h|skip
  rename_i b;have h:decide (a=b)=true:=h;rw [E3 h]
 ·exact ah2
 ·exact ah2
 ·exact Jl
 ·intro t row off ih y h;cases y<;>first|cases h|skip
  rename_i t' Gj yq;have h:(Nat.beq t t'&&Nat.beq off yq&&Fo row Gj)=true:=h;simp only [bS]at h;rw [dE h.1.1,dE h.1.2,ih _ h.2]
 ·intro a i o y h;cases y<;>first|cases h|skip
  rename_i b j p;have h:(Nat.beq a b&&Nat.beq i j&&Nat.beq o p)=true:=h;exact aiM
 ·intro t xs ih y h;cases y<;>first|cases h|skip
  rename_i t' ys;have h:(Nat.beq t t'&&XX xs ys)=true:=h;rw [bS]at h;rw [dE h.1,ih _ h.2]
 ·exact YB
 ·exact Jl
 ·intro f a b kn fb y h;cases y<;>first|cases h|skip
  rename_i g a' b';have h:(Nat.beq f g&&Fo a a'&&Fo b b')=true:=h;simp only [bS]at h;rw [dE h.1.1,kn _ h.1.2,fb _ h.2]
 ·exact Jl
 ·exact YB
 ·exact YB
 ·exact Jl
 ·intro a n y h;cases y<;>first|cases h|skip
  rename_i b m;have h:(Nat.beq a b&&Nat.beq n m)=true:=h;rw [bS]at h;rw [dE h.1,dE h.2]
 ·intro a l n y h;cases y<;>first|cases h|skip
  rename_i b k m;have h:(Nat.beq a b&&Nat.beq l k&&Nat.beq n m)=true:=h;exact aiM
 ·exact Jl
 ·intro l h;cases l<;>first|rfl|cases h
 ·intro x xs kn fb l h;cases l with
  |nil=>exact bh
  |cons y ys=>
   have h:(Jw x y&&Fo xs ys)=true:=h;rw [bS]at h;rw [kn _ h.1,fb _ h.2]
 ·intro l h;cases l<;>first|rfl|cases h
 ·intro x xs kn fb l h;cases l with
  |nil=>exact bh
  |cons y ys=>
   have h:(Fo x y&&XX xs ys)=true:=h;rw [bS]at h;rw [kn _ h.1,fb _ h.2]
def Qi:AV->AV->Bool
 | .ab t xs,y=>Jw (.ab t xs) y
 | .ij t row off,y=>Jw (.ij t row off) y
 |x,y=>Jy x y
theorem afY(x y:AV)(h:Qi x y=true):x=y:=by
 unfold Qi at h;split at h
 ·exact afZ _ _ h
 ·exact afZ _ _ h
 ·exact Xj _ _ h
def Jx:AV->AV->Bool
 | .agg xs,.agg ys=>uS Qi xs ys
 | .du f [] xs,.du g [] ys=>Nat.beq f g&&uS Jy xs ys
 |x,y=>Qi x y
theorem Xi(x y:AV)(h:Jx x y=true):x=y:=by
 unfold Jx at h;split at h
 ·rw [BM afY h]
 ·rw [bS]at h;rw [BM Xj h.2,dE h.1]
 ·exact afY _ _ h
def Y6(x y:AV×AV):Bool:=Jy x.1 y.1&&Jx x.2 y.2
theorem aBj(x y:AV×AV)(h:Y6 x y=true):x=y:=by
 obtain⟨a,b⟩:=x;obtain⟨c,d⟩:=y;simp only [Y6,bS]at h;rw [Xj _ _ h.1,Xi _ _ h.2]
def Y7:ed->ed->Bool
 | .var ks cs,.var yT Lw=>ks==yT&&uS Jx cs Lw
 | .row t xs,.row t' jA=>t==t'&&uS (uS Jx) xs jA
 | .map k ag ks es,.map k' ag' yT es'=>k==k'&&ag==ag'&&ks==yT&&uS Y6 es es'
 | .dead,.dead =>true
 |_,_=>false
theorem aBk(x y:ed)(h:Y7 x y=true):x=y:=by
 unfold Y7 at h;split at h
 ·simp only [bS,ic]at h;rw [h.1,BM Xi h.2]
 ·simp only [bS,ic]at h;rw [h.1,BM (λ_ _ h=>BM Xi h) h.2]
 ·simp only [bS,ic]at h;rw [h.1.1.1,h.1.1.2,h.1.2,BM aBj h.2]
 ·rfl
 ·exact bh
def aaz(l:dI)(d:Nat):Bool:=List.rec (motive:=λ_=>Bool) false (λu _ ih=>Bool.rec (motive:=λ_=>Bool) ih true (Nat.beq d u)) l
theorem age:∀{l:dI} {d:Nat},aaz l d=false->d∉l
 | [],_,_,h=>gM
 |u::l,d,h,hm=>by
  have h:Bool.rec (motive:=λ_=>Bool) (aaz l d) true (Nat.beq d u)=false:=h;cases hb:Nat.beq d u with
  |true=>rw [hb]at h;cases h
  |false=>
   rw [hb]at h;rcases gN.1 hm with e|hm
   ·subst e;simp at hb
   ·exact age h hm
def cx.keeps(s:cx)(id:Nat):Bool:=
 match gm s.M id with
 |none=>false
 |some b=>match aaz s.ids id with
  |false=>true
  |true=>match gm s.M' id with|some a=>Y7 a b|none=>false
def cx.u7(s:cx)(id:Nat):Prop:=(id∉s.ids∧id<s.M.length)∨s.M'[id]?=s.M[id]?
theorem cx.ae3(h:s.keeps id=true):s.u7 id:=by
 unfold cx.keeps at h;simp only [eY]at h;split at h
 ·exact bh
 ·rename_i b hb;split at h
  ·rename_i hn;exact .inl ⟨age hn,(eU.1 hb).1⟩
  ·split at h
   ·rename_i a ha;exact .inr (by rw [ha,hb,aBk _ _ h])
   ·exact bh
theorem cx.u7.at(h:s.u7 id)(ha:dR s.ids s.M s.M'):s.M'[id]?=s.M[id]?:=by
 rcases h with⟨h1,h2⟩|h
 ·exact ha.2 id h2 h1
 ·exact h
def X2(ops:Array Oper)(t s:cx):Bool:=
 !(t.i==s.i)&& !(t.o.dst.isSome&&t.o.dst==s.o.dst)&&
 (t.cl.testBit s.i||
   (!tY s.o.dst (ir t.o++guardOf ops t.o)&& !tY t.o.dst (ir s.o++guardOf ops s.o)&&
     match t.q,s.q with
     |true,true=>true
     |false,false=>false
     |true,false=>t.ids.all λid=>s.keeps id
     |false,true=>s.ids.all λid=>t.keeps id))
def cx.RD(X:Cx)(nt:Nt)(ops:Array Oper)(t:cx):Prop:=
 ∀{M0:aW},(t.q=true->∀id∈t.ids,M0[id]?=t.M[id]?)->(t.q=false->M0=t.M)->
  ∀{rdc:Cy} {n:Nat} {w0:World} {S:Sc} {F:bT} {ρ:bY} {a:Act} {w:World} {Q:Exit->Act->World->Prop} {K:Act->World->Prop},Inv X w0 S F ρ M0 w->a.tmps.size=nt.n->
   (∀u∈ir t.o++guardOf ops t.o,aY X.K ρ F w (look t.env u) (a.tmps.getD u undef))->
   (∀v w' F' ρ',Inv X w0 S F' ρ' (if t.q then M0 else t.M') w'->aY X.K ρ' F' w' t.x v->Grow F F' ρ ρ' w w'->K (a.put t.o.dst v) w')->wpOpIn (kY rdc.r) n X.P ops Q t.i K a w
section
variable {D:Nat->Bool} {nt:Nt} {ops:Array Oper} {env0:cV} {M0:aW}
abbrev df(L:Array Bool)(i:Nat):Prop:=L.getD i false=true
def sh(L:Array Bool)(log:List cx):Prop:=∀t∈log,df L t.i->∀e∈t.o.after,Region.binds .any e=true->df L e.on
end
end
end Go.az
namespace Go.az
def Fu{p:Prop}(h:p:=by simp [hq]):p:=h
end Go.az
namespace Go.az
def Oq:=@List.countP_cons_of_pos
def Xa:=@List.countP_cons_of_neg
end Go.az
namespace Go.az
open Go
noncomputable section
variable {X:Cx} {R:Type}
section
variable {D:Nat->Bool} {nt:Nt} {ops:Array Oper} {env0:cV} {M0:aW}
theorem WW{α:Type}{p q:α->Bool}:∀{l:List α},(∀x∈l,q x=true->p x=true)->(∃x∈l,p x=true∧q x=false)->l.countP q<l.countP p
 | [],_,⟨x,hx,_⟩=>wk
 |a::l,h,⟨x,hx,hp,hq⟩=>by
  have aNP:l.countP q<=l.countP p:=List.countP_mono_left λy hy=>h y (iq _ hy);rcases gN.1 hx with rfl|hx
  ·rw [Oq hp,Xa (Fu)];omega
  ·have ih:=WW (λy hy=>h y (iq _ hy)) ⟨x,hx,hp,hq⟩
   by_cases hqa:q a=true
   ·rw [Oq hqa,Oq (h a fL hqa)];omega
   ·rw [Xa hqa]
    by_cases hpa:p a=true
    ·rw [Oq hpa];omega
    ·rw [Xa hpa];omega
end
end
noncomputable section
variable {X:Cx} {R:Type}
section
variable {w0 w:World} {S:Sc} {F:bT}
end
section
variable {D:Nat->Bool} {nt:Nt} {ops:Array Oper} {env0:cV} {M0:aW}
end
end
noncomputable section
variable {X:Cx} {R:Type}
variable{env:cV}
def Jz(T:ia R)(ops:Array Oper)(t:cx)(st:St)(log:List cx)(k:List cx->St->Option R):Option R:=
 aP (log.all (X2 ops t)) (lO T.nt st t.o.dst t.x t.M' λbl=>k (t::log) bl)
def ajZ:Nat->List Oper->Bool
 |_,[]=>true
 |i,o::os=>(o.after.toList.all λe=> !Region.binds .any e||Nat.blt e.on i)&&ajZ (i+1) os
def afS(done:dI):Nat->List Oper->Option Nat
 |_,[]=>none
 |i,o::os=>if !done.contains i&&(o.after.toList.all λe=> !Region.binds .any e||done.contains e.on)then some i else afS done (i+1) os
def alw(ops:List Oper):Nat->dI->dI
 |0,done=>done.reverse
 |n+1,done=>match afS done 0 ops with|some i=>alw ops n (i::done)|none=>done.reverse
def aka(ops:List Oper):dI:=if ajZ 0 ops then List.range ops.length else alw ops ops.length []
theorem ER{ρ:bY}{F:bT}{w:World}{tmps:Array Value}{rs:dI}(h:∀u∈rs,aY X.K ρ F w (look env u) (tmps.getD u undef)):iU X ρ F w (lr rs env) tmps:=by
 intro t;rcases af9 env t rs with⟨he,hm⟩|he
 ·rw [he];exact h t hm
 ·rw [he];exact .top _
theorem zq{d:Nat}{x:AV}(h:look env d=x)(u:Nat):look ((d,x)::env) u=look env u:=by
 simp only [pN,look_nil]
 by_cases hu:u=d
 ·subst hu;simp [h]
 ·have:(u==d)=false:=by simpa using hu
  simp [this]
def F5(X:Cx)(ops:Array Oper)(o:Oper)(env:cV)(b:Bool):Prop:=
 ∀{ρ:bY} {F:bT} {w:World} {tmps:Array Value},(∀u∈ir o++guardOf ops o,aY X.K ρ F w (look env u) (tmps.getD u undef))->Region.wanted o (yielded ops tmps)=b
variable {D:Nat->Bool} {nt:Nt} {ops:Array Oper} {env0 gJ:cV} {M0 M1:aW}
theorem aeV{T:ia R}{t:cx}{st:St}{log:List cx}{k:List cx->St->Option R}{r:R}(h:Jz T ops t st log k=some r):
 ∃bl,k (t::log) bl=some r∧(∀s∈log,X2 ops t s=true)∧(∀d,t.o.dst=some d->d<T.nt.n∧T.nt.mask.testBit d=true)∧(∀u,look bl.env u=(if t.o.dst=some u then t.x else look st.env u))∧bl.mem=t.M'∧bl.iF=st.iF∧bl.rd=st.rd:=by
 unfold Jz at h;replace h:=di h;obtain⟨hp,h⟩:=h;unfold lO at h;have AU:∀s∈log,X2 ops t s=true:=λs hs=>jN.1 hp s hs;cases hd:t.o.dst with
 |none=>
  rw [hd]at h;exact⟨_,h,AU,λd e=>by simp at e,λu=>by simp,rfl,rfl,rfl⟩
 |some d=>
  rw [hd]at h;replace h:=di h;obtain⟨cF,h⟩:=h;refine⟨_,h,AU,λd' e=>by injection e with e;subst e;simp only [bS]at cF;exact⟨by simpa using cF.1,cF.2⟩,λu=> ?_,rfl,rfl,rfl⟩;simp only [pN,look_nil]
  by_cases hu:u=d
  ·subst hu;simp
  ·have:(u==d)=false:=by simpa using hu
   have h2:¬d=u:=λe=>hu e.symm;simp [this,h2]
theorem World.adN(w:World):w.grownBy {w with drawn:=w.drawn+1} none:=⟨rfl,rfl,rfl,gz _,λ_ _ _=>rfl⟩
end
noncomputable section
variable {X:Cx} {R:Type}
variable {D:Nat->Bool} {nt:Nt} {ops:Array Oper} {env0:cV} {M0:aW}
end
noncomputable section
variable {X:Cx} {R:Type}
variable {D:Nat->Bool} {nt:Nt} {ops:Array Oper} {env0 gJ:cV} {M0 M1:aW}
end
end Go.az
namespace Go.az
def anp{p:Prop}(h:p:=by
 intro l1
 induction l1 with
 |nil=>intro _ _ _ _ _ t ht;simp at ht
 |cons s l1 ih=>
  intro l2 gT M' hl he t ht;obtain⟨gJ,M1,eZ,st⟩:=hl;have AN:=ih (l2++[s]) gJ M1 eZ (by simpa using he);rcases gN.1 ht with rfl|ht
  ·by_cases dX:df L t.i
   ·exact dX
   ·exfalso;have iy:t.i∈Region.ready .any ops L:=by
     rw [OD];have cF:t.i<ops.size:=(v7.1 st.op).1;refine⟨?_,t.o,st.op,λe hee hb=> ?_⟩
     ·have:t.i<L.size:=by omega
      simp only [df,oV,BP this,oR]at dX⊢;simpa using dX
     ·obtain⟨r,nM,qh⟩:=st.pre e hee hb;rw [<-qh];exact AN r nM
    rw [hr]at iy;simp at iy
  ·exact AN t ht):p:=h
def Ra{p:Prop}(h:p:=by
 intro _ Mx hM _ rdc n w0 S F ρ a w Q K hI ei hr hk;unfold wpOpIn;simp only [hi,hw hr,ow];exact dB Mx hI (λz=>zH hI (ER λu hu=>hr u (xD _ hu)) z) (λv w' ρ' F' dG hg hx=>hk v w' F' ρ' dG hx hg)):p:=h
def akW{p:Prop}(h:p:=by
 cases hr:Region.ready .any ops L with
 |nil=>rfl
 |cons i is=>
  exfalso;have iy:i∈Region.ready .any ops L:=by rw [hr];exact fL
  rw [OD]at iy;obtain⟨hf,o,ho,_⟩:=iy;have cF:i<ops.size:=(v7.1 ho).1;obtain⟨t,ht,rfl⟩:=ja i cF;have h1:=dX t ht;have:t.i<L.size:=by omega
  simp only [df,oV,BP this,oR]at h1 hf;rw [h1]at hf;cases hf):p:=h
def akN{p:Prop}(h:p:=by
 intro _ Mx _ hM rdc n w0 S F ρ a w Q K hI ei hr hk;unfold wpOpIn;simp only [hi,hw hr,ow];have DE:=hM rfl;subst DE;exact dB hI (λz=>zH hI (ER λu hu=>hr u (xD _ hu)) z) (λv w' ρ' F' dG hg hx=>hk v w' F' ρ' dG hx hg)):p:=h
def akK{p:Prop}(h:p:=by
 cases nO:(dg M0 L c).2 with
 |false=>rfl
 |true=>
  rw [uH]at nO;have:(dg M0 (L.setIfInBounds t.i true) c).2 =true:=uH.2 λr hr sW=>(mM _).2 (.inr (nO r hr sW));rw [this]at hZ;cases hZ):p:=h
def akI{p:Prop}(h:p:=by
 intro t ht;have h0:log.countP (λt=> !(L.getD t.i false))=0:=by omega
 have:=List.countP_eq_zero.1 h0 t ht;cases hb:L.getD t.i false with
 |true=>exact hb
 |false=>exact absurd (by simp only [hb,afQ]) this):p:=h
def akH{p:Prop}(h:p:=by
 intro _ Mx hM _ rdc n w0 S F ρ a w Q K hI ei hr hk;unfold wpOpIn;simp only [hi,hw hr,ow];exact dB Mx (hM rfl) hI (λz=>zH hI (ER λu hu=>hr u (xD _ hu)) z) (λv w' ρ' F' dG hg hx=>hk v w' F' ρ' dG hx hg)):p:=h
def akF{p:Prop}(h:p:=by
 have:=hr d iy;rw [hb]at this;generalize hv:tmps.getD d undef=v at this;cases this with
 |ep cs vs fP _=>
  have:vs=[]:=by simpa using fP
  subst this;rw [H8 hg,adH hd hv];rfl):p:=h
def akC{p:Prop}(h:p:=by
 intro b env hb ρ F w tmps hr;have:=hr d iy;rw [hb]at this;generalize hv:tmps.getD d undef=v at this;cases this;rw [H8 hg,aeN hd hv];cases b<;>cases want<;>rfl):p:=h
def aky{p:Prop}(h:p:=by
 rcases gN.1 hs with rfl|hs
 ·obtain⟨e,he,hb,rfl|⟨u,hu,Dt,hut⟩⟩:=st.cl w hw
  ·exact hp e he hb
  ·exact ih u hu (eL u (iq _ hu) (by rw [Dt];exact hp e he hb)) w hut
 ·exact ih s hs hp w hw):p:=h
def zV{p:Prop}(h:p:=by simp [pN,look_nil]):p:=h
def Za{p:Prop}(h:p:=by
 intro ht hs id bA;rw [ht,hs]at h6;exact cx.ae3 (jN.1 h6 id bA)):p:=h
def akj{p:Prop}(h:p:=by
 intro j
 by_cases hj:j=t.i
 ·subst hj;simp [df,oV,aas]
 ·simp only [df];rw [getD_set_ne false (Ne.symm hj)];simp [hj]):p:=h
def aki{p:Prop}(h:p:=by
 cases Du:t.o.dst with
 |none=>rfl
 |some d'=>
  have eD:d'≠u:=λe=>AS (e▸Du);simp [Act.put,oV,OC eD]):p:=h
def ajE{p:Prop}(h:p:=by
 intro s hs dW eJ;rcases(mM _).1 dW with h|h
 ·exact absurd (dN.distinct hL s hs t ht h) eJ
 ·exact h):p:=h
def ajB{p:Prop}(h:p:=by
 rw [he];refine h0 λs hs dW hd=> ?_;rcases gN.1 hs with rfl|hs
 ·exact iZ dW
 ·exact hn s hs hd):p:=h
def ajp{p:Prop}(h:p:=by
 refine .inr ⟨λs hs=> ?_,h2⟩;rcases gN.1 hs with rfl|hs
 ·exact hd
 ·exact h1 s hs):p:=h
def ajm{p:Prop}(h:p:=by
 intro i dX;simp only [df,oV,aAY]at dX;split at dX<;>simp at dX):p:=h
def ajk{p:Prop}(h:p:=by
 cases Du:t.o.dst with
 |none=>exact hm.kept
 |some d=>exact agd (st.dst d Du).2 hm.kept):p:=h
def ajc{p:Prop}(h:p:=by
 simp only [df,oV,BP aas,oR]at hf⊢;rw [hf];simp):p:=h
def ai2{p:Prop}(h:p:=by have xa:=st.op;rw [ho]at xa;injection xa with xa;exact xa.symm):p:=h
def aiI{p:Prop}(h:p:=by
 unfold Jz;simp only [List.all_nil,aP];exact h):p:=h
def aiH{p:Prop}(h:p:=by
 obtain⟨t,ht,R8⟩:=OA.1 this;exact⟨t,ht,by simpa using R8⟩):p:=h
def air{p:Prop}(h:p:=by have:=(mM t.i).2 (.inl rfl);simpa [df]using this):p:=h
def ail{p:Prop}(h:p:=by exact(hm.fV u λs hs dW=>hu s hs ((mM _).2 (.inr dW))).grow hg):p:=h
def Px{p:Prop}(h:p:=by intro _ _ _ s hs;simp at hs):p:=h
def ahZ{p:Prop}(h:p:=by simp only [newRow,fm,E9,gh,ie,E8]):p:=h
def ahQ{p:Prop}(h:p:=by rw [h3];exact lz _ (iq _ hr)):p:=h
def ahO{p:Prop}(h:p:=by simp only [Act.put];split<;>simp [hm.size]):p:=h
def ahK{p:Prop}(h:p:=by simp only [Act.put];split<;>exact hm.defs):p:=h
def Yb{p:Prop}(h:p:=by rw [uv]at h;cases h):p:=h
def ahB{p:Prop}(h:p:=by rw [<-Dx];exact lz _ fL):p:=h
def aho{p:Prop}(h:p:=by rw [fe];exact lz _ fL):p:=h
def Ph{p:Prop}(h:p:=by rw [hq];simp):p:=h
end Go.az
namespace Go.az
def ki:=@List.cons_append
def lz:=@List.mem_append_right
def OD:=@Go.mem_ready
def afQ:=@Bool.not_false
def qX:=@List.append_of_mem
def uJ:=@congrArg
def xD:=@List.mem_append_left
def aAY:=@Array.getElem?_replicate
def OA:=@List.any_eq_true
def afP:=@List.countP_le_length
def Ox:=@Bool.false_or
end Go.az
namespace Go.az
open Go
noncomputable section
variable {X:Cx} {R:Type}
variable{s t:cx}{l2 log:List cx}{k:List cx->St->Option R}{cl i:Nat}{o:Oper}{r:R}{st:St}{T:ia R}{env:cV}
def aaP(X:Cx)(t:TypeId)(len:Nat)(ps:cV):Option (TypeId×aZ):=
 match(X.ti t).ok,(X.ti t).u with
 |true,.slice e=>
  (match(X.ti e).ok &&decide (0<(X.ti e).size)&&decide (len*(X.ti e).size <=16777216)with
   |true=>(match wJ (λi=>some (i*(X.ti e).size,(X.ti e).size)) ((List.replicate len (mo X e)).flatten) ps with
    |some cs=>(match(chunk (X.ti e).size len cs).all λrow=>dk (X.K e) row with
     |true=>some (e,chunk (X.ti e).size len cs)
     |false=>none)
    |none=>none)
   |false=>none)
 |_,_=>none
theorem aB3(hX:X.Okb){t:TypeId}{len:Nat}{ps:cV}{e:TypeId}{rows:aZ}(h:aaP X t len ps=some (e,rows)){ρ:bY}{F:bT}{w:World}(oa:∀(id:Nat) hd,ρ[id]?=some hd->hd.v.oneCell'=true)
 (pv:List (Nat×Value)) (hl:pv.length=ps.length) (hp:∀(j:Nat) p q,ps[j]?=some p->pv[j]?=some q->p.1=q.1∧aY X.K ρ F w p.2 q.2):
 ∃us,(Instr.buildSlice t len pv.toArray).run X.P w= .ok (.slice (some ⟨w.heap.size,0,none⟩) len len) (w.alloc (.cells us e))∧rows.length=len∧
  jV X ρ F (w.alloc (.cells us e)) ⟨.slice (some ⟨w.heap.size,0,none⟩) len len,(X.K e).length⟩ (.row e rows):=by
 unfold aaP at h;split at h
 ·rename_i e' bB hu;split at h
  ·rename_i h1;split at h
   ·rename_i cs tS;split at h
    ·rename_i iX;injection h with h;injection h with h2 h3;subst h2;subst h3;simp only [bS,iY]at h1;obtain⟨⟨he,n8⟩,jT⟩:=h1;obtain⟨i,d,z,f⟩:=hX.facts bB;obtain⟨i2,d2,z2,f2⟩:=hX.facts he;have dS:=f.slice hu;have qf:z2.cells.size=(X.ti e').size :=PI;have mL:(X.K e').length =(X.ti e').size :=zU;have hz:dt X.K ρ F w (List.replicate len (mo X e')).flatten ((Array.range (len*z2.cells.size)).map (z2.cells[· %z2.cells.size]!)).toList :=Zb;obtain⟨us,hf,hr⟩:=EH oa ps _ cs _ pv tS hz hl hp;have aM7:cs.length=len*(X.ti e').size :=anq;refine⟨us,?_,By _ _ _,rfl,λi row hi=> ?_,.inr ⟨w.heap.size,0,len,us,?_,Oo w _,by rw [By];exact gz _,?_,?_,λi row hi j x hx=> ?_⟩⟩
     ·unfold Instr.buildSlice;simp only [fm,iT dS,gh,f2.sizeOf];rw [if_neg (by omega)]
      by_cases h0:len*(X.ti e').size =0
      ·have e0:(Array.range (len*z2.cells.size)).map (z2.cells[· %z2.cells.size]!)= #[]:=by rw [qf,h0];simp
       rw [e0]at hf;rw [if_pos h0];simp only [fm,ie,gh];have e1:(Array.range (len*(X.ti e').size)).map (λx=>(#[]:Array Value)[x %(#[]:Array Value).size]!)= #[]:=by rw [h0];simp
       rw [e1,hf];exact ahZ
      ·rw [if_neg h0];simp only [fm,ie,gh,f2.zeroValue];rw [qf]at hf;rw [qf,hf];exact ahZ
     ·rw [jN]at iX;exact iX row (mD hi)
     ·rw [By]
     ·have:len<=len*(X.ti e').size :=On _ n8;exact Oa (by omega)
     ·have:=hr.1;simp only [nU]at this;show 0+len*(X.K e').length <=us.size;rw [mL];omega
     ·obtain⟨v,h1,h2⟩:=afA hr hi hx;refine⟨v,?_,h2.mono (λ_ _ h=>h) (λ_ h=>h) (λa v _ hc=>avp a v hc)⟩;show us[0+i*(X.K e').length +j]?=some v;rw [mL,IF];rw [Iy]at h1;exact h1
    ·exact bh
   ·exact bh
  ·exact bh
 ·cases h
def flO(X:Cx)(o:Oper):Bool:=
 o.guard.isNone&&match o.op with
 | .alloc _=>o.after.toList.isEmpty|| !X.pk
 | .buildSlice _ n _=>(!X.pk&&Nat.blt 0 n)||(X.pk&&Nat.beq n 0&&o.after.toList.isEmpty)
 |_=>false
def fR(X:Cx)(t:cx):Bool:= !t.q&&flO X t.o
def Fc(X:Cx)(ops:Array Oper)(t s:cx):Bool:=
 !(t.i==s.i)&& !(t.o.dst.isSome&&t.o.dst==s.o.dst)&&
 (t.cl.testBit s.i||
   (!tY s.o.dst (ir t.o++guardOf ops t.o)&& !tY t.o.dst (ir s.o++guardOf ops s.o)&&
     match t.q,s.q with
     |true,true=>true
     |false,false=>fR X t
     |true,false=>t.ids.all λid=>s.keeps id
     |false,true=>s.ids.all λid=>t.keeps id))
theorem tA{ops:Array Oper}(h:Fc X ops t s=true):t.i≠s.i∧(∀d,t.o.dst=some d->s.o.dst≠some d)∧
 (t.cl.testBit s.i=true∨((∀d,s.o.dst=some d->d∉ir t.o++guardOf ops t.o)∧(∀d,t.o.dst=some d->d∉ir s.o++guardOf ops s.o)∧(t.q=true∨s.q=true∨fR X t=true)∧
   (t.q=true->s.q=false->∀id∈t.ids,s.u7 id)∧(t.q=false->s.q=true->∀id∈s.ids,t.u7 id))):=by
 unfold Fc at h;rw [bS,bS,zy]at h;obtain⟨⟨h1,h2⟩,h3⟩:=h;refine⟨sl,λd hd hs=>by simp [hd,hs]at h2,?_⟩;rcases h3 with h3|h3
 ·exact .inl h3
 ·refine .inr ?_;rw [bS,bS]at h3;obtain⟨⟨h4,h5⟩,h6⟩:=h3;refine⟨OJ h4,OJ h5,?_,?_,?_⟩
  ·revert h6;cases t.q<;>cases s.q<;>simp
  ·exact Za
  ·exact Za
def AA(X:Cx)(t:cx):List cx->Bool
 | []=>true
 |f::l=>(!(fR X f&&t.cl.testBit f.i)||l.all λr=>r.q||t.cl.testBit r.i)&&AA X t l
theorem OG{t:cx}:∀{l2:List cx} {f:cx} {l1:List cx},AA X t (l2++f::l1)=true->fR X f=true->t.cl.testBit f.i=true->∀r∈l1,r.q=false->t.cl.testBit r.i=true
 | [],f,l1,h,hf,hc,r,hr,hq=>by
   simp only [mb,AA,hf,hc,Bool.and_self,Bool.not_true,Ox,bS]at h;have:=jN.1 h.1 r hr;rw [hq,Ox]at this;exact this
 |_::l2,f,l1,h,hf,hc,r,hr,hq=>by
  simp only [ki,AA,bS]at h;exact OG (l2:=l2) h.2 hf hc r hr hq
def cx.aj1(X:Cx)(nt:Nt)(ops:Array Oper)(t:cx)(b:ed):Prop:=
 ∀{M0:aW} {rdc:Cy} {n:Nat} {w0:World} {S:Sc} {F:bT} {ρ:bY} {a:Act} {w:World} {Q:Exit->Act->World->Prop} {K:Act->World->Prop},Inv X w0 S F ρ M0 w->a.tmps.size=nt.n->
  (∀u∈ir t.o++guardOf ops t.o,aY X.K ρ F w (look t.env u) (a.tmps.getD u undef))->
  (∀v w' hd,w.grownBy w' none->hd.eC=some w.heap.size->w.heap.size<w'.heap.size->hd.v.oneCell'=true->jV X ρ F w' hd b->
    (∀(ρ2:bY) (F2:bT) (w2:World),ρ2.length=t.M.length->aY X.K (ρ2++[hd]) F2 w2 t.x v)->K (a.put t.o.dst v) w')->wpOpIn (kY rdc.r) n X.P ops Q t.i K a w
structure ale(X:Cx)(nt:Nt)(ops:Array Oper)(t:cx)(log:List cx)(gJ:cV)(M1:aW)(env:cV)(M:aW):Prop where
 Ke:∀u,look t.env u=look gJ u
 hM:t.M=M1
 hq:t.q=true->t.M'=t.M
 fK:t.q=false->dR t.ids t.M t.M'
 runs:fR X t=false->t.RD X nt ops
 fl:fR X t=true->∃b,t.M'=t.M++[b]∧t.aj1 X nt ops b
 op:ops[t.i]?=some t.o
 dst:∀d,t.o.dst=some d->d<nt.n∧nt.mask.testBit d=true
 pair:∀s∈log,Fc X ops t s=true
 rok:AA X t log=true
 pre:∀e∈t.o.after,Region.binds .any e=true->∃s∈log,s.i=e.on
 cl:∀w,t.cl.testBit w=true->∃e∈t.o.after,Region.binds .any e=true∧(w=e.on∨∃s∈log,s.i=e.on∧s.cl.testBit w=true)
 lk:∀u,look env u=(if t.o.dst=some u then t.x else look gJ u)
 mem:M=t.M'
def dN(X:Cx)(nt:Nt)(ops:Array Oper)(env0:cV)(M0:aW):List cx->cV->aW->Prop
 | [],env,M=>(∀u,look env u=look env0 u)∧M=M0
 |t::log,env,M=>∃gJ M1,dN X nt ops env0 M0 log gJ M1∧ale X nt ops t log gJ M1 env M
def dg(M0:aW)(L:Array Bool):List cx->aW×Bool
 | []=>(M0,true)
 |t::log=>if t.q=true then dg M0 L log else if df L t.i∧(dg M0 L log).2 =true then(t.M',true)else((dg M0 L log).1,false)
section
variable {nt:Nt} {ops:Array Oper} {env0:cV} {M0:aW} {L:Array Bool}
theorem uH:∀{log:List cx},(dg M0 L log).2 =true ↔∀s∈log,s.q=false->df L s.i
 | []=>by simp [dg]
 |t::log=>by
  have ih:=uH (log:=log);simp only [dg];cases hq:t.q with
  |true=>
   rw [if_pos rfl,ih];constructor
   ·intro h s hs fO;rcases gN.1 hs with rfl|hs
    ·rw [hq]at fO;cases fO
    ·exact h s hs fO
   ·exact λh s hs=>h s (iq _ hs)
  |false=>
   rw [if_neg (by simp)]
   by_cases hc:df L t.i∧(dg M0 L log).2 =true
   ·rw [if_pos hc];refine⟨λ_ s hs fO=> ?_,λ_=>rfl⟩;rcases gN.1 hs with rfl|hs
    ·exact hc.1
    ·exact ih.1 hc.2 s hs fO
   ·rw [if_neg hc];refine⟨λh=>gM,λh=>absurd ⟨h t fL hq,ih.2 λs hs=>h s (iq _ hs)⟩ hc⟩
theorem af7:∀{l2 l1:List cx},(dg M0 L l1).2 =false->dg M0 L (l2++l1)=((dg M0 L l1).1,false)
 | [],l1,h=>by rw [mb];exact Prod.ext rfl h
 |t::l2,l1,h=>by
  have ih:=af7 (l2:=l2) h;simp only [ki,dg];rw [ih];split
  ·rfl
  ·rw [if_neg (by simp)]
theorem Wl{L':Array Bool}:∀{log:List cx},(∀s∈log,s.q=false->(df L s.i ↔ df L' s.i))->dg M0 L log=dg M0 L' log
 | [],_=>rfl
 |t::log,h=>by
  have ih:=Wl (log:=log) λs hs=>h s (iq _ hs);simp only [dg];rw [ih];cases hq:t.q with
  |true=>rfl
  |false=>
   have:=h t fL hq
   by_cases hc:df L t.i∧(dg M0 L' log).2 =true
   ·simp only [lg,ng];rw [if_pos hc,if_pos ⟨this.1 hc.1,hc.2⟩]
   ·simp only [lg,ng];rw [if_neg hc,if_neg λhh=>hc ⟨this.2 hh.1,hh.2⟩]
theorem dN.look:∀{log:List cx} {env:cV} {M:aW},dN X nt ops env0 M0 log env M->∀u,(∃s∈log,s.o.dst=some u∧az.look env u=s.x)∨((∀s∈log,s.o.dst≠some u)∧az.look env u=az.look env0 u)
 | [],env,M,⟨h,_⟩,u=> .inr ⟨λs hs=>by simp at hs,h u⟩
 |t::log,env,M,⟨_,_,hl,st⟩,u=>by
  rw [st.lk u];split
  ·rename_i hd;exact .inl ⟨t,fL,hd,rfl⟩
  ·rename_i hd;rcases dN.look hl u with⟨s,hs,h⟩|⟨h1,h2⟩
   ·exact .inl ⟨s,iq _ hs,h⟩
   ·exact ajp
theorem dN.closed:∀{log:List cx} {env:cV} {M:aW},dN X nt ops env0 M0 log env M->sh L log->∀t∈log,(∀e∈t.o.after,Region.binds .any e=true->df L e.on)->∀w,t.cl.testBit w=true->df L w
 | [],_,_,_,_,t,ht,_,_,_=>by simp at ht
 |t::log,_,_,⟨_,_,hl,st⟩,eL,s,hs,hp,w,hw=>by
  have ih:=dN.closed hl (λa ha=>eL a (iq _ ha));exact aky
theorem dN.entry{t:cx}{l1:List cx}:∀{l2:List cx} {gT:cV} {M':aW},dN X nt ops env0 M0 (l2++t::l1) gT M'->∃gJ M1 env M,dN X nt ops env0 M0 l1 gJ M1∧ale X nt ops t l1 gJ M1 env M
 | [],_,_,⟨_,_,hl,st⟩=>⟨_,_,_,_,hl,st⟩
 |_::l2,_,_,⟨_,_,hl,_⟩=>dN.entry (l2:=l2) hl
theorem dN.distinct:∀{env:cV} {M:aW},dN X nt ops env0 M0 log env M->∀s∈log,∀t∈log,s.i=t.i->s=t:=by
 induction log with
 |nil=>exact Px
 |cons a log ih=>
  intro env M h s hs t ht e;obtain⟨_,_,hl,st⟩:=h
  ·rcases gN.1 hs with rfl|dm<;>rcases gN.1 ht with rfl|vJ
   ·rfl
   ·exact absurd e (tA (st.pair t vJ)).1
   ·exact absurd e.symm (tA (st.pair s dm)).1
   ·exact ih hl s dm t vJ e
theorem dN.dst{log:List cx}:∀{env:cV} {M:aW},dN X nt ops env0 M0 log env M->∀s∈log,∀t∈log,∀d,s.o.dst=some d->t.o.dst=some d->s=t:=by
 induction log with
 |nil=>exact Px
 |cons a log ih=>
  intro env M h s hs t ht d h1 h2;obtain⟨_,_,hl,st⟩:=h
  ·rcases gN.1 hs with rfl|dm<;>rcases gN.1 ht with rfl|vJ
   ·rfl
   ·exact absurd h2 ((tA (st.pair t vJ)).2.1 d h1)
   ·exact absurd h1 ((tA (st.pair s dm)).2.1 d h2)
   ·exact ih hl s dm t vJ d h1 h2
theorem dN.wa:∀{log:List cx} {env:cV} {M:aW},dN X nt ops env0 M0 log env M->(dg M0 L log).2 =true->(dg M0 L log).1 =M
 | [],_,_,⟨_,h⟩,_=>h.symm
 |t::log,_,_,⟨_,_,hl,st⟩,h=>by
  simp only [dg]at h⊢;cases hq:t.q with
  |true=>
   rw [if_pos hq]at h;rw [if_pos rfl,dN.wa hl h,st.mem,st.hq hq,st.hM]
  |false=>
   rw [if_neg (Fu)]at h;rw [if_neg (by simp)]
   by_cases hc:df L t.i∧(dg M0 L log).2 =true
   ·rw [if_pos hc];exact st.mem.symm
   ·rw [if_neg hc]at h;simp at h
theorem dN.flag{o1:List cx}{M:aW}(hL:dN X nt ops env0 M0 (l2++s::o1) env M)(eL:sh L (l2++s::o1))(fO:s.q=false)(hf:fR X s=false)
 (jS:∀e∈s.o.after,Region.binds .any e=true->df L e.on):(dg M0 L o1).2 =true:=by
 rw [uH];intro r hr sW;obtain⟨_,_,_,_,hl,st⟩:=dN.entry hL;have hc:=dN.closed (L:=L) hL eL s (lz _ fL) jS;obtain⟨_,_,h|⟨_,_,h,_⟩⟩:=tA (st.pair r hr)
 ·exact hc _ h
 ·rw [fO,sW,hf]at h;simp at h
theorem dN.afi{t:cx}{l1:List cx}{id:Nat}(iZ:¬df L t.i)(hq:t.q=true)(bA:id∈t.ids):
 ∀{l2:List cx} {gT:cV} {M':aW},dN X nt ops env0 M0 (l2++t::l1) gT M'->sh L (l2++t::l1)->(∀e∈t.o.after,Region.binds .any e=true->df L e.on)->
  (dg M0 L (l2++t::l1)).1[id]?=t.M[id]?
 | [],gT,M',hL,eL,jS=>by
   obtain⟨_,_,hl,st⟩:=_root_.id hL
   ·simp only [mb,dg];rw [if_pos hq,st.hM];have Kg:=dN.closed (L:=L) hL eL t fL jS;have key:∀(l:List cx) (l':List cx) (e:cV) (N:aW),l'++l=l1->dN X nt ops env0 M0 l e N->(dg M0 L l).1[id]?=N[id]?:=by
     intro l
     induction l with
     |nil=>intro _ _ _ _ h;rw [h.2];rfl
     |cons s l ih=>
      intro l' e N Dx h;have hU:s∈l1:=ahB;have hp:=tA (st.pair s hU);obtain⟨_,_,fP,ke⟩:=h
      ·have AN:=ih (l'++[s]) _ _ (by simpa using Dx) fP;simp only [dg];cases fO:s.q with
       |true=>rw [if_pos rfl,AN,ke.mem,ke.hq fO,ke.hM]
       |false=>
        rw [if_neg (by simp)]
        by_cases hc:df L s.i∧(dg M0 L l).2 =true
        ·rw [if_pos hc,ke.mem]
        ·rw [if_neg hc];have hk:s.u7 id:=by
          obtain⟨_,_,h|⟨_,_,_,h,_⟩⟩:=hp
          ·exfalso;refine hc ⟨Kg _ h,?_⟩;cases hf:fR X s with
           |true=>
            rw [uH];intro r hr sW;have:=OG (l2:=l') (l1:=l) (by rw [Dx];exact st.rok) hf h r hr sW;exact Kg _ this
           |false=>
            have qS:dN X nt ops env0 M0 ((t::l')++s::l) gT M':=by
             have e:(t::l')++s::l=t::l1:=by rw [<-Dx];rfl
             rw [e];exact hL
            have anU:sh L ((t::l')++s::l):=by
             have e:(t::l')++s::l=t::l1:=by rw [<-Dx];rfl
             rw [e];exact eL
            exact dN.flag qS anU fO hf (anU s (lz _ fL) (Kg _ h))
          ·exact h hq fO id bA
         rw [AN,ke.mem,hk.at (ke.fK fO),ke.hM]
    exact key l1 [] _ _ rfl hl
 |s::l2,gT,M',hL,eL,jS=>by
  obtain⟨_,_,hl,st⟩:=_root_.id hL
  ·have ih:=dN.afi iZ hq bA (l2:=l2) hl (λa ha=>eL a (iq _ ha)) jS;simp only [ki,dg];cases fO:s.q with
   |true=>rw [if_pos rfl];exact ih
   |false=>
    rw [if_neg (by simp)]
    by_cases hc:df L s.i∧(dg M0 L (l2++t::l1)).2 =true
    ·rw [if_pos hc];have hp:=tA (st.pair t (lz _ fL));have om:=dN.closed (L:=L) hL eL s fL (eL s fL hc.1);obtain⟨_,_,h|⟨_,_,_,_,h⟩⟩:=hp
     ·exact absurd (om _ h) iZ
     ·show s.M'[id]?=_;rw [(h fO hq id bA).at (st.fK fO),st.hM,<-dN.wa hl hc.2];exact ih
    ·rw [if_neg hc];exact ih
theorem dN.agV{l1:List cx}(iZ:¬df L t.i)(hq:t.q=false):dg M0 L (l2++t::l1)=((dg M0 L l1).1,false):=by
 have:dg M0 L (t::l1)=((dg M0 L l1).1,false):=by
  simp only [dg];rw [if_neg (Fu),if_neg (λh=>iZ h.1)]
 rw [af7 (by rw [this]),this]
theorem dN.reads{t:cx}{l1:List cx}(iZ:¬df L t.i){u:Nat}(hu:u∈ir t.o++guardOf ops t.o){P:AV->Prop}:
 ∀{l2:List cx} {gT:cV} {M':aW},dN X nt ops env0 M0 (l2++t::l1) gT M'->sh L (l2++t::l1)->(∀e∈t.o.after,Region.binds .any e=true->df L e.on)->
  (∀s∈l1,t.cl.testBit s.i=true->s.o.dst=some u->P s.x)->((∀s∈l2++t::l1,df L s.i->s.o.dst≠some u)->P (az.look env0 u))->P (az.look t.env u)
 | [],gT,M',hL,eL,jS,hw,h0=>by
   obtain⟨_,_,hl,st⟩:=hL
   ·rw [st.Ke u];rcases dN.look hl u with⟨s,hs,hd,he⟩|⟨hn,he⟩
    ·rw [he];refine hw s hs ?_ hd;obtain⟨_,_,h|⟨h,_⟩⟩:=tA (st.pair s hs)
     ·exact h
     ·exact absurd hu (h u hd)
    ·exact ajB
 |s::l2,gT,M',hL,eL,jS,hw,h0=>by
  obtain⟨_,_,hl,st⟩:=_root_.id hL
  ·refine dN.reads iZ hu (l2:=l2) hl (λa ha=>eL a (iq _ ha)) jS hw λhn=>h0 λr hr qh hd=> ?_;rcases gN.1 hr with rfl|hr
   ·have om:=dN.closed (L:=L) hL eL r fL (eL r fL qh);obtain⟨_,_,h|⟨_,h,_⟩⟩:=tA (st.pair t (lz _ fL))
    ·exact iZ (om _ h)
    ·exact h u hd hu
   ·exact hn r hr qh hd
end
def live(ρ:bY)(M:aW)(F:bT):Sc:=⟨λg=>∃(id:Nat) (b:ed) (hd:Hd),M[id]?=some b∧b.iB=false∧ρ[id]?=some hd∧hd.eC=some g,F⟩
section
variable {w0 w w':World} {S:Sc} {F F':bT} {ρ ρ':bY} {M M':aW}
theorem Inv.aDj(hI:Inv X w0 S F ρ M w):Inv X w (live ρ M F) F ρ M w:=
 ⟨rfl,rfl,rfl,gz _,λ_ _ _=>rfl,hI.len,hI.rep,λid b hd g h1 h2 h3 h4=>⟨(hI.sep id b hd g h1 h2 h3 h4).1,.inl ⟨id,b,hd,h1,h2,h3,h4⟩,(hI.sep id b hd g h1 h2 h3 h4).2.2⟩,hI.iN,hI.fz,hI.fT,hI.one,λa ha=> .inl ha,λa ha=>ha⟩
theorem Inv.back(hI:Inv X w0 S F ρ M w)(h:Inv X w (live ρ M F) F' ρ' M' w'):Inv X w0 S F' ρ' M' w' where
 os:=h.os.trans hI.os
 tape:=h.tape.trans hI.tape
 output:=h.output.trans hI.output
 size:=nW hI.size h.size
 frame:=λg hg hn=>by
  rw [h.frame g (pR hg hI.size) ?_,hI.frame g hg hn];rintro⟨id,b,hd,h1,h2,h3,h4⟩;rcases(hI.sep id b hd g h1 h2 h3 h4).2.1 with h5|h5
  ·exact hn h5
  ·omega
 len:=h.len
 rep:=h.rep
 sep:=λid b hd g h1 h2 h3 h4=>by
  obtain⟨s1,s2,s3⟩:=h.sep id b hd g h1 h2 h3 h4;refine⟨s1,?_,s3⟩;rcases s2 with⟨id',b',dC,p1,p2,p3,p4⟩|s2
  ·exact(hI.sep id' b' dC g p1 p2 p3 p4).2.1
  ·exact .inr (nW hI.size s2)
 iN:=h.iN
 fz:=h.fz
 fT:=h.fT
 one:=h.one
 fV:=λa ha=>by
  rcases h.fV a ha with h1|⟨id',b',dC,p1,p2,p3,p4⟩|h1
  ·exact hI.fV a h1
  ·exact .inr (hI.sep id' b' dC _ p1 p2 p3 p4).2.1
  ·exact .inr (.inr (nW hI.size h1))
 fin:=λa ha=>h.fin a (hI.fin a ha)
structure Aside(F:bT)(ρ:bY)(M:aW)(w:World)(g:Nat):Prop where
 lt:g<w.heap.size
 fz:∀a,F a->a.block≠g
 no:∀(id:Nat) b hd,M[id]?=some b->b.iB=false->ρ[id]?=some hd->hd.eC≠some g
theorem Aside.sE{g:Nat}(hA:Aside F ρ M w g)(h:Inv X w (live ρ M F) F' ρ' M' w'):Aside F' ρ' M' w' g∧w'.heap[g]?=w.heap[g]?:=by
 have hn:¬(live ρ M F) g:=by
  rintro⟨id,b,hd,h1,h2,h3,h4⟩;exact hA.no id b hd h1 h2 h3 h4
 refine⟨⟨pR hA.lt h.size,λa ha e=> ?_,λid b hd h1 h2 h3 h4=> ?_⟩,h.frame g hA.lt hn⟩
 ·rcases h.fV a ha with h1|h1|h1
  ·exact hA.fz a h1 e
  ·exact hn (e▸h1)
  ·have:=hA.lt;omega
 ·rcases(h.sep id b hd g h1 h2 h3 h4).2.1 with h5|h5
  ·exact hn h5
  ·have:=hA.lt;omega
structure vj(X:Cx)(w0:World)(ρ:bY)(F:bT)(a:Act)(w:World)(g:Nat)(s:cx):Prop where
 ex:∃b hd,s.M'=s.M++[b]∧hd.eC=some g∧hd.v.oneCell'=true∧jV X ρ F w hd b∧
  ∀d,s.o.dst=some d->∀(ρ2:bY) (F2:bT) (w2:World),ρ2.length=s.M.length->aY X.K (ρ2++[hd]) F2 w2 s.x (a.tmps.getD d undef)
 new:w0.heap.size<=g
theorem vj.mono{w0 w w':World}{ρ ρ':bY}{F F':bT}{a a':Act}{g:Nat}{s:cx}(h:vj X w0 ρ F a w g s)(gG:∀(id:Nat) hd,ρ[id]?=some hd->ρ'[id]?=some hd)(hF:∀x,F x->F' x)(hw:∀x v,F x->w.cell? x=some v->w'.cell? x=some v)(hg:w'.heap[g]?=w.heap[g]?)
 (ha:∀d,s.o.dst=some d->a'.tmps.getD d undef=a.tmps.getD d undef):vj X w0 ρ' F' a' w' g s:=by
 obtain⟨⟨b,hd,h1,h2,h3,h4,h5⟩,h6⟩:=h;exact⟨⟨b,hd,h1,h2,h3,h4.mono gG hF hw (λk hk=>by rw [h2]at hk;injection hk with hk;subst hk;exact hg),λd dC=>by rw [ha d dC];exact h5 d dC⟩,h6⟩
end
section
variable {nt:Nt} {ops:Array Oper} {env0:cV} {M0:aW} {L:Array Bool}
theorem XY{w0 w:World}{S:Sc}{F:bT}{ρ:bY}{a:Act}{γ:Nat->Nat}{base:List cx}:∀{l2:List cx} {env:cV} {M:aW},dN X nt ops env0 M0 (l2++base) env M->Inv X w0 S F ρ (dg M0 L base).1 w->
 (∀s∈l2,s.q=false->df L s.i->fR X s=true)->
 (∀s∈l2,fR X s=true->df L s.i->vj X w0 ρ F a w (γ s.i) s∧Aside F ρ (dg M0 L base).1 w (γ s.i))->
 (∀s∈l2,∀s'∈l2,fR X s=true->fR X s'=true->df L s.i->df L s'.i->s.i≠s'.i->γ s.i≠γ s'.i)->
 ∃ρ2,Inv X w0 S F ρ2 (dg M0 L (l2++base)).1 w∧(∀(id:Nat) hd,ρ[id]?=some hd->ρ2[id]?=some hd)∧
  (∀b s c,l2=b++s::c->fR X s=true->df L s.i->(dg M0 L (c++base)).2 =true->∀d,s.o.dst=some d->aY X.K ρ2 F w s.x (a.tmps.getD d undef))∧
  (∀g,Aside F ρ (dg M0 L base).1 w g->(∀b s c,l2=b++s::c->fR X s=true->df L s.i->(dg M0 L (c++base)).2 =true->γ s.i≠g)->Aside F ρ2 (dg M0 L (l2++base)).1 w g)
 | [],env,M,hL,hI,_,_,_=>⟨ρ,hI,λ_ _ h=>h,λb s c h=>gM,λg hg _=>hg⟩
 |s::l2,env,M,hL,hI,s6,Rk,hγ=>by
  obtain⟨gJ,M1,hl,st⟩:=_root_.id hL;obtain⟨ρ1,i1,e1,p1,a1⟩:=XY (l2:=l2) hl hI (λr hr=>s6 r (iq _ hr)) (λr hr=>Rk r (iq _ hr)) (λr hr r' nM=>hγ r (iq _ hr) r' (iq _ nM));have same:(dg M0 L (s::(l2++base))).1 =(dg M0 L (l2++base)).1 ->(fR X s=true->df L s.i->(dg M0 L (l2++base)).2 =true->False)->_:=λiy oj=>
   (⟨ρ1,by rw [ki,iy];exact i1,e1,λb r c fe hf dX hZ d hd=>by
      cases b with
      |nil=>
       rw [mb]at fe;injection fe with h1 h2;subst h1;subst h2;exact(oj hf dX hZ).elim
      |cons b0 b=>
       rw [ki]at fe;injection fe with h1 h2;exact p1 b r c h2 hf dX hZ d hd,
     λg hg hr=>by
      rw [ki,iy];exact a1 g hg λb r c fe=>hr (s::b) r c (by rw [fe,ki])⟩:
     ∃ρ2,Inv X w0 S F ρ2 (dg M0 L (s::l2++base)).1 w∧(∀(id:Nat) hd,ρ[id]?=some hd->ρ2[id]?=some hd)∧
      (∀b r c,s::l2=b++r::c->fR X r=true->df L r.i->(dg M0 L (c++base)).2 =true->∀d,r.o.dst=some d->aY X.K ρ2 F w r.x (a.tmps.getD d undef))∧
      (∀g,Aside F ρ (dg M0 L base).1 w g->(∀b r c,s::l2=b++r::c->fR X r=true->df L r.i->(dg M0 L (c++base)).2 =true->γ r.i≠g)->Aside F ρ2 (dg M0 L (s::l2++base)).1 w g))
  cases hq:s.q with
  |true=>
   refine same (by simp only [dg];rw [if_pos hq]) λhf _ _=> ?_;simp [fR,hq]at hf
  |false=>
   by_cases hc:df L s.i∧(dg M0 L (l2++base)).2 =true
   ·have hf:=s6 s fL hq hc.1;obtain⟨hh,ha⟩:=Rk s fL hf hc.1;obtain⟨b1,tc,DE,Rl,Zp,Zl,Zg⟩:=hh.ex;have iy:(dg M0 L (s::(l2++base))).1 =s.M':=by
     simp only [dg];rw [if_neg (Fu),if_pos hc]
    have hMs:s.M=(dg M0 L (l2++base)).1 :=by rw [st.hM];exact(dN.wa hl hc.2).symm
    have asd:∀g,Aside F ρ (dg M0 L base).1 w g->(∀b r c,l2=b++r::c->fR X r=true->df L r.i->(dg M0 L (c++base)).2 =true->γ r.i≠g)->Aside F ρ1 s.M w g:=by
     intro g h1 h2;rw [hMs];exact a1 g h1 h2
    have hU:=asd (γ s.i) ha λb r c fe mU AZ _=>by
     have hr:r∈l2:=aho;exact hγ r (iq _ hr) s fL mU hf AZ hc.1 (λe=>(tA (st.pair r (xD _ hr))).1 e.symm)
    rw [<-hMs]at i1;have hlen:ρ1.length=s.M.length:=i1.len;have i2:Inv X w0 S F (ρ1++[tc]) (s.M++[b1]) w:=by
     refine i1.Cg (hd:=tc) (λg hg=> ?_) Zp (Zl.mono (λid hd h=>ny (e1 id hd h)) (λ_ h=>h) (λ_ _ _ h=>h) (λ_ _=>rfl));rw [Rl]at hg;injection hg with hg;subst hg;exact⟨hU.lt,.inr hh.new,hU.fz,hU.no⟩
    refine⟨_,by rw [ki,iy,DE];exact i2,λid hd h=>ny (e1 id hd h),λb r c fe mU AZ hZ dd eK=> ?_,λg hg hr=> ?_⟩
    ·cases b with
     |nil=>
      rw [mb]at fe;injection fe with h1 h2;subst h1;subst h2;exact Zg dd eK ρ1 F w hlen
     |cons b0 b=>
      rw [ki]at fe;injection fe with h1 h2;exact(p1 b r c h2 mU AZ hZ dd eK).mono (λid hd h=>ny h) (λ_ h=>h) (λ_ _ _ h=>h)
    ·have h1:=asd g hg λb r c fe=>hr (s::b) r c (by rw [fe,ki]);have eD:γ s.i≠g:=hr [] s l2 rfl hf hc.1 hc.2;rw [ki,iy,DE];refine⟨h1.lt,h1.fz,λid b hd hb eK eo=> ?_⟩
     by_cases bA:id<s.M.length
     ·rw [ju bA]at hb;rw [ju (by omega)]at eo;exact h1.no id b hd hb eK eo
     ·by_cases Gr:id=s.M.length
      ·subst Gr;rw [kv (by omega),hlen,II]at eo;simp only [E2,Option.some.injEq]at eo;subst eo;rw [Rl];exact λe=>eD (Option.some.inj e)
      ·rw [BT (eh)]at hb;cases hb
   ·refine same (by simp only [dg];rw [if_neg (Fu),if_neg hc]) λ_ dX hZ=>hc ⟨dX,hZ⟩
end
structure aoi(X:Cx)(nt:Nt)(env0:cV)(M0:aW)(w0:World)(S:Sc)(F0:bT)(ρ0:bY)(wb:World)(ds:List Deferred)(tv:Nat->Value)(log:List cx)(L:Array Bool)(γ:Nat->Nat)(F:bT)(ρ:bY)(a:Act)(w:World):Prop where
 inv:Inv X w0 S F ρ (dg M0 L log).1 w
 grow:Grow F0 F ρ0 ρ wb w
 size:a.tmps.size=nt.n
 defs:a.defers=ds
 kept:∀t,nt.mask.testBit t=false->a.tmps.getD t undef=tv t
 wrote:∀l2 s l1,log=l2++s::l1->df L s.i->(fR X s=true->(dg M0 L l1).2 =true)->∀d,s.o.dst=some d->aY X.K ρ F w s.x (a.tmps.getD d undef)
 bA:∀l2 s l1,log=l2++s::l1->df L s.i->fR X s=true->(dg M0 L l1).2 =false->vj X w0 ρ F a w (γ s.i) s∧Aside F ρ (dg M0 L log).1 w (γ s.i)
 lt:∀s∈log,fR X s=true->df L s.i->γ s.i<w.heap.size
 Lv:∀s∈log,∀s'∈log,fR X s=true->fR X s'=true->df L s.i->df L s'.i->s.i≠s'.i->γ s.i≠γ s'.i
 fV:∀u,(∀s∈log,df L s.i->s.o.dst≠some u)->aY X.K ρ F w (az.look env0 u) (a.tmps.getD u undef)
section
variable {nt:Nt} {ops:Array Oper} {env0:cV} {M0:aW}
theorem aDF(h:fR X t=true):t.q=false:=by
 unfold fR at h;rw [bS]at h;simpa using h.1
theorem V0{α:Type}{b c l2 l1:List α}{s t:α}(h:b++s::c=l2++t::l1):
 (∃m,l2=b++s::m∧c=m++t::l1)∨(b=l2∧s=t∧c=l1)∨(∃m,l1=m++s::c∧b=l2++t::m):=by
 induction b generalizing l2 with
 |nil=>
  cases l2 with
  |nil=>simp only [mb,List.cons.injEq]at h;exact .inr (.inl ⟨rfl,h.1,h.2⟩)
  |cons x l2=>simp only [mb,ki,List.cons.injEq]at h;exact .inl ⟨l2,by rw [h.1];rfl,h.2⟩
 |cons y b ih=>
  cases l2 with
  |nil=>simp only [mb,ki,List.cons.injEq]at h;exact .inr (.inr ⟨b,h.2.symm,by rw [h.1];rfl⟩)
  |cons x l2=>
   simp only [ki,List.cons.injEq]at h;rcases ih h.2 with⟨m,h1,h2⟩|⟨h1,h2,h3⟩|⟨m,h1,h2⟩
   ·exact .inl ⟨m,by rw [h1,h.1];rfl,h2⟩
   ·exact .inr (.inl ⟨by rw [h1,h.1],h2,h3⟩)
   ·exact .inr (.inr ⟨m,h1,by rw [h2,h.1];rfl⟩)
theorem dN.uniq{M:aW}(hL:dN X nt ops env0 M0 log env M){b c b' c':List cx}(h1:log=b++s::c)(h2:log=b'++s::c'):c=c':=by
 have irr:∀{p q r:List cx},log=p++s::(q++s::r)->False:=by
  intro p q r h;obtain⟨_,_,_,_,_,st⟩:=dN.entry (h▸hL);exact(tA (st.pair s (lz _ fL))).1 rfl
 rcases V0 (h1.symm.trans h2)with⟨m,h3,h4⟩|⟨_,_,h⟩|⟨m,h3,h4⟩
 ·exact(irr (p:=b) (q:=m) (r:=c') (by rw [h1,h4])).elim
 ·exact h
 ·exact(irr (p:=b') (q:=m) (r:=c) (by rw [h2,h3])).elim
theorem aAX(hX:X.Okb){rdc:Cy}{n:Nat}{w0 wb:World}{S:Sc}{F0:bT}{ρ0:bY}{ds:List Deferred}{tv:Nat->Value}{Q:Exit->Act->World->Prop}{M:aW}(hL:dN X nt ops env0 M0 log env M)
 (ja:∀i,i<ops.size->∃t∈log,t.i=i)
 (hQ:∀a' w' F' ρ',Inv X w0 S F' ρ' M w'->iU X ρ' F' w' env a'.tmps->a'.tmps.size=nt.n->a'.defers=ds->(∀t,nt.mask.testBit t=false->a'.tmps.getD t undef=tv t)->Grow F0 F' ρ0 ρ' wb w'->Q .normal a' w'):
 ∀(fuel:Nat) (L:Array Bool) (γ:Nat->Nat) (F:bT) (ρ:bY) (a:Act) (w:World),L.size=ops.size->log.countP (λt=> !(L.getD t.i false))<=fuel->sh L log->
  aoi X nt env0 M0 w0 S F0 ρ0 wb ds tv log L γ F ρ a w->wpAnyIn (kY rdc.r) n X.P .any ops Q fuel L a w:=by
 have done:∀(L:Array Bool) (γ:Nat->Nat) (F:bT) (ρ:bY) (a:Act) (w:World),(∀t∈log,df L t.i)->aoi X nt env0 M0 w0 S F0 ρ0 wb ds tv log L γ F ρ a w->Q .normal a w:=by
  intro L γ F ρ a w dX hm;refine hQ a w F ρ ?_ (λu=> ?_) hm.size hm.defs hm.kept hm.grow
  ·have:=dN.wa hL (L:=L) (uH.2 λs hs _=>dX s hs);rw [<-this];exact hm.inv
  ·rcases dN.look hL u with⟨s,hs,hd,he⟩|⟨hn,he⟩
   ·rw [he];obtain⟨l2,l1,mu⟩:=qX hs;exact hm.wrote l2 s l1 mu (dX s hs) (λ_=>uH.2 λr hr _=>dX r (by rw [mu];exact lz _ (iq _ hr))) u hd
   ·rw [he];exact hm.fV u λs hs _=>hn s hs
 have none_ready:∀(L:Array Bool),L.size=ops.size->Region.ready .any ops L=[]->∀t∈log,df L t.i:=by
  intro L ei hr;have key:∀(l1:List cx) (l2:List cx) (gT:cV) (M':aW),dN X nt ops env0 M0 l1 gT M'->l2++l1=log->∀t∈l1,df L t.i:=anp;exact λt ht=>key log [] env M hL rfl t ht
 intro fuel
 induction fuel with
 |zero=>
  intro L γ F ρ a w ei aay eL hm;have dX:∀t∈log,df L t.i:=akI;refine⟨?_,done L γ F ρ a w dX hm⟩;exact akW
 |succ fuel ih=>
  intro L γ F ρ a w ei aay eL hm;refine⟨λhr=>done L γ F ρ a w (none_ready L ei hr) hm,λi hi=> ?_⟩;rw [OD]at hi;obtain⟨hf,o,ho,jS⟩:=hi;have cF:i<ops.size:=(v7.1 ho).1;obtain⟨t,ht,rfl⟩:=ja i cF;have aas:t.i<L.size:=by omega
  have iZ:¬df L t.i:=ajc;obtain⟨l2,l1,mu⟩:=qX ht;obtain⟨gJ,M1,aNp,ME,eZ,st⟩:=dN.entry (mu▸hL);have Dv:t.o=o:=ai2;subst Dv;have mM:∀j,df (L.setIfInBounds t.i true) j ↔ j=t.i∨df L j:=akj;have aE4:log.countP (λs=> !((L.setIfInBounds t.i true).getD s.i false))<=fuel:=by
   have:=WW (l:=log) (p:=λt=> !(L.getD t.i false)) (q:=λs=> !((L.setIfInBounds t.i true).getD s.i false)) (λs hs h=>by
    have h':¬df (L.setIfInBounds t.i true) s.i:=by simpa [df]using h
    rw [mM]at h';have:¬df L s.i:=λhh=>h' (.inr hh);simpa [df]using this) ⟨t,ht,by simpa [df]using iZ,air⟩
   omega
  have Kg:sh (L.setIfInBounds t.i true) log:=by
   intro s hs dW e he hb;rw [mM]at dW⊢;rcases dW with h|h
   ·have:=dN.distinct hL s hs t ht h;subst this;exact .inr (jS e he hb)
   ·exact .inr (eL s hs h e he hb)
  have Am:=dN.closed (L:=L) hL eL t ht jS;have Gs:sh L (l2++t::l1):=mu▸eL;have qS:dN X nt ops env0 M0 (l2++t::l1) env M:=mu▸hL;have anI:∀s∈l1,s.i≠t.i:=λs hs e=>(tA (st.pair s hs)).1 e.symm;have Q5:∀{l:List cx},(∀s∈l,s∈l1)->dg M0 (L.setIfInBounds t.i true) l=dg M0 L l:=λh=>Wl λs hs _=>by
   rw [mM];exact⟨λhh=>hh.resolve_left (anI s (h s hs)),.inr⟩
  have anD:∀s∈log,df L s.i->s≠t:=λs _ dW e=>iZ (e▸dW);have tmp_ne:∀(v:Value) (s:cx),s∈log->s≠t->∀d,s.o.dst=some d->(a.put t.o.dst v).tmps.getD d undef=a.tmps.getD d undef:=by
   intro v s hs eJ d hd;cases Du:t.o.dst with
   |none=>rfl
   |some d'=>
    have eD:d'≠d:=λe=>eJ (dN.dst hL s hs t ht d hd (e▸Du));exact Yj
  have tmp_eq:∀(v:Value) d,t.o.dst=some d->(a.put t.o.dst v).tmps.getD d undef=v:=by
   intro v d hd;have CV:=(st.dst d hd).1;simp [Act.put,hd,oV,hm.size,CV]
  have tmp_old:∀(v:Value) u,t.o.dst≠some u->(a.put t.o.dst v).tmps.getD u undef=a.tmps.getD u undef:=by
   intro v u AS;exact aki
  have Zr:∀(v:Value),∀u,nt.mask.testBit u=false->(a.put t.o.dst v).tmps.getD u undef=tv u:=by
   intro v;exact ajk
  have anN:t.q=false->∀s∈l2,s.q=false->df L s.i->fR X s=true:=by
   intro sV s hs fO dW;cases e7:fR X s with
   |true=>rfl
   |false=>
    exfalso;obtain⟨b,c,fe⟩:=qX hs;have hLs:dN X nt ops env0 M0 (b++s::(c++t::l1)) env M:=by have:=qS;rw [fe]at this;simpa using this
    have aM8:sh L (b++s::(c++t::l1)):=by have:=Gs;rw [fe]at this;simpa using this
    have dm:s∈log:=by rw [mu];exact xD _ hs
    have:=dN.flag hLs aM8 fO e7 (eL s dm dW);rw [uH]at this;exact iZ (this t (lz _ fL) sV)
  have fin:∀(γ2:Nat->Nat) (F2:bT) (ρ2:bY) (v:Value) (w2:World),Inv X w0 S F2 ρ2 (dg M0 (L.setIfInBounds t.i true) log).1 w2->Grow F F2 ρ ρ2 w w2->w.heap.size<=w2.heap.size->
   (fR X t=false->aY X.K ρ2 F2 w2 t.x v)->
   (∀b s c,log=b++s::c->fR X s=true->df (L.setIfInBounds t.i true) s.i->(dg M0 (L.setIfInBounds t.i true) c).2 =true->(s=t∨(dg M0 L c).2 =false)->∀d,s.o.dst=some d->aY X.K ρ2 F2 w2 s.x ((a.put t.o.dst v).tmps.getD d undef))->
   (∀b s c,log=b++s::c->fR X s=true->df (L.setIfInBounds t.i true) s.i->(dg M0 (L.setIfInBounds t.i true) c).2 =false->vj X w0 ρ2 F2 (a.put t.o.dst v) w2 (γ2 s.i) s∧Aside F2 ρ2 (dg M0 (L.setIfInBounds t.i true) log).1 w2 (γ2 s.i))->
   (∀s∈log,fR X s=true->s≠t->γ2 s.i=γ s.i)->(fR X t=true->w.heap.size<=γ2 t.i∧γ2 t.i<w2.heap.size)->
   wpAnyIn (kY rdc.r) n X.P .any ops Q fuel (L.setIfInBounds t.i true) (a.put t.o.dst v) w2:=by
   intro γ2 F2 ρ2 v w2 uy hg aEX hx anF Rk hγ wS;have kR:∀s∈log,df (L.setIfInBounds t.i true) s.i->s≠t->df L s.i:=ajE;refine ih _ γ2 F2 ρ2 _ w2 (Jc) aE4 Kg ⟨uy,hm.grow.trans hg,ahO,ahK,Zr v,?_,λb s c h1 h2 h3 h4=>Rk b s c h1 h3 h2 h4,?_,?_,?_⟩
   ·intro b s c fe dW ak4 d hd;have hs:s∈log:=aho
    by_cases eJ:s=t
    ·subst eJ;cases uv:fR X s with
     |true=>exact anF b s c fe uv dW (ak4 uv) (.inl rfl) d hd
     |false=>rw [tmp_eq v d hd];exact hx uv
    ·have tX:=kR s hs dW eJ;cases e7:fR X s with
     |false=>rw [tmp_ne v s hs eJ d hd];exact(hm.wrote b s c fe tX (λh=>by rw [e7]at h;cases h) d hd).grow hg
     |true=>
      cases nO:(dg M0 L c).2 with
      |true=>rw [tmp_ne v s hs eJ d hd];exact(hm.wrote b s c fe tX (λ_=>nO) d hd).grow hg
      |false=>exact anF b s c fe e7 dW (ak4 e7) (.inr nO) d hd
   ·intro s hs e7 dW
    by_cases eJ:s=t
    ·subst eJ;exact(wS e7).2
    ·rw [hγ s hs e7 eJ];exact pR (hm.lt s hs e7 (kR s hs dW eJ)) aEX
   ·intro s hs s' dm e7 wU dW tX eD
    by_cases eJ:s=t
    ·by_cases Ak:s'=t
     ·exact absurd (by rw [eJ,Ak]) eD
     ·rw [hγ s' dm wU Ak];have h1:=hm.lt s' dm wU (kR s' dm tX Ak);have h2:=(wS (eJ▸e7)).1;rw [eJ];omega
    ·by_cases Ak:s'=t
     ·rw [hγ s hs e7 eJ];have h1:=hm.lt s hs e7 (kR s hs dW eJ);have h2:=(wS (Ak▸wU)).1;rw [Ak];omega
     ·rw [hγ s hs e7 eJ,hγ s' dm wU Ak];exact hm.Lv s hs s' dm e7 wU (kR s hs dW eJ) (kR s' dm tX Ak) eD
   ·intro u hu;have AS:t.o.dst≠some u:=hu t ht ((mM _).2 (.inl rfl));rw [tmp_old v u AS];exact ail
  have hid_flag:t.q=false->∀{b:List cx} {s:cx} {c:List cx},log=b++s::c->s∈l2->(dg M0 L c).2 =false:=by
   intro sV b s c fe hs;obtain⟨b',c',yz⟩:=qX hs;have e:=dN.uniq hL fe (show log=b'++s::(c'++t::l1)by rw [mu,yz];simp);rw [e];cases hZ:(dg M0 L (c'++t::l1)).2 with
   |false=>rfl
   |true=>
    rw [uH]at hZ;exact absurd (hZ t (lz _ fL) sV) iZ
  have hin_log:∀{b:List cx} {s:cx} {c:List cx},log=b++s::c->s∈log:=λh=>by rw [h];exact lz _ fL
  have kR:∀s∈log,df (L.setIfInBounds t.i true) s.i->s≠t->df L s.i:=ajE;have jJ:∀{s:cx},s∈l2->s∈log:=λhs=>by rw [mu];exact xD _ hs
  have rB:∀s∈l2,s≠t:=by
   intro s hs e;subst e;obtain⟨b',c',yz⟩:=qX hs;have:=dN.uniq hL mu (show log=b'++s::(c'++s::l1)by rw [mu,yz];simp);have:=uJ List.length this;simp at this;omega
  cases uv:fR X t with
  |true=>
   have sV:=aDF uv;obtain⟨b1,DE,dB⟩:=st.fl uv;have iy:dg M0 L log=((dg M0 L l1).1,false):=by rw [mu];exact dN.agV iZ sV
   have uo:dg M0 (L.setIfInBounds t.i true) l1=dg M0 L l1:=Q5 (λs hs=>hs);refine dB hm.inv hm.size (λu hu=>dN.reads (P:=λx=>aY X.K ρ F w x (a.tmps.getD u undef)) iZ hu qS Gs jS (λs hs xd hd=>by
    obtain⟨m,c,K9⟩:=qX hs;exact hm.wrote (l2++t::m) s c (by rw [mu,K9];simp) (Am _ xd) (λe7=>uH.2 λr hr sW=>Am _ (OG (l2:=m) (K9▸st.rok) e7 xd r hr sW)) u hd) (λh=>hm.fV u (by rw [mu];exact h))) ?_
   intro v1 w1 tc qk Rl Rj Zp Zl Zg;have G5:Inv X w0 S F ρ (dg M0 (L.setIfInBounds t.i true) l1).1 w1:=by
    rw [uo];have:=hm.inv.grown qk;rw [iy]at this;exact this
   have Jo:=hm.inv.cells qk (by simp)
   let γ2:Nat->Nat:=λj=>if j=t.i then w.heap.size else γ j
   have wS:γ2 t.i=w.heap.size:=by simp [γ2]
   have wT:∀s∈log,s≠t->γ2 s.i=γ s.i:=λs hs eJ=>by
    have:s.i≠t.i:=λe=>eJ (dN.distinct hL s hs t ht e);simp [γ2,this]
   have Qu:(l2++[t])++l1=log:=by rw [mu];simp
   have hLr:dN X nt ops env0 M0 ((l2++[t])++l1) env M:=Qu▸hL;have tr:∀b s c,log=b++s::c->df L s.i->fR X s=true->(dg M0 L c).2 =false->vj X w0 ρ F (a.put t.o.dst v1) w1 (γ2 s.i) s∧Aside F ρ (dg M0 (L.setIfInBounds t.i true) l1).1 w1 (γ2 s.i):=by
    intro b s c fe dW e7 hZ;have hs:=hin_log fe;have eJ:=anD s hs dW;obtain⟨h1,h2⟩:=hm.bA b s c fe dW e7 hZ;rw [wT s hs eJ];rw [iy]at h2;exact⟨h1.mono (λ_ _ h=>h) (λ_ h=>h) Jo (qk.block _ h2.lt (by simp)) (λdd eK=>tmp_ne _ s hs eJ dd eK),⟨pR h2.lt qk.size,h2.fz,by rw [uo];exact h2.no⟩⟩
   have trt:vj X w0 ρ F (a.put t.o.dst v1) w1 (γ2 t.i) t∧Aside F ρ (dg M0 (L.setIfInBounds t.i true) l1).1 w1 (γ2 t.i):=by
    rw [wS];refine⟨⟨⟨b1,tc,DE,Rl,Zp,Zl,λdd eK=>by rw [tmp_eq _ dd eK];exact Zg⟩,hm.inv.size⟩,⟨Rj,λb hb e=> ?_,λid b hd h1 h2 h3 h4=> ?_⟩⟩
    ·have:=hm.inv.fz b hb;omega
    ·rw [uo]at h1;have hY:(dg M0 L log).1 =(dg M0 L l1).1 :=by rw [iy]
     have:=(hm.inv.sep id b hd _ (by rw [hY];exact h1) h2 h3 h4).1;omega
   obtain⟨ρ2,i2,e2,p2,a2⟩:=XY (L:=L.setIfInBounds t.i true) (γ:=γ2) (a:=a.put t.o.dst v1) hLr G5 (λs hs fO dW=>by
    rcases jO.1 hs with hs|hs
    ·exact anN sV s hs fO (kR s (jJ hs) dW (rB s hs))
    ·rw [BK.1 hs];exact uv) (λs hs e7 dW=>by
    rcases jO.1 hs with hs|hs
    ·obtain⟨b,c,fe⟩:=qX (jJ hs);exact tr b s c fe (kR s (jJ hs) dW (rB s hs)) e7 (hid_flag sV fe hs)
    ·rw [BK.1 hs];exact trt) (λs hs s' dm e7 wU dW tX eD=>by
    rcases jO.1 hs with hs|hs<;>rcases jO.1 dm with dm|dm
    ·rw [wT s (jJ hs) (rB s hs),wT s' (jJ dm) (rB s' dm)];exact hm.Lv s (jJ hs) s' (jJ dm) e7 wU (kR s (jJ hs) dW (rB s hs)) (kR s' (jJ dm) tX (rB s' dm)) eD
    ·rw [BK.1 dm,wS,wT s (jJ hs) (rB s hs)];have:=hm.lt s (jJ hs) e7 (kR s (jJ hs) dW (rB s hs));omega
    ·rw [BK.1 hs,wS,wT s' (jJ dm) (rB s' dm)];have:=hm.lt s' (jJ dm) wU (kR s' (jJ dm) tX (rB s' dm));omega
    ·exact absurd (by rw [BK.1 hs,BK.1 dm]) eD)
   rw [Qu]at i2 a2;refine fin γ2 F ρ2 _ _ i2 ⟨λ_ h=>h,e2,hm.inv.wV qk (by simp)⟩ qk.size (λh=>Yb) ?_ ?_ (λs hs _ eJ=>wT s hs eJ) (λ_=>by rw [wS];exact⟨gz _,Rj⟩)
   ·intro b s c fe e7 dW hZ lT dd eK;rcases V0 (fe.symm.trans mu)with⟨m,h3,h4⟩|⟨h3,h4,h5⟩|⟨m,h3,h4⟩
    ·exact p2 b s (m++[t]) (by rw [h3];simp) e7 dW (by rw [show(m++[t])++l1=c by rw [h4];simp];exact hZ) dd eK
    ·subst h4;exact p2 l2 s [] rfl e7 dW (by rw [mb,<-h5];exact hZ) dd eK
    ·exfalso;have h6:dg M0 (L.setIfInBounds t.i true) c=dg M0 L c:=Q5 (λr hr=>ahQ);rw [h6]at hZ;rcases lT with h|h
     ·exact anI s (by rw [h3];exact lz _ fL) (by rw [h])
     ·rw [h]at hZ;cases hZ
   ·intro b s c fe e7 dW hZ;have hs:=hin_log fe;have hH:vj X w0 ρ F (a.put t.o.dst v1) w1 (γ2 s.i) s∧Aside F ρ (dg M0 (L.setIfInBounds t.i true) l1).1 w1 (γ2 s.i):=by
     by_cases eJ:s=t
     ·rw [eJ];exact trt
     ·refine tr b s c fe (kR s hs dW eJ) e7 ?_;exact akK
    refine⟨hH.1.mono e2 (λ_ h=>h) (λ_ _ _ h=>h) rfl (λ_ _=>rfl),a2 _ hH.2 λb' r c' yz mU AZ aaw e=> ?_⟩;have hr:r∈log:=by rw [<-Qu,yz];simp
    by_cases qM:r.i=s.i
    ·have e1:=dN.distinct hL r hr s hs qM;subst e1;have:=dN.uniq hL fe (show log=b'++r::(c'++l1)by rw [<-Qu,yz];simp);rw [this,aaw]at hZ;cases hZ
    ·by_cases vK:r=t
     ·by_cases eJ:s=t
      ·exact qM (by rw [vK,eJ])
      ·rw [vK,wS,wT s hs eJ]at e;have:=hm.lt s hs e7 (kR s hs dW eJ);omega
     ·by_cases eJ:s=t
      ·rw [eJ,wS,wT r hr vK]at e;have:=hm.lt r hr mU (kR r hr AZ vK);omega
      ·rw [wT r hr vK,wT s hs eJ]at e;exact hm.Lv r hr s hs mU e7 (kR r hr AZ vK) (kR s hs dW eJ) qM e
  |false=>
   refine st.runs uv (M0:=(dg M0 L log).1) (λhq id bA=>by rw [mu];exact dN.afi iZ hq bA qS Gs jS) (λhq=>by
    rw [mu,dN.agV iZ hq,st.hM];exact dN.wa eZ (dN.flag qS Gs hq uv jS))
    hm.inv.aDj hm.size (λu hu=>dN.reads (P:=λx=>aY X.K ρ F w x (a.tmps.getD u undef)) iZ hu qS Gs jS (λs hs xd hd=>by
     obtain⟨m,c,K9⟩:=qX hs;exact hm.wrote (l2++t::m) s c (by rw [mu,K9];simp) (Am _ xd) (λe7=>uH.2 λr hr sW=>Am _ (OG (l2:=m) (K9▸st.rok) e7 xd r hr sW)) u hd) (λh=>hm.fV u (by rw [mu];exact h))) ?_
   intro v w' F' ρ' dG hx hg;have uy:=hm.inv.back dG;have tr:∀b s c,log=b++s::c->df L s.i->fR X s=true->(dg M0 L c).2 =false->vj X w0 ρ' F' (a.put t.o.dst v) w' (γ s.i) s∧Aside F' ρ' (if t.q=true then(dg M0 L log).1 else t.M') w' (γ s.i):=by
    intro b s c fe dW e7 hZ;have hs:=hin_log fe;have eJ:=anD s hs dW;obtain⟨h1,h2⟩:=hm.bA b s c fe dW e7 hZ;obtain⟨h3,h4⟩:=h2.sE dG;exact⟨h1.mono hg.gG hg.hF hg.hw h4 (λdd eK=>tmp_ne _ s hs eJ dd eK),h3⟩
   have GZ:∀s,fR X s=true->s≠t:=λs e7 e=>by rw [e,uv]at e7;cases e7
   cases hq:t.q with
   |true=>
    have same:∀{l:List cx},(∀s∈l,s∈log)->dg M0 (L.setIfInBounds t.i true) l=dg M0 L l:=λh=>Wl λs hs fO=>by
     rw [mM];refine⟨λhh=>hh.resolve_left λe=> ?_,.inr⟩;have:=dN.distinct hL s (h s hs) t ht e;rw [this,hq]at fO;cases fO
    rw [if_pos hq]at uy;have aj7:∀{b:List cx} {s:cx} {c:List cx},log=b++s::c->dg M0 (L.setIfInBounds t.i true) c=dg M0 L c:=λfe=>same λr hr=>by rw [fe];exact lz _ (iq _ hr)
    refine fin γ F' ρ' v w' (by rw [same λs hs=>hs];exact uy) hg dG.size (λ_=>hx) ?_ ?_ (λ_ _ _ _=>rfl) (λh=>Yb)
    ·intro b s c fe e7 dW hZ lT;rw [aj7 fe]at hZ;rcases lT with h|h
     ·exact absurd h (GZ s e7)
     ·rw [h]at hZ;cases hZ
    ·intro b s c fe e7 dW hZ;rw [aj7 fe]at hZ;have:=tr b s c fe (kR s (hin_log fe) dW (GZ s e7)) e7 hZ;rw [if_pos hq]at this;rw [same λs hs=>hs];exact this
   |false=>
    have hqn:¬t.q=true:=Ph;have ak6:dg M0 (L.setIfInBounds t.i true) (t::l1)=(t.M',true):=by
     simp only [dg];rw [if_neg hqn,if_pos ⟨(mM _).2 (.inl rfl),by rw [Q5 λs hs=>hs];exact dN.flag qS Gs hq uv jS⟩]
    rw [if_neg hqn]at uy;have trb:∀b s c,log=b++s::c->df L s.i->fR X s=true->(dg M0 L c).2 =false->vj X w0 ρ' F' (a.put t.o.dst v) w' (γ s.i) s∧Aside F' ρ' (dg M0 (L.setIfInBounds t.i true) (t::l1)).1 w' (γ s.i):=by
     intro b s c h1 h2 h3 h4;have:=tr b s c h1 h2 h3 h4;rw [if_neg hqn]at this;rw [ak6];exact this
    obtain⟨ρ2,i2,e2,p2,a2⟩:=XY (L:=L.setIfInBounds t.i true) (γ:=γ) (a:=a.put t.o.dst v) (base:=t::l1) qS (by rw [ak6];exact uy)
     (λs hs fO dW=>anN hq s hs fO (kR s (jJ hs) dW (rB s hs)))
     (λs hs e7 dW=>by
       obtain⟨b,c,fe⟩:=qX (jJ hs);exact trb b s c fe (kR s (jJ hs) dW (rB s hs)) e7 (hid_flag hq fe hs))
     (λs hs s' dm e7 wU dW tX eD=>hm.Lv s (jJ hs) s' (jJ dm) e7 wU (kR s (jJ hs) dW (rB s hs)) (kR s' (jJ dm) tX (rB s' dm)) eD)
    rw [<-mu]at i2 a2;refine fin γ F' ρ2 v w' i2 ⟨hg.hF,λid hd h=>e2 id hd (hg.gG id hd h),hg.hb⟩ dG.size (λ_=>hx.mono e2 (λ_ h=>h) (λ_ _ _ h=>h)) ?_ ?_ (λ_ _ _ _=>rfl) (λh=>Yb)
    ·intro b s c fe e7 dW hZ lT dd eK;rcases V0 (fe.symm.trans mu)with⟨m,h3,h4⟩|⟨h3,h4,h5⟩|⟨m,h3,h4⟩
     ·exact p2 b s m h3 e7 dW (by rw [<-h4];exact hZ) dd eK
     ·exact absurd h4 (GZ s e7)
     ·exfalso;have h6:dg M0 (L.setIfInBounds t.i true) c=dg M0 L c:=Q5 (λr hr=>ahQ);rw [h6]at hZ;rcases lT with h|h
      ·exact GZ s e7 h
      ·rw [h]at hZ;cases hZ
    ·intro b s c fe e7 dW hZ;have hs:=hin_log fe;have eJ:=GZ s e7;have nO:(dg M0 L c).2 =false:=akK;have hH:=trb b s c fe (kR s hs dW eJ) e7 nO;refine⟨hH.1.mono e2 (λ_ h=>h) (λ_ _ _ h=>h) rfl (λ_ _=>rfl),a2 _ hH.2 λb' r c' yz mU AZ aaw e=> ?_⟩;have KY:r∈l2:=by rw [yz];exact lz _ fL
     have hr:=jJ KY
     by_cases qM:r.i=s.i
     ·have e1:=dN.distinct hL r hr s hs qM;subst e1;have:=dN.uniq hL fe (show log=b'++r::(c'++t::l1)by rw [mu,yz];simp);rw [this,aaw]at hZ;cases hZ
     ·exact hm.Lv r hr s hs mU e7 (kR r hr AZ (GZ r mU)) (kR s hs dW eJ) qM e
end
def wD(X:Cx)(T:ia R)(ops:Array Oper)(t:cx)(st:St)(log:List cx)(k:List cx->St->Option R):Option R:=
 aP (log.all (Fc X ops t)&&AA X t log) (lO T.nt st t.o.dst t.x t.M' λbl=>k (t::log) bl)
def Kn(X:Cx)(T:ia R)(ops:Array Oper)(i:Nat)(o:Oper)(cl:Nat)(st:St)(log:List cx)(k:List cx->St->Option R):Option R:=
 match flO X o with
 |true=>
  match o.op with
  | .alloc ty=>aP (((X.ti ty).ok &&X.Aw (oI X ty) ty)&&dk (oI X ty) (X.ti ty).zero) (wD X T ops ⟨i,o,false,.ptr st.mem.length 0 0,[],cl,st.env,st.mem,st.mem++[.var (oI X ty) (X.ti ty).zero]⟩ st log k)
  | .buildSlice t n ps=>
    (match aaP X t n (ps.toList.map λp=>(p.1,ku X (lr (ir o) st.env) p.2))with
     |some (e,rows)=>DI (.row e rows) λb=>wD X T ops ⟨i,o,false,.aA st.mem.length,[],cl,st.env,st.mem,st.mem++[b]⟩ st log k
     |none=>none)
  |_=>none
 |false=>
 match xG X (ku X (lr (ir o) st.env)) o with
 |some ids=>rC X T (ku X (lr (ir o) st.env)) o st.mem λx _=>wD X T ops ⟨i,o,true,x,ids,cl,st.env,st.mem,st.mem⟩ st log k
 |none=>
  match Qr X ops (ku X (lr (ir o) st.env)) o with
  |some (t,n,ps)=>BA X t n (ps.toList.map λp=>(p.1,ku X (lr (ir o) st.env) p.2)) λx=>wD X T ops ⟨i,o,true,x,[],cl,st.env,st.mem,st.mem⟩ st log k
  |none=>
   match QE X (ku X (lr (ir o) st.env)) o with
   |some (g,args)=>T.call g args [] λx M'=>aP (M'.isEmpty&&qF x) (wD X T ops ⟨i,o,true,x,[],cl,st.env,st.mem,st.mem⟩ st log k)
   |none=>
    match oX T (ku X (lr (ir o) st.env)) o st.mem with
    |some ids=>rC X T (ku X (lr (ir o) st.env)) o st.mem λx M'=>wD X T ops ⟨i,o,false,x,ids,cl,st.env,st.mem,M'⟩ st log k
    |none=>none
def Ko(X:Cx)(T:ia R)(ops:Array Oper)(i:Nat)(o:Oper)(cl:Nat)(st:St)(log:List cx)(k:List cx->St->Option R):Option R:=
 wD X T ops ⟨i,o,true,.ep [],[],cl,st.env,st.mem,st.mem⟩ st log k
def aaK(X:Cx)(T:ia R)(ops:Array Oper)(i:Nat)(o:Oper)(cl:Nat)(st:St)(log:List cx)(k:List cx->St->Option R):Option R:=
 match o.guard with
 |none=>Kn X T ops i o cl st log k
 |some (j,want)=>
  match zX ops j with
  |none=>none
  |some d=>
   match look st.env d with
   | .bool b=>
     match b with
     |true=>match want with
      |true=>Kn X T ops i o cl {st with env:=(d,.bool true)::st.env} log k
      |false=>Ko X T ops i o cl {st with env:=(d,.bool true)::st.env} log k
     |false=>match want with
      |false=>Kn X T ops i o cl {st with env:=(d,.bool false)::st.env} log k
      |true=>Ko X T ops i o cl {st with env:=(d,.bool false)::st.env} log k
   | .ep []=>Ko X T ops i o cl st log k
   |_=>none
def Rt(X:Cx)(T:ia R)(ops:Array Oper):dI->List cx->St->(List cx->St->Option R)->Option R
 | [],log,st,k=>k log st
 |i::rest,log,st,k=>
  match ops.toList[i]? with
  |none=>none
  |some o=>
   match qE log o.after.toList with
   |none=>none
   |some cl=>aaK X T ops i o cl st log λsD bl=>Rt X T ops rest sD bl k
def YV(X:Cx)(T:ia R)(ops:Array Oper)(st:St)(k:St->Option R):Option R:=
 Rt X T ops (aka ops.toList) [] st λlog bl=>aP (Nat.ble log.length ops.size&&(List.range ops.size).all λi=>log.any λt=>t.i==i) (k bl)
section
variable {nt:Nt} {ops:Array Oper} {env0 gJ:cV} {M0 M1:aW}
theorem BC(h:wD X T ops t st log k=some r):
 ∃bl,k (t::log) bl=some r∧(∀s∈log,Fc X ops t s=true)∧AA X t log=true∧(∀d,t.o.dst=some d->d<T.nt.n∧T.nt.mask.testBit d=true)∧(∀u,look bl.env u=(if t.o.dst=some u then t.x else look st.env u))∧bl.mem=t.M'∧bl.iF=st.iF∧bl.rd=st.rd:=by
 unfold wD at h;replace h:=di h;obtain⟨hp,h⟩:=h;rw [bS]at hp;have hq:Jz T ops t st [] (λ_ bl=>k (t::log) bl)=some r:=aiI;obtain⟨bl,h,_,hd,jX,hY,e1,e2⟩:=aeV hq;exact⟨bl,h,λs hs=>jN.1 hp.1 s hs,hp.2,hd,jX,hY,e1,e2⟩
theorem BG(hl:dN X nt ops env0 M0 log gJ M1)(h1:∀u,look t.env u=look gJ u)(h2:t.M=M1)(h3:t.q=true->t.M'=t.M)(h4:t.q=false->dR t.ids t.M t.M')(h5:fR X t=false->t.RD X nt ops)
 (h5':fR X t=true->∃b,t.M'=t.M++[b]∧t.aj1 X nt ops b) (h6:ops[t.i]?=some t.o)
 (h7:∀d,t.o.dst=some d->d<nt.n∧nt.mask.testBit d=true) (h8:∀s∈log,Fc X ops t s=true) (h8':AA X t log=true) (h9:qE log t.o.after.toList=some t.cl)  {M:aW} (iS:∀u,look env u=(if t.o.dst=some u then t.x else look t.env u)) (lx:M=t.M'):
 dN X nt ops env0 M0 (t::log) env M:=by
 obtain⟨c1,c2⟩:=Oh h9;refine⟨gJ,M1,hl,h1,h2,h3,h4,h5,h5',h6,h7,h8,h8',λe he hb=>c1 e (xQ) hb,λw hw=> ?_,λu=>by rw [iS u,h1 u],lx⟩;obtain⟨e,he,hb,hh⟩:=c2 w hw;exact⟨e,xQ,hb,hh⟩
theorem Wr(hl:dN X T.nt ops env0 M0 log gJ M1)(hi:ops[i]?=some o)(hc:qE log o.after.toList=some cl)
 (he:∀u,look st.env u=look gJ u) (hm:st.mem=M1) (hw:F5 X ops o st.env false) (h:Ko X T ops i o cl st log k=some r):
 ∃t bl,k (t::log) bl=some r∧dN X T.nt ops env0 M0 (t::log) bl.env bl.mem∧bl.iF=st.iF∧bl.rd=st.rd:=by
 unfold Ko at h;obtain⟨bl,h,hp,sX,hd,jX,hY,h1,h2⟩:=BC h;refine⟨_,bl,h,BG hl he hm (λ_=>rfl) (λhq=>oW) ?_ (λhf=>by simp [fR]at hf) hi hd hp sX hc jX hY,h1,h2⟩;intro _ Mx _ _ rdc n w0 S F ρ a w Q K hI ei hr hk;unfold wpOpIn;simp only [hi,hw hr,lg,ng];exact⟨λ_ _=>trivial,hk _ w F ρ hI WB (Grow.refl _ _ _)⟩
theorem Wq(hX:X.Okb)(hT:T.nX X)(hl:dN X T.nt ops env0 M0 log gJ M1)(hi:ops[i]?=some o)(hc:qE log o.after.toList=some cl)
 (he:∀u,look st.env u=look gJ u) (hm:st.mem=M1) (hw:F5 X ops o st.env true) (h:Kn X T ops i o cl st log k=some r):
 ∃t bl,k (t::log) bl=some r∧dN X T.nt ops env0 M0 (t::log) bl.env bl.mem∧bl.iF=st.iF∧bl.rd=st.rd:=by
 unfold Kn at h;split at h
 ·rename_i s6;have ajO:∀{x:AV} {M':aW},fR X ⟨i,o,false,x,[],cl,st.env,st.mem,M'⟩=false->False:=λhf=>by simp [fR,s6]at hf
  split at h
  ·rename_i ty ho;replace h:=di h;obtain⟨bB,h⟩:=h;rw [bS,bS]at bB;obtain⟨bl,h,hp,sX,hd,jX,hY,h1,h2⟩:=BC h;refine⟨_,bl,h,BG hl he hm (λhq=>oW) (λ_=>dR.push _ _ _) (λhf=>(ajO hf).elim) (λ_=>⟨_,rfl,?_⟩) hi hd hp sX hc jX hY,h1,h2⟩;intro Mx rdc n w0 S F ρ a w Q K hI ei hr hk;obtain⟨i',d,z,f⟩:=hX.facts bB.1.1;have dB:(Instr.alloc ty true (.tuple #[])).run X.P w= .ok (.pointer (some ⟨w.heap.size,0,none⟩)) (w.alloc (.cells z.cells ty)):=by
    simp only [Instr.alloc,fm,f.zeroValue,gh,newVar,newRow,E9,ie,E8]
   unfold wpOpIn;simp only [hi,hw hr,ow];refine zn (gj) (v:= .pointer (some ⟨w.heap.size,0,none⟩)) (w':=w.alloc (.cells z.cells ty)) (by
    rw [show execOp a.eval o=(do pure (.value (<-Instr.alloc ty true (.tuple #[]))):Sem Next)from jQ,fm,dB];rfl) ?_
   refine hk _ _ ⟨.slice (some ⟨w.heap.size,0,none⟩) 1 1,(X.ti ty).zero.length⟩ (E1 w _ none) rfl (by simp) rfl ⟨bB.2,rfl,_,_,_,rfl,Oo w _,FL,bB.1.2⟩ (λρ2 F2 w2 hlen=> ?_);have:=Xl (X:=X) (M:=st.mem) (F:=F2) (w:=w2) (hd:=⟨.slice (some ⟨w.heap.size,0,none⟩) 1 1,(X.ti ty).zero.length⟩) hlen rfl 0 0;exact se
  ·rename_i t n ps ho;split at h
   ·rename_i e rows hb;rw [YS]at h;obtain⟨bl,h,hp,sX,hd,jX,hY,h1,h2⟩:=BC h;refine⟨_,bl,h,BG hl he hm (λhq=>oW) (λ_=>dR.push _ _ _) (λhf=>(ajO hf).elim) (λ_=>⟨_,rfl,?_⟩) hi hd hp sX hc jX hY,h1,h2⟩;intro Mx rdc n' w0 S F ρ a w Q K hI ei hr hk;have Si:∀z,aY X.K ρ F w (ku X (lr (ir o) st.env) z) (a.eval z):=λz=>zH hI (ER λu hu=>hr u (xD _ hu)) z;obtain⟨us,dB,hlen,jI⟩:=aB3 hX hb (w:=w) hI.one (ps.toList.map λp=>(p.1,a.eval p.2)) (by simp) (λj p q hp hq=>by
     rw [iH]at hp hq;cases hj:ps.toList[j]? with
     |none=>exact I2
     |some z=>
      rw [hj]at hp hq;simp only [kz,Option.some.injEq]at hp hq;subst hp;subst hq;exact⟨rfl,Si z.2⟩)
    have e1:(ps.map λ(i,x)=>(i,a.eval x))=(ps.toList.map λp=>(p.1,a.eval p.2)).toArray :=uV;unfold wpOpIn;simp only [hi,hw hr,ow];refine zn (gj) (v:= .slice (some ⟨w.heap.size,0,none⟩) n n) (w':=w.alloc (.cells us e)) (by
     rw [show execOp a.eval o=(do pure (.value (<-Instr.buildSlice t n (ps.map λ(i,x)=>(i,a.eval x)))):Sem Next)from jQ,fm,e1,dB];rfl) ?_
    refine hk _ _ ⟨.slice (some ⟨w.heap.size,0,none⟩) n n,(X.K e).length⟩ (E1 w _ none) rfl (by simp) rfl jI (λρ2 F2 w2 aE2=> ?_);exact zz (M:=st.mem) (hd:=⟨.slice (some ⟨w.heap.size,0,none⟩) n n,(X.K e).length⟩) aE2
   ·exact bh
  ·exact bh
 ·rename_i s6;have Q8:∀{q:Bool} {x:AV} {ids:dI} {M':aW},fR X ⟨i,o,q,x,ids,cl,st.env,st.mem,M'⟩=true->False:=by
   intro q x ids M' hf;simp [fR,s6]at hf
  split at h
  ·rename_i ids hq;obtain⟨y,h,dB⟩:=aeU hX hq h;obtain⟨bl,h,hp,sX,hd,jX,hY,h1,h2⟩:=BC h;refine⟨_,bl,h,BG hl he hm (λ_=>rfl) (λhq=>oW) ?_ (λhf=>(Q8 hf).elim) hi hd hp sX hc jX hY,h1,h2⟩;exact akH
  ·rename_i hq;split at h
   ·rename_i t n ps aat
    obtain⟨y,h,dB⟩:=afl hX (aeZ aat) h;obtain⟨bl,h,hp,sX,hd,jX,hY,h1,h2⟩:=BC h;refine⟨_,bl,h,BG hl he hm (λ_=>rfl) (λhq=>oW) ?_ (λhf=>(Q8 hf).elim) hi hd hp sX hc jX hY,h1,h2⟩;exact Ra
   ·split at h
    ·rename_i g args hcq;obtain⟨y,h,dB⟩:=afb hX hT hcq (k:=λy=>wD X T ops ⟨i,o,true,y,[],cl,st.env,st.mem,st.mem⟩ st log k) h;obtain⟨bl,h,hp,sX,hd,jX,hY,h1,h2⟩:=BC h;refine⟨_,bl,h,BG hl he hm (λ_=>rfl) (λhq=>oW) ?_ (λhf=>(Q8 hf).elim) hi hd hp sX hc jX hY,h1,h2⟩;exact Ra
    ·split at h
     ·rename_i ids hwr;obtain⟨x,M',dB,h,fK⟩:=Ip hX hT h;obtain⟨bl,h,hp,sX,hd,jX,hY,h1,h2⟩:=BC h;refine⟨_,bl,h,BG hl he hm (λhq=>oW) (λ_=>fK ids hwr) ?_ (λhf=>(Q8 hf).elim) hi hd hp sX hc jX hY,h1,h2⟩;exact akN
     ·exact bh
theorem aAb(hX:X.Okb)(hT:T.nX X)(hl:dN X T.nt ops env0 M0 log st.env st.mem)(hi:ops[i]?=some o)(hc:qE log o.after.toList=some cl)
 (h:aaK X T ops i o cl st log k=some r):
 ∃t bl,k (t::log) bl=some r∧dN X T.nt ops env0 M0 (t::log) bl.env bl.mem∧bl.iF=st.iF∧bl.rd=st.rd:=by
 unfold aaK at h;split at h
 ·rename_i hg;exact Wq hX hT hl hi hc (λ_=>rfl) rfl (λ{ρ F w tmps} _=>VZ hg _) h
 ·rename_i j want hg;split at h
  ·exact bh
  ·rename_i d hd;have iy:d∈ir o++guardOf ops o:=lz _ (by simp [guardOf,hg,hd]);have xV:∀(b:Bool) (env:cV),look env d= .bool b->F5 X ops o env (b==want):=akC;split at h
   ·rename_i b hb;split at h
    ·split at h
     ·exact Wq hX hT (st:={st with env:=(d,.bool true)::st.env}) hl hi hc (λu=>zq hb u) rfl (xV true _ (zV)) h
     ·exact Wr (st:={st with env:=(d,.bool true)::st.env}) hl hi hc (λu=>zq hb u) rfl (xV true _ (zV)) h
    ·split at h
     ·exact Wq hX hT (st:={st with env:=(d,.bool false)::st.env}) hl hi hc (λu=>zq hb u) rfl (xV false _ (zV)) h
     ·exact Wr (st:={st with env:=(d,.bool false)::st.env}) hl hi hc (λu=>zq hb u) rfl (xV false _ (zV)) h
   ·rename_i hb;refine Wr hl hi hc (λ_=>rfl) rfl (λ{ρ F w tmps} hr=> ?_) h;exact akF
   ·exact bh
theorem ae6(hX:X.Okb){T:ia R}(hT:T.nX X){k:List cx->St->Option R}{r:R}:∀(ord:dI) {log:List cx} {st:St},dN X T.nt ops env0 M0 log st.env st.mem->Rt X T ops ord log st k=some r->
 ∃sD bl,k sD bl=some r∧dN X T.nt ops env0 M0 sD bl.env bl.mem∧bl.iF=st.iF∧bl.rd=st.rd
 | [],log,st,hl,h=>⟨log,st,h,hl,rfl,rfl⟩
 |i::rest,log,st,hl,h=>by
  simp only [Rt]at h;split at h
  ·exact bh
  ·rename_i o ho;split at h
   ·exact bh
   ·rename_i cl hc;obtain⟨t,cY,h,eZ,e1,e2⟩:=aAb hX hT hl (by simpa using ho) hc h;obtain⟨sD,bl,h,vM,e3,e4⟩:=ae6 hX hT rest eZ h;exact⟨sD,bl,h,vM,e3.trans e1,e4.trans e2⟩
theorem ayJ(hX:X.Okb)(hT:T.nX X){id:Nat}{k:St->Option R}(h:YV X T ops st k=some r):
 ∃bl,k bl=some r∧pS X T.nt (.region id ops true) st .normal bl:=by
 unfold YV at h;obtain⟨log,bl,h,hl,e1,e2⟩:=ae6 hX hT (ops:=ops) (env0:=st.env) (M0:=st.mem) _ (log:=[]) (st:=st) (show dN X T.nt ops st.env st.mem [] st.env st.mem from⟨λ_=>rfl,rfl⟩) h;replace h:=di h;obtain⟨ja,h⟩:=h;rw [bS]at ja;obtain⟨hlen,ja⟩:=ja;refine⟨bl,h,λ{rdc n w0 S F ρ a w Q} hI hs hq=>wpIn_region_any hX.mixed ?_⟩;have hg:=World.adN w;have dG:=hI.grown hg;have jm:Grow F F ρ ρ w {w with drawn:=w.drawn+1}:=⟨λ_ h=>h,λ_ _ h=>h,hI.wV hg (by simp)⟩;have dm:=hs.grow jm;have oj:∀i,¬df (Array.replicate ops.size false) i:=ajm;have Se:∀l:List cx,(dg st.mem (Array.replicate ops.size false) l).1 =st.mem:=by
  intro l
  induction l with
  |nil=>rfl
  |cons t l GQ=>
   simp only [dg];split
   ·exact GQ
   ·rw [if_neg λhh=>oj _ hh.1];exact GQ
 refine aAX hX (ds:=a.defers) (tv:=rdc.tv) (wb:=w) (S:=S) (w0:=w0) (F0:=F) (ρ0:=ρ) hl (λi hi=> ?_) (λa' w' F' ρ' uy hE ei G4 hkp lv=> ?_) ops.size _ (λ_=>0) F ρ a _ (by simp) ?_ ?_ ?_
 ·have:=jN.1 ja i (zF.2 hi);exact aiH
 ·refine hq a' w' F' ρ' uy ⟨hE,ei,?_,?_,hkp⟩ lv
  ·rw [e1,G4];exact hs.defs.mono lv.hF lv.hb
  ·exact hs.rd.mono lv.hF lv.hb
 ·exact nW afP (tL hlen)
 ·exact λt ht dX=>absurd dX (oj _)
 ·exact⟨by rw [Se];exact dG,jm,hs.size,rfl,hs.kept,λ_ s _ _ dX=>absurd dX (oj _),λ_ s _ _ dX=>absurd dX (oj _),λs _ _ dX=>absurd dX (oj _),λs _ s' _ _ _ dX=>absurd dX (oj _),λu _=>dm.env u⟩
end
end
end Go.az
namespace Go.az
def fY{p:Prop}(h:p:=by rw [h];rfl):p:=h
def akJ{p:Prop}(h:p:=by
 obtain⟨m2,m1,hY⟩:=qX y6;have qS:eH X nt ops env0 M0 (m2++s::(m1++t::l1)) env M:=by rw [hY]at hL;simpa using hL
 obtain⟨_,_,_,_,_,KD⟩:=eH.entry qS;exact KD.pair t (lz _ fL)):p:=h
end Go.az
namespace Go.az
open Go
noncomputable section
variable {X:Cx} {R:Type}
variable{p x:AV}{b:ed}{t:cx}{log:List cx}{k:List cx->St->Option R}{cl i id:Nat}{o:Oper}{r:R}{st:St}{T:ia R}{M:aW}{env:cV}
def cnv(k:Kind)(x:AV):Option AV:=
 match k,x with
 | .slice t,.gE =>some (.ab t [])
 | .slice _,.aA _=>none
 |_,x=>some x
def C5:dZ->bp->Option bp
 |k::ks,x::xs=>(match cnv k x with|some y=>(match C5 ks xs with|some ys=>some (y::ys)|none=>none)|none=>none)
 |_,xs=>some xs
theorem aCK{k:Kind}{y:AV}(h:cnv k x=some y)(M:aW)(c:AV->aW->Option R):ly k x M c=c y M:=by
 unfold cnv at h;split at h
 ·injection h with h;subst h;rfl
 ·exact bh
 ·rename_i h1 h2;injection h with h;subst h;unfold ly;split
  ·exact absurd rfl (h1 _ rfl)
  ·exact absurd rfl (h2 _ _ rfl)
  ·rfl
theorem agi:∀{ks:dZ} {xs ys:bp},C5 ks xs=some ys->∀(M:aW) (c:bp->aW->Option R),vd ks xs M c=c ys M
 | [],xs,ys,h,M,c=>by
   cases xs<;>(simp only [C5,Option.some.injEq]at h;subst h;rfl)
 |k::ks,[],ys,h,M,c=>by simp only [C5,Option.some.injEq]at h;subst h;rfl
 |k::ks,x::xs,ys,h,M,c=>by
  simp only [C5]at h;split at h
  ·rename_i y hy;split at h
   ·rename_i zs hz;injection h with h;subst h;simp only [vd];rw [aCK hy,agi hz]
   ·exact bh
  ·exact bh
def Gb(X:Cx)(t:TypeId)(p x:AV)(M:aW):Option (Nat×ed):=
 match p with
 | .ptr id i off=>
   match gm M id with
   |some (.var ks cs)=>
    (match x.plain&&(X.ti t).ok &&i==0&&x.cells.length==(X.ti t).size &&decide (off+(X.ti t).size <=ks.length)&&yr ks off x.cells with
     |true=>some (id,.var ks (setAt cs off x.cells))
     |false=>none)
   |some (.row t' xs)=>
    (match x.plain,C5 (X.ti t).ks x.cells with
     |true,some xc=>
      (match(X.ti t).ok &&xc.length==(X.ti t).size &&decide (off+(X.ti t).size <=(X.K t').length)&&yr (X.K t') off xc&&decide (i<xs.length)with
       |true=>some (id,.row t' (xs.set i (setAt (xs.getD i []) off xc)))
       |false=>none)
     |_,_=>none)
   |_=>none
 |_=>none
def ZO(X:Cx)(t:TypeId)(p x:AV)(M:aW)(k:Nat->ed->Option R):Option R:=
 match p with
 | .ptr id i off=>
   match gm M id with
   |some (.var ks cs)=>aP (x.plain&&(X.ti t).ok &&i==0&&x.cells.length==(X.ti t).size &&decide (off+(X.ti t).size <=ks.length)&&yr ks off x.cells) (k id (.var ks (setAt cs off x.cells)))
   |some (.row t' xs)=>
    (match x.plain,C5 (X.ti t).ks x.cells with
     |true,some xc=>aP ((X.ti t).ok &&xc.length==(X.ti t).size &&decide (off+(X.ti t).size <=(X.K t').length)&&yr (X.K t') off xc&&decide (i<xs.length)) (k id (.row t' (xs.set i (setAt (xs.getD i []) off xc))))
     |_,_=>none)
   |_=>none
 |_=>none
theorem aAw{t:TypeId}{k:Nat->ed->Option R}(h:ZO X t p x M k=some r):∃id b,Gb X t p x M=some (id,b)∧k id b=some r:=by
 unfold ZO at h;split at h
 ·split at h
  ·rename_i hb;obtain⟨hc,h⟩:=di h;exact⟨_,_,by simp only [Gb,hb,hc],h⟩
  ·rename_i hb;split at h
   ·rename_i hp kr;obtain⟨hc,h⟩:=di h;exact⟨_,_,by simp only [Gb,hb,hp,kr,hc],h⟩
   ·exact bh
  ·exact bh
 ·exact bh
theorem afe{t:TypeId}(h:Gb X t p x M=some (id,b)):wg p=[id]∧id<M.length∧∀(M0:aW),M0[id]?=M[id]?->∀(k:aW->Option R),Fi X t p x M0 k=k (M0.set id b):=by
 unfold Gb at h;split at h
 ·rename_i id' i off;split at h
  ·rename_i ks cs hb;split at h
   ·rename_i hc;injection h with h;injection h with h1 h2;subst h1;subst h2;rw [eY]at hb;refine⟨rfl,(eU.1 hb).1,λM0 hM k=> ?_⟩;have Lm:M0[id']?=some (.var ks cs):=by rw [hM];exact hb
    unfold Fi;simp only [eY,Lm,hc,aP]
   ·exact bh
  ·rename_i t' xs hb;split at h
   ·rename_i xc y7 kr;split at h
    ·rename_i hc;injection h with h;injection h with h1 h2;subst h1;subst h2;rw [eY]at hb;refine⟨rfl,(eU.1 hb).1,λM0 hM k=> ?_⟩;have Lm:M0[id']?=some (.row t' xs):=by rw [hM];exact hb
     unfold Fi;simp only [eY,Lm,y7,aP];rw [agi kr];simp only [eY,Lm,hc,aP]
    ·exact bh
   ·exact bh
  ·exact bh
 ·exact bh
theorem aAv(hX:X.Okb){e:Operand->AV}{t:TypeId}{p x:Operand}(ho:o.op= .store t p x)(h:Gb X t (e p) (e x) M=some (id,b)){M0:aW}(hM:M0[id]?=M[id]?):fF X o e M0 (.ep []) (M0.set id b):=by
 have h1:=(afe (R:=AV×aW) h).2.2 M0 hM (λM'=>some (.ep [],M'));have h2:pf X (JX (AV×aW)) e o M0 (λx M=>some (x,M))=some (.ep [],M0.set id b):=by
  unfold pf;simp only [ho];exact h1
 obtain⟨x',M',dB,he,_⟩:=aez hX (agy X _) h2;injection he with he;injection he with e1 e2;subst e1;subst e2;exact @dB
def Gp(o:Oper):Bool:=match o.op with| .store _ _ _=>true|_=>false
def jx(t:cx):Bool:= !t.q&&Gp t.o
def kO(t:cx):Nat:=t.ids.headD 0
def A4(t:cx):ed:=(t.M'[kO t]?).getD .dead
def qY(ops:Array Oper)(t s:cx):Bool:=
 !(t.i==s.i)&& !(t.o.dst.isSome&&t.o.dst==s.o.dst)&&
 (t.cl.testBit s.i||
   (!tY s.o.dst (ir t.o++guardOf ops t.o)&& !tY t.o.dst (ir s.o++guardOf ops s.o)&&
     match t.q,s.q with
     |true,true=>true
     |false,false=>jx t&&jx s&& !(Nat.beq (kO t) (kO s))
     |true,false=>t.ids.all λid=>s.keeps id
     |false,true=>(match jx t with|true=>s.ids.all λid=> !(Nat.beq id (kO t))|false=>s.ids.all λid=>t.keeps id)))
theorem qo{ops:Array Oper}{s:cx}(h:qY ops t s=true):t.i≠s.i∧(∀d,t.o.dst=some d->s.o.dst≠some d)∧
 (t.cl.testBit s.i=true∨((∀d,s.o.dst=some d->d∉ir t.o++guardOf ops t.o)∧(∀d,t.o.dst=some d->d∉ir s.o++guardOf ops s.o)∧(t.q=false->s.q=false->jx t=true∧jx s=true∧kO t≠kO s)∧
   (t.q=true->s.q=false->∀id∈t.ids,s.u7 id)∧(t.q=false->s.q=true->∀id∈s.ids,(jx t=true->id≠kO t)∧(jx t=false->t.u7 id)))):=by
 unfold qY at h;rw [bS,bS,zy]at h;obtain⟨⟨h1,h2⟩,h3⟩:=h;refine⟨sl,λd hd hs=>by simp [hd,hs]at h2,?_⟩;rcases h3 with h3|h3
 ·exact .inl h3
 ·refine .inr ?_;rw [bS,bS]at h3;obtain⟨⟨h4,h5⟩,h6⟩:=h3;refine⟨OJ h4,OJ h5,?_,?_,?_⟩
  ·intro ht hs;rw [ht,hs]at h6;simp only [bS,dT]at h6;exact⟨h6.1.1,h6.1.2,λe=>by rw [e]at h6;simp at h6⟩
  ·exact Za
  ·intro ht hs id bA;rw [ht,hs]at h6;simp only at h6;constructor
   ·intro hl;rw [hl]at h6;have:=jN.1 h6 id bA;intro e;rw [e]at this;simp at this
   ·intro hl;rw [hl]at h6;exact cx.ae3 (jN.1 h6 id bA)
def cx.alf(X:Cx)(nt:Nt)(ops:Array Oper)(t:cx):Prop:=
 ∀{M0:aW},M0[kO t]?=t.M[kO t]?->
  ∀{rdc:Cy} {n:Nat} {w0:World} {S:Sc} {F:bT} {ρ:bY} {a:Act} {w:World} {Q:Exit->Act->World->Prop} {K:Act->World->Prop},Inv X w0 S F ρ M0 w->a.tmps.size=nt.n->
   (∀u∈ir t.o++guardOf ops t.o,aY X.K ρ F w (look t.env u) (a.tmps.getD u undef))->
   (∀v w' F' ρ',Inv X w0 S F' ρ' (M0.set (kO t) (A4 t)) w'->aY X.K ρ' F' w' t.x v->Grow F F' ρ ρ' w w'->K (a.put t.o.dst v) w')->wpOpIn (kY rdc.r) n X.P ops Q t.i K a w
structure ZC(X:Cx)(nt:Nt)(ops:Array Oper)(t:cx)(log:List cx)(gJ:cV)(M1:aW)(env:cV)(M:aW):Prop where
 Ke:∀u,look t.env u=look gJ u
 hM:t.M=M1
 hq:t.q=true->t.M'=t.M
 fK:t.q=false->dR t.ids t.M t.M'
 runs:jx t=false->t.RD X nt ops
 lc:jx t=true->t.alf X nt ops∧kO t<t.M.length∧t.M'=t.M.set (kO t) (A4 t)
 op:ops[t.i]?=some t.o
 dst:∀d,t.o.dst=some d->d<nt.n∧nt.mask.testBit d=true
 pair:∀s∈log,qY ops t s=true
 pre:∀e∈t.o.after,Region.binds .any e=true->∃s∈log,s.i=e.on
 cl:∀w,t.cl.testBit w=true->∃e∈t.o.after,Region.binds .any e=true∧(w=e.on∨∃s∈log,s.i=e.on∧s.cl.testBit w=true)
 lk:∀u,look env u=(if t.o.dst=some u then t.x else look gJ u)
 mem:M=t.M'
def eH(X:Cx)(nt:Nt)(ops:Array Oper)(env0:cV)(M0:aW):List cx->cV->aW->Prop
 | [],env,M=>(∀u,look env u=look env0 u)∧M=M0
 |t::log,env,M=>∃gJ M1,eH X nt ops env0 M0 log gJ M1∧ZC X nt ops t log gJ M1 env M
def gv(M0:aW)(L:Array Bool):List cx->aW
 | []=>M0
 |t::log=>if t.q=false∧df L t.i then(if jx t=true then(gv M0 L log).set (kO t) (A4 t)else t.M')else gv M0 L log
theorem aDE(h:jx t=true):t.q=false:=by
 unfold jx at h;rw [bS]at h;simpa using h.1
section
variable {nt:Nt} {ops:Array Oper} {env0:cV} {M0:aW} {L:Array Bool}
theorem eH.look:∀{log:List cx} {env:cV} {M:aW},eH X nt ops env0 M0 log env M->∀u,(∃s∈log,s.o.dst=some u∧az.look env u=s.x)∨((∀s∈log,s.o.dst≠some u)∧az.look env u=az.look env0 u)
 | [],env,M,⟨h,_⟩,u=> .inr ⟨λs hs=>by simp at hs,h u⟩
 |t::log,env,M,⟨_,_,hl,st⟩,u=>by
  rw [st.lk u];split
  ·rename_i hd;exact .inl ⟨t,fL,hd,rfl⟩
  ·rename_i hd;rcases eH.look hl u with⟨s,hs,h⟩|⟨h1,h2⟩
   ·exact .inl ⟨s,iq _ hs,h⟩
   ·exact ajp
theorem eH.closed:∀{log:List cx} {env:cV} {M:aW},eH X nt ops env0 M0 log env M->sh L log->∀t∈log,(∀e∈t.o.after,Region.binds .any e=true->df L e.on)->∀w,t.cl.testBit w=true->df L w
 | [],_,_,_,_,t,ht,_,_,_=>by simp at ht
 |t::log,_,_,⟨_,_,hl,st⟩,eL,s,hs,hp,w,hw=>by
  have ih:=eH.closed hl (λa ha=>eL a (iq _ ha));exact aky
theorem eH.entry{t:cx}{l1:List cx}:∀{l2:List cx} {gT:cV} {M':aW},eH X nt ops env0 M0 (l2++t::l1) gT M'->∃gJ M1 env M,eH X nt ops env0 M0 l1 gJ M1∧ZC X nt ops t l1 gJ M1 env M
 | [],_,_,⟨_,_,hl,st⟩=>⟨_,_,_,_,hl,st⟩
 |_::l2,_,_,⟨_,_,hl,_⟩=>eH.entry (l2:=l2) hl
theorem eH.distinct:∀{env:cV} {M:aW},eH X nt ops env0 M0 log env M->∀s∈log,∀t∈log,s.i=t.i->s=t:=by
 induction log with
 |nil=>exact Px
 |cons a log ih=>
  intro env M h s hs t ht e;obtain⟨_,_,hl,st⟩:=h;rcases gN.1 hs with rfl|dm<;>rcases gN.1 ht with rfl|vJ
  ·rfl
  ·exact absurd e (qo (st.pair t vJ)).1
  ·exact absurd e.symm (qo (st.pair s dm)).1
  ·exact ih hl s dm t vJ e
theorem eH.dst{log:List cx}:∀{env:cV} {M:aW},eH X nt ops env0 M0 log env M->∀s∈log,∀t∈log,∀d,s.o.dst=some d->t.o.dst=some d->s=t:=by
 induction log with
 |nil=>exact Px
 |cons a log ih=>
  intro env M h s hs t ht d h1 h2;obtain⟨_,_,hl,st⟩:=h;rcases gN.1 hs with rfl|dm<;>rcases gN.1 ht with rfl|vJ
  ·rfl
  ·exact absurd h2 ((qo (st.pair t vJ)).2.1 d h1)
  ·exact absurd h1 ((qo (st.pair s dm)).2.1 d h2)
  ·exact ih hl s dm t vJ d h1 h2
theorem eH.wa:∀{log:List cx} {env:cV} {M:aW},eH X nt ops env0 M0 log env M->(∀s∈log,s.q=false->df L s.i)->gv M0 L log=M
 | [],_,_,⟨_,h⟩,_=>h.symm
 |t::log,_,_,⟨_,_,hl,st⟩,h=>by
  have ih:=eH.wa hl (λs hs=>h s (iq _ hs));simp only [gv];cases hq:t.q with
  |false=>
   rw [if_pos ⟨rfl,h t fL hq⟩];split
   ·rename_i kq;rw [ih,<-st.hM,st.mem];exact(st.lc kq).2.2.symm
   ·exact st.mem.symm
  |true=>rw [if_neg (by simp),ih,st.mem,st.hq hq,st.hM]
theorem eH.O3:∀{log:List cx} {env:cV} {M:aW},eH X nt ops env0 M0 log env M->(∀s∈log,s.q=false->jx s=false->df L s.i)->(gv M0 L log).length =M.length
 | [],_,_,⟨_,h⟩,_=>fY
 |t::log,_,_,⟨_,_,hl,st⟩,h=>by
  have ih:=eH.O3 hl (λs hs=>h s (iq _ hs));simp only [gv];cases hq:t.q with
  |true=>rw [if_neg (by simp),ih,st.mem,st.hq hq,st.hM]
  |false=>
   cases kq:jx t with
   |true=>
    have hm:=(st.lc kq).2.2
    by_cases dX:df L t.i
    ·rw [if_pos ⟨rfl,dX⟩,if_pos rfl,zx,ih,st.mem,hm,zx,st.hM]
    ·rw [if_neg (λhh=>dX hh.2),ih,st.mem,hm,zx,st.hM]
   |false=>rw [if_pos ⟨rfl,h t fL hq kq⟩,if_neg (by simp),st.mem]
theorem aC5{gJ:cV}{M1:aW}(st:ZC X nt ops t log gJ M1 env M)(kq:jx t=true):t.M'[kO t]?=some (A4 t):=by
 obtain⟨_,h2,h3⟩:=st.lc kq;rw [h3,qu h2]
theorem eH.agU{t:cx}{l1:List cx}{id:Nat}(iZ:¬df L t.i){v:Option ed}:
 ∀{l2:List cx} {gT:cV} {M':aW},eH X nt ops env0 M0 (l2++t::l1) gT M'->sh L (l2++t::l1)->(gv M0 L (t::l1))[id]?=v->
  (∀s∈l2,s.q=false->df L s.i->qY ops s t=true->jx s=true->id≠kO s)->(∀s∈l2,s.q=false->df L s.i->qY ops s t=true->jx s=false->∀l env M,eH X nt ops env0 M0 (s::l) env M->s.M'[id]?=s.M[id]?)->
  (gv M0 L (l2++t::l1))[id]?=v
 | [],_,_,_,_,h0,_,_=>h0
 |s::l2,gT,M',hL,eL,h0,h1,h2=>by
  obtain⟨_,_,hl,st⟩:=_root_.id hL;have ih:=eH.agU iZ (l2:=l2) hl (λa ha=>eL a (iq _ ha)) h0 (λr hr=>h1 r (iq _ hr)) (λr hr=>h2 r (iq _ hr));simp only [ki,gv]
  by_cases hc:s.q=false∧df L s.i
  ·have hp:=st.pair t (lz _ fL);rw [if_pos hc];split
   ·rename_i kq;rw [kh (Ne.symm (h1 s fL hc.1 hc.2 hp kq))];exact ih
   ·rename_i kq;have anK:jx s=false:=by simpa using kq
    rw [h2 s fL hc.1 hc.2 hp anK _ _ _ hL,st.hM];rw [<-ih];have om:=eH.closed (L:=L) hL eL s fL (eL s fL hc.2);have:gv M0 L (l2++t::l1)=_:=eH.wa (L:=L) hl λr hr sW=>by
     obtain⟨_,_,h|⟨_,_,h,_⟩⟩:=qo (st.pair r hr)
     ·exact om _ h
     ·have:=(h hc.1 sW).1;rw [anK]at this;cases this
    rw [this]
  ·rw [if_neg hc];exact ih
theorem eH.reads{t:cx}{l1:List cx}(iZ:¬df L t.i){u:Nat}(hu:u∈ir t.o++guardOf ops t.o){P:AV->Prop}:
 ∀{l2:List cx} {gT:cV} {M':aW},eH X nt ops env0 M0 (l2++t::l1) gT M'->sh L (l2++t::l1)->(∀e∈t.o.after,Region.binds .any e=true->df L e.on)->
  (∀s∈l1,t.cl.testBit s.i=true->s.o.dst=some u->P s.x)->((∀s∈l2++t::l1,df L s.i->s.o.dst≠some u)->P (az.look env0 u))->P (az.look t.env u)
 | [],gT,M',hL,eL,jS,hw,h0=>by
   obtain⟨_,_,hl,st⟩:=hL;rw [st.Ke u];rcases eH.look hl u with⟨s,hs,hd,he⟩|⟨hn,he⟩
   ·rw [he];refine hw s hs ?_ hd;obtain⟨_,_,h|⟨h,_⟩⟩:=qo (st.pair s hs)
    ·exact h
    ·exact absurd hu (h u hd)
   ·exact ajB
 |s::l2,gT,M',hL,eL,jS,hw,h0=>by
  obtain⟨_,_,hl,st⟩:=_root_.id hL;refine eH.reads iZ hu (l2:=l2) hl (λa ha=>eL a (iq _ ha)) jS hw λhn=>h0 λr hr qh hd=> ?_;rcases gN.1 hr with rfl|hr
  ·have om:=eH.closed (L:=L) hL eL r fL (eL r fL qh);obtain⟨_,_,h|⟨_,h,_⟩⟩:=qo (st.pair t (lz _ fL))
   ·exact iZ (om _ h)
   ·exact h u hd hu
  ·exact hn r hr qh hd
theorem Wk{L':Array Bool}:∀{log:List cx},(∀s∈log,s.q=false->(df L s.i ↔ df L' s.i))->gv M0 L log=gv M0 L' log
 | [],_=>rfl
 |t::log,h=>by
  have ih:=Wk (L':=L') (log:=log) λs hs=>h s (iq _ hs);simp only [gv]
  by_cases hq:t.q=false
  ·have:=h t fL hq
   by_cases dX:df L t.i
   ·rw [ih,if_pos ⟨hq,dX⟩];exact(if_pos ⟨hq,this.1 dX⟩).symm
   ·rw [if_neg (λhh=>dX hh.2),if_neg (λhh=>dX (this.2 hh.2)),ih]
  ·rw [if_neg (λhh=>hq hh.1),if_neg (λhh=>hq hh.1),ih]
end
structure aoh(X:Cx)(nt:Nt)(env0:cV)(M0:aW)(w0:World)(S:Sc)(F0:bT)(ρ0:bY)(wb:World)(ds:List Deferred)(tv:Nat->Value)(log:List cx)(L:Array Bool)(F:bT)(ρ:bY)(a:Act)(w:World):Prop where
 inv:Inv X w0 S F ρ (gv M0 L log) w
 grow:Grow F0 F ρ0 ρ wb w
 size:a.tmps.size=nt.n
 defs:a.defers=ds
 kept:∀t,nt.mask.testBit t=false->a.tmps.getD t undef=tv t
 wrote:∀s∈log,df L s.i->∀d,s.o.dst=some d->aY X.K ρ F w s.x (a.tmps.getD d undef)
 fV:∀u,(∀s∈log,df L s.i->s.o.dst≠some u)->aY X.K ρ F w (az.look env0 u) (a.tmps.getD u undef)
section
variable {nt:Nt} {ops:Array Oper} {env0:cV} {M0:aW}
theorem aAW{rdc:Cy}{n:Nat}{w0 wb:World}{S:Sc}{F0:bT}{ρ0:bY}{ds:List Deferred}{tv:Nat->Value}{Q:Exit->Act->World->Prop}(hL:eH X nt ops env0 M0 log env M)
 (ja:∀i,i<ops.size->∃t∈log,t.i=i)
 (hQ:∀a' w' F' ρ',Inv X w0 S F' ρ' M w'->iU X ρ' F' w' env a'.tmps->a'.tmps.size=nt.n->a'.defers=ds->(∀t,nt.mask.testBit t=false->a'.tmps.getD t undef=tv t)->Grow F0 F' ρ0 ρ' wb w'->Q .normal a' w'):
 ∀(fuel:Nat) (L:Array Bool) (F:bT) (ρ:bY) (a:Act) (w:World),L.size=ops.size->log.countP (λt=> !(L.getD t.i false))<=fuel->sh L log->
  aoh X nt env0 M0 w0 S F0 ρ0 wb ds tv log L F ρ a w->wpAnyIn (kY rdc.r) n X.P .any ops Q fuel L a w:=by
 have done:∀(L:Array Bool) (F:bT) (ρ:bY) (a:Act) (w:World),(∀t∈log,df L t.i)->aoh X nt env0 M0 w0 S F0 ρ0 wb ds tv log L F ρ a w->Q .normal a w:=by
  intro L F ρ a w dX hm;refine hQ a w F ρ ?_ (λu=> ?_) hm.size hm.defs hm.kept hm.grow
  ·have:=eH.wa hL (L:=L) (λs hs _=>dX s hs);rw [<-this];exact hm.inv
  ·rcases eH.look hL u with⟨s,hs,hd,he⟩|⟨hn,he⟩
   ·rw [he];exact hm.wrote s hs (dX s hs) u hd
   ·rw [he];exact hm.fV u λs hs _=>hn s hs
 have none_ready:∀(L:Array Bool),L.size=ops.size->Region.ready .any ops L=[]->∀t∈log,df L t.i:=by
  intro L ei hr;have key:∀(l1:List cx) (l2:List cx) (gT:cV) (M':aW),eH X nt ops env0 M0 l1 gT M'->l2++l1=log->∀t∈l1,df L t.i:=anp;exact λt ht=>key log [] env M hL rfl t ht
 intro fuel
 induction fuel with
 |zero=>
  intro L F ρ a w ei aay eL hm;have dX:∀t∈log,df L t.i:=akI;refine⟨?_,done L F ρ a w dX hm⟩;exact akW
 |succ fuel ih=>
  intro L F ρ a w ei aay eL hm;refine⟨λhr=>done L F ρ a w (none_ready L ei hr) hm,λi hi=> ?_⟩;rw [OD]at hi;obtain⟨hf,o,ho,jS⟩:=hi;have cF:i<ops.size:=(v7.1 ho).1;obtain⟨t,ht,rfl⟩:=ja i cF;have aas:t.i<L.size:=by omega
  have iZ:¬df L t.i:=ajc;obtain⟨l2,l1,rfl⟩:=qX ht;obtain⟨gJ,M1,aNp,ME,eZ,st⟩:=eH.entry hL;have Dv:t.o=o:=ai2;subst Dv;have Am:=eH.closed (L:=L) hL eL t ht jS;have anT:∀s∈l2++t::l1,df L s.i->∀w,s.cl.testBit w=true->df L w:=λs hs dW=>eH.closed (L:=L) hL eL s hs (eL s hs dW);have mM:∀j,df (L.setIfInBounds t.i true) j ↔ j=t.i∨df L j:=akj;have fV:∀(id:Nat),(∀s∈l1,s.q=false->t.cl.testBit s.i=true∨s.u7 id)->(gv M0 L l1)[id]?=t.M[id]?:=by
   intro id hk;rw [st.hM];have key:∀(l l':List cx) (e:cV) (N:aW),l'++l=l1->eH X nt ops env0 M0 l e N->(gv M0 L l)[id]?=N[id]?:=by
    intro l
    induction l with
    |nil=>intro _ _ _ _ h;rw [h.2];rfl
    |cons s l GQ=>
     intro l' e N Dx hls;obtain⟨_,_,Sf,p9⟩:=hls;have ih0:=GQ (l'++[s]) _ _ (by simpa using Dx) Sf;have hU:s∈l1:=ahB;have hsm:s∈l2++t::l1:=lz _ (iq _ hU);simp only [gv];cases fO:s.q with
     |true=>rw [if_neg (by simp),ih0,p9.mem,p9.hq fO,p9.hM]
     |false=>
      by_cases dX:df L s.i
      ·rw [if_pos ⟨rfl,dX⟩];split
       ·rename_i kq;obtain⟨_,h2,h3⟩:=p9.lc kq;have hlen:(gv M0 L l).length =s.M.length:=by
         rw [p9.hM];refine eH.O3 Sf λr hr sW qN=> ?_;obtain⟨_,_,h|⟨_,_,h,_⟩⟩:=qo (p9.pair r hr)
         ·exact anT s hsm dX _ h
         ·have:=(h fO sW).2.1;rw [qN]at this;cases this
        by_cases bA:id=kO s
        ·subst bA;rw [qu (by omega),p9.mem,aC5 p9 kq]
        ·rw [kh (Ne.symm bA),ih0,p9.mem,h3,kh (Ne.symm bA),p9.hM]
       ·exact uJ (·[id]?) p9.mem.symm
      ·rw [if_neg (λhh=>dX hh.2),ih0];rcases hk s hU fO with h|h
       ·exact absurd (Am _ h) dX
       ·rw [p9.mem,h.at (p9.fK fO),p9.hM]
   exact key l1 [] _ _ rfl eZ
  have Cn:gv M0 L (t::l1)=gv M0 L l1:=by
   simp only [gv];rw [if_neg λhh=>iZ hh.2]
  have new:∀(id:Nat),(∀s∈l2,s.q=false->df L s.i->qY ops s t=true->jx s=true->id≠kO s)->(∀s∈l2,s.q=false->df L s.i->qY ops s t=true->jx s=false->s.u7 id)->(gv M0 L l1)[id]?=t.M[id]?->(gv M0 L (l2++t::l1))[id]?=t.M[id]?:=by
   intro id h1 h2 h0;refine eH.agU iZ hL eL (by rw [Cn];exact h0) h1 λs hs fO dW hp kq l env M hLs=> ?_;obtain⟨_,_,_,ke⟩:=hLs;exact(h2 s hs fO dW hp kq).at (ke.fK fO)
  have fin:∀(F2:bT) (ρ2:bY) (v:Value) (w2:World),Inv X w0 S F2 ρ2 (gv M0 (L.setIfInBounds t.i true) (l2++t::l1)) w2->Grow F F2 ρ ρ2 w w2->aY X.K ρ2 F2 w2 t.x v->wpAnyIn (kY rdc.r) n X.P .any ops Q fuel (L.setIfInBounds t.i true) (a.put t.o.dst v) w2:=by
   intro F' ρ' v w' dG hg hx;refine ih (L.setIfInBounds t.i true) F' ρ' _ w' (Jc) ?_ ?_ ⟨dG,hm.grow.trans hg,ahO,ahK,?_,?_,?_⟩
   ·have:=WW (l:=l2++t::l1) (p:=λt=> !(L.getD t.i false)) (q:=λs=> !((L.setIfInBounds t.i true).getD s.i false)) (λs hs h=>by
     have h':¬df (L.setIfInBounds t.i true) s.i:=by simpa [df]using h
     rw [mM]at h';have:¬df L s.i:=λhh=>h' (.inr hh);simpa [df]using this) ⟨t,ht,by simpa [df]using iZ,air⟩
    omega
   ·intro s hs dW e he hb;rw [mM]at dW⊢;rcases dW with h|h
    ·have:=eH.distinct hL s hs t ht h;subst this;exact .inr (jS e he hb)
    ·exact .inr (eL s hs h e he hb)
   ·exact ajk
   ·intro s hs dW d hd;rw [mM]at dW
    by_cases eJ:s=t
    ·subst eJ;have CV:=(st.dst d hd).1;have:(a.put s.o.dst v).tmps.getD d undef=v:=by
      simp [Act.put,hd,oV,hm.size,CV]
     rw [this];exact hx
    ·have tX:df L s.i:=by
      rcases dW with h|h
      ·exact absurd (eH.distinct hL s hs t ht h) eJ
      ·exact h
     have:(a.put t.o.dst v).tmps.getD d undef=a.tmps.getD d undef:=by
      cases Du:t.o.dst with
      |none=>rfl
      |some d'=>
       have eD:d'≠d:=λe=>eJ (eH.dst hL s hs t ht d hd (e▸Du));exact Yj
     rw [this];exact(hm.wrote s hs tX d hd).grow hg
   ·intro u hu;have AS:t.o.dst≠some u:=hu t ht ((mM _).2 (.inl rfl));have:(a.put t.o.dst v).tmps.getD u undef=a.tmps.getD u undef:=aki;rw [this];exact ail
  have ajP:∀u∈ir t.o++guardOf ops t.o,aY X.K ρ F w (az.look t.env u) (a.tmps.getD u undef):=λu hu=>
   eH.reads (P:=λx=>aY X.K ρ F w x (a.tmps.getD u undef)) iZ hu hL eL jS (λs hs xd hd=>hm.wrote s (lz _ (iq _ hs)) (Am _ xd) u hd) (hm.fV u)
  have Ce:∀s∈l2,df L s.i->qY ops s t=true->(t.q=false->s.q=false->jx s=true∧jx t=true∧kO s≠kO t)∧(s.q=false->t.q=true->∀id∈t.ids,(jx s=true->id≠kO s)∧(jx s=false->s.u7 id)):=by
   intro s hs dW hp;obtain⟨_,_,h|⟨_,_,h1,_,h2⟩⟩:=qo hp
   ·exact absurd (anT s (xD _ hs) dW _ h) iZ
   ·exact⟨λa b=>h1 b a,λa b=>h2 a b⟩
  cases kq:jx t with
  |true=>
   have sV:=aDE kq;obtain⟨dB,aNS,DE⟩:=st.lc kq;have hM0:(gv M0 L (l2++t::l1))[kO t]?=t.M[kO t]?:=by
    refine new _ (λs hs fO dW hp _=> ?_) (λs hs fO dW hp hl=> ?_) (fV _ λs hs fO=> ?_)
    ·exact λe=>((Ce s hs dW hp).1 sV fO).2.2 e.symm
    ·have:=((Ce s hs dW hp).1 sV fO).1;rw [hl]at this;cases this
    ·obtain⟨_,_,h|⟨_,_,h,_⟩⟩:=qo (st.pair s hs)
     ·exact .inl h
     ·obtain⟨_,h2,h3⟩:=h sV fO;obtain⟨b,c,fe⟩:=qX hs;obtain⟨_,_,_,_,_,ke⟩:=eH.entry (fe▸eZ);refine .inr (.inr ?_);rw [(ke.lc h2).2.2,kh (Ne.symm h3)]
   refine dB (M0:=gv M0 L (l2++t::l1)) hM0 hm.inv hm.size ajP ?_;intro v w' F' ρ' dG hx hg;refine fin F' ρ' v w' ?_ hg hx;have iy:gv M0 (L.setIfInBounds t.i true) (l2++t::l1)=(gv M0 L (l2++t::l1)).set (kO t) (A4 t):=by
    have key:∀(b:List cx),(∀s∈b,s∈l2)->gv M0 (L.setIfInBounds t.i true) (b++t::l1)=(gv M0 L (b++t::l1)).set (kO t) (A4 t):=by
     intro b
     induction b with
     |nil=>
      intro _;rw [mb,Cn];simp only [gv];rw [if_pos ⟨sV,(mM _).2 (.inl rfl)⟩,if_pos kq]
      congr 1
      refine Wk λs hs _=> ?_;rw [mM];exact⟨λh=>h.resolve_left λe=>(qo (st.pair s hs)).1 e.symm,.inr⟩
     |cons s b KQ=>
      intro hb;have anz:=KQ (λr hr=>hb r (iq _ hr));have y6:=hb s fL;have eJ:s.i≠t.i:=by
       obtain⟨m2,m1,hY⟩:=qX y6;have qS:eH X nt ops env0 M0 (m2++s::(m1++t::l1)) env M:=by rw [hY]at hL;simpa using hL
       obtain⟨_,_,_,_,_,KD⟩:=eH.entry qS;exact(qo (KD.pair t (lz _ fL))).1
      have hp:qY ops s t=true:=akJ;simp only [ki,gv]
      by_cases hc:s.q=false∧df L s.i
      ·obtain⟨hsl,_,eD⟩:=(Ce s y6 hc.2 hp).1 sV hc.1;rw [if_pos ⟨hc.1,(mM _).2 (.inr hc.2)⟩,if_pos hsl,if_pos hc,if_pos hsl,anz,List.set_comm _ _ eD]
      ·rw [if_neg hc,if_neg λhh=>hc ⟨hh.1,((mM _).1 hh.2).resolve_left eJ⟩];exact anz
    exact key l2 λs hs=>hs
   rw [iy];exact dG
  |false=>
   refine st.runs kq (M0:=gv M0 L (l2++t::l1)) (λhq id bA=> ?_) (λhq=> ?_) hm.inv hm.size ajP ?_
   ·refine new _ (λs hs fO dW hp hl=>((Ce s hs dW hp).2 fO hq id bA).1 hl) (λs hs fO dW hp hl=>((Ce s hs dW hp).2 fO hq id bA).2 hl) (fV _ λs hs fO=> ?_);obtain⟨_,_,h|⟨_,_,_,h,_⟩⟩:=qo (st.pair s hs)
    ·exact .inl h
    ·exact .inr (h hq fO id bA)
   ·have h1:gv M0 L l1=t.M:=by
     rw [st.hM];refine eH.wa eZ λs hs fO=> ?_;obtain⟨_,_,h|⟨_,_,h,_⟩⟩:=qo (st.pair s hs)
     ·exact Am _ h
     ·have:=(h hq fO).1;rw [kq]at this;cases this
    have key:∀(b:List cx),(∀s∈b,s∈l2)->gv M0 L (b++t::l1)=gv M0 L (t::l1):=by
     intro b
     induction b with
     |nil=>intro _;rfl
     |cons s b KQ=>
      intro hb;have y6:=hb s fL;have hp:qY ops s t=true:=akJ;simp only [ki,gv];rw [if_neg λhh=>by
       have:=((Ce s y6 hh.2 hp).1 hq hh.1).2.1;rw [kq]at this;cases this]
      rw [KQ λr hr=>hb r (iq _ hr)];rfl
    rw [key l2 λs hs=>hs,Cn,h1]
   ·intro v w' F' ρ' dG hx hg;refine fin F' ρ' v w' ?_ hg hx;have iy:gv M0 (L.setIfInBounds t.i true) (l2++t::l1)=if t.q then gv M0 L (l2++t::l1)else t.M':=by
     cases hq:t.q with
     |true=>
      rw [if_pos rfl];refine Wk λs hs fO=> ?_;rw [mM];constructor
      ·rintro(h|h)
       ·have:=eH.distinct hL s hs t ht h;subst this;rw [hq]at fO;cases fO
       ·exact h
      ·exact .inr
     |false=>
      rw [if_neg (by simp)];have key:∀(b:List cx),(∀s∈b,s∈l2)->gv M0 (L.setIfInBounds t.i true) (b++t::l1)=t.M':=by
       intro b
       induction b with
       |nil=>
        intro _;simp only [mb,gv];rw [if_pos ⟨hq,(mM _).2 (.inl rfl)⟩,if_neg (by simp [kq])]
       |cons s b KQ=>
        intro hb;have y6:=hb s fL;obtain⟨m2,m1,hY⟩:=qX y6;have qS:eH X nt ops env0 M0 (m2++s::(m1++t::l1)) env M:=by rw [hY]at hL;simpa using hL
        obtain⟨_,_,_,_,_,KD⟩:=eH.entry qS;have hp:qY ops s t=true:=KD.pair t (lz _ fL);simp only [ki,gv];rw [if_neg λhh=>by
         have dW:df L s.i:=((mM _).1 hh.2).resolve_left (qo hp).1;have:=((Ce s y6 dW hp).1 hq hh.1).2.1;rw [kq]at this;cases this]
        exact KQ λr hr=>hb r (iq _ hr)
      exact key l2 λs hs=>hs
    rw [iy];exact dG
end
def uT(T:ia R)(ops:Array Oper)(t:cx)(st:St)(log:List cx)(k:List cx->St->Option R):Option R:=
 aP (log.all (qY ops t)) (lO T.nt st t.o.dst t.x t.M' λbl=>k (t::log) bl)
def Kl(X:Cx)(T:ia R)(ops:Array Oper)(i:Nat)(o:Oper)(cl:Nat)(st:St)(log:List cx)(k:List cx->St->Option R):Option R:=
 match o.op with
 | .store ty p x=>
   ZO X ty (ku X (lr (ir o) st.env) p) (ku X (lr (ir o) st.env) x) st.mem λid b=>match X.pk with
    |true=>uT T ops ⟨i,o,false,.ep [],[id],cl,st.env,st.mem,st.mem.set id b⟩ st log k
    |false=>Gt (st.mem.set id b) id λM'=>uT T ops ⟨i,o,false,.ep [],[id],cl,st.env,st.mem,M'⟩ st log k
 |_=>
 match xG X (ku X (lr (ir o) st.env)) o with
 |some ids=>rC X T (ku X (lr (ir o) st.env)) o st.mem λx _=>uT T ops ⟨i,o,true,x,ids,cl,st.env,st.mem,st.mem⟩ st log k
 |none=>
  match Qr X ops (ku X (lr (ir o) st.env)) o with
  |some (t,n,ps)=>BA X t n (ps.toList.map λp=>(p.1,ku X (lr (ir o) st.env) p.2)) λx=>uT T ops ⟨i,o,true,x,[],cl,st.env,st.mem,st.mem⟩ st log k
  |none=>
   match QE X (ku X (lr (ir o) st.env)) o with
   |some (g,args)=>T.call g args [] λx M'=>aP (M'.isEmpty&&qF x) (uT T ops ⟨i,o,true,x,[],cl,st.env,st.mem,st.mem⟩ st log k)
   |none=>
    match oX T (ku X (lr (ir o) st.env)) o st.mem with
    |some ids=>rC X T (ku X (lr (ir o) st.env)) o st.mem λx M'=>uT T ops ⟨i,o,false,x,ids,cl,st.env,st.mem,M'⟩ st log k
    |none=>none
def Km(T:ia R)(ops:Array Oper)(i:Nat)(o:Oper)(cl:Nat)(st:St)(log:List cx)(k:List cx->St->Option R):Option R:=
 uT T ops ⟨i,o,true,.ep [],[],cl,st.env,st.mem,st.mem⟩ st log k
def aaJ(X:Cx)(T:ia R)(ops:Array Oper)(i:Nat)(o:Oper)(cl:Nat)(st:St)(log:List cx)(k:List cx->St->Option R):Option R:=
 match o.guard with
 |none=>Kl X T ops i o cl st log k
 |some (j,want)=>
  match zX ops j with
  |none=>none
  |some d=>
   match look st.env d with
   | .bool b=>
     match b with
     |true=>match want with
      |true=>Kl X T ops i o cl {st with env:=(d,.bool true)::st.env} log k
      |false=>Km T ops i o cl {st with env:=(d,.bool true)::st.env} log k
     |false=>match want with
      |false=>Kl X T ops i o cl {st with env:=(d,.bool false)::st.env} log k
      |true=>Km T ops i o cl {st with env:=(d,.bool false)::st.env} log k
   | .ep []=>Km T ops i o cl st log k
   |_=>none
def Rs(X:Cx)(T:ia R)(ops:Array Oper):dI->List cx->St->(List cx->St->Option R)->Option R
 | [],log,st,k=>k log st
 |i::rest,log,st,k=>
  match ops.toList[i]? with
  |none=>none
  |some o=>
   match qE log o.after.toList with
   |none=>none
   |some cl=>aaJ X T ops i o cl st log λsD bl=>Rs X T ops rest sD bl k
def YU(X:Cx)(T:ia R)(ops:Array Oper)(st:St)(k:St->Option R):Option R:=
 Rs X T ops (aka ops.toList) [] st λlog bl=>aP (Nat.ble log.length ops.size&&(List.range ops.size).all λi=>log.any λt=>t.i==i) (k bl)
def ajW(i:Nat):List Edge->Bool
 | []=>false
 |e::es=>(Region.binds .any e&&Nat.beq e.on i)||ajW i es
def agz:Nat->List Oper->Bool
 |_,[]=>false
 |i,o::os=>(Gp o&&agA i os)||agz (i+1) os
where agA (i:Nat):List Oper->Bool
 | []=>false
 |o::os=>(Gp o&& !ajW i o.after.toList)||agA i os
def Zv(X:Cx)(T:ia R)(ops:Array Oper)(draw:Bool)(st:St)(k:St->Option R):Option R:=
 match draw with
 |false=>qy X T ops ops.toList st k
 |true=>match agz 0 ops.toList with
  |true=>YU X T ops st k
  |false=>YV X T ops st k
section
variable {nt:Nt} {ops:Array Oper} {env0 gJ:cV} {M0 M1:aW}
theorem EM(h:uT T ops t st log k=some r):
 ∃bl,k (t::log) bl=some r∧(∀s∈log,qY ops t s=true)∧(∀d,t.o.dst=some d->d<T.nt.n∧T.nt.mask.testBit d=true)∧(∀u,look bl.env u=(if t.o.dst=some u then t.x else look st.env u))∧bl.mem=t.M'∧bl.iF=st.iF∧bl.rd=st.rd:=by
 unfold uT at h;replace h:=di h;obtain⟨hp,h⟩:=h;have hq:Jz T ops t st [] (λ_ bl=>k (t::log) bl)=some r:=aiI;obtain⟨bl,h,_,hd,jX,hY,e1,e2⟩:=aeV hq;exact⟨bl,h,λs hs=>jN.1 hp s hs,hd,jX,hY,e1,e2⟩
theorem EV(hl:eH X nt ops env0 M0 log gJ M1)(h1:∀u,look t.env u=look gJ u)(h2:t.M=M1)(h3:t.q=true->t.M'=t.M)(h4:t.q=false->dR t.ids t.M t.M')(h5:jx t=false->t.RD X nt ops)
 (h5':jx t=true->t.alf X nt ops∧kO t<t.M.length∧t.M'=t.M.set (kO t) (A4 t)) (h6:ops[t.i]?=some t.o)
 (h7:∀d,t.o.dst=some d->d<nt.n∧nt.mask.testBit d=true) (h8:∀s∈log,qY ops t s=true) (h9:qE log t.o.after.toList=some t.cl)   (iS:∀u,look env u=(if t.o.dst=some u then t.x else look t.env u)) (lx:M=t.M'):
 eH X nt ops env0 M0 (t::log) env M:=by
 obtain⟨c1,c2⟩:=Oh h9;refine⟨gJ,M1,hl,h1,h2,h3,h4,h5,h5',h6,h7,h8,λe he hb=>c1 e (xQ) hb,λw hw=> ?_,λu=>by rw [iS u,h1 u],lx⟩;obtain⟨e,he,hb,hh⟩:=c2 w hw;exact⟨e,xQ,hb,hh⟩
theorem Wp(hl:eH X T.nt ops env0 M0 log gJ M1)(hi:ops[i]?=some o)(hc:qE log o.after.toList=some cl)
 (he:∀u,look st.env u=look gJ u) (hm:st.mem=M1) (hw:F5 X ops o st.env false) (h:Km T ops i o cl st log k=some r):
 ∃t bl,k (t::log) bl=some r∧eH X T.nt ops env0 M0 (t::log) bl.env bl.mem∧bl.iF=st.iF∧bl.rd=st.rd:=by
 unfold Km at h;obtain⟨bl,h,hp,hd,jX,hY,h1,h2⟩:=EM h;refine⟨_,bl,h,EV hl he hm (λ_=>rfl) (λhq=>oW) ?_ (λhf=>by simp [jx]at hf) hi hd hp hc jX hY,h1,h2⟩;intro _ Mx _ _ rdc n w0 S F ρ a w Q K hI ei hr hk;unfold wpOpIn;simp only [hi,hw hr,lg,ng];exact⟨λ_ _=>trivial,hk _ w F ρ hI WB (Grow.refl _ _ _)⟩
theorem Wo(hX:X.Okb)(hT:T.nX X)(hl:eH X T.nt ops env0 M0 log gJ M1)(hi:ops[i]?=some o)(hc:qE log o.after.toList=some cl)
 (he:∀u,look st.env u=look gJ u) (hm:st.mem=M1) (hw:F5 X ops o st.env true) (h:Kl X T ops i o cl st log k=some r):
 ∃t bl,k (t::log) bl=some r∧eH X T.nt ops env0 M0 (t::log) bl.env bl.mem∧bl.iF=st.iF∧bl.rd=st.rd:=by
 unfold Kl at h;split at h
 ·rename_i ty p x ho
  ·obtain⟨id,b,eJ,h⟩:=aAw h;obtain⟨_,cF,_⟩:=afe (R:=R) eJ;have h':uT T ops ⟨i,o,false,.ep [],[id],cl,st.env,st.mem,st.mem.set id b⟩ st log k=some r:=by
    split at h
    ·exact h
    ·rw [XI]at h;exact h
   obtain⟨bl,h,hp,hd,jX,hY,h1,h2⟩:=EM h';refine⟨_,bl,h,EV hl he hm (λhq=>oW) (λ_=>dR.set _ _ _) (λhf=>by simp [jx,Gp,ho]at hf) (λ_=> ?_) hi hd hp hc jX hY,h1,h2⟩;have hb:A4 ⟨i,o,false,.ep [],[id],cl,st.env,st.mem,st.mem.set id b⟩=b:=by
    show((st.mem.set id b)[id]?).getD .dead =b;rw [qu cF];rfl
   refine⟨?_,cF,by rw [hb];rfl⟩;intro Mx hM rdc n w0 S F ρ a w Q K hI ei hr hk;rw [hb]at hk;unfold wpOpIn;simp only [hi,hw hr,ow];exact aAv hX ho eJ (M0:=Mx) hM hI (λz=>zH hI (ER λu hu=>hr u (xD _ hu)) z) (λv w' ρ' F' dG hg hx=>hk v w' F' ρ' dG hx hg)
 ·rename_i sY;have Q7:∀{q:Bool} {x:AV} {ids:dI} {M':aW},jx ⟨i,o,q,x,ids,cl,st.env,st.mem,M'⟩=true->False:=by
   intro q x ids M' hf;have h2:Gp o=true:=by
    unfold jx at hf;rw [bS]at hf;exact hf.2
   unfold Gp at h2;split at h2
   ·rename_i ty p x2 ho;exact sY _ _ _ ho
   ·cases h2
  split at h
  ·rename_i ids hq;obtain⟨y,h,dB⟩:=aeU hX hq h;obtain⟨bl,h,hp,hd,jX,hY,h1,h2⟩:=EM h;refine⟨_,bl,h,EV hl he hm (λ_=>rfl) (λhq=>oW) ?_ (λhf=>(Q7 hf).elim) hi hd hp hc jX hY,h1,h2⟩;exact akH
  ·rename_i hq;split at h
   ·rename_i t n ps aat
    obtain⟨y,h,dB⟩:=afl hX (aeZ aat) h;obtain⟨bl,h,hp,hd,jX,hY,h1,h2⟩:=EM h;refine⟨_,bl,h,EV hl he hm (λ_=>rfl) (λhq=>oW) ?_ (λhf=>(Q7 hf).elim) hi hd hp hc jX hY,h1,h2⟩;exact Ra
   ·split at h
    ·rename_i g args hcq;obtain⟨y,h,dB⟩:=afb hX hT hcq (k:=λy=>uT T ops ⟨i,o,true,y,[],cl,st.env,st.mem,st.mem⟩ st log k) h;obtain⟨bl,h,hp,hd,jX,hY,h1,h2⟩:=EM h;refine⟨_,bl,h,EV hl he hm (λ_=>rfl) (λhq=>oW) ?_ (λhf=>(Q7 hf).elim) hi hd hp hc jX hY,h1,h2⟩;exact Ra
    ·split at h
     ·rename_i ids hwr;obtain⟨x,M',dB,h,fK⟩:=Ip hX hT h;obtain⟨bl,h,hp,hd,jX,hY,h1,h2⟩:=EM h;refine⟨_,bl,h,EV hl he hm (λhq=>oW) (λ_=>fK ids hwr) ?_ (λhf=>(Q7 hf).elim) hi hd hp hc jX hY,h1,h2⟩;exact akN
     ·exact bh
theorem aAa(hX:X.Okb)(hT:T.nX X)(hl:eH X T.nt ops env0 M0 log st.env st.mem)(hi:ops[i]?=some o)(hc:qE log o.after.toList=some cl)
 (h:aaJ X T ops i o cl st log k=some r):
 ∃t bl,k (t::log) bl=some r∧eH X T.nt ops env0 M0 (t::log) bl.env bl.mem∧bl.iF=st.iF∧bl.rd=st.rd:=by
 unfold aaJ at h;split at h
 ·rename_i hg;exact Wo hX hT hl hi hc (λ_=>rfl) rfl (λ{ρ F w tmps} _=>VZ hg _) h
 ·rename_i j want hg;split at h
  ·exact bh
  ·rename_i d hd;have iy:d∈ir o++guardOf ops o:=lz _ (by simp [guardOf,hg,hd]);have xV:∀(b:Bool) (env:cV),look env d= .bool b->F5 X ops o env (b==want):=akC;split at h
   ·rename_i b hb;split at h
    ·split at h
     ·exact Wo hX hT (st:={st with env:=(d,.bool true)::st.env}) hl hi hc (λu=>zq hb u) rfl (xV true _ (zV)) h
     ·exact Wp (st:={st with env:=(d,.bool true)::st.env}) hl hi hc (λu=>zq hb u) rfl (xV true _ (zV)) h
    ·split at h
     ·exact Wo hX hT (st:={st with env:=(d,.bool false)::st.env}) hl hi hc (λu=>zq hb u) rfl (xV false _ (zV)) h
     ·exact Wp (st:={st with env:=(d,.bool false)::st.env}) hl hi hc (λu=>zq hb u) rfl (xV false _ (zV)) h
   ·rename_i hb;refine Wp hl hi hc (λ_=>rfl) rfl (λ{ρ F w tmps} hr=> ?_) h;exact akF
   ·exact bh
theorem ae5(hX:X.Okb){T:ia R}(hT:T.nX X){k:List cx->St->Option R}{r:R}:∀(ord:dI) {log:List cx} {st:St},eH X T.nt ops env0 M0 log st.env st.mem->Rs X T ops ord log st k=some r->
 ∃sD bl,k sD bl=some r∧eH X T.nt ops env0 M0 sD bl.env bl.mem∧bl.iF=st.iF∧bl.rd=st.rd
 | [],log,st,hl,h=>⟨log,st,h,hl,rfl,rfl⟩
 |i::rest,log,st,hl,h=>by
  simp only [Rs]at h;split at h
  ·exact bh
  ·rename_i o ho;split at h
   ·exact bh
   ·rename_i cl hc;obtain⟨t,cY,h,eZ,e1,e2⟩:=aAa hX hT hl (by simpa using ho) hc h;obtain⟨sD,bl,h,vM,e3,e4⟩:=ae5 hX hT rest eZ h;exact⟨sD,bl,h,vM,e3.trans e1,e4.trans e2⟩
theorem ayI(hX:X.Okb)(hT:T.nX X){k:St->Option R}(h:YU X T ops st k=some r):
 ∃bl,k bl=some r∧pS X T.nt (.region id ops true) st .normal bl:=by
 unfold YU at h;obtain⟨log,bl,h,hl,e1,e2⟩:=ae5 hX hT (ops:=ops) (env0:=st.env) (M0:=st.mem) _ (log:=[]) (st:=st) (show eH X T.nt ops st.env st.mem [] st.env st.mem from⟨λ_=>rfl,rfl⟩) h;replace h:=di h;obtain⟨ja,h⟩:=h;rw [bS]at ja;obtain⟨hlen,ja⟩:=ja;refine⟨bl,h,λ{rdc n w0 S F ρ a w Q} hI hs hq=>wpIn_region_any hX.mixed ?_⟩;have hg:=World.adN w;have dG:=hI.grown hg;have jm:Grow F F ρ ρ w {w with drawn:=w.drawn+1}:=⟨λ_ h=>h,λ_ _ h=>h,hI.wV hg (by simp)⟩;have dm:=hs.grow jm;have oj:∀i,¬df (Array.replicate ops.size false) i:=ajm;have Se:∀l:List cx,gv st.mem (Array.replicate ops.size false) l=st.mem:=by
  intro l
  induction l with
  |nil=>rfl
  |cons t l GQ=>
   simp only [gv];rw [if_neg λhh=>oj _ hh.2];exact GQ
 refine aAW (ds:=a.defers) (tv:=rdc.tv) (wb:=w) (S:=S) (w0:=w0) (F0:=F) (ρ0:=ρ) hl (λi hi=> ?_) (λa' w' F' ρ' uy hE ei G4 hkp lv=> ?_) ops.size _ F ρ a _ (by simp) ?_ ?_ ?_
 ·have:=jN.1 ja i (zF.2 hi);exact aiH
 ·refine hq a' w' F' ρ' uy ⟨hE,ei,?_,?_,hkp⟩ lv
  ·rw [e1,G4];exact hs.defs.mono lv.hF lv.hb
  ·exact hs.rd.mono lv.hF lv.hb
 ·exact nW afP (tL hlen)
 ·exact λt ht dX=>absurd dX (oj _)
 ·exact⟨by rw [Se];exact dG,jm,hs.size,rfl,hs.kept,λs _ dX=>absurd dX (oj _),λu _=>dm.env u⟩
theorem azw(hX:X.Okb)(hT:T.nX X){draw:Bool}{k:St->Option R}(h:Zv X T ops draw st k=some r):
 ∃bl,k bl=some r∧pS X T.nt (.region id ops draw) st .normal bl:=by
 unfold Zv at h;split at h
 ·obtain⟨bl,h,hr⟩:=aey hX hT ops.toList 0 (λi=>by simp) h;refine⟨bl,h,λ{rdc n w0 S F ρ a w Q} hI hs hq=>wpIn_region ?_⟩;have:=hr (n:=n) hI hs hq;exact se
 ·split at h
  ·exact ayI hX hT h
  ·exact ayJ hX hT h
end
end
end Go.az
namespace Go.az
def wx{p:Prop}(h:p:=by simp [wA,hl]):p:=h
def YC{p:Prop}(h:p:=by exact⟨_,a₁,w₁,hq,.of_steps (.one h0 Nn) Rm⟩):p:=h
end Go.az
namespace Go.az
def Om:=@Go.wpIn_block
end Go.az
namespace Go.az
open Go
noncomputable section
variable {X:Cx} {R:Type}
variable{c:Code}{p:Nat}
def wA(root:Code):List Bool->Option Code
 | []=>some root
 |b::p=>
  match wA root p with
  |some (.seq x y)=>some (bif b then y else x)
  |some (.cond _ x y)=>some (bif b then y else x)
  |some (.block _ x)=>bif b then none else some x
  |some (.loop x)=>bif b then none else some x
  |some (.scope x)=>bif b then none else some x
  |some (.rangeFunc _ _ x y)=>some (bif b then y else x)
  |_=>none
def enc:List Bool->Nat
 | []=>1
 |b::p=>2*enc p+(bif b then 1 else 0)
def O6:∀p,1<=enc p
 | []=>gz _
 |b::p=>by have:=O6 p;simp only [enc];omega
def ag2:∀{p q:List Bool},enc p=enc q->p=q
 | [],[],_=>rfl
 | [],b::q,h=>by
   have:=O6 q;simp only [enc]at h;cases b<;>simp at h<;>omega
 |b::p,[],h=>by
  have:=O6 p;simp only [enc]at h;cases b<;>simp at h<;>omega
 |b::p,c::q,h=>by
  simp only [enc]at h;have h2:enc p=enc q∧b=c:=by cases b<;>cases c<;>simp at h⊢<;>omega
  rw [ag2 h2.1,h2.2]
def At(root:Code)(p:Nat)(c:Code):Prop:=∃l,enc l=p∧wA root l=some c
def At.root(c:Code):At c 1 c:=⟨[],rfl,rfl⟩
def At.det{root:Code}(h:At root p c)(l:List Bool)(hl:enc l=p):wA root l=some c:=by
 obtain⟨l',h1,h2⟩:=h;rw [ag2 (hl.trans h1.symm)];exact h2
def At.down{root d:Code}(h:At root p c)(b:Bool)(hd:∀l,wA root l=some c->wA root (b::l)=some d):At root (2*p+(bif b then 1 else 0)) d:=by
 obtain⟨l,h1,h2⟩:=h;exact⟨b::l,by simp only [enc,h1],hd l h2⟩
def Ex.nD:Ex->Exit
 | .normal => .normal
 | .exit i=> .exit i
 | .ret => .ret
structure kc(R:Type) where
 gY:ia R
 loop:Nat->St->(Ex->St->Option R)->Option R
 range:Nat->St->(Ex->St->Option R)->Option R
 cut:Nat->Option (St->(Ex->St->Option R)->Option R)
structure kc.Ok(X:Cx)(root:Code)(L:kc R):Prop where
 gY:L.gY.nX X
 loop:∀{p c st k r},At root p (.loop c)->L.loop p st k=some r->∃e bl,pS X L.gY.nt (.loop c) st (Ex.nD e) bl∧k e bl=some r
 range:∀{p g ps x y st k r},At root p (.rangeFunc g ps x y)->L.range p st k=some r->∃e bl,pS X L.gY.nt (.rangeFunc g ps x y) st (Ex.nD e) bl∧k e bl=some r
 cut:∀{p c f st k r},At root p c->L.cut p=some f->f st k=some r->∃e bl,pS X L.gY.nt c st (Ex.nD e) bl∧k e bl=some r
def alc(o:Option (St->(Ex->St->Option R)->Option R))(other:(Ex->St->Option R)->Option R)(st:St)(k:Ex->St->Option R):Option R:=
 match o with
 |some f=>f st k
 |none=>other k
def O1(c:Operand)(b:Bool)(st:St):St:=match c with| .tmp t=>{st with env:=(t,.bool b)::st.env}|_=>st
def nQ(X:Cx)(L:kc R):Code->Nat->St->(Ex->St->Option R)->Option R
 | .skip,_,st,k=>k .normal st
 | .label _,_,st,k=>k .normal st
 | .region _ ops draw,_,st,k=>Zv X L.gY ops draw st λbl=>k .normal bl
 | .seq a b,p,st,k=>alc (L.cut (2*p)) (λk'=>nQ X L a (2*p) st k') st λe bl=>match e with| .normal =>nQ X L b (2*p+1) bl k| .exit i=>k (.exit i) bl| .ret =>k .ret bl
 | .cond c a b,p,st,k=>
   match ku X st.env c with
   | .bool t=>(match t with|true=>nQ X L a (2*p) (O1 c true st) k|false=>nQ X L b (2*p+1) (O1 c false st) k)
   |_=>none
 | .block i a,p,st,k=>nQ X L a (2*p) st λe bl=>match e with| .normal =>k .normal bl| .exit j=>(match Nat.beq j i with|true=>k .normal bl|false=>k (.exit j) bl)| .ret =>k .ret bl
 | .scope a,p,st,k=>nQ X L a (2*p) st k
 | .loop _,p,st,k=>L.loop p st k
 | .rangeFunc _ _ _ _,p,st,k=>L.range p st k
 | .exit i,_,st,k=>k (.exit i) st
 | .ret,_,st,k=>k .ret st
 |_,_,_,_=>none
section
variable {F:Fence} {n:Nat} {P:Program} {b:Frame} {a:Act} {k:List Item} {cs:List Frame} {w:World} {Q:Exit->Act->World->Prop}
def Nn:step P (lone (b.atR a (.code (.scope c)::k)) cs w)= .next (lone (b.atR a (.code c:: .inScope c::k)) cs w):=
 step_lone_go (by simp [stepG,stepG.exec,Frame.atR])
def awB:step P (lone (b.atR a (.inScope c::k)) cs w)= .next (lone (b.atR a k) cs w):=
 step_lone_go (by simp [stepG,stepG.exec,Frame.atR])
def azd(h:c.wpIn F n P (λe a w=>(∀l,e≠ .goto l)∧Q e a w) a w):(Code.scope c).wpIn F n P Q a w:=by
 intro b k cs kp hb hr;have h0:(lone (b.atR a (.code (.scope c)::k)) cs w).fenced P F:=fenced_calm hb hr rfl;obtain⟨e,a₁,w₁,⟨hg,hq⟩,Rm⟩:=h b (.inScope c::k) cs kp hb hr;cases e with
 |normal=>exact⟨.normal,a₁,w₁,hq,.head h0 Nn (StepsIn.trans Rm (.one (fenced_calm hb hr rfl) awB))⟩
 |exit id'=>
  have hx:exitTo id' (.inScope c::k)=exitTo id' k:=by simp [exitTo]
  exact⟨.exit id',a₁,w₁,hq,λk' hk=> .head h0 Nn (Rm.1 k' (by rw [hx];exact hk)),
   λnM hk=>let⟨k₁,h1,h2⟩:=Rm.2 nM (by rw [hx];exact hk);⟨k₁,h1,.head h0 Nn h2⟩⟩
 |goto l=>exact absurd rfl (hg l)
 |ret=>exact YC
 |panic ch=>exact YC
 |outgrown=>exact YC
end
def aer{nt:Nt}{st:St}{rdc:Cy}{F:bT}{ρ:bY}{a:Act}{w:World}{c:Operand}{b:Bool}(h:gg X nt st rdc F ρ a w)(hc:ku X st.env c= .bool b):gg X nt (O1 c b st) rdc F ρ a w:=by
 cases c with
 |tmp t=>exact h.refine hc
 |_=>exact h
def aes(c:Operand)(b:Bool)(st:St):(O1 c b st).mem =st.mem:=by cases c<;>rfl
def tE(hX:X.Okb){root:Code}{L:kc R}(hL:L.Ok X root):∀(c:Code) {p:Nat} {st:St} {k:Ex->St->Option R} {r:R},At root p c->nQ X L c p st k=some r->
 ∃e bl,pS X L.gY.nt c st (Ex.nD e) bl∧k e bl=some r
 | .skip,p,st,k,r,_,h=>⟨.normal,st,λ{rdc n w0 S F ρ a w Q} hI hs hq=>wpIn_skip (hq a w F ρ hI hs (Grow.refl _ _ _)),h⟩
 | .label l,p,st,k,r,_,h=>⟨.normal,st,λ{rdc n w0 S F ρ a w Q} hI hs hq=>wpIn_label (hq a w F ρ hI hs (Grow.refl _ _ _)),h⟩
 | .region id ops draw,p,st,k,r,_,h=>by
   obtain⟨bl,h,hr⟩:=azw hX hL.gY (id:=id) (k:=λbl=>k .normal bl) h;exact⟨.normal,bl,hr,h⟩
 | .seq x y,p,st,k,r,eM,h=>by
   simp only [nQ]at h;have hax:At root (2*p) x:=eM.down false λl hl=>wx;have h':∃e cY,pS X L.gY.nt x st (Ex.nD e) cY∧(match e with| .normal =>nQ X L y (2*p+1) cY k| .exit i=>k (.exit i) cY| .ret =>k .ret cY)=some r:=by
    unfold alc at h;split at h
    ·rename_i f hf;exact hL.cut hax hf h
    ·exact tE hX hL x hax h
   obtain⟨e,cY,h1,h⟩:=h';cases e with
   |normal=>
    obtain⟨e,ke,h2,h⟩:=tE hX hL y (eM.down true λl hl=>wx) h;refine⟨e,ke,λ{rdc n w0 S F ρ a w Q} hI hs hq=>wpIn_seq (h1 hI hs λa' w' F' ρ' dG dm hg=> ?_),h⟩;exact h2 dG dm λDN p8 tu sw CY CU jo=>hq DN p8 tu sw CY CU (hg.trans jo)
   |exit i=>exact⟨.exit i,cY,λ{rdc n w0 S F ρ a w Q} hI hs hq=>wpIn_seq (h1 hI hs λa' w' F' ρ' dG dm hg=>hq a' w' F' ρ' dG dm hg),h⟩
   |ret=>exact⟨.ret,cY,λ{rdc n w0 S F ρ a w Q} hI hs hq=>wpIn_seq (h1 hI hs λa' w' F' ρ' dG dm hg=>hq a' w' F' ρ' dG dm hg),h⟩
 | .cond c x y,p,st,k,r,eM,h=>by
   simp only [nQ]at h;split at h
   ·rename_i t ht;have Si:∀{w0:World} {S:Sc} {F:bT} {ρ:bY} {a:Act} {w:World} {rdc:Cy},Inv X w0 S F ρ st.mem w->gg X L.gY.nt st rdc F ρ a w->a.eval c= .bool t:=by
     intro w0 S F ρ a w rdc hI hs;have:=zH hI hs.env c;rw [ht]at this;generalize a.eval c=v at this;cases this;rfl
    split at h
    ·obtain⟨e,cY,h1,h⟩:=tE hX hL x (eM.down false λl hl=>wx) h;exact⟨e,cY,λ{rdc n w0 S F ρ a w Q} hI hs hq=>wpIn_cond_true (Si hI hs) (h1 (by rw [aes];exact hI) (aer hs ht) hq),h⟩
    ·obtain⟨e,cY,h1,h⟩:=tE hX hL y (eM.down true λl hl=>wx) h;exact⟨e,cY,λ{rdc n w0 S F ρ a w Q} hI hs hq=>wpIn_cond_false (Si hI hs) (h1 (by rw [aes];exact hI) (aer hs ht) hq),h⟩
   ·exact bh
 | .block i x,p,st,k,r,eM,h=>by
   simp only [nQ]at h;obtain⟨e,cY,h1,h⟩:=tE hX hL x (eM.down false λl hl=>wx) h;cases e with
   |normal=>exact⟨.normal,cY,λ{rdc n w0 S F ρ a w Q} hI hs hq=>Om (h1 hI hs λa' w' F' ρ' dG dm hg=>hq a' w' F' ρ' dG dm hg),h⟩
   |exit j=>
    simp only at h;split at h
    ·rename_i hj;have hj:j=i:=dE hj;refine⟨.normal,cY,λ{rdc n w0 S F ρ a w Q} hI hs hq=>Om (h1 hI hs λa' w' F' ρ' dG dm hg=> ?_),h⟩;simp only [Ex.nD,Exit.inBlock,hj,ow];exact hq a' w' F' ρ' dG dm hg
    ·rename_i hj;have hj:j≠i:=λe=>by subst e;simp at hj
     refine⟨.exit j,cY,λ{rdc n w0 S F ρ a w Q} hI hs hq=>Om (h1 hI hs λa' w' F' ρ' dG dm hg=> ?_),h⟩;simp only [Ex.nD,Exit.inBlock,if_neg hj];exact hq a' w' F' ρ' dG dm hg
   |ret=>exact⟨.ret,cY,λ{rdc n w0 S F ρ a w Q} hI hs hq=>Om (h1 hI hs λa' w' F' ρ' dG dm hg=>hq a' w' F' ρ' dG dm hg),h⟩
 | .loop c,p,st,k,r,eM,h=>hL.loop eM h
 | .rangeFunc g ps x y,p,st,k,r,eM,h=>hL.range eM h
 | .exit i,p,st,k,r,_,h=>⟨.exit i,st,λ{rdc n w0 S F ρ a w Q} hI hs hq=>wpIn_exit (hq a w F ρ hI hs (Grow.refl _ _ _)),h⟩
 | .ret,p,st,k,r,_,h=>⟨.ret,st,λ{rdc n w0 S F ρ a w Q} hI hs hq=>wpIn_ret (hq a w F ρ hI hs (Grow.refl _ _ _)),h⟩
 | .scope x,p,st,k,r,eM,h=>by
   simp only [nQ]at h;obtain⟨e,cY,h1,h⟩:=tE hX hL x (eM.down false λl hl=>wx) h;exact⟨e,cY,λ{rdc n w0 S F ρ a w Q} hI hs hq=>azd (h1 hI hs λa' w' F' ρ' dG dm hg=>⟨λl=>by cases e<;>simp [Ex.nD],hq a' w' F' ρ' dG dm hg⟩),h⟩
 | .goto _,_,_,_,_,_,h=>by simp [nQ]at h
 | .refuse _,_,_,_,_,_,h=>by simp [nQ]at h
end
end Go.az
namespace Go.az
def ah5{p:Prop}(h:p:=by simp [Instr.sureAddr,fm,stuck,Sem.run,Result.andThen]at h1):p:=h
end Go.az
namespace Go.az
open Go
noncomputable section
variable {X:Cx} {R:Type}
variable{k:AV->aW->Option R}{c:Code}{fn:Func}{f:FuncId}{rs:List ResultVar}{r:R}{st:St}{args:bp}{M:aW}
def oM:Hd:=⟨.nilFunc,0⟩
def azr{Mc:aW}{bN:dI}{m:Nat}:dR bN M (merge m M bN Mc):=
 ⟨by rw [ad7];omega,λid bA hn=>by unfold merge;rw [ju (by rw [EC];exact bA),OH bN _ M hn]⟩
def rj:Nat->bp->cV
 |_,[]=>[]
 |i,x::xs=>(i,x)::rj (i+1) xs
def V1:∀(xs:bp) (i t:Nat),look (rj i xs) t=if i<=t then(xs[t- i]?).getD .top else .top
 | [],i,t=>by simp [rj,pN,look_nil]
 |x::xs,i,t=>by
  simp only [rj,pN,look_nil]
  by_cases ht:t=i
  ·subst ht;simp
  ·have:(t==i)=false:=by simpa using ht
   simp only [this,lg,ng];rw [V1 xs (i+1) t]
   by_cases h:i<=t
   ·rw [if_pos (by omega),if_pos h,show t- i=(t-(i+1))+1 by omega];simp
   ·rw [if_neg (by omega),if_neg h]
def Cc(X:Cx)(rv:ResultVar)(st:St)(k:AV->Option R):Option R:=
 match rv with
 | .tmp t=>k (look st.env t)
 | .cell a t=>uP X t (look st.env a) st.mem k
def Qy(X:Cx)(rs:List ResultVar)(st:St)(k:AV->aW->Option R):Option R:=
 match rs with
 | []=>k (.ep []) st.mem
 | [a]=>Cc X a st λx=>k x st.mem
 | [a,b]=>Cc X a st λx=>Cc X b st λy=>k (.ep [x,y]) st.mem
 | [a,b,c]=>Cc X a st λx=>Cc X b st λy=>Cc X c st λz=>k (.ep [x,y,z]) st.mem
 |_=>none
def Z7(tmps:Array Value):ResultVar->Sem Value
 | .tmp t=>pure (tmps.getD t undef)
 | .cell a t=>do loadVar t (<-asAddr (tmps.getD a undef))
def Eu(hX:X.Okb){rv:ResultVar}{k:AV->Option R}(h:Cc X rv st k=some r):
 ∃x,k x=some r∧∀{nt:Nt} {rdc:Cy} {w0:World} {S:Sc} {F:bT} {ρ:bY} {a:Act} {w:World},Inv X w0 S F ρ st.mem w->gg X nt st rdc F ρ a w->∃v,(Z7 a.tmps rv).run X.P w= .ok v w∧aY X.K ρ F w x v:=by
 cases rv with
 |tmp t=>exact⟨_,h,λ{nt rdc w0 S F ρ a w} hI hs=>⟨_,rfl,hs.env t⟩⟩
 |cell a t=>
  obtain⟨x,h,hd⟩:=aec hX h;refine⟨x,h,λ{nt rdc w0 S F ρ act w} hI hs=> ?_⟩;obtain⟨v,h1,h2⟩:=hd hI (hs.env a);refine⟨v,?_,h2⟩;unfold Instr.loadAt at h1;simp only [Z7];generalize act.tmps.getD a undef=p at h1;cases p with
  |pointer o=>
   cases o with
   |some ad=>exact h1
   |none=>exact ah5
  |_=>exact ah5
def azv(hX:X.Okb)(qM:fn.results.toList=rs)(h:Qy X rs st k=some r):
 ∃x,k x st.mem=some r∧∀{nt:Nt} {rdc:Cy} {w0:World} {S:Sc} {F:bT} {ρ:bY} {a:Act} {w:World},Inv X w0 S F ρ st.mem w->gg X nt st rdc F ρ a w->∃v,(results fn a.tmps).run X.P w= .ok v w∧aY X.K ρ F w x v:=by
 have yu:∀tmps,results fn tmps=(do let vs<-fn.results.mapM (Z7 tmps);pure (if h:vs.size=1 then vs[0]else .tuple vs)):=by
  intro tmps;unfold results
  congr 1
 have Rh:fn.results=rs.toArray:=by rw [<-qM]
 unfold Qy at h;split at h
 ·exact⟨_,h,λ{nt rdc w0 S F ρ a w} hI hs=>⟨.tuple #[],by rw [yu,Rh];simp [fm],.ep [] [] rfl (λj x v h _=>gM)⟩⟩
 ·rename_i a;obtain⟨x,h,hd⟩:=Eu hX h;refine⟨x,h,λ{nt rdc w0 S F ρ act w} hI hs=> ?_⟩;obtain⟨v,h1,h2⟩:=hd hI hs;exact⟨v,by rw [yu,Rh];simp [fm,h1],h2⟩
 ·rename_i a b;obtain⟨x,h,hd⟩:=Eu hX h;obtain⟨y,h,lV⟩:=Eu hX h;refine⟨_,h,λ{nt rdc w0 S F ρ act w} hI hs=> ?_⟩;obtain⟨v,h1,h2⟩:=hd hI hs;obtain⟨v2,h3,h4⟩:=lV hI hs;refine⟨.tuple #[v,v2],by rw [yu,Rh];simp [fm,h1,h3],.ep [x,y] [v,v2] rfl (λj z u hz hu=> ?_)⟩
  match j with
  |0=>simp at hz hu;subst hz;subst hu;exact h2
  |1=>simp at hz hu;subst hz;subst hu;exact h4
  |j+2=>simp at hz
 ·rename_i a b c;obtain⟨x,h,hd⟩:=Eu hX h;obtain⟨y,h,lV⟩:=Eu hX h;obtain⟨z,h,hd3⟩:=Eu hX h;refine⟨_,h,λ{nt rdc w0 S F ρ act w} hI hs=> ?_⟩;obtain⟨v,h1,h2⟩:=hd hI hs;obtain⟨v2,h3,h4⟩:=lV hI hs;obtain⟨v3,h5,h6⟩:=hd3 hI hs;refine⟨.tuple #[v,v2,v3],by rw [yu,Rh];simp [fm,h1,h3,h5],.ep [x,y,z] [v,v2,v3] rfl (λj q u hz hu=> ?_)⟩
  match j with
  |0=>simp at hz hu;subst hz;subst hu;exact h2
  |1=>simp at hz hu;subst hz;subst hu;exact h4
  |2=>simp at hz hu;subst hz;subst hu;exact h6
  |j+3=>simp at hz
 ·cases h
def Qz(X:Cx)(rs:List ResultVar)(k:AV->aW->Option R)(e:Ex)(st:St):Option R:=
 match e with
 | .exit _=>none
 |_=>match st.iF with| []=>Qy X rs st k|_=>none
def yD(X:Cx)(L:kc R)(c:Code)(rs:List ResultVar)(args:bp)(M:aW)(k:AV->aW->Option R):Option R:=
 aP (Nat.ble args.length L.gY.nt.n) (nQ X L c 1 ⟨rj 0 args,M,[],.out⟩ (Qz X rs k))
def Grow.less{F0 F:bT}{ρ ρ':bY}{wb w:World}(g:Grow F0 F ρ ρ' wb w){D:Nat}(hD:∀a,F0 a->a.block≠D)(o:Obj):Grow F0 (less F D) ρ ρ' wb (w.putObj D o):=
 ⟨λa ha=>⟨g.hF a ha,hD a ha⟩,g.gG,λa ha=>by rw [re (hD a ha)];exact g.hb a ha⟩
def ad9{fn:Func}{tmps:Array Value}{M:aW}{env:cV}{w0 wb:World}{S:Sc}{F0:bT}{ρ ρ':bY}{x:AV}(nP:∀a,S.F0 a->F0 a)
 (yu:∀{F:bT} {w:World},Inv X w0 S F ρ' M w->iU X ρ' F w env tmps->∃v,(results fn tmps).run X.P w= .ok v w∧aY X.K ρ' F w x v):
 ∀(ms:dI) {F:bT} {w:World},Inv X w0 S F ρ' M w->iU X ρ' F w env tmps->ms.Nodup->(∀D∈ms,(∀a,F0 a->a.block≠D)∧F ⟨D,0,none⟩∧w.heap[D]?=some (.deferred (some [])))->Grow F0 F ρ ρ' wb w->
  LeavesInM Fence.wide 0 X.P fn tmps (λe w'=>∃v ρ' F',e= .returned v∧Inv X w0 S F' ρ' M w'∧Grow F0 F' ρ ρ' wb w'∧aY X.K ρ' F' w' x v) (ms.map λD=>({target:= .collected D,args:= #[]}:Deferred)) .returning w
 | [],F,w,hI,hE,_,_,hg=>by
   obtain⟨v,h1,h2⟩:=yu hI hE;exact⟨v,h1,v,ρ',F,rfl,hI,hg,h2⟩
 |D::ms,F,w,hI,hE,AW,K8,hg=>by
  obtain⟨h1,h2,h3⟩:=K8 D (by simp);have hc:=asr h3;refine⟨by simp,.inl ⟨D,_,rfl,run_takeDeferred h3,ad9 nP yu ms (hI.NS h2 hc (λa ha=>h1 a (nP a ha)) _) (hE.less hc _) (BZ.1 AW).2 (λD' hD'=> ?_) (hg.less h1 _)⟩⟩;have eD:D'≠D:=by rintro rfl;exact(BZ.1 AW).1 hD'
  obtain⟨k1,k2,k3⟩:=K8 D' (by simp [hD']);exact⟨k1,⟨k2,eD⟩,by rw [re eD];exact k3⟩
def aAJ(hX:X.Okb){nt:Nt}(hf:X.P.funcs[f]?=some fn)(hb:fn.body=some c)(hn:fn.ntmps=nt.n)
 (hc:∀(vs:Array Value) (w:World),(callFunc f vs).run X.P w= .ok (.enter f vs) w)  (qM:fn.results.toList=rs)    
 (hle:args.length<=nt.n) {e:Ex} {bl:St} (dB:pS X nt c ⟨rj 0 args,M,[],.out⟩ (Ex.nD e) bl) (h:Qz X rs k e bl=some r):
 ∃x M',lh X f args M x M'∧k x M'=some r:=by
 have he:e≠ .normal ->e= .ret :=by
  intro eD;cases e with
  |normal=>exact absurd rfl eD
  |ret=>rfl
  |exit i=>simp [Qz]at h
 have CW:(match bl.iF with| []=>Qy X rs bl k|_=>none)=some r:=by
  cases e with
  |normal=>exact h
  |ret=>exact h
  |exit i=>simp [Qz]at h
 split at CW
 ·rename_i anP;obtain⟨x,hk,yu⟩:=azv hX qM CW;refine⟨x,bl.mem,⟨hc,λ{w0 S F ρ w vs} hI hr=> ?_⟩,hk⟩;refine(XQ (n:=0)).1 (callsIn_of_wp_marks hf hb trivial ?_);have hlen:=hr.1;have:=dB (rdc:=⟨none,F,λt=>(vs.toArray++Array.replicate (fn.ntmps- vs.toArray.size) undef).getD t undef⟩) (n:=0) (Q:=bodyPostM Fence.wide 0 X.P fn (λe w'=>∃v ρ' F',e= .returned v∧Inv X w0 S F' ρ' bl.mem w'∧Grow F F' ρ ρ' w w'∧aY X.K ρ' F' w' x v))
   (a:={tmps:=vs.toArray++Array.replicate (fn.ntmps- vs.toArray.size) undef,defers:=[]}) hI ⟨λt=> ?_,?_,Marks.nil _ _ (λ_ h=>h),.inl rfl,λt _=>rfl⟩ ?_
  ·exact this
  ·rw [V1,if_pos (xK _)];cases hx:args[t- 0]? with
   |none=>exact .top _
   |some y=>
    have ht:t<vs.length:=PS;have hv:(vs.toArray++Array.replicate (fn.ntmps- vs.toArray.size) undef).getD t undef=vs[t]:=by
     rw [oV,IK (Fv)];simp [ht]
    rw [hv];exact hr.2 t y _ (I8) (dz ht)
  ·simp only [Array.size_append,IJ,Array.size_replicate,hlen,hn];omega
  ·intro a' w' F' ρ' dG dm hg;have hd:Marks F' w' F a'.defers:=by have:=dm.defs;rw [anP]at this;exact this
   obtain⟨_,ms,aMV,aMU,aMT⟩:=hd;have ajQ:LeavesInM Fence.wide 0 X.P fn a'.tmps (λe w'=>∃v ρ' F',e= .returned v∧Inv X w0 S F' ρ' bl.mem w'∧Grow F F' ρ ρ' w w'∧aY X.K ρ' F' w' x v) a'.defers .returning w':=by
    rw [aMV];exact ad9 (env:=bl.env) hI.fin (λ{F2 w2} i2 e2=>yu (rdc:=⟨none,λ_=>False,λt=>a'.tmps.getD t undef⟩) (a:={tmps:=a'.tmps,defers:=[]}) i2 ⟨e2,dm.size,by rw [anP];exact Marks.nil _ _ (λ_ h=>h.elim),.inl rfl,λt _=>rfl⟩) ms dG dm.env aMU aMT hg
   by_cases eD:e= .normal
   ·subst eD;exact ajQ
   ·rw [he eD];exact ajQ
 ·cases CW
def N1(hX:X.Okb){L:kc R}(hL:L.Ok X c)(hf:X.P.funcs[f]?=some fn)(hb:fn.body=some c)(hn:fn.ntmps=L.gY.nt.n)
 (hc:∀(vs:Array Value) (w:World),(callFunc f vs).run X.P w= .ok (.enter f vs) w)  (qM:fn.results.toList=rs)     (h:yD X L c rs args M k=some r):
 ∃x M',lh X f args M x M'∧k x M'=some r:=by
 unfold yD at h;replace h:=di h;obtain⟨hle,h⟩:=h;obtain⟨e,bl,dB,h⟩:=tE hX hL c (At.root c) h;exact aAJ hX hf hb hn hc qM (tL hle) dB h
end
end Go.az
namespace Go.az
def Zd{p:Prop}(h:p:=by
 have hU:=hs.grow g1;obtain⟨F2,ρ2,i2,s2,g2⟩:=hr (nt:=nt) (rdc:=rdc) (a:=a) i1 ⟨hU.env,hU.size,hU.defs,hU.rd,hU.kept⟩;exact⟨F2,ρ2,i2,s2,g1.trans g2⟩):p:=h
def akD{p:Prop}(h:p:=by
 rw [zu]at fJ;split at fJ
 ·rename_i ej;subst ej;split at fJ
  ·injection fJ with fJ;subst fJ;rw [hk]at oL;injection oL with oL;subst oL;rfl
  ·cases fJ
 ·exact tF q1 oL fJ):p:=h
def akr{p:Prop}(h:p:=by
 have hU:=hs.grow g1;obtain⟨F2,ρ2,i2,s2,g2⟩:=hr (nt:=nt) (rdc:=rdc) (a:=a) i1 ⟨hU.env.over r1,hU.size,hU.defs,hU.rd,hU.kept⟩;exact⟨F2,ρ2,i2,s2,g1.trans g2⟩):p:=h
def xP{p:Prop}(h:p:=by exact tC hX cs h):p:=h
def Yw{p:Prop}(h:p:=by rw [hI.len];exact(eU.1 hb).1):p:=h
def Pw{p:Prop}(h:p:=by simp [wR]at h):p:=h
def Pv{p:Prop}(h:p:=by simp [Ag]at h):p:=h
def Yf{p:Prop}(h:p:=by exact⟨F2,ρ2,i2,s2,g1.trans g2⟩):p:=h
def Pq{p:Prop}(h:p:=by simp [Dk]at h):p:=h
end Go.az
namespace Go.az
def W1:=@List.headD_cons
def W0:=@List.tail_cons
end Go.az
namespace Go.az
open Go
noncomputable section
variable {X:Cx} {R O:Type}
variable{x:AV}{tmps:Array Value}{S:Sc}{st:St}{w w0:World}{F:bT}{bN:dI}{ρ:bY}
inductive ez where
 |cell(k:Kind)
 |aA(j:Nat)
 |ptr(j i off:Nat)
 |ik(j:Nat)
 |mpr(j:Nat)
 |iw
 |jP
 |fn(f:FuncId)
 |cl(f:FuncId)(ps:List (Nat×Nat×Nat))
 |vw(j:Nat)
 |gE
 |jF
 |any
inductive Sh where
 |one(s:ez)
 |agg(ss:List ez)
 |du(f:FuncId)(ss:List ez)
inductive fu where
 |row(t:TypeId)
 |eN(t:TypeId)
 |var(ks:dZ)(ss:List ez)
 |arr(ks:dZ)
 |mp(k:Kind)(ag:Bool)(ks:dZ)
 |loop(s:Nat)(es:List (Nat×Sh))(wQ:Option Ex)
 |gone
def AV.fG:AV->List AV| .du _ _ cs=>cs|_=>[]
def AV.id:AV->Nat| .aA id=>id| .ptr id _ _=>id| .ik id=>id| .mp id=>id| .vw id _ _=>id|_=>0
def ed.rows:ed->List Row| .row _ xs=>xs| .eN _ xs=>xs|_=>[]
def ed.cells:ed->List AV| .var _ cs=>cs|_=>[]
def ed.au:ed->List (AV×AV)| .map _ _ _ es=>es|_=>[]
def ed.aag:ed->List (Nat×AV)| .loop _ env _ _=>env|_=>[]
def yE:ez->AV->AV
 | .cell k,x=>ld k x
 | .aA j,_=> .aA j
 | .ptr j i off,_=> .ptr j i off
 | .ik j,_=> .ik j
 | .mpr j,_=> .mp j
 | .iw,_=> .iw
 | .jP,_=> .jP
 | .fn f,_=> .du f [] []
 | .cl f ps,_=> .du f [] (ps.map λp=> .ptr p.1 p.2.1 p.2.2)
 | .vw j,x=> .vw j x.vlo x.vn
 | .gE,_=> .gE
 | .jF,_=> .jF
 | .any,x=>x
def GF:List (Nat×Nat×Nat)->bp->Bool
 | [],[]=>true
 |p::ps,.ptr j i off::cs=>Nat.beq j p.1&&Nat.beq i p.2.1&&Nat.beq off p.2.2&&GF ps cs
 |_,_=>false
def aDt:∀{ps:List (Nat×Nat×Nat)} {cs:bp},GF ps cs=true->(ps.map λp=>AV.ptr p.1 p.2.1 p.2.2)=cs:=by
 intro ps cs h
 induction ps generalizing cs with
 |nil=>
  cases cs with
  |nil=>rfl
  |cons _ _=>simp [GF]at h
 |cons p ps ih=>
  cases cs with
  |nil=>simp [GF]at h
  |cons c cs=>
   cases c<;>simp only [GF,lg]at h
   rw [bS,bS,bS]at h;rw [nf,ih h.2,dE h.1.1.1,dE h.1.1.2,dE h.1.2]
def RS:ez->AV->Bool
 | .cell k,x=>iA k x
 | .aA j,.aA i=>Nat.beq i j
 | .ptr j i off,.ptr j' i' yq=>Nat.beq j' j&&Nat.beq i' i&&Nat.beq yq off
 | .ik j,.ik i=>Nat.beq i j
 | .mpr j,.mp i=>Nat.beq i j
 | .iw,.iw =>true
 | .jP,.jP =>true
 | .fn f,.du g [] []=>Nat.beq g f
 | .cl f ps,.du g [] cs=>Nat.beq g f&&GF ps cs
 | .vw j,.vw i _ _=>Nat.beq i j
 | .gE,.gE =>true
 | .jF,.jF =>true
 | .any,_=>true
 |_,_=>false
def O8{s:ez}(h:RS s x=true):yE s x=x:=by
 unfold RS at h;split at h
 ·exact EW h
 ·rw [dE h];rfl
 ·rw [bS,bS]at h;rw [dE h.1.1,dE h.1.2,dE h.2];rfl
 ·rw [dE h];rfl
 ·rw [dE h];rfl
 ·rfl
 ·rfl
 ·rw [dE h];rfl
 ·rw [bS]at h;simp only [yE];rw [aDt h.2,dE h.1]
 ·simp only [yE,AV.vlo,AV.vn];rw [dE h]
 ·rfl
 ·rfl
 ·rfl
 ·exact bh
def FZ:List ez->bp->bp
 | [],_=>[]
 |s::ss,xs=>yE s (xs.headD .top)::FZ ss xs.tail
def wR:List ez->bp->Bool
 | [],[]=>true
 |s::ss,x::xs=>RS s x&&wR ss xs
 |_,_=>false
def OO:∀{ss:List ez} {xs:bp},wR ss xs=true->FZ ss xs=xs
 | [],[],_=>rfl
 |s::ss,x::xs,h=>by
  simp only [wR,bS]at h;simp only [FZ,W1,W0];rw [O8 h.1,OO h.2]
 | [],_::_,h=>Pw
 |_::_,[],h=>Pw
def Kq:Sh->AV->AV
 | .one s,x=>yE s x
 | .agg ss,x=> .agg (FZ ss x.cells)
 | .du f ss,x=> .du f [] (FZ ss x.fG)
def GD:Sh->AV->Bool
 | .one s,x=>RS s x
 | .agg ss,.agg cs=>wR ss cs
 | .du f ss,.du g [] cs=>Nat.beq g f&&wR ss cs
 |_,_=>false
def XO{s:Sh}(h:GD s x=true):Kq s x=x:=by
 unfold GD at h;split at h
 ·exact O8 h
 ·simp only [Kq,AV.cells];rw [OO h]
 ·rw [bS]at h;simp only [Kq,AV.fG];rw [OO h.2,dE h.1]
 ·exact bh
def QC:List (Nat×Sh)->cV->cV
 | [],_=>[]
 |e::es,env=>(e.1,Kq e.2 (env.headD (0,.top)).2)::QC es env.tail
def Ag:List (Nat×Sh)->cV->Bool
 | [],[]=>true
 |e::es,x::env=>Nat.beq x.1 e.1&&GD e.2 x.2&&Ag es env
 |_,_=>false
def agp:∀{es:List (Nat×Sh)} {env:cV},Ag es env=true->QC es env=env
 | [],[],_=>rfl
 |e::es,x::env,h=>by
  simp only [Ag,bS]at h;simp only [QC,W1,W0];rw [XO h.1.2,agp h.2,<-dE h.1.1]
 | [],_::_,h=>Pv
 |_::_,[],h=>Pv
def okX:Option Ex->Option Ex->Bool
 |none,none=>true
 |some .ret,some .ret =>true
 |some (.exit i),some (.exit j)=>Nat.beq i j
 |_,_=>false
def ahk{a b:Option Ex}(h:okX a b=true):a=b:=by
 unfold okX at h;split at h
 ·rfl
 ·rfl
 ·rw [dE h]
 ·exact bh
def Ao:fu->ed->ed
 | .row t,b=> .row t b.rows
 | .eN t,b=> .eN t b.rows
 | .var ks ss,b=> .var ks (FZ ss b.cells)
 | .arr ks,b=> .var ks b.cells
 | .mp k ag ks,b=> .map k ag ks b.au
 | .loop s es p,b=> .loop s (QC es b.aag) false p
 | .gone,_=> .dead
def okB:fu->ed->Bool
 | .row t,.row t' _=>t'==t
 | .eN t,.eN t' _=>t'==t
 | .var ks ss,.var yT cs=>yT==ks&&wR ss cs
 | .arr ks,.var yT _=>yT==ks
 | .mp k ag ks,.map k' ag' yT _=>k'==k&&ag'==ag&&yT==ks
 | .loop s es p,.loop s' env false p'=>Nat.beq s' s&&Ag es env&&okX p' p
 | .gone,.dead =>true
 |_,_=>false
def aC3{s:fu}{b:ed}(h:okB s b=true):Ao s b=b:=by
 unfold okB at h;split at h
 ·simp only [Ao,ed.rows];rw [eq_of_beq h]
 ·simp only [Ao,ed.rows];rw [eq_of_beq h]
 ·rw [bS]at h;simp only [Ao,ed.cells];rw [OO h.2,eq_of_beq h.1]
 ·simp only [Ao,ed.cells];rw [eq_of_beq h]
 ·rw [bS,bS]at h;simp only [Ao,ed.au];rw [eq_of_beq h.1.1,eq_of_beq h.1.2,eq_of_beq h.2]
 ·rw [bS,bS]at h;simp only [Ao,ed.aag];rw [agp h.1.2,dE h.1.1,ahk h.2]
 ·rfl
 ·exact bh
def RA:List fu->aW->aW
 | [],_=>[]
 |s::ss,M=>Ao s (M.headD .dead)::RA ss M.tail
def Dk:List fu->aW->Bool
 | [],[]=>true
 |s::ss,b::M=>okB s b&&Dk ss M
 |_,_=>false
def XP:∀{ss:List fu} {M:aW},Dk ss M=true->RA ss M=M
 | [],[],_=>rfl
 |s::ss,x::xs,h=>by
  simp only [Dk,bS]at h;simp only [RA,W1,W0];rw [aC3 h.1,XP h.2]
 | [],_::_,h=>Pq
 |_::_,[],h=>Pq
structure ax where
 env:List (Nat×Sh)
 mem:List fu
variable{σ:ax}
def C6(lk:Nat->AV):List (Nat×Sh)->cV
 | []=>[]
 |(t,s)::es=>(t,Kq s (lk t))::C6 lk es
def GG(lk:Nat->AV):List (Nat×Sh)->Bool
 | []=>true
 |(t,s)::es=>GD s (lk t)&&GG lk es
def aob(σ:ax)(lk:Nat->AV)(M:aW):St:=⟨C6 lk σ.env,RA σ.mem M,[],.sM⟩
def afD{lk:Nat->AV}:∀{es:List (Nat×Sh)},GG lk es=true->∀t,look (C6 lk es) t=lk t∨look (C6 lk es) t= .top
 | [],_,t=> .inr rfl
 |(u,s)::es,h,t=>by
  simp only [GG,bS]at h;simp only [C6,pN,look_nil]
  by_cases ht:t=u
  ·subst ht;simp only [WZ,ow];rw [XO h.1];exact .inl rfl
  ·have:(t==u)=false:=by simpa using ht
   simp only [this,lg,ng];exact afD h.2 t
def FC(σ:ax)(bN:dI)(st:St):St:=aob σ (λt=>gw (idx bN) 4 (look st.env t)) (pX st.mem bN)
def wc(σ:ax)(bN:dI)(st:St):Bool:=uQ st.mem bN&&GG (λt=>gw (idx bN) 4 (look st.env t)) σ.env&&Dk σ.mem (pX st.mem bN)
def NM(h:wc σ bN st=true):uQ st.mem bN=true∧(FC σ bN st).mem =pX st.mem bN∧
 ∀t,look (FC σ bN st).env t=gw (idx bN) 4 (look st.env t)∨look (FC σ bN st).env t= .top :=by
 unfold wc at h;rw [bS,bS]at h;exact⟨h.1.1,XP h.2,afD h.1.2⟩
def WT(hX:X.Ok)(h:wc σ bN st=true)(hI:Inv X w0 S F ρ st.mem w)(he:iU X ρ F w st.env tmps):iU X (sub oM ρ bN) F w (FC σ bN st).env tmps:=by
 obtain⟨h1,h2,h3⟩:=NM h;have hs:=afd h1;have cF:∀i∈bN,i<ρ.length:=λi hi=>by rw [hI.len];exact hs.lt i hi
 intro t;rcases h3 t with e|e
 ·rw [e];exact(he t).gw hX.kinds (agD cF oM) 4
 ·rw [e];exact .top _
inductive Cv where
 |ly(t:Nat)(k:Kind)
 |mk(t:Nat)(ty:TypeId)
 |sR(i:cV->aW->Nat)(c:Nat)(ty:TypeId)
 |an4(i:cV->aW->Nat)(t:TypeId)
 |iV(t:Nat)(ks:dZ)
 |mov(t:Nat)
 |nF(i:cV->aW->Nat)(c:Nat)(ty:TypeId)
def jU(X:Cx):List Cv->St->(St->Option R)->Option R
 | [],st,k=>k st
 | .ly t kd::cs,st,k=>ly kd (look st.env t) st.mem λx M=>jU X cs {st with env:=(t,x)::st.env,mem:=M} k
 | .mk t ty::cs,st,k=>
   match look st.env t with
   | .gE =>jU X cs {st with env:=(t,.aA st.mem.length)::st.env,mem:=st.mem++[.row ty []]} k
   |_=>jU X cs st k
 | .sR i c ty::cs,st,k=>
   match gm st.mem (i st.env st.mem)with
   |some (.var ks xs)=>
    match xs[c]?,ks[c]? with
    |some .gE,some .any =>jU X cs {st with mem:=(st.mem++[ed.row ty []]).set (i st.env st.mem) (.var ks (xs.set c (.aA st.mem.length)))} k
    |_,_=>jU X cs st k
   |_=>jU X cs st k
 | .iV t ks::cs,st,k=>
   match look st.env t with
   | .agg xs=>aP (Nat.beq xs.length ks.length) (vd ks xs st.mem λys M=>jU X cs {st with env:=(t,.agg ys)::st.env,mem:=M} k)
   |_=>jU X cs st k
 | .an4 i t::cs,st,k=>ly (.slice t) (.aA (i st.env st.mem)) st.mem λ_ M=>jU X cs {st with mem:=M} k
 | .mov t::cs,st,k=>
   match look st.env t with
   | .aA id=>
     match gm st.mem id with
     |some (.row ty xs)=>jU X cs {st with env:=(t,.aA st.mem.length)::st.env,mem:=st.mem.set id .dead ++[.row ty xs]} k
     |_=>jU X cs st k
   |_=>jU X cs st k
 | .nF i c ty::cs,st,k=>
   match gm st.mem (i st.env st.mem)with
   |some (.var ks xs)=>
    match xs[c]?,ks[c]? with
    |some (.aA id),some .any =>
     match gm st.mem id with
     |some (.row t rs)=>aP (ty==t) (jU X cs {st with mem:=(st.mem.set id (.eN t rs)).set (i st.env st.mem) (.var ks (xs.set c (.ab t rs)))} k)
     |some (.eN t rs)=>aP (ty==t) (jU X cs {st with mem:=st.mem.set (i st.env st.mem) (.var ks (xs.set c (.ab t rs)))} k)
     |_=>jU X cs st k
    |_,_=>jU X cs st k
   |_=>jU X cs st k
def iU.over{env:cV}(h:iU X ρ F w env tmps){d:Nat}(hx:aY X.K ρ F w x (tmps.getD d undef)):iU X ρ F w ((d,x)::env) tmps:=by
 intro t;simp only [pN,look_nil]
 by_cases ht:t=d
 ·subst ht;simpa using hx
 ·have:(t==d)=false:=by simpa using ht
  simp only [this,lg,ng];exact h t
def agf{M M1:aW}{i c id:Nat}{ks:dZ}{xs:bp}{t:TypeId}{rs:aZ}(hI:Inv X w0 S F ρ M w)(hb:M[i]?=some (.var ks xs))(hx:xs[c]?=some (.aA id))(hk:ks[c]?=some .any)(hM:M1[i]?=some (.var ks xs))
 (hf:ly (.slice t) (.aA id) M (λx M'=>some (x,M'))=some (.ab t rs,M1)):∃F',Inv X w0 S F' ρ (M1.set i (.var ks (xs.set c (.ab t rs)))) w∧Grow F F' ρ ρ w w:=by
 obtain⟨x',M',e,hl,_,hd⟩:=EX (X:=X) hf;injection e with e;injection e with e1 e2;subst e1;subst e2;obtain⟨F1,i1,g1,r1⟩:=hd hI;refine⟨F1,?_,g1⟩;have cF:i<ρ.length:=Yw;have hh:ρ[i]?=some ρ[i]:=dz cF;obtain⟨p1,p2,g0,aNr,e0,p3,p4,⟨p5,p6⟩,_⟩:=hI.rep _ _ _ hb hh;obtain⟨q1,q2,g,cur,e,q3,q4,⟨q5,q6⟩,q7⟩:=i1.rep _ _ _ hM hh;refine i1.write hM rfl hh (g:=g) (Yr) ⟨rfl,rfl,rfl,gz _,λ_ _ _=>rfl⟩ ⟨?_,by simpa using q2,g,cur,e,q3,q4,⟨by simpa using q5,λj x v fJ hv=> ?_⟩,q7⟩
 ·refine XH (by simpa using iG q1) λj k x oL fJ=> ?_;exact akD
 ·rw [zu]at fJ;split at fJ
  ·rename_i ej;subst ej;split at fJ
   ·injection fJ with fJ;subst fJ;have eg:g0=g:=by rw [p3]at q3;simpa using q3
    subst eg;have ec:aNr=cur:=by rw [p4]at q4;injection q4 with q4;injection q4
    subst ec;exact r1 v (p6 _ _ v hx hv)
   ·cases fJ
  ·exact q6 j x v fJ hv
def tC(hX:X.Ok){k:St->Option R}{r:R}:∀(cs:List Cv) {st:St},jU X cs st k=some r->∃bl,k bl=some r∧bl.iF=st.iF∧bl.rd=st.rd∧
 ∀{nt:Nt} {rdc:Cy} {w0:World} {S:Sc} {F:bT} {ρ:bY} {a:Act} {w:World},Inv X w0 S F ρ st.mem w->gg X nt st rdc F ρ a w->∃F' ρ',Inv X w0 S F' ρ' bl.mem w∧gg X nt bl rdc F' ρ' a w∧Grow F F' ρ ρ' w w
 | [],st,h=>⟨st,h,rfl,rfl,λ{nt rdc w0 S F ρ a w} hI hs=>⟨F,ρ,hI,hs,Grow.refl _ _ _⟩⟩
 | .ly t kd::cs,st,h=>by
   simp only [jU,eY]at h;obtain⟨x,M',h,hl,_,hd⟩:=EX (X:=X) h;obtain⟨bl,h,e1,e2,hr⟩:=tC hX cs h;refine⟨bl,h,e1,e2,λ{nt rdc w0 S F ρ a w} hI hs=> ?_⟩;obtain⟨F1,i1,g1,r1⟩:=hd hI;obtain⟨F2,ρ2,i2,s2,g2⟩:=hr (nt:=nt) (rdc:=rdc) (a:=a) i1 ⟨(hs.env.grow g1).over (r1 _ (hs.env t)),hs.size,(hs.grow g1).defs,(hs.grow g1).rd,hs.kept⟩;exact Yf
 | .iV t ks::cs,st,h=>by
   simp only [jU,eY]at h;split at h
   ·rename_i xs hx;replace h:=di h;obtain⟨_,h⟩:=h;obtain⟨ys,M',h,hl,_,hd⟩:=N0 (X:=X) _ _ _ h;obtain⟨bl,h,e1,e2,hr⟩:=tC hX cs h;refine⟨bl,h,e1,e2,λ{nt rdc w0 S F ρ a w} hI hs=> ?_⟩;obtain⟨F1,i1,g1,r1⟩:=hd hI;have hU:=hs.grow g1;have hv:=hs.env t;rw [hx]at hv;have jI:aY X.K ρ F1 w (.agg ys) (a.tmps.getD t undef):=by
     generalize a.tmps.getD t undef=v at hv;cases hv with
     |agg _ vs hl hr=>
      have:=r1 vs ⟨hl,hr⟩;exact .agg ys vs this.1 this.2
    obtain⟨F2,ρ2,i2,s2,g2⟩:=hr (nt:=nt) (rdc:=rdc) (a:=a) i1 ⟨hU.env.over jI,hU.size,hU.defs,hU.rd,hU.kept⟩;exact Yf
   ·exact xP
 | .an4 i t::cs,st,h=>by
   simp only [jU,eY]at h;obtain⟨x,M',h,hl,_,hd⟩:=EX (X:=X) h;obtain⟨bl,h,e1,e2,hr⟩:=tC hX cs h;refine⟨bl,h,e1,e2,λ{nt rdc w0 S F ρ a w} hI hs=> ?_⟩;obtain⟨F1,i1,g1,r1⟩:=hd hI;exact Zd
 | .mov t::cs,st,h=>by
   simp only [jU,eY]at h;split at h
   ·rename_i id hv;split at h
    ·rename_i ty xs hb;obtain⟨bl,h,e1,e2,hr⟩:=tC hX cs h;refine⟨bl,h,e1,e2,λ{nt rdc w0 S F ρ a w} hI hs=> ?_⟩;have cF:id<ρ.length:=Yw;have hh:ρ[id]?=some ρ[id]:=dz cF;have i0:=hI.rep _ _ _ hb hh;have g1:Grow F F ρ (ρ++[ρ[id]]) w w:=⟨λ_ h=>h,λ_ _ h=>ny h,λ_ _=>rfl⟩;have i1:Inv X w0 S F (ρ++[ρ[id]]) (st.mem.set id .dead ++[.row ty xs]) w:=
      hI.move hb rfl hh (row:=none) ⟨rfl,rfl,rfl,gz _,λ_ _ _=>rfl⟩ (.inl rfl) (λg hg=>⟨(hI.sep id _ _ g hb rfl hh hg).1,.inl hg⟩) (hI.one _ _ hh) (jV.mono (b:= .row ty xs) g1.gG g1.hF (λ_ _ _ h=>h) (λ_ _=>rfl) i0)
     have r1:aY X.K (ρ++[ρ[id]]) F w (.aA st.mem.length) (a.tmps.getD t undef):=by
      have:=hs.env t;rw [hv]at this;generalize a.tmps.getD t undef=v at this;cases this with
      |aA _ hd h2=>
       rw [hh]at h2;injection h2 with h2;rw [<-h2];exact aY.aA (K:=X.K) _ ρ[id] (FA)
     exact akr
    ·exact xP
   ·exact xP
 | .nF i c ty::cs,st,h=>by
   simp only [jU,eY]at h;split at h
   ·rename_i ks xs hb;split at h
    ·rename_i id hx hk;split at h
     ·rename_i t rs KZ;replace h:=di h;obtain⟨ht,h⟩:=h;have ht:=eq_of_beq ht;subst ht;obtain⟨bl,h,e1,e2,hr⟩:=tC hX cs h;refine⟨bl,h,e1,e2,λ{nt rdc w0 S F ρ a w} hI hs=> ?_⟩;have eD:id≠i st.env st.mem:=by intro e;subst e;rw [hb]at KZ;cases KZ
      obtain⟨F1,i1,g1⟩:=agf hI hb hx hk (M1:=st.mem.set id (.eN ty rs)) (id:=id) (t:=ty) (rs:=rs) (by rw [kh eD];exact hb) (by simp [ly,eY,KZ,aP]);exact Zd
     ·rename_i t rs KZ;replace h:=di h;obtain⟨ht,h⟩:=h;have ht:=eq_of_beq ht;subst ht;obtain⟨bl,h,e1,e2,hr⟩:=tC hX cs h;refine⟨bl,h,e1,e2,λ{nt rdc w0 S F ρ a w} hI hs=> ?_⟩;obtain⟨F1,i1,g1⟩:=agf hI hb hx hk (M1:=st.mem) (id:=id) (t:=ty) (rs:=rs) hb (by simp [ly,eY,KZ,aP]);exact Zd
     ·exact xP
    ·exact xP
   ·exact xP
 | .mk t ty::cs,st,h=>by
   simp only [jU,eY]at h;split at h
   ·rename_i hn;obtain⟨bl,h,e1,e2,hr⟩:=tC hX cs h;refine⟨bl,h,e1,e2,λ{nt rdc w0 S F ρ a w} hI hs=> ?_⟩;have hv:a.tmps.getD t undef= .slice none 0 0:=by
     have:=hs.env t;rw [hn]at this;generalize a.tmps.getD t undef=v at this;cases this;rfl
    have i1:Inv X w0 S F (ρ++[⟨.slice none 0 0,(X.K ty).length⟩]) (st.mem++[.row ty []]) w:=hI.Cg (hd:=⟨.slice none 0 0,(X.K ty).length⟩) (λg hg=>PQ) rfl
     ⟨rfl,λi row h=>gM,.inl ⟨rfl,rfl⟩⟩
    have g1:Grow F F ρ (ρ++[⟨.slice none 0 0,(X.K ty).length⟩]) w w:=⟨λ_ h=>h,λ_ _ h=>ny h,λ_ _=>rfl⟩;have r1:aY X.K (ρ++[⟨.slice none 0 0,(X.K ty).length⟩]) F w (.aA st.mem.length) (a.tmps.getD t undef):=by
     rw [hv];exact aY.aA (K:=X.K) _ ⟨.slice none 0 0,(X.K ty).length⟩ (FA)
    exact akr
   ·exact xP
 | .sR i c ty::cs,st,h=>by
   simp only [jU,eY]at h;split at h
   ·rename_i ks xs hb;split at h
    ·rename_i hx hk;obtain⟨bl,h,e1,e2,hr⟩:=tC hX cs h;refine⟨bl,h,e1,e2,λ{nt rdc w0 S F ρ a w} hI hs=> ?_⟩;have i1:Inv X w0 S F (ρ++[⟨.slice none 0 0,(X.K ty).length⟩]) (st.mem++[.row ty []]) w:=hI.Cg (hd:=⟨.slice none 0 0,(X.K ty).length⟩) (λg hg=>PQ) rfl
      ⟨rfl,λi row h=>gM,.inl ⟨rfl,rfl⟩⟩
     have g1:Grow F F ρ (ρ++[⟨.slice none 0 0,(X.K ty).length⟩]) w w:=⟨λ_ h=>h,λ_ _ h=>ny h,λ_ _=>rfl⟩;have cF:i st.env st.mem<ρ.length:=Yw;have hh:(ρ++[(⟨.slice none 0 0,(X.K ty).length⟩:Hd)])[i st.env st.mem]?=some ρ[i st.env st.mem]:=ny (dz cF);have vQ:(st.mem++[ed.row ty []])[i st.env st.mem]?=some (.var ks xs):=ny hb;obtain⟨q1,q2,g,cur,e,q3,q4,⟨q5,q6⟩,q7⟩:=i1.rep _ _ _ vQ hh;have i2:Inv X w0 S F (ρ++[⟨.slice none 0 0,(X.K ty).length⟩]) ((st.mem++[ed.row ty []]).set (i st.env st.mem) (.var ks (xs.set c (.aA st.mem.length)))) w:=by
      refine i1.write vQ rfl hh (g:=g) (Yr) ⟨rfl,rfl,rfl,gz _,λ_ _ _=>rfl⟩ ⟨?_,by simpa using q2,g,cur,e,q3,q4,⟨by simpa using q5,λj x v fJ hv=> ?_⟩,q7⟩
      ·refine XH (by simpa using iG q1) λj k x oL fJ=> ?_;exact akD
      ·rw [zu]at fJ;split at fJ
       ·rename_i ej;subst ej;split at fJ
        ·injection fJ with fJ;subst fJ;have:=q6 c _ v hx hv;cases this;exact aY.aA (K:=X.K) _ ⟨.slice none 0 0,(X.K ty).length⟩ (FA)
        ·cases fJ
       ·exact q6 j x v fJ hv
     have hU:=hs.grow g1;obtain⟨F2,ρ2,i2,s2,g2⟩:=hr (nt:=nt) (rdc:=rdc) (a:=a) i2 ⟨hU.env,hU.size,hU.defs,hU.rd,hU.kept⟩;exact Yf
    ·exact xP
   ·exact xP
end
noncomputable section
variable {X:Cx} {R O:Type}
def aFt(X:Cx)(nt:Nt)(c:Code)(m:Nat)(st:St)(e:Exit)(bl:St):Prop:=
 ∀{rdc:Cy} {n:Nat} {w0:World} {S:Sc} {F:bT} {ρ:bY} {a:Act} {w:World} {Q:Exit->Act->World->Prop},Inv X w0 S F ρ st.mem w->gg X nt st rdc F ρ a w->
  (∀a' w' F' ρ',Inv X w0 S F' ρ' bl.mem w'->gg X nt bl rdc F' ρ' a' w'->qz m F F' ρ ρ' w w'->Q e a' w')->c.wpIn (kY rdc.r) n X.P Q a w
def qz.trans{m:Nat}{F F' tu:bT}{ρ ρ' sw:bY}{w w' p8:World}(h:qz m F F' ρ ρ' w w')(k:qz m F' tu ρ' sw w' p8):qz m F tu ρ sw w p8:=
 ⟨λa ha=>k.hF a (h.hF a ha),λid hd hm hh=>k.gG id hd hm (h.gG id hd hm hh),λa ha=>(k.hb a (h.hF a ha)).trans (h.hb a ha)⟩
def pre(m:Nat)(bN:dI):Bool:=(bN.take m)==List.range m
def aCl{m:Nat}{bN:dI}(h:pre m bN=true){j:Nat}(hj:j<m):bN[j]?=some j:=by
 have e:bN.take m=List.range m:=by simpa [pre]using h
 have:(bN.take m)[j]?=some j:=by rw [e,tJ hj]
 rw [nV,if_pos hj]at this;exact this
def P4(m mask:Nat)(bN:dI)(st so:St):St:=
 {env:=CF (nJ m bN st.mem.length) 4 so.env++st.env.filter (λp=> !mask.testBit p.1),mem:=merge m st.mem bN so.mem,iF:=st.iF,rd:=st.rd}
def aeu:∀(A B:cV) (t:Nat),look (A++B) t=look A t∨look (A++B) t=look B t
 | [],B,t=> .inr rfl
 |(u,x)::A,B,t=>by
  simp only [ki,pN,look_nil]
  by_cases ht:t=u
  ·subst ht;simp
  ·have:(t==u)=false:=by simpa using ht
   simp only [this,lg,ng];exact aeu A B t
def afk(mask:Nat):∀(env:cV) (t:Nat),look (env.filter (λp=> !mask.testBit p.1)) t= .top ∨(mask.testBit t=false∧look (env.filter (λp=> !mask.testBit p.1)) t=look env t)
 | [],t=> .inl rfl
 |(u,x)::env,t=>by
  have ih:=afk mask env t;rw [List.filter_cons]
  by_cases hu:mask.testBit u=true
  ·rw [if_neg (by simp [hu])];rcases ih with h|⟨h1,h2⟩
   ·exact .inl h
   ·refine .inr ⟨h1,?_⟩;have ht:(t==u)=false:=by
     by_cases ht:t=u
     ·subst ht;rw [hu]at h1;cases h1
     ·exact Fv
    simp only [pN,look_nil,ht,lg,ng];exact h2
  ·have nq:mask.testBit u=false:=by simpa using hu
   rw [if_pos (by simp [nq])];simp only [pN,look_nil]
   by_cases ht:t=u
   ·subst ht;exact .inr ⟨nq,by simp⟩
   ·have:(t==u)=false:=by simpa using ht
    simp only [this,lg,ng];exact ih
end
noncomputable section
variable {X:Cx} {R O:Type}
variable{w:World}{F:bT}{ρ:bY}{vs:fA}
def FF(X:Cx)(f:FuncId)(m:Nat)(args:bp)(M:aW)(x:AV)(M':aW):Prop:=
 ∀{w0:World} {S:Sc} {F:bT} {ρ:bY} {w:World} {vs:fA},Inv X w0 S F ρ M w->dt X.K ρ F w args vs->
  Calls X.P f vs.toArray w (λe w'=>∃v ρ' F',e= .returned v∧Inv X w0 S F' ρ' M' w'∧qz m F F' ρ ρ' w w'∧aY X.K ρ' F' w' x v)
def z6(n:Nat)(env:cV):bp:=(List.range n).map λt=>look env t
def afg{args:bp}(h:dt X.K ρ F w args vs):iU X ρ F w (rj 0 args) vs.toArray:=by
 intro t;rw [V1,if_pos (xK _)];cases hx:args[t- 0]? with
 |none=>exact .top _
 |some y=>
  have ht:t<vs.length:=by have:=(eU.1 hx).1;have:=h.1;omega
  have hv:vs.toArray.getD t undef=vs[t]:=by simp [oV,ht]
  rw [hv];exact h.2 t y _ (I8) (dz ht)
def af1{env:cV}(h:iU X ρ F w env vs.toArray):dt X.K ρ F w (z6 vs.length env) vs:=by
 refine⟨by simp [z6],λj x v hx hv=> ?_⟩;simp only [z6,iH]at hx;have hj:j<vs.length:=(eU.1 hv).1;rw [tJ hj]at hx;simp only [kz,Option.some.injEq]at hx;subst hx;have:=h j;have jE:vs.toArray.getD j undef=v:=by
  rw [dz hj]at hv;injection hv with hv;simp [oV,hj,hv]
 rw [jE]at this;exact this
end
end Go.az
namespace Go.az
def B2{p:Prop}(h:p:=by simp at hb):p:=h
end Go.az
namespace Go.az
def oy:=@List.map_append
def agq:=@List.length_eq_zero_iff
def W3:=@Go.World.alloc_heap_new
end Go.az
namespace Go.az
open Go
noncomputable section
variable {X:Cx} {R:Type}
variable{ps:Array Tmp}{id s:Nat}{g:Operand}{r:R}{w:World}{args:bp}{F:bT}{M:aW}
def Marks.putObj{F:bT}{w:World}{db:bT}{ds:List Deferred}(h:Marks F w db ds){g:Nat}{lp:Loop}(hg:w.heap[g]?=some (.loop lp))(o:Obj):Marks F (w.putObj g o) db ds:=by
 obtain⟨h0,ms,h1,h2,h3⟩:=h;refine⟨h0,ms,h1,h2,λD hD=>⟨(h3 D hD).1,(h3 D hD).2.1,?_⟩⟩;have eD:D≠g:=by
  rintro rfl;have:=(h3 D hD).2.2;rw [hg]at this;cases this
 rw [re eD];exact(h3 D hD).2.2
def Inv.rewrite{w0:World}{S:Sc}{ρ:bY}(hI:Inv X w0 S F ρ M w){D:Nat}(hF:F ⟨D,0,none⟩)(hD:∀a v,a.block=D->w.cell? a≠some v)(hN:∀a,S.F0 a->a.block≠D)(o:Obj):
 Inv X w0 S F ρ M (w.putObj D o):=by
 have i:=hI.NS hF hD hN o;exact⟨i.os,i.tape,i.output,i.size,i.frame,i.len,λid b hd hb hh=>(i.rep id b hd hb hh).mono (λ_ _ h=>h) (λ_ h=>h.1) (λ_ _ _ h=>h) (λ_ _=>rfl),
  λid b hd g hb eK hh dQ=>⟨by simpa using(hI.sep id b hd g hb eK hh dQ).1,(hI.sep id b hd g hb eK hh dQ).2⟩,
  i.iN,λa ha=>by simpa using hI.fz a ha,λg=>(i.fT g).mono (λ_ _ h=>h) (λ_ h=>h.1) (λ_ _ _ h=>h),i.one,hI.fV,hI.fin⟩
def Inv.sE{w0 w:World}{S:Sc}{F:bT}{ρ:bY}{M:aW}(hI:Inv X w0 S F ρ M w){mk:Option Nat}(h1:∀D,mk=some D->D<w.heap.size∧w0.heap.size<=D)
 (h2:∀(D:Nat) (id:Nat) b hd,mk=some D->M[id]?=some b->b.iB=false->ρ[id]?=some hd->hd.eC≠some D):
 Inv X w0 S (λa=>F a∨∃D,mk=some D∧a.block=D) ρ M w where
 os:=hI.os
 tape:=hI.tape
 output:=hI.output
 size:=hI.size
 frame:=hI.frame
 len:=hI.len
 rep:=λid b hd hb hh=>(hI.rep id b hd hb hh).mono (λ_ _ h=>h) (λ_ h=> .inl h) (λ_ _ hF hc=>hc) (λ_ _=>rfl)
 sep:=λid b hd g hb eK hh dQ=>let⟨a1,a2,a3⟩:=hI.sep id b hd g hb eK hh dQ;⟨a1,a2,λa ha=>by
  rcases ha with ha|⟨D,hD,e⟩
  ·exact a3 a ha
  ·intro e';exact h2 D id b hd hD hb eK hh (by rw [dQ,<-e',e])⟩
 iN:=hI.iN
 fz:=λa ha=>by
  rcases ha with ha|⟨D,hD,e⟩
  ·exact hI.fz a ha
  ·rw [e];exact(h1 D hD).1
 fT:=λg=>(hI.fT g).mono (λ_ _ h=>h) (λ_ h=> .inl h) (λ_ _ _ h=>h)
 one:=hI.one
 fV:=λa ha=>by
  rcases ha with ha|⟨D,hD,e⟩
  ·exact hI.fV a ha
  ·rw [e];exact .inr (.inr (h1 D hD).2)
 fin:=λa ha=> .inl (hI.fin a ha)
def mK:dI->bp->cV->Option cV
 | [],[],env=>some env
 |p::ps,x::xs,env=>mK ps xs ((p,x)::env)
 |_,_,_=>none
def af2{ρ:bY}{F:bT}{w:World}:∀(ps:dI) {xs:bp} {env gT:cV} {tmps:Array Value} {vs:fA},mK ps xs env=some gT->iU X ρ F w env tmps->dt X.K ρ F w xs vs->(∀p∈ps,p<tmps.size)->
 iU X ρ F w gT ((ps.zip vs).foldl (λt p=>t.setIfInBounds p.1 p.2) tmps)∧((ps.zip vs).foldl (λt p=>t.setIfInBounds p.1 p.2) tmps).size =tmps.size
 | [],[],env,gT,tmps,vs,h,he,_,_=>by
   simp only [mK,Option.some.injEq]at h;subst h;simpa using he
 |p::ps,x::xs,env,gT,tmps,[],h,he,hr,hp=>by have:=hr.1;simp at this
 |p::ps,x::xs,env,gT,tmps,v::vs,h,he,hr,hp=>by
  simp only [mK]at h;have hx:=hr.2 0 x v rfl rfl;have nM:dt X.K ρ F w xs vs:=⟨by simpa using hr.1,λj x' v' fJ fN=>hr.2 (j+1) x' v' (by simpa using fJ) (by simpa using fN)⟩;have:=af2 ps h (he.put (hp p (by simp)) hx) nM (λq hq=>by simpa using hp q (Fu));simp only [List.zip_cons_cons,List.foldl_cons];exact⟨this.1,by rw [this.2];simp⟩
 | [],_::_,_,_,_,_,h,_,_,_=>by simp [mK]at h
 |_::_,[],_,_,_,_,h,_,_,_=>by simp [mK]at h
def ak8(e:Ex):Option Ex:=match e with| .normal =>none| .exit i=>some (.exit i)| .ret =>some .ret
def ajS(e:Ex):Bool:=match e with| .normal =>true|_=>false
def Fh(X:Cx)(L:kc R)(s p:Nat)(id:Nat)(args:bp)(M:aW)(k:AV->aW->Option R):Option R:=
 match gm M id with
 |some (.loop s' env false none)=>
  aP (Nat.beq s' s&&Nat.beq (X.site s).nt L.gY.nt.n&&(X.site s).params.toList.all λt=>Nat.blt t L.gY.nt.n)
   (match mK (X.site s).params.toList args env with
    |none=>none
    |some gT=>
     nQ X L (X.site s).assign (2*p) ⟨gT,M.set id .dead,[],.sM⟩ λe cY=>
      match e,cY.iF with
      | .normal,[]=>
        nQ X L (X.site s).body (2*p+1) cY λe ke=>
         match gm ke.mem id with
         |some .dead =>k (.bool (ajS e)) (ke.mem.set id (.loop s env false (ak8 e)))
         |_=>none
      |_,_=>none)
 |_=>none
def ayH{nt:Nt}{s':Nat}{env gT:cV}(hb:M[id]?=some (.loop s' env false none))(y8:(X.site s').nt =nt.n)(K4:∀t∈(X.site s').params.toList,t<nt.n)
 (Ri:mK (X.site s').params.toList args env=some gT) {e1 e2:Ex} {cY ke:St} (Lk:e1= .normal) (Zk:pS X nt (X.site s').assign ⟨gT,M.set id .dead,[],.sM⟩ (Ex.nD e1) cY) (Al:cY.iF=[])
 (Zj:pS X nt (X.site s').body cY (Ex.nD e2) ke) (lK:ke.mem[id]?=some .dead):Pa X id args M (.bool (ajS e2)) (ke.mem.set id (.loop s' env false (ak8 e2))):=by
 subst Lk;intro rd n w0 S F ρ w vs hd g hI hr G2 hv;obtain⟨g',lp,fN,Co,hp1,R9,hp3,hp4,hp5,_,hp6,_,hp7,_⟩:=hI.rep _ _ _ hb G2;rw [hv]at fN;injection fN with fN;injection fN with fN;injection fN with fN;subst fN;have aDI:lp.state= .ready :=hp6 rfl rfl;have aNO:lp.pending=none:=hp7;have yy:hd.eC=some g:=n6;obtain⟨q1,q2,q3⟩:=hI.sep _ _ _ _ hb rfl G2 yy;have hN:∀a,S.F0 a->a.block≠g:=λa ha=>q3 a (hI.fin a ha);have hnc:=HJ Co;have hlen:args.length=(X.site s').params.toList.length :=by
  have:∀(ps:dI) (xs:bp) (env gT:cV),mK ps xs env=some gT->xs.length=ps.length:=by
   intro ps
   induction ps with
   |nil=>intro xs env gT h;cases xs with|nil=>rfl|cons _ _=>simp [mK]at h
   |cons p ps ih=>intro xs env gT h;cases xs with|nil=>simp [mK]at h|cons x xs=>simp only [mK]at h;simp [ih _ _ _ h]
  exact this _ _ _ _ Ri
 refine⟨lp.fn,_,lp.assign,lp.body,run_yield Co (by rw [hp1];simp [hr.1,hlen]),roundIn_of_wpIn trivial ?_⟩;rw [R9,hp3];have i1:Inv X w0 S (λa=>F a∨a.block=g) ρ (M.set id .dead) w:=hI.freeze hb rfl G2 yy rfl trivial;have g1:Grow F (λa=>F a∨a.block=g) ρ ρ w w:=⟨λ_ h=> .inl h,λ_ _ h=>h,λ_ _=>rfl⟩;have Zt:(Array.foldl (λtmps (x:Nat×Value)=>tmps.setIfInBounds x.1 x.2) lp.tmps (lp.params.zip vs.toArray))=((X.site s').params.toList.zip vs).foldl (λt p=>t.setIfInBounds p.1 p.2) lp.tmps:=by
  rw [<-W9,Array.toList_zip,hp1]
 have ak0:=af2 (X:=X) _ Ri (hp5.grow g1) (hr.grow g1) (λt ht=>by rw [hp4,y8];exact K4 t ht);refine Zk (rdc:=⟨some g,λ_=>False,λt=>(((X.site s').params.toList.zip vs).foldl (λt p=>t.setIfInBounds p.1 p.2) lp.tmps).getD t undef⟩) (n:=n) i1
  ⟨by simp only [Zt];exact ak0.1,by simp only [Zt];rw [ak0.2,hp4,y8],Marks.nil _ _ (λ_ h=>h.elim),.inr ⟨g,lp,rfl,.inr rfl,Co⟩,λt _=>by simp only [Zt]⟩ ?_
 intro a1 w1 F1 ρ1 i2 s2 g2;have qk:Grow F F1 ρ ρ1 w w1:=g1.trans g2;have Su:F1 ⟨g,0,none⟩:=g2.hF _ (.inr rfl);have uu:w1.heap[g]?=some (.loop lp):=(g2.hb ⟨g,0,none⟩ (.inr rfl)).trans Co;refine⟨_,run_beginRound uu aDI,?_⟩;have i3:=i2.rewrite Su (HJ uu) hN (.loop {lp with state:= .busy });have Rj:g<w1.heap.size:=(v7.1 uu).1;have uq:(w1.putObj g (.loop {lp with state:= .busy })).heap[g]?=some (.loop {lp with state:= .busy }):=W4 Rj;have vO:Grow F F1 ρ ρ1 w (w1.putObj g (.loop {lp with state:= .busy })):=⟨qk.hF,qk.gG,λa ha=>by rw [re (q3 a ha)];exact qk.hb a ha⟩;have s3:gg X nt cY ⟨some g,λ_=>False,λt=>(((X.site s').params.toList.zip vs).foldl (λt p=>t.setIfInBounds p.1 p.2) lp.tmps).getD t undef⟩ F1 ρ1 a1 (w1.putObj g (.loop {lp with state:= .busy })):=by
  refine⟨λt=>((s2.env t).less (HJ uu) _).mono (λ_ _ h=>h) (λ_ h=>h.1) (λ_ _ _ h=>h),s2.size,?_,.inr ⟨g,_,rfl,Su,uq⟩,s2.kept⟩;have:=s2.defs;rw [Al]at this⊢;exact Marks.putObj this uu _
 refine Zj (rdc:=⟨some g,λ_=>False,λt=>(((X.site s').params.toList.zip vs).foldl (λt p=>t.setIfInBounds p.1 p.2) lp.tmps).getD t undef⟩) (n:=n) i3 s3 ?_;intro a2 w3 F3 ρ3 i4 s4 g4;have hF3:F3 ⟨g,0,none⟩:=g4.hF _ Su;have hh3:w3.heap[g]?=some (.loop {lp with state:= .busy }):=(g4.hb ⟨g,0,none⟩ Su).trans uq;have anJ:g<w3.heap.size:=(v7.1 hh3).1;have Zs:Grow F F3 ρ ρ3 w w3:=vO.trans g4;have aM3:ρ3[id]?=some hd:=Zs.gG _ _ G2;have key:∀(jump:Option Code) (pe:Option Ex),jump=pe.bind Ex.code->jump.isNone=pe.isNone->pe≠some .normal ->∃v w',(Instr.endRound g jump).run X.P w3= .ok v w'∧∃v' ρ' F',Ending.returned v= .returned v'∧Inv X w0 S F' ρ' (ke.mem.set id (.loop s' env false pe)) w'∧Grow F F' ρ ρ' w w'∧aY X.K ρ' F' w' (.bool pe.isNone) v':=by
  intro jump pe hj Dy hpe;have rk:=HJ hh3;refine⟨_,_,run_endRound jump hh3,_,ρ3,less F3 g,rfl,?_,Zs.less q3 _,by rw [Dy];exact .bool _⟩;refine(i4.NS hF3 rk hN _).aDh lK aM3 yy (by simpa using anJ) q2 (λa ha=>ha.2) (λid' b' dC nv od eo kQ=>(i4.sep id' b' dC g nv od eo kQ).2.2 _ hF3 rfl) ?_;have hE:iU X ρ3 (less F3 g) (w3.putObj g (.loop {lp with state:=if jump.isNone then .ready else .done,pending:=jump})) env lp.tmps:=(hp5.grow Zs).less rk _;refine⟨g,_,hv,W4 anJ,hp1,R9,hp3,hp4,hE,(λh=>bh),λ_ h=> ?_,λ_ h=> ?_,hj,hpe⟩
  ·subst h;simp only [Option.isNone_none]at Dy;simp [Dy]
  ·cases pe with
   |none=>exact absurd rfl h
   |some _=>simp only [Option.isNone_some]at Dy;simp [Dy]
 cases e2 with
 |normal=>obtain⟨v,w',k1,k2⟩:=key none none rfl rfl (by simp);exact⟨v,w',k1,k2⟩
 |exit i=>obtain⟨v,w',k1,k2⟩:=key (some (.exit i)) (some (.exit i)) rfl rfl (by simp);exact⟨v,w',k1,k2⟩
 |ret=>obtain⟨v,w',k1,k2⟩:=key (some .ret) (some .ret) rfl rfl (by simp);exact⟨v,w',k1,k2⟩
def adP(hX:X.Okb){root:Code}{L:kc R}(hL:L.Ok X root){p:Nat}(eM:At root p (.rangeFunc g ps (X.site s).assign (X.site s).body)){k:AV->aW->Option R}
 (h:Fh X L s p id args M k=some r):∃x M',Pa X id args M x M'∧k x M'=some r:=by
 unfold Fh at h;simp only [eY]at h;split at h
 case h_2=>cases h
 rename_i s' env hb;replace h:=di h;obtain⟨hc,h⟩:=h;rw [bS,bS]at hc;obtain⟨⟨dm,y8⟩,K4⟩:=hc;have dm:s'=s:=dE dm;subst dm;have y8:(X.site s').nt =L.gY.nt.n:=dE y8;have K4:∀t∈(X.site s').params.toList,t<L.gY.nt.n:=λt ht=>by have:=jN.1 K4 t ht;simpa using this
 split at h
 case h_1=>cases h
 rename_i gT Ri;obtain⟨e1,cY,Zk,h⟩:=tE hX hL _ (eM.down false λl hl=>wx) h;split at h
 case h_2=>cases h
 rename_i Al;obtain⟨e2,ke,Zj,h⟩:=tE hX hL _ (eM.down true λl hl=>wx) h;split at h
 case h_2=>cases h
 rename_i lK;exact⟨_,_,ayH hb y8 K4 Ri rfl Zk Al Zj lK,h⟩
def O5(X:Cx)(T:ia R)(s:Nat)(sE:dI)(g:Operand)(st:St)(k:Ex->St->Option R):Option R:=
 match ku X st.env g,st.iF with
 | .du f [] fG,[]=>
   T.call f (.ik st.mem.length::fG) (st.mem++[.loop s (lr sE st.env) false none]) λ_ M2=>
    match gm M2 (st.mem.length)with
    |some (.loop _ _ false pe)=>k (pe.getD .normal) {st with mem:=M2.set st.mem.length .dead }
    |_=>none
 |_,_=>none
def aAc{rdc:Option Nat}(lR:JO F w rdc)(fn:FuncId)(tmps:Array Value)(ps:Array Tmp)(ag bd:Code):
 ∃l mk w1 lp,(Instr.enterLoop fn tmps ps ag bd rdc).run X.P w= .ok (l,(mk:Option Nat).toList.map (λD=>({target:= .collected D,args:= #[]}:Deferred))) w1∧w.grownBy w1 none∧w1.heap[l]?=some (.loop lp)∧w.heap.size<=l∧
  (∀D,mk=some D->w.heap.size<=D∧D≠l∧w1.heap[D]?=some (.deferred (some [])))∧lp.state= .ready ∧lp.pending=none∧lp.params=ps∧lp.assign=ag∧lp.body=bd∧lp.tmps=tmps:=by
 have ga:∀(w:World) (o:Obj),w.grownBy (w.alloc o) none:=λw o=>E1 w o none;rcases lR with rfl|⟨g,r,rfl,_,hg⟩
 ·refine⟨w.heap.size+1,some w.heap.size,(w.alloc (.deferred (some []))).alloc (.loop {state:= .ready,pending:=none,fn,tmps,params:=ps,assign:=ag,body:=bd,defers:=w.heap.size}),{state:= .ready,pending:=none,fn,tmps,params:=ps,assign:=ag,body:=bd,defers:=w.heap.size},run_enterLoop_outer fn tmps ps ag bd,?_,?_,by omega,(λD hD=> ?_),rfl,rfl,rfl,rfl,rfl,rfl⟩
  ·exact⟨rfl,rfl,rfl,eh,λk hk _=>by rw [(ga (w.alloc (.deferred (some []))) _).block k (eh) (by simp),(ga w _).block k hk (by simp)]⟩
  ·have:=W3 (w.alloc (.deferred (some []))) (.loop {state:= .ready,pending:=none,fn,tmps,params:=ps,assign:=ag,body:=bd,defers:=w.heap.size})
   rwa [World.size_alloc]at this
  ·injection hD with hD;subst hD;refine⟨gz _,by omega,?_⟩;rw [(ga (w.alloc (.deferred (some []))) _).block _ (by simp) (by simp)];exact W3 w _
 ·exact⟨w.heap.size,none,w.alloc (.loop {state:= .ready,pending:=none,fn,tmps,params:=ps,assign:=ag,body:=bd,defers:=r.defers}),{state:= .ready,pending:=none,fn,tmps,params:=ps,assign:=ag,body:=bd,defers:=r.defers},run_enterLoop_inner hg fn tmps ps ag bd,ga _ _,W3 w _,gz _,(λD hD=>by cases hD),rfl,rfl,rfl,rfl,rfl,rfl⟩
def adQ(hX:X.Okb){T:ia R}(hT:T.nX X){sE:dI}{ag bd:Code}(yb:X.site s=⟨T.nt.n,ps,ag,bd⟩){st:St}{k:Ex->St->Option R}
 (h:O5 X T s sE g st k=some r):∃e bl,pS X T.nt (.rangeFunc g ps ag bd) st (Ex.nD e) bl∧k e bl=some r:=by
 unfold O5 at h;simp only [eY]at h;split at h
 case h_2=>cases h
 rename_i f fG hg G4;obtain⟨x,M2,⟨pG,rM⟩,h,_⟩:=hT.call h;split at h
 case h_2=>cases h
 rename_i s2 aNV pe jq;refine⟨_,_,λ{rdc n w0 S F ρ a w Q} hI hs hq=> ?_,h⟩;have h1:=zH hI hs.env g;rw [hg]at h1;generalize hv:a.eval g=vf at h1;cases h1 with
 |du _ _ _ v1 v2 eZ fP r1 r2=>
 have vH:v1=[]:=agq.1 (by simpa using eZ);subst vH;refine wpIn_rangeFunc λfn _=> ?_;obtain⟨l,mk,w1,lp,aDL,jm,hl,aMZ,Sd,p1,p2,p3,p4,p5,p6⟩:=aAc (X:=X) hs.rd fn a.tmps ps ag bd;have cF:l<w1.heap.size:=(v7.1 hl).1;refine⟨l,_,w1,{target:= .fn (.func f) v2.toArray,args:= #[.func (.yield l) #[] #[]]},w1,f,#[.func (.yield l) #[] #[]]++v2.toArray,w1,aDL,?_,λ_ _=>trivial,?_,λhd=>by simp [kY,Fence.wide]at hd,?_⟩
 ·simp only [resolve,hv];simp [go_sem]
 ·simp [invoke,go_sem,pG]
 have gr0:Grow F F ρ ρ w w1:=⟨λ_ h=>h,λ_ _ h=>h,λa ha=>jm.block _ (hI.fz a ha) (by simp)⟩;have i1:Inv X w0 S F (ρ++[⟨.pointer (some ⟨l,0,none⟩),0⟩]) (st.mem++[.loop s (lr sE st.env) false none]) w1:=by
  refine hI.push jm (λg' jo=> ?_) rfl ?_
  ·simp only [Hd.eC,Value.eC,Option.some.injEq]at jo;subst jo;exact⟨aMZ,cF⟩
  ·refine⟨l,lp,rfl,hl,by rw [p3,yb],by rw [p4,yb],by rw [p5,yb],by rw [p6,yb];exact hs.size,?_,(λh=>bh),λ_ _=>p1,λ_ h=>absurd rfl h,p2,by simp⟩;rw [p6];have he:iU X (ρ++[⟨.pointer (some ⟨l,0,none⟩),0⟩]) F w1 st.env a.tmps:=(hs.env.grow gr0).grow ⟨λ_ h=>h,λ_ _ h=>ny h,λ_ _=>rfl⟩;exact ER λu _=>he u
 have i2:Inv X w0 S (λa=>F a∨∃D,mk=some D∧a.block=D) (ρ++[⟨.pointer (some ⟨l,0,none⟩),0⟩]) (st.mem++[.loop s (lr sE st.env) false none]) w1:=by
  refine i1.sE (λD hD=> ?_) (λD id b hd hD hb eK hh e=> ?_)
  ·obtain⟨m1,_,m3⟩:=Sd D hD;exact⟨(v7.1 m3).1,nW hI.size m1⟩
  ·obtain⟨m1,m2,_⟩:=Sd D hD
   by_cases bA:id<st.mem.length
   ·rw [ju bA]at hb;rw [ju (by rw [hI.len];exact bA)]at hh;have:=(hI.sep id b hd D hb eK hh e).1;omega
   ·rw [kv (by rw [hI.len];omega)]at hh;have aM2:id- ρ.length=0:=by
     have:=(eU.1 hh).1;simp at this;exact this
    rw [aM2]at hh;simp only [E2,Option.some.injEq]at hh;subst hh;simp only [Hd.eC,Value.eC,Option.some.injEq]at e;exact m2 e.symm
 have g2:Grow F (λa=>F a∨∃D,mk=some D∧a.block=D) ρ (ρ++[⟨.pointer (some ⟨l,0,none⟩),0⟩]) w w1:=⟨λ_ h=> .inl h,λ_ _ h=>ny h,gr0.hb⟩;have hyl:(ρ++[(⟨.pointer (some ⟨l,0,none⟩),0⟩:Hd)])[st.mem.length]?=some ⟨.pointer (some ⟨l,0,none⟩),0⟩:=FA;have wI:dt X.K (ρ++[⟨.pointer (some ⟨l,0,none⟩),0⟩]) (λa=>F a∨∃D,mk=some D∧a.block=D) w1 (.ik st.mem.length::fG) (.func (.yield l) #[] #[]::v2):=by
  refine⟨by simp [fP],λj y v hy hv=> ?_⟩;cases j with
  |zero=>simp at hy hv;subst hy;subst hv;exact .ik _ _ l hyl rfl
  |succ j=>simp at hy hv;exact(r2 j y v hy hv).grow g2
 have yc:=rM i2 wI;have dX:CallsIn Fence.wide (n- 1) X.P f (.func (.yield l) #[] #[]::v2).toArray w1 _:=XQ.2 yc;have jJ:CallsIn (kY rdc.r) (n- 1) X.P f (.func (.yield l) #[] #[]::v2).toArray w1 _:=dX;have e1: #[Value.func (.yield l) #[] #[]]++v2.toArray=(.func (.yield l) #[] #[]::v2).toArray :=uV;rw [e1];refine jJ.mono ?_;rintro en w2 ⟨v,ρ',F',rfl,i3,g3,_⟩;have bA:ρ'[st.mem.length]?=some ⟨.pointer (some ⟨l,0,none⟩),0⟩:=g3.gG _ _ hyl;obtain⟨g',RY,fN,uq,_,_,_,_,_,_,k1,k2,k3,k4⟩:=i3.rep _ _ _ jq bA;simp only [Value.pointer.injEq,Option.some.injEq,Addr.mk.injEq]at fN;obtain⟨rfl,_⟩:=fN;have hnb:RY.state≠ .busy :=by
  cases pe with
  |none=>rw [k1 rfl rfl];simp
  |some _=>rw [k2 rfl (by simp)];simp
 have hFl:∀a,F a->a.block≠l:=λa ha e=>by have:=hI.fz a ha;omega
 have i4:Inv X w0 S (λa=>F' a∨a.block=l) ρ' (M2.set st.mem.length .dead) w2:=i3.freeze jq rfl bA rfl rfl trivial;have i5:=i4.NS (D:=l) (.inr rfl) (HJ uq) (λa ha=>hFl a (hI.fin a ha)) (.loop {RY with state:= .exhausted });have g5:Grow F (less (λa=>F' a∨a.block=l) l) ρ ρ' w (w2.putObj l (.loop {RY with state:= .exhausted })):=(g2.trans (g3.trans ⟨λ_ h=> .inl h,λ_ _ h=>h,λ_ _=>rfl⟩)).less hFl _;have aal:gg X T.nt {st with mem:=M2.set st.mem.length .dead } rdc (less (λa=>F' a∨a.block=l) l) ρ' {a with defers:=mk.toList.map (λD=>({target:= .collected D,args:= #[]}:Deferred))++a.defers} (w2.putObj l (.loop {RY with state:= .exhausted })):=by
  refine⟨hs.env.grow g5,hs.size,?_,hs.rd.mono g5.hF g5.hb,hs.kept⟩;have hd:=hs.defs;rw [G4]at hd;simp only [G4];obtain⟨d0,ms,d1,d2,d3⟩:=Marks.mono g5.hF g5.hb hd;refine⟨d0,mk.toList++ms,by rw [oy,d1],?_,λD hD=> ?_⟩
  ·cases mk with
   |none=>simpa using d2
   |some D=>
    simp only [Option.toList_some,List.singleton_append,BZ];refine⟨λhD=> ?_,d2⟩;obtain⟨_,ms',e1',_,e3⟩:=hd;have:ms=ms':=by
     have:=d1.symm.trans e1';have inj:∀(a b:dI),a.map (λD=>({target:= .collected D,args:= #[]}:Deferred))=b.map (λD=>({target:= .collected D,args:= #[]}:Deferred))->a=b:=by
      intro a
      induction a with
      |nil=>intro b hb;cases b with|nil=>rfl|cons _ _=>simp at hb
      |cons x a ih=>intro b hb;cases b with
       |nil=>exact B2
       |cons y b=>simp only [nf,List.cons.injEq,Deferred.mk.injEq,Target.collected.injEq]at hb;rw [hb.1.1,ih b hb.2]
     exact inj _ _ this
    subst this;have:=hI.fz _ (e3 D hD).2.1;have:=(Sd D rfl).1;simp at*;omega
  ·rw [jO]at hD;rcases hD with hD|hD
   ·have hD:mk=some D:=by simpa using hD
    obtain⟨m1,m2,m3⟩:=Sd D hD;have Zr:w2.heap[D]?=w1.heap[D]?:=g3.hb ⟨D,0,none⟩ (.inr ⟨D,hD,rfl⟩);refine⟨λa ha e=> ?_,⟨.inl (g3.hF _ (.inr ⟨D,hD,rfl⟩)),m2⟩,?_⟩
    ·have:=hI.fz a (hd.1 a ha);omega
    ·rw [re m2,Zr];exact m3
   ·exact d3 D hD
 refine⟨pe.bind Ex.code,_,by rw [<-k3];exact run_endLoop uq hnb,?_⟩;cases pe with
 |none=>exact hq _ _ _ _ i5 aal g5
 |some e=>
  cases e with
  |normal=>exact absurd rfl k4
  |exit i=>exact wpIn_exit (hq _ _ _ _ i5 aal g5)
  |ret=>exact wpIn_ret (hq _ _ _ _ i5 aal g5)
end
end Go.az
namespace Go.az
def ai8{p:Prop}(h:p:=by
 rw [Oy];exact dB hI hs λa' w' F' ρ' dG dm hg=>hq a' w' F' ρ' dG dm hg):p:=h
end Go.az
namespace Go.az
def Oy:=@Go.roundsIn_succ
end Go.az
namespace Go.az
open Go
noncomputable section
variable {X:Cx} {R O:Type}
variable{g:FuncId}{p:Nat}{r:R}{run:bp->aW->(AV->aW->Option R)->Option R}
abbrev oH(R:Type):=St->(Ex->St->Option R)->Option R
variable{es:List (Nat×oH R)}{P:Nat×oH R->Prop}
def FH:List (Nat×oH R)->Nat->oH R
 | [],_=>λ_ _=>none
 |e::es,p=>match Nat.beq p e.1 with|true=>e.2|false=>FH es p
def JA:List (Nat×oH R)->Nat->Option (oH R)
 | [],_=>none
 |e::es,p=>match Nat.beq p e.1 with|true=>some e.2|false=>JA es p
def iE{α:Type}(P:α->Prop):List α->Prop
 | []=>True
 |e::es=>P e∧iE P es
def aeX(hP:iE P es){st:St}{k:Ex->St->Option R}(h:FH es p st k=some r):∃f,P (p,f)∧f st k=some r:=by
 induction es with
 |nil=>simp [FH]at h
 |cons e es ih=>
  simp only [FH]at h;cases hb:Nat.beq p e.1 with
  |true=>
   simp only [hb]at h;have:=dE hb;subst this;exact⟨e.2,hP.1,h⟩
  |false=>simp only [hb]at h;exact ih hP.2 h
def az5(hP:iE P es){f:oH R}(h:JA es p=some f):P (p,f):=by
 induction es with
 |nil=>simp [JA]at h
 |cons e es ih=>
  simp only [JA]at h;split at h
  ·rename_i hb;have:=dE hb;subst this;injection h with h;subst h;exact hP.1
  ·exact ih hP.2 h
def aj0(X:Cx)(root:Code)(nt:Nt)(e:Nat×oH R):Prop:=∀{c st k r},At root e.1 (.loop c)->e.2 st k=some r->∃x bl,pS X nt (.loop c) st (Ex.nD x) bl∧k x bl=some r
def ag8(X:Cx)(root:Code)(nt:Nt)(e:Nat×oH R):Prop:=∀{g ps a b st k r},At root e.1 (.rangeFunc g ps a b)->e.2 st k=some r->∃x bl,pS X nt (.rangeFunc g ps a b) st (Ex.nD x) bl∧k x bl=some r
def alj(X:Cx)(root:Code)(nt:Nt)(e:Nat×oH R):Prop:=∀{c st k r},At root e.1 c->e.2 st k=some r->∃x bl,pS X nt c st (Ex.nD x) bl∧k x bl=some r
structure CE(R:Type) where
 f:FuncId
 test:bp->aW->Bool
 wr:bp->aW->Option dI
 run:bp->aW->(AV->aW->Option R)->Option R
def FJ:List (CE R)->FuncId->bp->aW->(AV->aW->Option R)->Option R
 | [],_,_,_,_=>none
 |e::es,f,args,M,k=>match Nat.beq f e.f&&e.test args M with|true=>e.run args M k|false=>FJ es f args M k
def FG:List (CE R)->FuncId->bp->aW->Option dI
 | [],_,_,_=>none
 |e::es,f,args,M=>match Nat.beq f e.f&&e.test args M with|true=>e.wr args M|false=>FG es f args M
def sH(X:Cx)(e:CE R):Prop:=∀{args M k r},e.run args M k=some r->∃x M',lh X e.f args M x M'∧k x M'=some r∧∀ids,e.wr args M=some ids->dR ids M M'
def aeY{es:List (CE R)}(hP:iE (sH X) es){f:FuncId}{args:bp}{M:aW}{k:AV->aW->Option R}(h:FJ es f args M k=some r):
 ∃x M',lh X f args M x M'∧k x M'=some r∧∀ids,FG es f args M=some ids->dR ids M M':=by
 induction es with
 |nil=>simp [FJ]at h
 |cons e es ih=>
  simp only [FJ]at h;split at h
  ·rename_i hb;have nv:=hb;rw [bS]at hb;have:=dE hb.1;subst this;obtain⟨x,M',h1,h2,h3⟩:=hP.1 h;refine⟨x,M',h1,h2,λids hi=> ?_⟩;simp only [FG,nv]at hi;exact h3 ids hi
  ·rename_i hb;obtain⟨x,M',h1,h2,h3⟩:=ih hP.2 h;refine⟨x,M',h1,h2,λids hi=> ?_⟩;simp only [FG,hb]at hi;exact h3 ids hi
def akh(nt:Nt)(cs:List (CE R))(y:Nat->bp->aW->(AV->aW->Option R)->Option R)(ls rs ks:List (Nat×oH R)):kc R:=
 ⟨⟨nt,FG cs,FJ cs,y⟩,FH ls,FH rs,JA ks⟩
def DO(X:Cx)(y:Nat->bp->aW->(AV->aW->Option R)->Option R):Prop:=∀{id args M k r},y id args M k=some r->∃x M',Pa X id args M x M'∧k x M'=some r
def GL:Nat->bp->aW->(AV->aW->Option R)->Option R:=λ_ _ _ _=>none
def ahm:DO X (GL (R:=R)):=λ{_ _ _ _ _} h=>bh
def aBs{root:Code}{nt:Nt}{cs:List (CE R)}{y:Nat->bp->aW->(AV->aW->Option R)->Option R}{ls rs ks:List (Nat×oH R)}(hc:iE (sH X) cs)(hy:DO X y)
 (hl:iE (aj0 X root nt) ls) (hr:iE (ag8 X root nt) rs) (hk:iE (alj X root nt) ks):(akh nt cs y ls rs ks).Ok X root where
 gY:=⟨λ{f args M k r} h=>aeY hc h,λ{id args M k r} h=>hy h⟩
 loop:=λ{p c st k r} eM h=>by
  obtain⟨f,h1,h2⟩:=aeX hl h;exact h1 eM h2
 range:=λ{p g ps a b st k r} eM h=>by
  obtain⟨f,h1,h2⟩:=aeX hr h;exact h1 eM h2
 cut:=λ{p c f st k r} eM hf h=>az5 hk hf eM h
def IV(X:Cx)(L:kc R)(c:Code)(p:Nat):Nat->St->(Ex->St->Option R)->Option R
 |0,_,_=>none
 |n+1,st,k=>nQ X L c p st λe bl=>match e with| .normal =>IV X L c p n bl k| .exit i=>k (.exit i) bl| .ret =>k .ret bl
def VO(hX:X.Okb){root c:Code}{p:Nat}{L:kc R}(hL:L.Ok X root)(eM:At root p (.loop c)):∀(fuel:Nat) {st:St} {k:Ex->St->Option R} {r:R},IV X L c (2*p) fuel st k=some r->
 ∃e bl,k e bl=some r∧∀{rdc:Cy} {n:Nat} {w0:World} {S:Sc} {F:bT} {ρ:bY} {a:Act} {w:World} {Q:Exit->Act->World->Prop},Inv X w0 S F ρ st.mem w->gg X L.gY.nt st rdc F ρ a w->
  (∀a' w' F' ρ',Inv X w0 S F' ρ' bl.mem w'->gg X L.gY.nt bl rdc F' ρ' a' w'->Grow F F' ρ ρ' w w'->Q (Ex.nD e) a' w')->Code.roundsIn (kY rdc.r) n X.P c Q fuel a w
 |0,st,k,r,h=>bh
 |fuel+1,st,k,r,h=>by
  simp only [IV]at h;obtain⟨e,cY,dB,h⟩:=tE hX hL c (eM.down false λl hl=>wx) h;cases e with
  |normal=>
   obtain⟨e',bl,hk,hr⟩:=VO hX hL eM fuel h;refine⟨e',bl,hk,λ{rdc n w0 S F ρ a w Q} hI hs hq=> ?_⟩;rw [Oy];refine dB hI hs λa' w' F' ρ' dG dm hg=> ?_;exact hr dG dm λDN p8 tu sw CY CU Kd=>hq DN p8 tu sw CY CU (hg.trans Kd)
  |exit i=>
   refine⟨.exit i,cY,h,λ{rdc n w0 S F ρ a w Q} hI hs hq=> ?_⟩;exact ai8
  |ret=>
   refine⟨.ret,cY,h,λ{rdc n w0 S F ρ a w Q} hI hs hq=> ?_⟩;exact ai8
def inl(g:FuncId)(run:bp->aW->(AV->aW->Option R)->Option R):List (CE R):=[⟨g,λ_ _=>true,λ_ _=>none,run⟩]
def X1(nt:Nt)(cs:List (CE R)):ia R:=⟨nt,FG cs,FJ cs,GL⟩
def aAE{nt:Nt}{cs:List (CE R)}(hc:iE (sH X) cs):(X1 nt cs).nX X:=⟨λ{f args M k r} h=>aeY hc h,λ{_ _ _ _ _} h=>bh⟩
def aDH(h:∀{args M k r},run args M k=some r->∃x M',lh X g args M x M'∧k x M'=some r):iE (sH X) (inl g run):=
 ⟨λ{args M k r} hr=>by
   obtain⟨x,M',h1,h2⟩:=h hr;exact⟨x,M',h1,h2,λids hi=>by cases hi⟩,trivial⟩
def aCE{test:bp->aW->Bool}(h:∀{args M k r},run args M k=some r->∃x M',lh X g args M x M'∧k x M'=some r):
 sH X ⟨g,test,λ_ M=>some (List.range M.length),λargs M k=>run args M λx M'=>aP (Nat.ble M.length M'.length) (k x M')⟩:=by
 intro args M k r hr;obtain⟨x,M',h1,h2⟩:=h hr;replace h2:=di h2;obtain⟨hle,h2⟩:=h2;refine⟨x,M',h1,h2,λids hi=> ?_⟩;injection hi with hi;subst hi;exact⟨tL hle,λi hi hn=>absurd (zF.2 hi) hn⟩
def B1:List (Nat×TypeId)->bp->bp
 | [],xs=>xs
 |p::ps,xs=>B1 ps (match xs[p.1]? with|some .gE =>xs.set p.1 (.ab p.2 [])|_=>xs)
def aeq{ρ:bY}{F:bT}{w:World}{vs:fA}:∀(ps:List (Nat×TypeId)) {xs:bp},dt X.K ρ F w xs vs->dt X.K ρ F w (B1 ps xs) vs
 | [],xs,h=>h
 |p::ps,xs,h=>by
  refine aeq ps ?_;split
  ·rename_i hx;refine⟨by simp [h.1],λj y v hy hv=> ?_⟩
   by_cases e:j=p.1
   ·subst e;have cF:p.1<xs.length:=(eU.1 hx).1;rw [qu cF]at hy;injection hy with hy;subst hy;have:=h.2 p.1 _ v hx hv;cases this;exact .kj _
   ·rw [kh (Ne.symm e)]at hy;exact h.2 j y v hy hv
  ·exact h
def aDx{e:CE R}(h:sH X e)(ps:List (Nat×TypeId))(test:bp->aW->Bool):sH X ⟨e.f,test,λargs M=>e.wr (B1 ps args) M,λargs M k=>e.run (B1 ps args) M k⟩:=by
 intro args M k r hr;obtain⟨x,M',h1,h2,h3⟩:=h hr;exact⟨x,M',⟨h1.1,λ{w0 S F ρ w vs} hI hv=>h1.2 hI (aeq ps hv)⟩,h2,h3⟩
end
end Go.az
namespace Go.az
def wv{p:Prop}(h:p:=by simpa using hn):p:=h
end Go.az
namespace Go.az
open Go
noncomputable section
variable {X:Cx}
variable{P:Program}
def aFp:TI:=⟨false,.other,0,0,[],[]⟩
def oA:List (Nat×TI)->Nat->TI
 | [],_=>aFp
 |e::es,t=>match Nat.beq t e.1 with|true=>e.2|false=>oA es t
def Zf:List (Nat×Site)->Nat->Site
 | [],_=>⟨0,#[],.skip,.skip⟩
 |e::es,t=>match Nat.beq t e.1 with|true=>e.2|false=>Zf es t
def EU{l:List (Nat×TI)}(h:iE (λe=>e.2=wO P e.1∧e.2.ok=true) l)(t:Nat):((oA l t).ok =true->oA l t=wO P t)∧((oA l t).ok =false->(oA l t).ks =[]):=by
 induction l with
 |nil=>exact⟨λh=>(bh),λ_=>rfl⟩
 |cons e es ih=>
  simp only [oA];cases hb:Nat.beq t e.1 with
  |true=>
   have:=dE hb;subst this;exact⟨λ_=>h.1.1,λhf=>(by have:=h.1.2;rw [hf]at this;cases this)⟩
  |false=>exact ih h.2
def YL:List (Nat×Nat)->Nat->Nat->Bool
 | [],_,_=>false
 |e::es,d,t=>match Nat.beq d e.1&&Nat.beq t e.2 with|true=>true|false=>YL es d t
def tR:dI->Nat->Bool
 | [],_=>false
 |e::es,t=>match Nat.beq t e with|true=>true|false=>tR es t
def aga{l:dI}(h:iE (λe=>An P e=true) l)(t:Nat)(ht:tR l t=true):An P t=true:=by
 induction l with
 |nil=>cases ht
 |cons e es ih=>
  simp only [tR]at ht;cases hb:Nat.beq t e with
  |true=>
   have:=dE hb;subst this;exact h.1
  |false=>rw [hb]at ht;exact ih h.2 ht
def alike_refl(a:TI):TI.alike a a:=⟨rfl,rfl,rfl,rfl,rfl,rfl⟩
def aFg{P:Program}{l:List (Nat×TI)}{s:Nat->Site}{el:dI}{gl:Nat->AV}{vw:Nat->TypeId->Bool}(Lg:∀g,gl g= .top ∨(gl g).pure =true)(hm:P.follows .mixedOrders =true)(h:iE (λe=>e.2=wO P e.1∧e.2.ok=true) l)(he:iE (λe=>An P e=true) el):(⟨P,oA l,s,gl,tR el,true,vw,none⟩:Cx).Ok where
 eqs:=aga he
 facts:=λ{t} ht=>aex (X:=⟨P,oA l,s,gl,tR el,true,vw,none⟩) (by rw [show(Cx.ti ⟨P,oA l,s,gl,tR el,true,vw,none⟩ t)=oA l t from rfl,(EU h t).1 ht];exact alike_refl _) ht
 mixed:=hm
 bad:=λt=>(EU h t).2
 fT:=Lg
 YO:=λ_=>azu (X:=⟨P,oA l,s,gl,tR el,true,vw,none⟩) (λt=>(EU h t).1) (λt=>(EU h t).2)
 ub:=λu h=>bh
 pkt:=rfl
def Au(e:TI):TI:=⟨e.ok,e.u,e.size,e.bytes,e.zero,e.ks.map Kind.v⟩
def aDV{P:Program}{l:List (Nat×TI)}{s:Nat->Site}{el:dI}{gl:Nat->AV}{vw:Nat->TypeId->Bool}{ub:Option Ub}(AQ:∀u,ub=some u->aog P u)(Lg:∀g,gl g= .top ∨(gl g).pure =true)(hm:P.follows .mixedOrders =true)(h:iE (λe=>e.2=wO P e.1∧e.2.ok=true) l)(he:iE (λe=>An P e=true) el):(⟨P,λt=>Au (oA l t),s,gl,tR el,false,vw,ub⟩:Cx).Okb where
 eqs:=aga he
 facts:=λ{t} ht=>aex (X:=⟨P,λt=>Au (oA l t),s,gl,tR el,false,vw,ub⟩) (by
  rw [show(Cx.ti ⟨P,λt=>Au (oA l t),s,gl,tR el,false,vw,ub⟩ t)=Au (oA l t)from rfl,(EU h t).1 ht];exact⟨rfl,rfl,rfl,rfl,rfl,by simp [Au]⟩) ht
 mixed:=hm
 bad:=λt ht=>by
  show(Au (oA l t)).ks =[];have:=(EU h t).2 ht;simp [Au,this]
 fT:=Lg
 YO:=λh=>bh
 ub:=AQ
def aD9{t:TypeId}(h:(match P.info? t with|some j=> !Nat.beq j.size 0|none=>false)=true):∃j,P.info? t=some j∧j.size≠0:=by
 split at h
 ·rename_i j hj;exact⟨j,hj,λe=>by rw [e]at h;simp at h⟩
 ·exact bh
def enters{f:FuncId}{fn:Func}{c:Code}(hf:P.funcs[f]?=some fn)(hb:fn.body=some c)(hn:(fn.name== "runtime.NumGoroutine")=false)(vs:Array Value)(w:World):(callFunc f vs).run P w= .ok (.enter f vs) w:=by
 have hp:(program).run P w= .ok P w:=rfl;have hn':fn.name≠ "runtime.NumGoroutine" :=wv
 simp [callFunc,fm,hp,Result.andThen,hf,hn',hb]
end
end Go.az
namespace Go.az
def eX{p:Prop}(h:p:=by rw [this];rfl):p:=h
def xY{p:Prop}(h:p:=by simp [DataW.TrodAll]at h):p:=h
def ai4{p:Prop}(h:p:=by
 rw [jO]at hx;rcases hx with hx|hx
 ·exact a3 x hx
 ·exact b3 x hx):p:=h
def aiZ{p:Prop}(h:p:=by
 have:=f.jB;rw [f.u]at hu;cases d<;>simp_all [mq]):p:=h
def ais{p:Prop}(h:p:=by
 rw [yZ];simp only [mO,Oi,Oz,afI];omega):p:=h
def ah6{p:Prop}(h:p:=by
 have:=dt.append a1 b1
 rwa [<-afJ,OT]at this):p:=h
end Go.az
namespace Go.az
def OT:=@List.take_append_drop
def Iz:=@List.sum_cons
def afI:=@Function.comp_def
def W5:=@Option.map_eq_some_iff
end Go.az
namespace Go.az
open Go Go.ChangeShapes Go.WideShapes Go.ChangeAt Go.RowKit
noncomputable section
variable {X:Cx}
variable{H:Type}{t:TypeId}{enc:TypeId×Value->H}{v:Value}{S:pT}
inductive Wf(K:TypeId->dZ):AV->Prop
 |int(k:IntKind)(n:Int)(h:(Lit.int k n).wf =true):Wf K (.int k n)
 |bool(b:Bool):Wf K (.bool b)
 |str(s:ByteArray)(h:s.size<=maxLen):Wf K (.str s)
 |ab(t:TypeId)(xs:aZ)(hl:xs.length<=maxLen)(hk:∀row∈xs,dk (K t) row=true)(h:∀row∈xs,∀x∈row,Wf K x):Wf K (.ab t xs)
def WfL(K:TypeId->dZ)(row:Row):Prop:=∀x∈row,Wf K x
mutual
def w4:AV->Nat
 | .ab _ xs=>oi xs+1
 |_=>1
def iQ:bp->Nat
 | []=>0
 |x::xs=>w4 x+iQ xs
def oi:List bp->Nat
 | []=>0
 |r::rs=>iQ r+oi rs
end
mutual
def mO{H:Type}:DataW H->Nat
 | .slice e s=>rm e+rm s+1
 | .agg p=>rm p+1
 |_=>1
def rm{H:Type}:List (DataW H)->Nat
 | []=>0
 |d::r=>mO d+rm r
end
def aCt(x:AV):1<=w4 x:=by cases x<;>simp [w4]
def agS:∀row:bp,row.length<=iQ row
 | []=>xK _
 |x::xs=>by have:=agS xs;have:=aCt x;simp only [iQ,nc];omega
def EO:∀a b:bp,iQ (a++b)=iQ a+iQ b
 | [],b=>by simp [iQ]
 |x::a,b=>by simp only [ki,iQ,EO a b];omega
def OP(d:DataW H):1<=mO d:=by cases d<;>simp [mO]
def Oi{H:Type}:∀l:List (DataW H),rm l=(l.map mO).sum
 | []=>rfl
 |d::l=>by simp only [rm,nf,Iz,Oi l]
def ahl:∀{rs:List bp} {ns:dI},rs.length=ns.length->(∀(i:Nat) r n,rs[i]?=some r->ns[i]?=some n->iQ r<=n)->oi rs<=ns.sum
 | [],[],_,_=>gz _
 |r::rs,n::ns,hl,h=>by
  have:=h 0 r n rfl rfl;have:=ahl (rs:=rs) (ns:=ns) (oZ) λi r' n' h1 h2=>h (i+1) r' n' (sl) (pU);simp only [oi,Iz];omega
 | [],_::_,hl,_=>by simp at hl
 |_::_,[],hl,_=>by simp at hl
def IZ(X:Cx):Nat->List (Nat×TypeId)->Nat->Bool
 |o,[],n=>o==n
 |o,f::fs,n=>f.1==o&&IZ X (o+(X.ti f.2).size) fs n
def GB(X:Cx)(S:pT)(t:TypeId):Bool:=
 (X.ti t).ok &&match(X.ti t).u with
   | .int k=>(X.ti t).ks == [.int k]
   | .bool =>(X.ti t).ks == [.bool]
   | .str =>(X.ti t).ks == [.str]
   | .slice e=>(X.ti t).ks == [.slice e]&&S.contains e&&Nat.blt 0 (X.ti e).size
   | .struct fs=>(X.ti t).ks ==fs.flatMap (λf=>(X.ti f.2).ks)&&IZ X 0 fs (X.ti t).size &&fs.all (λf=>S.contains f.2)
   | .array m e=>(X.ti t).ks ==(List.replicate m (X.ti e).ks).flatten &&S.contains e&&(m*(X.ti e).size ==(X.ti t).size)
   |_=>false
def De(X:Cx)(S:pT):Bool:=S.all (GB X S)
def XZ(h:De X S=true)(ht:S.contains t=true):GB X S t=true:=by
 unfold De at h;exact jN.1 h t (Fv)
def V2:∀{ks ls:dZ} {r s:Row},dk ks r=true->dk ls s=true->dk (ks++ls) (r++s)=true
 | [],_,[],_,_,h=>h
 |k::ks,ls,x::r,s,h,h'=>by
  simp only [dk,bS]at h;simp only [ki,dk,bS];exact⟨h.1,V2 h.2 h'⟩
 | [],_,_::_,_,h,_=>B4
 |_::_,_,[],_,h,_=>B4
section
variable {w:World} {ρ:bY}
def there(w:World)(a:Addr):Prop:=a.block<w.heap.size
def Reads(X:Cx)(ρ:bY)(w:World)(ks:dZ)(cs:fA)(row:Row):Prop:=dt X.K ρ (there w) w row cs∧dk ks row=true∧WfL X.K row
def ad6{cs:fA}:∀(fs:List (Nat×TypeId)) (ns:dI) (o:Nat),fs.length=ns.length->o<=cs.length->IZ X o fs cs.length=true->(∀f∈fs,(X.ti f.2).ks.length =(X.ti f.2).size)->
 (∀(j:Nat) f n,fs[j]?=some f->ns[j]?=some n->∃row,Reads X ρ w (X.ti f.2).ks ((cs.drop f.1).take (X.ti f.2).size) row∧iQ row<=n)->∃row,Reads X ρ w (fs.flatMap λf=>(X.ti f.2).ks) (cs.drop o) row∧iQ row<=ns.sum
 | [],ns,o,_,ho,h,_,_=>by
   have:o=cs.length:=by simpa [IZ]using h
   subst this;exact⟨[],⟨by simp [dt],rfl,λx hx=>wk⟩,xK _⟩
 |_::_,[],_,hl,_,_,_,_=>by simp at hl
 |f::fs,n::ns,o,hl,ho,h,iX,hr=>by
  simp only [IZ,bS,ic]at h;obtain⟨h1,h2⟩:=h;obtain⟨r1,⟨a1,a2,a3⟩,an⟩:=hr 0 f n rfl rfl;rw [h1]at a1;have eZ:((cs.drop o).take (X.ti f.2).size).length =(X.ti f.2).size :=by rw [a1.1,iG a2];exact iX f (by simp)
  have ho2:o+(X.ti f.2).size <=cs.length:=by simp at eZ;omega
  obtain⟨r2,⟨b1,b2,b3⟩,bn⟩:=ad6 fs ns (o+(X.ti f.2).size) (oZ) ho2 h2 (λg hg=>iX g (by simp [hg])) (λj g m hg hm=>hr (j+1) g m (by simpa using hg) (Po));refine⟨r1++r2,⟨?_,?_,λx hx=> ?_⟩,by rw [EO,Iz];omega⟩
  ·exact ah6
  ·simp only [uK];exact V2 a2 b2
  ·exact ai4
def aet{cs:fA}{ks:dZ}{sz:Nat}(iX:ks.length=sz):∀(ns:dI) (o:Nat),o+ns.length*sz=cs.length->(∀(i:Nat) n,ns[i]?=some n->∃row,Reads X ρ w ks ((cs.drop (o+i*sz)).take sz) row∧iQ row<=n)->∃row,Reads X ρ w (List.replicate ns.length ks).flatten (cs.drop o) row∧iQ row<=ns.sum
 | [],o,ho,_=>by
   have:o=cs.length:=by simpa using ho
   subst this;exact⟨[],⟨by simp [dt],rfl,λx hx=>wk⟩,xK _⟩
 |n::ns,o,ho,hr=>by
  obtain⟨r1,⟨a1,a2,a3⟩,an⟩:=hr 0 n rfl;simp only [Nat.zero_mul,xF]at a1;rw [nc]at ho;have e1:(ns.length+1)*sz=ns.length*sz+sz:=Nat.succ_mul _ sz;obtain⟨r2,⟨b1,b2,b3⟩,bn⟩:=aet (cs:=cs) iX ns (o+sz) (by omega) (λi m hi=>by
   have:=hr (i+1) m (B6);have e2:(i+1)*sz=i*sz+sz:=Nat.succ_mul i sz;rw [e2,show o+(i*sz+sz)=o+sz+i*sz by omega]at this;exact this)
  refine⟨r1++r2,⟨?_,?_,λx hx=> ?_⟩,by rw [EO,Iz];omega⟩
  ·exact ah6
  ·simp only [nc,W7,BI];exact V2 a2 b2
  ·exact ai4
def Is{k:Kind}{x:AV}(hr:aY X.K ρ (there w) w x v)(hk:iA k x=true)(hw:Wf X.K x):Reads X ρ w [k] [v] [x]:=
 ⟨⟨rfl,λj y u hy hu=>by
   cases j with
   |zero=>simp at hy hu;subst hy;subst hu;exact hr
   |succ j=>simp at hy⟩,by simp [dk,hk],λy hy=>by simp at hy;subst hy;exact hw⟩
def MZ(hX:X.Ok){S:pT}(hS:De X S=true){H:Type}{enc:TypeId×Value->H}:∀(n:Nat) {fuel:Nat} {t:TypeId} {cs:fA} {x:DataW H×List MemPlace},fuel<n->S.contains t=true->
 DataW.trod enc X.P w 0 (λ_=>true) true fuel t cs=some x->∃row,Reads X ρ w (X.ti t).ks cs row∧iQ row<=mO x.1
 |0,_,_,_,_,h,_,_=>absurd h (Nat.not_lt_zero _)
 |n+1,fuel,t,cs,x,hfu,ht,hx=>by
  have h:=XZ hS ht;simp only [GB,bS]at h;obtain⟨bB,h⟩:=h;obtain⟨i,d,z,f⟩:=hX.facts bB;have rk:∀t',(X.ti t').ok =true->X.P.cellsOf t'=(X.ti t').size :=λt' aap=>by
   obtain⟨i',d',z',f'⟩:=hX.facts aap;simp [Program.cellsOf,f'.info,f'.size]
  have hlen:∀t',(X.ti t').ok =true->(X.ti t').ks.length =(X.ti t').size :=λt' aap=>by
   obtain⟨i',d',z',f'⟩:=hX.facts aap;rw [f'.ks,f'.size]
  have Q6:∀{t'},S.contains t'=true->(X.ti t').ok =true:=λ{t'} hm=>by
   have:=XZ hS hm;simp only [GB,bS]at this;exact this.1
  split at h
  ·rename_i k hu;have hk:(X.ti t).ks =[.int k]:=lJ;obtain⟨m,rfl,_,hwf⟩:=DataW.trod_int (f.anx hu) hx;rw [hk];exact⟨_,Is (.int k m) (by simp [iA]) (.int k m hwf),OP x.1⟩
  ·rename_i hu;have hk:(X.ti t).ks =[.bool]:=lJ;have dS:X.P.underlying t=some .bool :=aiZ;obtain⟨b,rfl,_⟩:=DataW.trod_bool dS hx;rw [hk];exact⟨_,Is (.bool b) rfl (.bool b),OP x.1⟩
  ·rename_i hu;have hk:(X.ti t).ks =[.str]:=lJ;have dS:X.P.underlying t=some .string :=aiZ;obtain⟨s,rfl,_,hs⟩:=DataW.trod_string dS hx;rw [hk];exact⟨_,Is (.str s) rfl (.str s hs),OP x.1⟩
  ·rename_i e hu;simp only [bS,ic]at h;obtain⟨⟨hk,lR⟩,n8⟩:=h;have n8:0<(X.ti e).size :=by simpa using n8
   have Kc:=Q6 lR;rcases DataW.trod_slice (f.slice hu) hx with⟨rfl,_⟩|⟨a,len,cap,elems,rest,m,hfm,rfl,yZ,_,kq,Ll,hel,Zm,_,_⟩
   ·rw [hk];exact⟨_,Is (.kj e) (by simp [iA]) (.ab e [] (by simp) (λrow h=>gM) (λrow h=>gM)),OP x.1⟩
   ·rw [hk];have each:∀i,i<len->∃vs row,w.cells? 0 (a.add (i*(X.ti e).size)) (X.ti e).size =some vs∧Reads X ρ w (X.ti e).ks vs row∧∀n,(elems.map λd=>mO d.1)[i]?=some n->iQ row<=n:=by
     intro i hi;have:=Zm i hi;rw [rk e Kc,dz (by omega)]at this;rw [Option.bind_eq_some_iff]at this;obtain⟨vs,h1,h2⟩:=this;obtain⟨row,h3,h4⟩:=MZ hX hS n (by omega) lR h2;exact⟨vs,row,h1,h3,λm hm=>by
      rw [iH,dz (by omega)]at hm;cases hm;exact h4⟩
    have hch:∃g:Nat->fA×Row,∀i,i<len->w.cells? 0 (a.add (i*(X.ti e).size)) (X.ti e).size =some (g i).1 ∧Reads X ρ w (X.ti e).ks (g i).1 (g i).2 ∧∀n,(elems.map λd=>mO d.1)[i]?=some n->iQ (g i).2 <=n:=by
     refine⟨λi=>if hi:i<len then((each i hi).choose,(each i hi).choose_spec.choose)else([],[]),λi hi=> ?_⟩;simp only [hi,dif_pos];exact(each i hi).choose_spec.choose_spec
    obtain⟨g,hg⟩:=hch;have qi:=hlen e Kc;have GS:((List.range len).map λi=>(g i).2).length =len:=by simp
    have rep:=aY.ab (K:=X.K) (ρ:=ρ) (F:=there w) (w:=w) e ((List.range len).map λi=>(g i).2) a cap ((List.range len).map λi=>(g i).1) (by simp) (by simpa using kq) Ll
     (λi row hi=>by
       have cF:i<len:=P0;simp only [iH,tJ cF,kz,Option.some.injEq]at hi;subst hi;exact(hg i cF).2.1.2.1)
     (λi vs hi=>by
       have cF:i<len:=P0;simp only [iH,tJ cF,kz,Option.some.injEq]at hi;subst hi;obtain⟨c1,c2,_⟩:=hg i cF;have y4:(g i).1.length =(X.K e).length :=by rw [c2.1.1,iG c2.2.1];rfl
       refine⟨y4,λj v hj=> ?_⟩;have Ld:j<(X.ti e).size :=by have:=(eU.1 hj).1;rw [y4]at this;rw [<-qi];exact this
       have ajR:w.cell? (a.add (i*(X.K e).length +j))=some v:=by
        have Zh:=World.cells?_some c1;obtain⟨_,Zh⟩:=Zh;have:=Zh.2 j Ld;rw [hj]at this;have e2:(X.K e).length =(X.ti e).size :=qi;rw [e2]
        rwa [zC]at this
       exact⟨ajR,World.block_lt_of_cell? w _ ajR⟩)
     (λi row vs hi fo j y v hy hv=>by
       have cF:i<len:=P0;simp only [iH,tJ cF,kz,Option.some.injEq]at hi fo;subst hi;subst fo;exact(hg i cF).2.1.1.2 j y v hy hv)
    rw [GS]at rep;refine⟨_,Is rep (by simp [iA]) (.ab e _ (by rw [GS];omega) (λrow gW=> ?_) λrow gW y hy=> ?_),?_⟩
    ·obtain⟨i,hi,rfl⟩:=zD.1 gW;exact(hg i (zF.1 hi)).2.1.2.1
    ·obtain⟨i,hi,rfl⟩:=zD.1 gW;exact(hg i (zF.1 hi)).2.1.2.2 y hy
    ·have:=ahl (rs:=(List.range len).map λi=>(g i).2) (ns:=elems.map λd=>mO d.1) (by simp [hel]) λi r n h1 h2=>by
      have cF:i<len:=by have:=(eU.1 h1).1;simpa using this
      simp only [iH,tJ cF,kz,Option.some.injEq]at h1;subst h1;exact(hg i cF).2.2 n h2
     rw [yZ];simp only [mO,Oi,Oz,iQ,w4,afI];omega
  ·rename_i fs hu;simp only [bS,ic]at h;obtain⟨⟨hk,yw⟩,ja⟩:=h;obtain⟨gs,dS,rfl⟩:=f.struct hu;obtain⟨xs,m,hfm,yZ,eL,yY,aDK⟩:=DataW.trod_struct dS hx;rw [hk];rw [rk t bB]at eL;have:=ad6 (X:=X) (ρ:=ρ) (w:=w) (cs:=cs) (gs.toList.map λf=>(f.offset,f.type)) (xs.map λd=>mO d.1) 0 (by simp [yY]) (xK _) (by rw [eL];exact yw)
    (λg hg=>hlen _ (Q6 (jN.1 ja g hg))) (λj g k hg hn=>by
      have lR:=jN.1 ja g (mD hg);rw [iH,W5]at hg;obtain⟨q,hq,rfl⟩:=hg;have rL:gs[j]?=some q:=by simpa using hq
      have hf:=aDK j q rL;rw [rk _ (Q6 lR)]at hf;rw [iH,W5]at hn;obtain⟨y,hy,rfl⟩:=hn;rw [hy]at hf;exact MZ hX hS n (by omega) lR hf)
   obtain⟨row,h1,h2⟩:=this;refine⟨row,sl,?_⟩;exact ais
  ·rename_i m e hu;simp only [bS,ic]at h;obtain⟨⟨hk,lR⟩,hmul⟩:=h;have Kc:=Q6 lR;obtain⟨xs,m',hfm,yZ,eL,yY,Zm⟩:=DataW.trod_array (f.array hu) hx;rw [hk];rw [rk t bB]at eL;have:=aet (X:=X) (ρ:=ρ) (w:=w) (cs:=cs) (hlen e Kc) (xs.map λd=>mO d.1) 0 (by rw [eE,yY];omega) (λi k hi=>by
    rw [iH,W5]at hi;obtain⟨y,hy,rfl⟩:=hi;have hf:=Zm i (Yt);rw [rk _ Kc,hy]at hf;simpa using MZ hX hS n (by omega) lR hf)
   obtain⟨row,h1,h2⟩:=this;rw [eE,yY]at h1;refine⟨row,sl,?_⟩;exact ais
  ·exact bh
end
def QI(X:Cx)(t:TypeId)(x:AV):Prop:=((X.ti t).u.agg =true∧∃row,x= .agg row∧dk (X.ti t).ks row=true∧WfL X.K row)∨((X.ti t).u.agg =false∧dk (X.ti t).ks [x]=true∧Wf X.K x)
def GK:AV->Nat
 | .agg row=>iQ row
 |x=>w4 x
def J4(xs:bp):Nat:=(xs.map GK).sum
def ayt(hX:X.Ok)(hS:De X S=true){w:World}{base:Nat}{ρ:bY}{d:DataW H}{ps:List MemPlace}(lR:S.contains t=true)(h:DataW.Trod enc X.P w 0 (λ_=>true) true t v d ps)
 (bB:Value.okWide X.P w .any base t v):∃x,(QI X t x∧GK x<=mO d)∧aY X.K ρ (there w) w x v:=by
 obtain⟨fuel,h⟩:=h;obtain⟨row,hr,hn⟩:=MZ hX hS (ρ:=ρ) (fuel+1) (by omega) lR h;have rK:=XZ hS lR;have xa:(X.ti t).ok =true:=by
  simp only [GB,bS]at rK;exact rK.1
 obtain⟨i,dd,z,f⟩:=hX.facts xa;cases fK:(X.ti t).u.agg with
 |true=>
  have hv:∃cs,v= .agg cs:=by
   unfold Value.okWide at bB;rw [f.jB]at bB;rw [f.u]at fK;cases dd<;>simp [mq,vT.agg]at fK
   ·obtain⟨cs,h1,_⟩:=bB;exact⟨cs,h1⟩
   ·obtain⟨cs,h1,_⟩:=bB;exact⟨cs,h1⟩
  obtain⟨cs,rfl⟩:=hv;have hc:(Value.agg cs).cells.toList =cs.toList:=rfl;rw [hc]at hr;refine⟨.agg row,⟨.inl ⟨fK,row,rfl,hr.2.1,hr.2.2⟩,hn⟩,?_⟩;have:=aY.agg (K:=X.K) (ρ:=ρ) (F:=there w) (w:=w) row cs.toList hr.1.1 hr.1.2;exact se
 |false=>
  have qi:(X.ti t).ks.length =1:=by
   simp only [GB,bS]at rK;have h2:=rK.2;split at h2
   ·rename_i k hu;have:(X.ti t).ks =[.int k]:=pU;exact eX
   ·have:(X.ti t).ks =[.bool]:=by simpa using h2
    exact eX
   ·have:(X.ti t).ks =[.str]:=by simpa using h2
    exact eX
   ·simp only [bS,ic]at h2;rw [h2.1.1];rfl
   ·rename_i hu;rw [hu]at fK;simp [vT.agg]at fK
   ·rename_i hu;rw [hu]at fK;simp [vT.agg]at fK
   ·cases h2
  have qN:=iG hr.2.1;rw [qi]at qN;obtain⟨x,rfl⟩:=List.length_eq_one_iff.1 qN;have eL:v.cells.toList.length=1:=by rw [hr.1.1,qN]
  have hv:v.cells.toList=[v]:=by
   cases v with
   |agg cs=>
    exfalso;unfold Value.okWide at bB;rw [f.jB]at bB;rw [f.u]at fK;cases dd<;>simp [mq,vT.agg]at fK<;>simp [Cell.okWide,Cell.ok,f.jB]at bB
   |_=>rfl
  rw [hv]at hr;have hw:=hr.2.2 x (by simp);exact⟨x,⟨.inr ⟨fK,hr.2.1,hw⟩,by cases hw<;>simpa [GK,iQ]using hn⟩,hr.1.2 0 x v rfl rfl⟩
def azc{w0 w:World}{F:bT}{ρ:bY}{M:aW}{F0:bT}(hI:Inv X w0 ⟨λ_=>False,F0⟩ F ρ M w):Below w0.heap.size w0 w:=
 ⟨hI.os,hI.tape,hI.output,hI.size,λk hk=>hI.frame k hk (λh=>h)⟩
def axY{w w':World}(h:Below w.heap.size w w')(may:MemPlace->Prop):w.keptBut w' may:=by
 refine⟨h.os,h.output,λi hi=> ?_⟩;rw [h.block i hi];exact(World.keptBut_refl w may).2.2 i hi
def aAI(hX:X.Ok)(w:World)(hg:∀g,aY X.K [] (there w) w (X.fT g) (.pointer (some ⟨g,0,none⟩))):Inv X w ⟨λ_=>False,there w⟩ (there w) [] [] w where
 os:=rfl
 tape:=rfl
 output:=rfl
 size:=gz _
 frame:=λ_ _ _=>rfl
 len:=rfl
 rep:=λid b hd hb _=>B2
 sep:=λid b hd g hb _ _ _=>B2
 iN:=λid id' b b' hd dC g _ hb _ _ _ _ _ _=>B2
 fz:=λa ha=>ha
 fT:=hg
 one:=λid hd hh=>by simp at hh
 fV:=λa ha=> .inl ha
 fin:=λa ha=>ha
def Qe(X:Cx):pT->bp->Prop
 | [],[]=>True
 |t::ts,x::xs=>QI X t x∧Qe X ts xs
 |_,_=>False
def adG(hX:X.Ok){S:pT}(hS:De X S=true){w:World}{base:Nat}{ρ:bY}{H:Type}{enc:TypeId×Value->H}:∀{ts:pT} {vs:fA} {ds:List (DataW H)} {ps:List MemPlace},(ts.all S.contains)=true->
 DataW.TrodAll enc X.P w 0 (λ_=>true) true ts vs ds ps->(∀(j:Nat) t v,ts[j]?=some t->vs[j]?=some v->Value.okWide X.P w .any base t v)->∃xs,(Qe X ts xs∧J4 xs<=rm ds)∧dt X.K ρ (there w) w xs vs
 | [],[],[],ps,_,_,_=>⟨[],⟨trivial,gz _⟩,by simp [dt]⟩
 |t::ts,v::vs,d::ds,ps,lR,h,bB=>by
  obtain⟨p,q,h1,h2,_⟩:=h;simp only [Fa,bS]at lR;obtain⟨x,⟨hx,hn⟩,hr⟩:=ayt hX hS (ρ:=ρ) lR.1 h1 (bB 0 t v rfl rfl);obtain⟨xs,⟨GS,sY⟩,qM⟩:=adG hX hS (ρ:=ρ) (ts:=ts) (vs:=vs) lR.2 h2 (λj t' v' ht hv=>bB (j+1) t' v' (Fv) (by simpa using hv));refine⟨x::xs,⟨⟨hx,GS⟩,by simp only [J4,nf,Iz,rm]at sY⊢;omega⟩,by simp [qM.1],λj y u hy hu=> ?_⟩;cases j with
  |zero=>simp at hy hu;subst hy;subst hu;exact hr
  |succ j=>simp at hy hu;exact qM.2 j y u hy hu
 | [],[],_::_,_,_,h,_=>xY
 | [],_::_,_,_,_,h,_=>xY
 |_::_,[],_,_,_,h,_=>xY
 |_::_,_::_,[],_,_,h,_=>xY
def adj{P:Program}{H:Type}{enc:TypeId×Value->H}(hl:laidOutB P=true){w w':World}(hb:Below w.heap.size w w'):∀{ts:pT} {vs:fA} {ds:List (DataW H)} {ps:List MemPlace},(ts.all λt=>P.readableRec t&&Nat.blt t P.types.size)=true->
 DataW.TrodAll enc P w 0 (λ_=>true) true ts vs ds ps->(∀x∈ps,x.block<w.heap.size)->DataW.TrodAll enc P w' 0 (λb=>decide (b<w.heap.size)) true ts vs ds ps
 | [],[],[],ps,_,h,_=>h
 |t::ts,v::vs,d::ds,ps,lR,h,cF=>by
  obtain⟨p,q,h1,h2,rfl⟩:=h;simp only [Fa,bS]at lR;exact⟨p,q,Below.trod hl lR.1.1 (by simpa using lR.1.2) h1 hb (λx hx=>cF x (by simp [hx])),adj hl hb (ts:=ts) (vs:=vs) lR.2 h2 (λx hx=>cF x (by simp [hx])),rfl⟩
 | [],[],_::_,_,_,h,_=>xY
 | [],_::_,_,_,_,h,_=>xY
 |_::_,[],_,_,_,h,_=>xY
 |_::_,_::_,[],_,_,h,_=>xY
def axX(hX:X.Ok)(hl:laidOutB X.P=true){f:FuncId}{fn:Func}{s:ChangeSpec}{ts:pT}{tb:TypeId}(hts:fn.params.toList=ts)(vK:fn.resultTypes= #[tb]) (htb:X.P.underlying tb=some .bool)
  (hS:De X S=true) (lR:(ts.all S.contains)=true) (hrr:(ts.all λt=>X.P.readableRec t&&Nat.blt t X.P.types.size)=true) (hv:s.vars=[])  
 (hs:∀ds:List (DataW H),ds.length=ts.length->s.fn H ds={results:=[.lit (.bool true)],args:=ds})
 (W:World) (hg:∀g,aY X.K [] (there W) W (X.fT g) (.pointer (some ⟨g,0,none⟩))) (base:Nat) (args:Array Value) (ds gs:List (DataW H)) (before:List MemPlace) (Gq:∀(j:Nat) t v,fn.params[j]?=some t->args[j]?=some v->Value.okWide X.P W .any base t v)
 (hW:DataW.Whole enc X.P fn.params.toList s.vars false W args.toList ds gs before)
 (aM0:∀xs,Qe X ts xs->J4 xs<=rm ds->∃m M',FF X f m xs [] (.bool true) M'):
 Calls X.P f args W λe W'=>∃v,e= .returned v∧s.post enc X.P fn false true false false W args v W':=by
 have hW':=hW;obtain⟨p,q,hA,hV,hpq,G3,AW⟩:=hW;rw [hv]at hV;obtain⟨rfl,rfl⟩:=trodVars_none hV;rw [zG]at hpq;have aMR:p=before:=hpq.symm;subst aMR;have Sw:=hA;rw [hts]at hA;have hlen:ds.length=ts.length:=by
  have:∀(ts:pT) (vs:fA) (ds:List (DataW H)) (ps:List MemPlace),DataW.TrodAll enc X.P W 0 (λ_=>true) true ts vs ds ps->ds.length=ts.length:=by
   intro ts
   induction ts with
   |nil=>intro vs ds ps h;cases vs<;>cases ds<;>simp_all [DataW.TrodAll]
   |cons t ts ih=>
    intro vs ds ps h;cases vs with
    |nil=>cases ds<;>simp [DataW.TrodAll]at h
    |cons v vs=>
     cases ds with
     |nil=>exact xY
     |cons d ds=>obtain⟨_,_,_,h2,_⟩:=h;simp [ih _ _ _ h2]
  exact this _ _ _ _ hA
 obtain⟨xs,⟨GS,hnv⟩,jI⟩:=adG hX hS (ρ:=[]) lR hA (λj t v ht hv=>Gq j t v (by rw [<-hts]at ht;simpa using ht) (by simpa using hv));obtain⟨m,M',yc⟩:=aM0 xs GS hnv;have:=yc (aAI hX W hg) jI;refine this.mono ?_;rintro e W' ⟨v,ρ',F',rfl,hI,_,hr⟩;refine⟨v,rfl,?_⟩;cases hr;have hb:=azc hI;have cF:∀x∈p,x.block<W.heap.size:=λx hx=>by simpa using hW'.lt x hx
 have Li:s.fn H (ds++[])={results:=[.lit (.bool true)],args:=ds}:=by rw [zG];exact hs ds hlen
 refine⟨ds,[],p,[],p,[],hW',?_,?_,?_,axY hb _,λh=>bh⟩
 ·rw [Li,vK];exact trodAll_mk1 (shut_bool htb true)
 ·rw [Li];rw [hts];exact adj hl hb hrr hA cF
 ·rw [Li,hv];exact rfl
end
end Go.az
namespace Go.az
def ajg{p:Prop}(h:p:=by
 injection hi with hi;subst hi;exact⟨tL hle,λi hi hn=>absurd (zF.2 hi) hn⟩):p:=h
def xM{p:Prop}(h:p:=by rw [hc];rfl):p:=h
end Go.az
namespace Go.az
def Xg:=@Go.wpIn_loop_rounds
end Go.az
namespace Go.az
open Go Go.ChangeShapes Go.WideShapes Go.ChangeAt Go.RowKit
noncomputable section
variable {X:Cx} {R:Type}
variable{Y:Cx}{f p rounds s:Nat}{r:R}{α:Type}{args:bp}{M:aW}
structure FI where
 c:Code
 nt:Nt
 rs:List ResultVar
variable{fi:FI}{I:List (Nat×FI)}
def C8(X:Cx)(f:Nat)(fi:FI):Prop:=∃fn,X.P.funcs[f]?=some fn∧fn.body=some fi.c∧fn.ntmps=fi.nt.n∧fn.results.toList=fi.rs∧∀(vs:Array Value) (w:World),(callFunc f vs).run X.P w= .ok (.enter f vs) w
def cb(fn:Func):FI:=⟨fn.body.getD .skip,⟨fn.ntmps,2^fn.ntmps- 1⟩,fn.results.toList⟩
def aDS{fn:Func}(hf:X.P.funcs[f]?=some fn)(hb:fn.body.isSome=true)(hn:(fn.name== "runtime.NumGoroutine")=false):C8 X f (cb fn):=by
 obtain⟨c,hc⟩:=Option.isSome_iff_exists.1 hb;refine⟨fn,hf,?_,rfl,rfl,enters hf hc hn⟩;show fn.body=some (fn.body.getD .skip);exact xM
def zS:List (Nat×FI)->Nat->Option FI
 | [],_=>none
 |e::es,f=>match Nat.beq f e.1 with|true=>some e.2|false=>zS es f
def aBp(h:iE (λe=>C8 X e.1 e.2) I)(hf:zS I f=some fi):C8 X f fi:=by
 induction I with
 |nil=>cases hf
 |cons e es ih=>
  simp only [zS]at hf;cases hb:Nat.beq f e.1 with
  |true=>
   rw [hb]at hf;injection hf with hf;subst hf;have:=dE hb;subst this;exact h.1
  |false=>rw [hb]at hf;exact ih h.2 hf
def aaL:Nat->Nat->List Bool
 |0,_=>[]
 |n+1,p=>match Nat.ble p 1 with|true=>[]|false=>(Nat.beq (p %2) 1)::aaL n (p/2)
def Qc(root:Code)(p:Nat):Option Code:=match Nat.beq (enc (aaL p.log2.succ.succ p)) p with|true=>wA root (aaL p.log2.succ.succ p)|false=>none
def afz{root c d:Code}(h:Qc root p=some d)(eM:At root p c):d=c:=by
 unfold Qc at h;split at h
 ·rename_i hb;have:=eM.det _ (dE hb);rw [h]at this;injection this
 ·exact bh
def oG(f:α->Bool)(l:List α):Bool:=List.rec (motive:=λ_=>Bool) true (λx _ ih=>Bool.rec (motive:=λ_=>Bool) false ih (f x)) l
def BO{α:Type}{f:α->Bool}:∀{l:List α},oG f l=true->∀x∈l,f x=true
 | [],_,x,hx=>wk
 |y::l,h,x,hx=>by
  have h':Bool.rec (motive:=λ_=>Bool) false (oG f l) (f y)=true:=h;cases hy:f y with
  |false=>rw [hy]at h';cases h'
  |true=>
   rw [hy]at h';rcases gN.1 hx with rfl|hx
   ·exact hy
   ·exact BO h' x hx
def vS(n:Nat)(x:AV):Bool:=
 match x with
 | .int _ _=>true
 | .bool _=>true
 | .str _=>true
 | .iw =>true
 | .gE =>true
 | .jP =>true
 | .lG =>true
 | .top =>true
 | .ptr id _ _=>Nat.ble (Nat.succ id) n
 | .aA id=>Nat.ble (Nat.succ id) n
 | .ik id=>Nat.ble (Nat.succ id) n
 | .mp id=>Nat.ble (Nat.succ id) n
 | .kU id _=>Nat.ble (Nat.succ id) n
 | .vw id _ _=>Nat.ble (Nat.succ id) n
 | .jF =>true
 |_=>false
def mW(n:Nat)(x:AV):Bool:=
 match x with
 | .agg cs=>oG (vS n) cs
 | .du _ a b=>oG (vS n) a&&oG (vS n) b
 |x=>vS n x
def Hb(n:Nat)(x:AV):Bool:=
 match x with
 | .ep cs=>oG (mW n) cs
 |x=>mW n x
def Ly(n:Nat)(b:ed):Bool:=
 match b with
 | .var _ cs=>oG (mW n) cs
 | .row _ xs=>oG (oG (mW n)) xs
 | .map _ _ _ es=>oG (λe=>mW n e.1&&mW n e.2) es
 | .loop _ env _ _=>oG (λp=>mW n p.2) env
 | .G9 =>true
 | .dead =>true
 | .eN _ _=>false
section
variable {w:World} {F:bT} {ρ:bY} {n:Nat}
def E5{l:List α}{n id:Nat}(bA:Nat.ble (Nat.succ id) n=true){x:α}(h:l[id]?=some x):(l.take n)[id]?=some x:=by
 have:=tL bA;rw [nV,if_pos (by omega)];exact h
def aY.vS{K:TypeId->dZ}{x:AV}{v:Value}(h:aY K ρ F w x v)(hb:vS n x=true):aY K (ρ.take n) F w x v:=by
 cases h<;>simp only [az.vS,lg]at hb<;>first
  |exact .top _
  |exact .int _ _
  |exact .bool _
  |exact .str _
  |exact .iw
  |exact .gE
  |exact .jP
  |exact .lG
  |exact .jF _ _
  |skip
 ·rename_i id i off hd g o m c bA hv;exact .ptr id i off hd g o m c (E5 hb bA) hv
 ·rename_i id hd bA;exact .aA id hd (E5 hb bA)
 ·rename_i id hd g bA hv;exact .ik id hd g (E5 hb bA) hv
 ·rename_i id hd bA;exact .mp id hd (E5 hb bA)
 ·rename_i id m hd g o k c cap bA hv;exact .kU id m hd g o k c cap (E5 hb bA) hv
 ·rename_i id lo m hd g o k c cap bA hv hc jq;exact .vw id lo m hd g o k c cap (E5 hb bA) hv hc jq
 ·exact .sK _ _
 ·exact .sJ _ _ _ _
def dt.bd{K:TypeId->dZ}{xs:bp}{vs:fA}(h:dt K ρ F w xs vs){f:AV->Bool}(hf:∀{x v},aY K ρ F w x v->f x=true->aY K (ρ.take n) F w x v)(hb:oG f xs=true):dt K (ρ.take n) F w xs vs:=
 ⟨h.1,λj x v hx hv=>hf (h.2 j x v hx hv) (BO hb x (mD hx))⟩
def aY.mW{K:TypeId->dZ}{x:AV}{v:Value}(h:aY K ρ F w x v)(hb:mW n x=true):aY K (ρ.take n) F w x v:=by
 unfold az.mW at hb;split at hb
 ·cases h with
  |agg cs vs hl hc=>exact .agg _ _ hl (dt.bd (vs:=vs) ⟨hl,hc⟩ (λh hb=>aY.vS h hb) hb).2
 ·rw [bS]at hb;cases h with
  |du f a b vf vc hf hc h1 h2=>exact .du _ _ _ _ _ hf hc (dt.bd (vs:=vf) ⟨hf,h1⟩ (λh hb=>aY.vS h hb) hb.1).2 (dt.bd (vs:=vc) ⟨hc,h2⟩ (λh hb=>aY.vS h hb) hb.2).2
 ·exact h.vS hb
def aY.Hb{K:TypeId->dZ}{x:AV}{v:Value}(h:aY K ρ F w x v)(hb:Hb n x=true):aY K (ρ.take n) F w x v:=by
 unfold az.Hb at hb;split at hb
 ·cases h with
  |ep cs vs hl hc=>exact .ep _ _ hl (dt.bd (vs:=vs) ⟨hl,hc⟩ (λh hb=>aY.mW h hb) hb).2
 ·exact h.mW hb
def aCy{env:cV}(hb:oG (λp=>mW n p.2) env=true)(t:Nat):look env t= .top ∨mW n (look env t)=true:=by
 induction env with
 |nil=>exact .inl rfl
 |cons p env ih=>
  have h1:=BO hb p fL;have h2:oG (λp:Nat×AV=>mW n p.2) env=true:=by
   have h':Bool.rec (motive:=λ_=>Bool) false (oG (λp:Nat×AV=>mW n p.2) env) (mW n p.2)=true:=hb;rw [h1]at h';exact h'
  obtain⟨u,x⟩:=p;rw [pN];split
  ·exact .inr h1
  ·exact ih h2
def jV.bd{hd:Hd}{b:ed}(h:jV X ρ F w hd b)(hb:Ly n b=true):jV X (ρ.take n) F w hd b:=by
 cases b with
 |var ks cs=>
  obtain⟨h1,h2,g,cur,e,h3,h4,h5,h6⟩:=h;exact⟨h1,h2,g,cur,e,h3,h4,h5.bd (λh hb=>aY.mW h hb) hb,h6⟩
 |row t xs=>
  obtain⟨h1,h2,h3⟩:=h;refine⟨h1,h2,?_⟩;rcases h3 with h3|⟨g,o,c,cur,e1,e2,e3,e4,e5,e6⟩
  ·exact .inl h3
  ·refine .inr ⟨g,o,c,cur,e1,e2,e3,e4,e5,λi row hi j x hx=> ?_⟩;obtain⟨v,hv,hr⟩:=e6 i row hi j x hx;exact⟨v,hv,hr.mW (BO (BO hb row (mD hi)) x (mD hx))⟩
 |map kd ag ks es=>
  obtain⟨h0,g,mes,clock,h1,h2,h3,h4⟩:=h;refine⟨h0,g,mes,clock,h1,h2,h3,λi e me he hm=> ?_⟩;obtain⟨h5,h6,h7⟩:=h4 i e me he hm;have:=BO hb e (mD he);rw [bS]at this;exact⟨h5,h6.mW this.1,h7.mW this.2⟩
 |loop s env busy wQ=>
  obtain⟨g,lp,h1,h2,h3,h4,h5,h6,h7,h8⟩:=h;refine⟨g,lp,h1,h2,h3,h4,h5,h6,λt=> ?_,h8⟩;rcases aCy hb t with e|e
  ·rw [e];exact .top _
  ·exact(h7 t).mW e
 |G9=>exact h
 |eN t xs=>simp [Ly]at hb
 |dead=>trivial
def Fb(X:Cx):Prop:=∀(g:Nat) {ρ ρ':bY} {F:bT} {w:World} {v:Value},aY X.K ρ F w (X.fT g) v->aY X.K ρ' F w (X.fT g) v
def Inv.cut(hG:Fb X){w0:World}{S:Sc}(hI:Inv X w0 S F ρ M w)(hb:oG (Ly n) (M.take n)=true):Inv X w0 S F (ρ.take n) (M.take n) w:=by
 have tk:∀{α:Type} {l:List α} {i:Nat} {x:α},(l.take n)[i]?=some x->l[i]?=some x:=by
  intro α l i x h;rw [nV]at h;split at h
  ·exact h
  ·exact bh
 exact{
  os:=hI.os,tape:=hI.tape,output:=hI.output,size:=hI.size,frame:=hI.frame
  len:=by rw [oT,oT,hI.len]
  rep:=λid b hd h1 h2=>(hI.rep id b hd (tk h1) (tk h2)).bd (BO hb b (mD h1))
  sep:=λid b hd g h1 h2 h3=>hI.sep id b hd g (tk h1) h2 (tk h3)
  iN:=λid id' b b' hd dC g eD h1 h2 h3 h4 h5 h6=>hI.iN id id' b b' hd dC g eD (tk h1) (tk h2) h3 h4 (tk h5) (tk h6)
  fz:=hI.fz
  fT:=λg=>hG g (hI.fT g)
  one:=λid hd h=>hI.one id hd (tk h)
  fV:=hI.fV,fin:=hI.fin}
def lh.cut(hG:Fb X){f:FuncId}{args:bp}{M M':aW}{x:AV}(h:lh X f args M x M')(hx:Hb M.length x=true)(hb:oG (Ly M.length) (M'.take M.length)=true):lh X f args M x (M'.take M.length):=by
 refine⟨h.1,λ{w0 S F ρ w vs} hI hr=>(h.2 hI hr).mono ?_⟩;rintro e w' ⟨v,ρ',F',rfl,dG,hg,nM⟩;refine⟨v,ρ'.take M.length,F',rfl,dG.cut hG hb,⟨hg.hF,λid hd hh=> ?_,hg.hb⟩,nM.Hb hx⟩;have cF:id<ρ.length:=(eU.1 hh).1;rw [hI.len]at cF;rw [nV,if_pos cF];exact hg.gG id hd hh
end
def aaN(n:Nat)(x:AV)(M:aW)(k:aW->Option R):Option R:=
 match Nat.beq n M.length with
 |true=>k M
 |false=>rP (λb k=>k b) (M.take n) λM1=>match Hb n x&&oG (Ly n) M1 with|true=>k M1|false=>k M
def aAU(hG:Fb X){f:FuncId}{M':aW}{x:AV}(h:lh X f args M x M'){k:aW->Option R}(hk:aaN M.length x M' k=some r):∃M2,lh X f args M x M2∧k M2=some r:=by
 unfold aaN at hk;split at hk
 ·exact⟨M',h,hk⟩
 ·rw [sg (λ_ _=>rfl)]at hk;split at hk
  ·rename_i hb;rw [bS]at hb;exact⟨_,h.cut hG hb.1 hb.2,hk⟩
  ·exact⟨M',h,hk⟩
section
variable {w:World} {F:bT} {ρ:bY}
end
structure SI where
 s:Nat
 f:Nat
 p:Nat
variable{Ss:List SI}
def Pf:List SI->Nat->Nat->Option Nat
 | [],_,_=>none
 |e::es,f,p=>match Nat.beq f e.f&&Nat.beq p e.p with|true=>some e.s|false=>Pf es f p
def Pe:List SI->Nat->Option (Nat×Nat)
 | [],_=>none
 |e::es,s=>match Nat.beq s e.s with|true=>some (e.f,e.p)|false=>Pe es s
def codeF(I:List (Nat×FI))(f:Nat):Code:=match zS I f with|some fi=>fi.c|none=> .skip
def AK(I:List (Nat×FI))(f:Nat):Nt:=match zS I f with|some fi=>fi.nt|none=>⟨0,0⟩
def C7(X:Cx)(I:List (Nat×FI))(e:SI):Prop:=∃g,At (codeF I e.f) e.p (.rangeFunc g (X.site e.s).params (X.site e.s).assign (X.site e.s).body)∧(X.site e.s).nt =(AK I e.f).n
def LA(X:Cx)(I:List (Nat×FI))(Ss:List SI)(rounds:Nat):Nat->Nat->kc R
 |0,f=>⟨⟨AK I f,λ_ _ _=>none,λ_ _ _ _=>none,GL⟩,λ_ _ _=>none,λ_ _ _=>none,λ_=>none⟩
 |n+1,f=>⟨⟨AK I f,λ_ _ M=>some (List.range M.length),
   λg args M k=>rP zh args λargs=>match zS I g with
    |some fi=>qm M.length λm=>yD X (LA X I Ss rounds n g) fi.c fi.rs args M λx M'=>uz x λx=>aaN m x M' λM'=>aP (Nat.ble m M'.length) (k x M')
    |none=>none,
   λid args M k=>rP zh args λargs=>match gm M id with
    |some (.loop s _ _ _)=>(match Pe Ss s with
     |some (f',p)=>Fh X (LA X I Ss rounds n f') s p id args M k
     |none=>none)
    |_=>none⟩,
  λp st k=>match Qc (codeF I f) p with
   |some (.loop c)=>IV X (LA X I Ss rounds n f) c (2*p) rounds st k
   |_=>none,
  λp st k=>match Pf Ss f p,Qc (codeF I f) p with
   |some s,some (.rangeFunc g _ _ _)=>O5 X (LA X I Ss rounds n f).gY s (List.range (AK I f).n) g st k
   |_,_=>none,
  λ_=>none⟩
def aAA(h:iE (C7 X I) Ss)(hs:Pf Ss f p=some s):C7 X I ⟨s,f,p⟩:=by
 induction Ss with
 |nil=>cases hs
 |cons e es ih=>
  simp only [Pf]at hs;cases hb:Nat.beq f e.f&&Nat.beq p e.p with
  |true=>
   rw [hb]at hs;injection hs with hs;rw [bS]at hb;have h1:=dE hb.1;have h2:=dE hb.2;subst h1;subst h2;subst hs;exact h.1
  |false=>rw [hb]at hs;exact ih h.2 hs
def aAz(h:iE (C7 X I) Ss)(hs:Pe Ss s=some (f,p)):C7 X I ⟨s,f,p⟩:=by
 induction Ss with
 |nil=>cases hs
 |cons e es ih=>
  simp only [Pe]at hs;cases hb:Nat.beq s e.s with
  |true=>
   rw [hb]at hs;injection hs with hs;injection hs with h1 h2;have h3:=dE hb;subst h1;subst h2;subst h3;exact h.1
  |false=>rw [hb]at hs;exact ih h.2 hs
def JQ(n f:Nat):(LA (R:=R) X I Ss rounds n f).gY.nt =AK I f:=by cases n<;>rfl
def ag0(hX:X.Okb)(hI:iE (λe=>C8 X e.1 e.2) I){n:Nat}(hf:zS I f=some fi)(hL:(LA (R:=R) X I Ss rounds n f).Ok X (codeF I f))
   {k:AV->aW->Option R}  (h:yD X (LA X I Ss rounds n f) fi.c fi.rs args M k=some r):∃x M',lh X f args M x M'∧k x M'=some r:=by
 obtain⟨fn,h1,h2,h3,h4,h5⟩:=aBp hI hf;have hc:codeF I f=fi.c:=by unfold codeF;rw [hf]
 rw [hc]at hL;refine N1 hX hL h1 h2 ?_ h5 h4 h;rw [JQ,h3];show fi.nt.n=(AK I f).n;unfold AK;rw [hf]
def JP(hX:X.Okb)(hG:Fb X){I:List (Nat×FI)}(hI:iE (λe=>C8 X e.1 e.2) I){Ss:List SI}(hS:iE (C7 X I) Ss){rounds:Nat}:∀(n f:Nat),(LA (R:=R) X I Ss rounds n f).Ok X (codeF I f)
 |0,f=>⟨⟨λ{_ _ _ _ _} h=>(bh),λ{_ _ _ _ _} h=>(bh)⟩,λ{_ _ _ _ _} _ h=>(bh),λ{_ _ _ _ _ _ _ _} _ h=>(bh),λ{_ _ _ _ _ _} _ h _=>(bh)⟩
 |n+1,f=>by
  refine⟨⟨λ{g args M k r} h=> ?_,λ{id args M k r} h=> ?_⟩,λ{p c st k r} eM h=> ?_,λ{p g ps x y st k r} eM h=> ?_,λ{p c f' st k r} eM h hk=> ?_⟩
  ·simp only [LA]at h;rw [sg Cb]at h;split at h
   ·rename_i fi xb;rw [P8]at h;obtain⟨x,M0,h1,h2⟩:=ag0 hX hI xb (JP hX hG hI hS n g) h;rw [P9]at h2;obtain⟨M',h1,h2⟩:=aAU hG h1 h2;replace h2:=di h2;obtain⟨hle,h2⟩:=h2;refine⟨x,M',h1,h2,λids hi=> ?_⟩;exact ajg
   ·exact bh
  ·simp only [LA]at h;rw [sg Cb]at h;split at h
   ·rename_i s _ _ _ _;split at h
    ·rename_i f' p hsb;obtain⟨g,eM,y8⟩:=aAz hS hsb;exact adP hX (JP hX hG hI hS n f') eM h
    ·exact bh
   ·exact bh
  ·simp only [LA]at h;split at h
   ·rename_i c' hc;have:=afz hc eM;injection this with this;subst this;obtain⟨e,bl,hk,hr⟩:=VO hX (JP hX hG hI hS n f) eM rounds h;refine⟨e,bl,λ{rdc n' w0 S F ρ a w Q} dG hs hq=>Xg rounds (hr dG ?_ ?_),hk⟩
    ·rw [JQ]at hs⊢;exact hs
    ·intro a' w' F' ρ' h1 h2 h3;refine hq a' w' F' ρ' h1 ?_ h3;rw [JQ]at h2⊢;exact h2
   ·exact bh
  ·simp only [LA]at h;split at h
   ·rename_i s g' mQ x' y' hs hc;have pF:=afz hc eM;injection pF with e1 e2 e3 e4;subst e1;subst e2;subst e3;subst e4;obtain⟨g2,aNa,y8⟩:=aAA hS hs;obtain⟨l,eZ,fP⟩:=aNa;have:=eM.det l eZ;rw [fP]at this;injection this with this;injection this with e1 e2 e3 e4;have yb:X.site s=⟨(LA (R:=R) X I Ss rounds n f).gY.nt.n,mQ,x',y'⟩:=by
     rw [JQ];show X.site s=⟨(AK I f).n,mQ,x',y'⟩;rw [<-y8,<-e2,<-e3,<-e4]
    obtain⟨e,bl,h1,h2⟩:=adQ hX (JP hX hG hI hS n f).gY yb h;refine⟨e,bl,?_,h2⟩;rw [JQ]at h1⊢;exact h1
   ·exact bh
  ·simp only [LA]at h;exact bh
def asB(o:Option Bool):Bool:=match o with|some b=>b|none=>false
def kB(x:AV)(_:aW):Option Bool:=match x with| .bool b=>some b|_=>none
def aAp(hX:X.Okb)(hG:Fb X)(hI:iE (λe=>C8 X e.1 e.2) I)(hS:iE (C7 X I) Ss){n:Nat}(hf:zS I f=some fi)
 (h:asB (yD X (LA X I Ss rounds n f) fi.c fi.rs [] [] kB)=true):lh X f [] [] (.bool true) []:=by
 unfold asB at h;split at h
 ·rename_i b hb;subst h;obtain⟨x,M',h1,h2⟩:=ag0 hX hI hf (JP hX hG hI hS n f) hb;unfold kB at h2;split at h2
  ·injection h2 with h2;subst h2;have:=h1.cut hG (x:= .bool true) rfl (by rw [sb,Xs];rfl)
   rwa [sb,Xs]at this
  ·cases h2
 ·cases h
def lh.aD1(hP:Y.P=X.P)(hG:∀g,Y.fT g= .top){f:FuncId}(h:lh Y f [] [] (.bool true) [])(M:aW):lh X f [] M (.bool true) M:=by
 refine⟨by rw [<-hP];exact h.1,λ{w0 S F ρ w vs} hI hr=> ?_⟩;have aar:vs=[]:=BL (show vs.length=0 from by have:=hr.1;simp only [sb]at this;omega);subst aar;have hi:Inv Y w ⟨λ_=>False,F⟩ F [] [] w:={
  os:=rfl,tape:=rfl,output:=rfl,size:=gz _,frame:=λ_ _ _=>rfl,len:=rfl
  rep:=λid b hd hb _=>B2
  sep:=λid b hd g hb _ _ _=>B2
  iN:=λid id' b b' hd dC g _ hb _ _ _ _ _ _=>B2
  fz:=hI.fz,fT:=λg=>by rw [hG g];exact .top _
  one:=λid hd hh=>by simp at hh
  fV:=λa ha=> .inl ha,fin:=λa ha=>ha}
 have h2:=h.2 hi (vs:=[]) ⟨rfl,λj x v hx=>wk⟩;rw [hP]at h2;refine h2.mono ?_;rintro e w' ⟨v,ρ',F',rfl,dG,hg,hv⟩;have mU:∀g,g<w.heap.size->w'.heap[g]?=w.heap[g]?:=λg cF=>dG.frame g cF (λh=>h);refine⟨v,ρ,F',rfl,?_,⟨hg.hF,λ_ _ h=>h,hg.hb⟩,by cases hv;exact .bool _⟩;exact{
  os:=dG.os.trans hI.os,tape:=dG.tape.trans hI.tape,output:=dG.output.trans hI.output,size:=nW hI.size dG.size
  frame:=λg cF hn=>(mU g (pR cF hI.size)).trans (hI.frame g cF hn)
  len:=hI.len
  rep:=λid b hd h1 h2=>by
   cases dC:b.iB with
   |true=>exact(hI.rep id b hd h1 h2).N9 (λ_ _ h=>h) hg.hF hg.hw dC
   |false=>exact(hI.rep id b hd h1 h2).mono (λ_ _ h=>h) hg.hF hg.hw (λg dQ=>mU g (hI.sep id b hd g h1 dC h2 dQ).1)
  sep:=λid b hd g h1 h2 h3 h4=>by
   obtain⟨s1,s2,s3⟩:=hI.sep id b hd g h1 h2 h3 h4;refine⟨pR s1 dG.size,s2,λa ha=> ?_⟩;rcases dG.fV a ha with h|h|h
   ·exact s3 a h
   ·exact h.elim
   ·intro e;omega
  iN:=hI.iN
  fz:=dG.fz
  fT:=λg=>(hI.fT g).mono (λ_ _ h=>h) hg.hF hg.hw
  one:=hI.one
  fV:=λa ha=>by
   rcases dG.fV a ha with h|h|h
   ·exact hI.fV a h
   ·exact h.elim
   ·exact .inr (.inr (nW hI.size h))
  fin:=λa ha=>hg.hF a (hI.fin a ha)}
def kce{R:Type}(f:FuncId):CE R:=⟨f,λ_ _=>true,λ_ _=>some [],λargs M k=>match args with| []=>k (.bool true) M|_=>none⟩
def aDA{R:Type}(hP:Y.P=X.P)(hG:∀g,Y.fT g= .top){f:FuncId}(h:lh Y f [] [] (.bool true) []):sH X (kce (R:=R) f):=by
 intro args M k r hr;cases args with
 |cons a b=>cases hr
 |nil=>exact⟨_,_,h.aD1 hP hG M,hr,λids hi=>dR.refl _ _⟩
end
end Go.az

/-
  The engine, part Ac: what is read of the arguments, as abstract values; from a function's contract to a law's row.
-/
import Derived.Test.YtomkobcipaligaaGreatDoorW1
import Derived.LoopNIn
import Derived.RangeFuncLeaves
import Derived.RangeFuncNested
import Derived.ProofKit
import Derived.OpenShut
import Derived.Carry
import Derived.ChangeArms
set_option linter.all false
set_option linter.deprecated false
set_option maxHeartbeats 4000000
namespace Go.aj
def DA{p:Prop}(h:p:=by exact⟨y,h,λM' _ k'=>by unfold sO;simp only [ho];exact hd _ _⟩):p:=h
def am2{p:Prop}(h:p:=by
 rename_i hb;replace h:=cO h;obtain⟨e,h⟩:=h;split at h
 ·rename_i U;exact⟨_,h,λM' hM R' k'=>by have hm:=hM id (by simp [zN]);simp only [fR,yE,hm,hb,U,e,bf]⟩
 ·rename_i U;replace h:=cO h;obtain⟨e2,h⟩:=h;exact⟨_,h,λM' hM R' k'=>by have hm:=hM id (by simp [zN]);simp only [fR,yE,hm,hb,U,e,e2,bf]⟩):p:=h
def abO{p:Prop}(h:p:=by
 rename_i hb;replace h:=cO h;obtain⟨e2,h⟩:=h;exact⟨_,h,λM' hM R' k'=>by have hm:=hM id (by simp [pb]);simp only [fR,A1,U,h2,hm,hb,e,e2,bf]⟩):p:=h
def Tu{p:Prop}(h:p:=by
 rename_i U h2;exact⟨_,h,λM' _ R' k'=>by simp only [Ac,U,h2]⟩):p:=h
def amH{p:Prop}(h:p:=by
 obtain⟨y,h,hd⟩:=YU h;exact⟨y,h,λM' hM R' k'=>by unfold Bd;have hm:=hM id (by simp [Gb]);simp only [fR,U,h2,h3,h4,hm,hb,h5,h6,h7,bf];exact hd R' k'⟩):p:=h
def alE{p:Prop}(h:p:=by
 rename_i hc;simp only [hc]at h;obtain⟨y,h,hd⟩:=aB4 _ _ h;exact⟨y,h,λM' _ k'=>by unfold sO;simp only [ho,hc];exact hd _ _⟩):p:=h
def abh{p:Prop}(h:p:=by exact⟨y,h,λM' hM k'=>by unfold sO;simp only [ho];exact hd M' hM _ _⟩):p:=h
def alw{p:Prop}(h:p:=by
 replace h:=cO h;obtain⟨e2,h⟩:=h;exact⟨_,h,λM' _ R' k'=>by simp only [fR,A1,U,h2,e,e2,bf]⟩):p:=h
def FR{p:Prop}(h:p:=by exact⟨_,h,λR' k'=>rfl⟩):p:=h
def alr{p:Prop}(h:p:=by
 rename_i z hz;injection h with h;injection h with h3 h4;subst h3;subst h4;exact⟨rfl,λM2=>by simp only [hz]⟩):p:=h
def rX{p:Prop}(h:p:=by cases hq):p:=h
def ak3{p:Prop}(h:p:=by
 rename_i U h2;obtain⟨b,h,hd⟩:=aAY h;exact⟨_,h,λR' k'=>hd _ _⟩):p:=h
def akE{p:Prop}(h:p:=by
 rename_i cs h3;exact⟨_,h,λR' k'=>by simp only [U,h2,h3,e1,bf]⟩):p:=h
def akC{p:Prop}(h:p:=by exact⟨_,h,λM' _ R' k'=>by simp only [fR,A1,U,h2,e,bf]⟩):p:=h
def aaY{p:Prop}(h:p:=by unfold sO;simp only [ho]):p:=h
def akh{p:Prop}(h:p:=by
 rename_i U h2;exact⟨_,h,λR' k'=>by simp only [U,h2]⟩):p:=h
def aj4{p:Prop}(h:p:=by exact⟨_,h,λM' _ k'=>by unfold sO;simp only [ho,hc]⟩):p:=h
def ajF{p:Prop}(h:p:=by exact⟨_,h,λR' k'=>by simp only [U,h2,h3,e,bf]⟩):p:=h
end Go.aj
namespace Go.aj
open Go
noncomputable section
variable {X:Cx} {R R':Type} {M M':aF}
variable{i x:AV}{k:AV->Option R}{ps:Array (Nat×Operand)}{ok:Bool}{n:Nat}{o:Oper}{e:Operand->AV}{hi lo:Option AV}{r:R}{T:j0 R}{T':j0 R'}{t:TypeId}{ids:dx}
def AT(f:(R:Type)->(AV->Option R)->Option R):Prop:=∀{R:Type} {k:AV->Option R} {r:R},f R k=some r->∃y,k y=some r/\∀(R':Type) (k':AV->Option R'),f R' k'=k' y
def aAY{k:Bool->Option R}(h:DH x k=some r):∃b,k b=some r/\∀(R':Type) (k':Bool->Option R'),DH x k'=k' b:=by
 unfold DH at h;split at h
 ·exact FR
 ·exact FR
 ·split at h
  ·exact aD
  ·rename_i he;exact⟨_,h,λR' k'=>by simp only [DH,he]⟩
 ·exact aD
def aB5(op:BinOp)(t:TypeId)(x y:AV):AT λ_ k=>NF X op t x y k:=by
 intro R k r h;simp only [NF]at h⊢;split at h
 ·rename_i kx a ky b;cases op<;>simp only at h⊢<;>first
   |(replace h:=cO h;obtain⟨e,h⟩:=h
     first
      |(exact⟨_,h,λR' k'=>by simp only [e,bf]⟩)
      |(replace h:=cO h;obtain⟨e2,h⟩:=h
        exact⟨_,h,λR' k'=>by simp only [e,e2,bf]⟩)
      |(cases h))
   |cases h
 ·rename_i a b;split at h
  ·exact akh
  ·exact akh
  ·exact aD
 ·rename_i xs ys;split at h
  ·rename_i fs U h2 h3;split at h
   ·exact aD
   ·rename_i bb Vp;split at h
    ·exact⟨_,h,λR' k'=>by simp only [U,h2,h3,Vp]⟩
    ·exact⟨_,h,λR' k'=>by simp only [U,h2,h3,Vp]⟩
    ·exact aD
  ·exact aD
 ·split at h
  ·exact ak3
  ·exact ak3
  ·exact aD
 ·exact aD
def aC9(op:UnOp)(x:AV):AT λ_ k=>UF op x k:=by
 intro R k r h;simp only [UF]at h⊢;split at h
 ·exact FR
 ·exact FR
 ·exact aD
def aAZ(s d:TypeId)(x:AV):AT λ_ k=>Td X s d x k:=by
 intro R k r h;simp only [Td]at h⊢;split at h
 ·rename_i U h2 h3;exact⟨_,h,λR' k'=>by simp only [U,h2,h3]⟩
 ·exact aD
def aB3(x:AV):AT λ_ k=>Rf x k:=by
 intro R k r h;simp only [Rf]at h⊢;split at h
 ·exact FR
 ·exact FR
 ·exact FR
 ·exact aD
def axZ(t:TypeId)(x:AV)(f:Nat):AT λ_ k=>Mb X t x f k:=by
 intro R k r h;simp only [Mb]at h⊢;split at h
 ·rename_i fs U h2;split at h
  ·rename_i off ft h3;replace h:=cO h;obtain⟨e,h⟩:=h;split at h
   ·exact ajF
   ·exact ajF
   ·exact aD
  ·exact aD
 ·exact aD
def aii(t:TypeId)(cs:ak)(off:Nat):AT λ_ k=>Jp X t cs off k:=by
 intro R k r h;simp only [Jp]at h⊢;replace h:=cO h;obtain⟨e,h⟩:=h;split at h
 ·rename_i U;exact⟨_,h,λR' k'=>by simp only [U,e,bf]⟩
 ·rename_i U;replace h:=cO h;obtain⟨e2,h⟩:=h;exact⟨_,h,λR' k'=>by simp only [U,e,e2,bf]⟩
def azV(t:TypeId)(x:AV)(f:Nat):AT λ_ k=>MJ X t x f k:=by
 intro R k r h;simp only [MJ]at h⊢;split at h
 ·rename_i fs cs U h2;split at h
  ·rename_i off ft h3;obtain⟨y,h,hd⟩:=aii _ _ _ h;exact⟨y,h,λR' k'=>hd R' k'⟩
  ·exact aD
 ·exact aD
def azU(t:TypeId)(x i:AV):AT λ_ k=>MI X t x i k:=by
 intro R k r h;simp only [MI]at h⊢;split at h
 ·rename_i len e cs kk n U h2;replace h:=cO h;obtain⟨e1,h⟩:=h;obtain⟨y,h,hd⟩:=aii _ _ _ h;exact⟨y,h,λR' k'=>by simp only [U,h2,e1,bf];exact hd R' k'⟩
 ·rename_i U h2;replace h:=cO h;obtain⟨e1,h⟩:=h;split at h
  ·exact aD
  ·rename_i b hb;exact⟨_,h,λR' k'=>by simp only [U,h2,e1,hb,bf]⟩
 ·exact aD
def azW(t:TypeId)(ps:bL):AT λ_ k=>MK X t ps k:=by
 intro R k r h;simp only [MK]at h⊢;split at h
 ·rename_i fs U h2;replace h:=cO h;obtain⟨e1,h⟩:=h;split at h
  ·exact akE
  ·exact aD
 ·rename_i n e U h2;replace h:=cO h;obtain⟨e1,h⟩:=h;split at h
  ·exact akE
  ·exact aD
 ·exact aD
def aB4(f:Int->Int->Int)(xs:ak):AT λ_ k=>DI f xs k:=by
 intro R k r h;simp only [DI]at h⊢;split at h
 ·split at h
  ·rename_i U;exact⟨_,h,λR' k'=>by simp only [U]⟩
  ·exact aD
 ·exact aD
def aAq{p:AV}(h:yE X t p M k=some r):∃y,k y=some r/\∀(M':aF),(∀id∈zN p,M'[id]?=M[id]?)->∀(R':Type) (k':AV->Option R'),yE X t p M' k'=k' y:=by
 unfold yE at h;simp only [fR]at h;split at h
 ·replace h:=cO h;obtain⟨e,h⟩:=h;split at h
  ·rename_i U;exact⟨_,h,λM' _ R' k'=>by simp only [fR,yE,U,e,bf]⟩
  ·rename_i U;replace h:=cO h;obtain⟨e2,h⟩:=h;exact⟨_,h,λM' _ R' k'=>by simp only [fR,yE,U,e,e2,bf]⟩
 ·rename_i id i off;split at h
  ·exact am2
  ·exact am2
  ·exact aD
 ·exact aD
def axA(h:A1 X t x i M k=some r):∃y,k y=some r/\∀(M':aF),(∀id∈pb x,M'[id]?=M[id]?)->∀(R':Type) (k':AV->Option R'),A1 X t x i M' k'=k' y:=by
 unfold A1 at h;simp only [fR]at h;split at h
 ·split at h
  ·rename_i U h2;replace h:=cO h;obtain⟨e,h⟩:=h;split at h
   ·exact alw
   ·rename_i id;split at h
    ·exact abO
    ·exact abO
    ·exact aD
   ·exact alw
   ·rename_i id lo m;split at h
    ·exact abO
    ·exact aD
   ·exact aD
  ·rename_i U h2;replace h:=cO h;obtain⟨e,h⟩:=h;split at h
   ·exact akC
   ·exact akC
   ·exact aD
  ·exact aD
 ·exact aD
def agb(h:∀id∈pb x,M'[id]?=M[id]?):rowsOf M' x=rowsOf M x:=by
 cases x<;>simp only [fR,rowsOf]
 ·rename_i id;rw [h id (by simp [pb])]
 ·rename_i id lo m;rw [h id (by simp [pb])]
def ayL{e:TypeId}(U:(X.ti t).ok =true)(h2:(X.ti t).u = .slice e)(hx:∀id m,x≠ .oy id m)(hx2:∀id lo m,x≠ .vw id lo m):Ac X t x M k=match rowsOf M x with|some (_,xs)=>k (.int .i64 xs.length)|none=>none:=by
 cases x<;>first
  |exact absurd rfl (hx _ _)
  |exact absurd rfl (hx2 _ _ _)
  |(unfold Ac;simp only [U,h2];rfl)
  |(unfold Ac;simp only [U,h2];generalize rowsOf M _=o;cases o<;>rfl)
def Sf(h:Ac X t x M k=some r):∃y,k y=some r/\∀(M':aF),(∀id∈pb x,M'[id]?=M[id]?)->∀(R':Type) (k':AV->Option R'),Ac X t x M' k'=k' y:=by
 unfold Ac at h;split at h
 ·exact Tu
 ·exact Tu
 ·exact Tu
 ·exact Tu
 ·rename_i e U h2 iY aKA;split at h
  ·rename_i o xs hr;refine⟨_,h,λM' hM R' k'=> ?_⟩;have:=agb (M:=M) (M':=M') hM;rw [ayL U h2 iY aKA,this,hr]
  ·exact aD
 ·exact aD
def azM{mx:Option AV}{k:AV->aF->Option R}(hx:pb x=[])(h:Dj X t x lo hi mx M k=some r):
 ∃y,k y M=some r/\∀(M':aF) (R':Type) (k':AV->aF->Option R'),Dj X t x lo hi mx M' k'=k' y M':=by
 have jx:∀M',rowsOf M' x=rowsOf M x:=λM'=>agb (by rw [hx];simp);unfold Dj at h;simp only [fR]at h;split at h
 ·rename_i e U h2;split at h
  ·rename_i o xs h3;split at h
   ·rename_i l hh m h4 h5 h6;replace h:=cO h;obtain⟨h7,h⟩:=h;split at h
    ·replace h:=cO h;obtain⟨h8,h⟩:=h;exact⟨_,h,λM' R' k'=>by unfold Dj;simp only [fR,U,h2,jx M',h3,h4,h5,h6,h7,h8,bf]⟩
    ·exact⟨_,h,λM' R' k'=>by unfold Dj;simp only [fR,U,h2,jx M',h3,h4,h5,h6,h7,bf]⟩
    ·simp [pb]at hx
    ·exact aD
   ·exact aD
  ·exact aD
 ·cases h
def aAp(h:F5 X t x lo hi M k=some r):∃y,k y=some r/\∀(M':aF),(∀id∈pb x,M'[id]?=M[id]?)->∀(R':Type) (k':AV->Option R'),F5 X t x lo hi M' k'=k' y:=by
 unfold F5 at h;simp only [fR]at h;split at h
 ·rename_i id;split at h
  ·rename_i U h2;split at h
   ·rename_i hb;split at h
    ·rename_i h3 h4;replace h:=cO h;obtain⟨e,h⟩:=h;exact⟨_,h,λM' hM R' k'=>by have hm:=hM id (by simp [pb]);simp only [fR,F5,U,h2,hm,hb,h3,h4,e,bf]⟩
    ·exact aD
   ·exact aD
  ·exact aD
 ·exact aD
def YU{et:TypeId}{o:Option AV}(h:zW X et ok k o=some r):∃y,k y=some r/\∀(R':Type) (k':AV->Option R'),zW X et ok k' o=k' y:=
 ⟨_,ag3 h,λR' k'=>by cases o<;>cases ok<;>rfl⟩
def azg(h:Bd X t x i ok M k=some r):∃y,k y=some r/\∀(M':aF),(∀id∈Gb x,M'[id]?=M[id]?)->∀(R':Type) (k':AV->Option R'),Bd X t x i ok M' k'=k' y:=by
 unfold Bd at h;simp only [fR]at h;split at h
 case h_2=>cases h
 rename_i kt et U h2;split at h
 case h_2=>cases h
 rename_i kd h3;replace h:=cO h;obtain⟨h4,h⟩:=h;cases x<;>simp only at h<;>try (cases h;done)
 case pI=>
  obtain⟨y,h,hd⟩:=YU h;exact⟨y,h,λM' _ R' k'=>by unfold Bd;simp only [fR,U,h2,h3,h4,bf];exact hd R' k'⟩
 case mp id=>
  split at h
  case h_2=>cases h
  rename_i y9 ag ks es hb;replace h:=cO h;obtain⟨h5,h⟩:=h;split at h
  ·rename_i h6;split at h
   ·rename_i y' h7;exact amH
   ·rename_i h7;exact amH
  ·rename_i h6;rw [Rl]at h;obtain⟨y,h,hd⟩:=YU h;exact⟨y,h,λM' hM R' k'=>by unfold Bd;have hm:=hM id (by simp [Gb]);simp only [fR,U,h2,h3,h4,hm,hb,h5,h6,bf,Rl];exact hd R' k'⟩
def Bc(X:Cx)(e:Operand->AV)(o:Oper):Option dx:=
 match o.op with
 | .move _=>some []
 | .assign _=>some []
 | .pick _ _ _=>some []
 | .binOp _ _ _ _ _=>some []
 | .unOp _ _ _=>some []
 | .convert s d _=>(match JU X s d with|true=>none|false=>some [])
 | .fieldAddr _ _ _=>some []
 | .field _ _ _=>some []
 | .index _ _ _=>some []
 | .extract _ _=>some []
 | .makeFunc _ _ _=>some []
 | .nilCheck _=>some []
 | .build _ _=>some []
 | .load _ x=>some (zN (e x))
 | .indexAddr _ x _=>some (pb (e x))
 | .slice _ x _ _ mx=>match acs X o (e x) mx with|true=>some (pb (e x))|false=>match pb (e x)with| []=>some []|_=>none
 | .call c=>
   match c.callee with
   | .builtin .len =>some (c.args.toList.flatMap λx=>pb (e x))
   | .builtin .min =>some []
   | .builtin .max =>some []
   |_=>none
 | .lookup _ x _ _=>some (Gb (e x))
 |_=>none
def ayC{k:AV->aF->Option R}(hq:Bc X e o=some ids)(h:sO X T e o M k=some r):
 ∃y,k y M=some r/\∀(M':aF),(∀id∈ids,M'[id]?=M[id]?)->∀(k':AV->aF->Option R'),sO X T' e o M' k'=k' y M':=by
 unfold Bc at hq;unfold sO at h;split at hq
 all_goals (rename_i ho;simp only [ho]at h)
 ·exact⟨_,h,λM' _ k'=>aaY⟩
 ·exact⟨_,h,λM' _ k'=>aaY⟩
 ·split at h
  ·rename_i t hc;split at h
   ·exact aj4
   ·exact aj4
  ·exact aD
 ·obtain⟨y,h,hd⟩:=aB5 (X:=X) _ _ _ _ h;exact DA
 ·obtain⟨y,h,hd⟩:=aC9 _ _ h;exact DA
 ·split at hq
  ·exact rX
  obtain⟨y,h,hd⟩:=aAZ (X:=X) _ _ _ h;exact DA
 ·obtain⟨y,h,hd⟩:=axZ (X:=X) _ _ _ h;exact DA
 ·obtain⟨y,h,hd⟩:=azV (X:=X) _ _ _ h;exact DA
 ·obtain⟨y,h,hd⟩:=azU (X:=X) _ _ _ h;exact DA
 ·split at h
  ·rename_i vs hv;split at h
   ·rename_i y hy;exact⟨_,h,λM' _ k'=>by unfold sO;simp only [ho,hv,hy]⟩
   ·exact aD
  ·exact aD
 ·rename_i fn first gV
  cases fn with
  |func f=>exact⟨_,h,λM' _ k'=>aaY⟩
  |_=>exact aD
 ·obtain⟨y,h,hd⟩:=aB3 _ h;exact DA
 ·obtain⟨y,h,hd⟩:=azW (X:=X) _ _ h;exact DA
 ·injection hq with hq;subst hq;obtain⟨y,h,hd⟩:=aAq h;exact abh
 ·injection hq with hq;subst hq;obtain⟨y,h,hd⟩:=axA h;exact abh
 ·split at hq
  ·rename_i Ci;simp only [Ci]at h;injection hq with hq;subst hq;obtain⟨y,h,hd⟩:=aAp h;exact⟨y,h,λM' hM k'=>by unfold sO;simp only [ho,Ci];exact hd M' hM _ _⟩
  ·rename_i Ci;simp only [Ci]at h;split at hq
   ·rename_i hx;obtain⟨y,h,hd⟩:=azM hx h;exact⟨y,h,λM' hM k'=>by unfold sO;simp only [ho,Ci];exact hd M' _ _⟩
   ·exact rX
 ·rename_i c;split at hq
  ·rename_i hc;simp only [hc]at h;injection hq with hq;subst hq;split at h
   ·rename_i t x ht hx;obtain⟨y,h,hd⟩:=Sf h;refine⟨y,h,λM' hM k'=> ?_⟩;unfold sO;simp only [ho,hc,ht,hx];exact hd M' (λid hid=>hM id (by rw [hx];simpa using hid)) _ _
   ·exact aD
  ·exact alE
  ·exact alE
  ·exact rX
 ·injection hq with hq;subst hq;obtain⟨y,h,hd⟩:=azg h;exact abh
 ·cases hq
def azA{M1:aF}(hi:OQ X e o=true)(hq:Bc X e o=some ids)(h:yY X e o M=some (x,M1)):M1=M/\∀M2,yY X e o M2=some (x,M2):=by
 unfold OQ at hi;unfold Bc at hq;unfold yY at h⊢;split at hi
 ·rename_i op t a b u ho;simp only [ho]at h⊢;split at h
  ·exact alr
  ·exact aD
 ·rename_i s d a ho;simp only [ho,hi]at hq;exact rX
 ·rename_i t a lo zk mx ho;simp only [ho]at h⊢;split at h
  ·exact alr
  ·exact aD
 ·rename_i c ho;simp only [ho]at hq;split at hi
  ·rename_i hc;simp only [hc]at hq;cases hq
  ·rename_i hc;simp only [hc]at hq;cases hq
  ·rename_i f hc;simp only [hc]at hq;cases hq
  ·cases hi
 ·cases hi
def ayB{k:AV->aF->Option R}(hq:Bc X e o=some ids)(h:Ab X T e o M k=some r):
 ∃y,k y M=some r/\∀(M':aF),(∀id∈ids,M'[id]?=M[id]?)->∀(k':AV->aF->Option R'),Ab X T' e o M' k'=k' y M':=by
 unfold Ab at h;split at h
 ·rename_i hi;rw [ZQ]at h;split at h
  ·rename_i x M1 hx;obtain⟨U,h2⟩:=azA hi hq hx;subst U;exact⟨x,h,λM' _ k'=>by unfold Ab;simp only [hi,ZQ,h2 M']⟩
  ·exact aD
 ·rename_i hi;obtain⟨y,U,h2⟩:=ayC (T':=T') hq h;exact⟨y,U,λM' hM k'=>by unfold Ab;simp only [hi];exact h2 M' hM k'⟩
def aze{k:AV->aF->Option R}(hq:Bc X e o=some ids)(h:vH X T e o M k=some r):
 ∃y,k y M=some r/\∀(M':aF),(∀id∈ids,M'[id]?=M[id]?)->∀(k':AV->aF->Option R'),vH X T' e o M' k'=k' y M':=by
 rw [Z4]at h;obtain⟨y,U,h2⟩:=ayB (T':=T') hq h;exact⟨y,U,λM' hM k'=>by rw [Z4];exact h2 M' hM k'⟩
def NQ(R:Type):j0 R:=⟨⟨0,0⟩,λ_ _ _=>none,λ_ _ _ _=>none,λ_ _ _ _=>none⟩
def aiu(X:Cx)(R:Type):(NQ R).qV X:=⟨λh=>by simp [NQ]at h,λh=>by simp [NQ]at h⟩
def agX(hX:X.Okb){k:AV->aF->Option R}(hq:Bc X e o=some ids)(h:vH X T e o M k=some r):
 ∃y,k y M=some r/\∀(M':aF),(∀id∈ids,M'[id]?=M[id]?)->gQ X o e M' y M':=by
 obtain⟨y,U,h2⟩:=aze (T':=NQ (AV×aF)) hq h;refine⟨y,U,λM' hM=> ?_⟩;obtain⟨x,M1,h3,h4,_⟩:=Mj hX (aiu X _) (h2 M' hM λx M=>some (x,M));injection h4 with h4;injection h4 with h4 h5;subst h4;subst h5;exact h3
def Np:List Oper->Nat
 | []=>0
 |o::os=>match o.op with
  | .buildSlice _ _ _=>Np os+1
  | .call c=>(match c.callee with| .value _=>Np os+1|_=>Np os)
  |_=>Np os
def TA(X:Cx)(ops:Array Oper)(e:Operand->AV)(o:Oper):Option (TypeId×Nat×Array (Nat×Operand)):=
 match o.op with
 | .buildSlice t n ps=>
   match(Nat.blt 1 (Np ops.toList)&&Nat.blt 0 n)&&ps.toList.all λp=>aEg (e p.2)with
   |true=>some (t,n,ps)
   |false=>none
 |_=>none
def ag2{ops:Array Oper}(h:TA X ops e o=some (t,n,ps)):o.op= .buildSlice t n ps:=by
 unfold TA at h;split at h
 ·rename_i ho;split at h
  ·injection h with h;injection h with U h;injection h with h2 h3;subst U;subst h2;subst h3;exact ho
  ·exact aD
 ·exact aD
def aho(hX:X.Okb)(ho:o.op= .buildSlice t n ps)(h:Fp X t n (ps.toList.map λp=>(p.1,e p.2)) k=some r):
 ∃y,k y=some r/\∀(M':aF),gQ X o e M' y M':=by
 obtain⟨y,U,_,hd⟩:=ave hX h;refine⟨y,U,λM'=>gQ.xG (s:=λρe=>Instr.buildSlice t n (ps.map λ(i,x)=>(i,ρe x))) (iW) (λρe=>mI) (λ{w0 S F ρ w ρe} hI hr=> ?_)⟩;have:=hd (ps.toList.map λp=>(p.1,ρe p.2)) hI (by simp) (λj p q hp hq=>by
  rw [kG]at hp hq;cases hj:ps.toList[j]? with
  |none=>exact MV
  |some z=>
   rw [hj]at hp hq;simp only [nN,Option.some.injEq]at hp hq;subst hp;subst hq;exact⟨rfl,hr z.2⟩)
 have e1:(ps.map λ(i,x)=>(i,ρe x))=(ps.toList.map λp=>(p.1,ρe p.2)).toArray :=yJ;rw [e1];exact this
end
end Go.aj
namespace Go.aj
def Dw{p:Prop}(h:p:=by have:=each (j:=0) rfl;cases this):p:=h
def Jm{p:Prop}(h:p:=by simp only [iM];cases f id<;>rfl):p:=h
def Jj{p:Prop}(h:p:=by simpa using hi):p:=h
def akR{p:Prop}(h:p:=by
 have:=mz.1 jP i hi;rw [bw]at this;simpa using this.1):p:=h
def akn{p:Prop}(h:p:=by
 have:=mz.1 hk _ (ei hj);rw [e]at this;cases this):p:=h
end Go.aj
namespace Go.aj
def FM:=@List.nodup_cons
def fJ:=@List.mem_cons_of_mem
def ez:=@List.mem_cons_self
def RH:=@List.any_cons
end Go.aj
namespace Go.aj
open Go
noncomputable section
variable {X:Cx} {R:Type}
variable{ρ':bJ}
def iM(f:Nat->Option Nat):Nat->AV->AV
 |0,_=> .top
 |n+1,x=>
  match x with
  | .au id=>match f id with|some j=> .au j|none=> .top
  | .ptr id i off=>match f id with|some j=> .ptr j i off|none=> .top
  | .jz id=>match f id with|some j=> .jz j|none=> .top
  | .mp id=>match f id with|some j=> .mp j|none=> .top
  | .oy id m=>match f id with|some j=> .oy j m|none=> .top
  | .vw id lo m=>match f id with|some j=> .vw j lo m|none=> .top
  | .agg cs=> .agg (cs.map (iM f n))
  | .eV cs=> .eV (cs.map (iM f n))
  | .eJ g first gV=> .eJ g (first.map (iM f n)) (gV.map (iM f n))
  |x=>x
def Ren(f:Nat->Option Nat)(ρ ρ':bJ):Prop:=∀(id j:Nat) hd,f id=some j->ρ[id]?=some hd->ρ'[j]?=some hd
def a8.iM{K:TypeId->er}(hK:∀t,∀k∈K t,k≠ .any){f:Nat->Option Nat}{ρ ρ':bJ}(hf:Ren f ρ ρ'){F:bD}{w:World}:∀(n:Nat) {x:AV} {v:Value},a8 K ρ F w x v->a8 K ρ' F w (iM f n x) v
 |0,_,v,_=> .top v
 |n+1,x,v,h=>by
  have ih:=λ{x:AV} {v:Value} (h:a8 K ρ F w x v)=>a8.iM hK hf n h;have U5:∀{xs:ak} {vs:gz},(∀(j:Nat) x v,xs[j]?=some x->vs[j]?=some v->a8 K ρ F w x v)->∀(j:Nat) x v,(xs.map (aj.iM f n))[j]?=some x->vs[j]?=some v->a8 K ρ' F w x v:=by
   intro xs vs h j x v hx hv;rw [kG]at hx;cases hj:xs[j]? with
   |none=>rw [hj]at hx;cases hx
   |some y=>
    rw [hj]at hx;simp only [nN,Option.some.injEq]at hx;subst hx;exact ih (h j y v hj hv)
  cases h with
  |top v=>exact .top v
  |int k n=>exact .int k n
  |bool b=>exact .bool b
  |str s=>exact .str s
  |agg cs vs hl h=>exact .agg _ vs (uo) (U5 h)
  |eV cs vs hl h=>exact .eV _ vs (uo) (U5 h)
  |jh=>exact .jh
  |kj t row off a vs hk hl hc h=>exact(a8.kj (ρ:=ρ) t row off a vs hk hl hc h).pure hK rfl
  |ptr id i off hd g o m c hid hv=>
   simp only [aj.iM];split
   ·rename_i j hj;exact .ptr j i off hd g o m c (hf id j hd hj hid) hv
   ·exact .top _
  |ng t=>exact .ng t
  |ae t xs a cap vss hl nA mB hk hc h=>exact(a8.ae (ρ:=ρ) t xs a cap vss hl nA mB hk hc h).pure hK rfl
  |au id hd hid=>
   simp only [aj.iM];split
   ·rename_i j hj;exact .au j hd (hf id j hd hj hid)
   ·exact .top _
  |jI=>exact .jI
  |eJ g first gV vf vc U h2 h3 h4=>exact .eJ g _ _ vf vc (xO) (uq) (U5 h3) (U5 h4)
  |nw=>exact .nw
  |jz id hd g hid hv=>
   simp only [aj.iM];split
   ·rename_i j hj;exact .jz j hd g (hf id j hd hj hid) hv
   ·exact .top _
  |mp id hd hid=>
   simp only [aj.iM];split
   ·rename_i j hj;exact .mp j hd (hf id j hd hj hid)
   ·exact .top _
  |pI=>exact .pI
  |oy id m hd g o n' c cap hid hv=>
   simp only [aj.iM];split
   ·rename_i j hj;exact .oy j m hd g o n' c cap (hf id j hd hj hid) hv
   ·exact .top _
  |vw id lo m hd g o n' c cap hid hv hc hb=>
   simp only [aj.iM];split
   ·rename_i j hj;exact .vw j lo m hd g o n' c cap (hf id j hd hj hid) hv hc hb
   ·exact .top _
  |yb id lo=>
   simp only [aj.iM];split
   ·exact .yb _ lo
   ·exact .top _
  |ya id lo a cap=>
   simp only [aj.iM];split
   ·exact .ya _ lo a cap
   ·exact .top _
  |mS a cap=>exact .mS a cap
def dm.iM{K:TypeId->er}(hK:∀t,∀k∈K t,k≠ .any){f:Nat->Option Nat}{ρ ρ':bJ}(hf:Ren f ρ ρ'){F:bD}{w:World}(n:Nat){xs:ak}{vs:gz}(h:dm K ρ F w xs vs):dm K ρ' F w (xs.map (aj.iM f n)) vs:=by
 refine⟨by simpa using h.1,λj x v hx hv=> ?_⟩;rw [kG]at hx;cases hj:xs[j]? with
 |none=>rw [hj]at hx;cases hx
 |some y=>
  rw [hj]at hx;simp only [nN,Option.some.injEq]at hx;subst hx;exact(h.2 j y v hj hv).iM hK hf n
def GC(f:Nat->Option Nat)(n:Nat)(env:bL):bL:=env.map λp=>(p.1,iM f n p.2)
def ahm(f:Nat->Option Nat)(n:Nat):∀(env:bL) (t:Nat),look (GC f n env) t=iM f n (look env t)∨look (GC f n env) t= .top
 | [],t=> .inr rfl
 |(u,x)::env,t=>by
  unfold GC;simp only [jG,sy,look_nil]
  by_cases ht:t=u
  ·subst ht;simp
  ·have:(t==u)=false:=by simpa using ht
   simp only [this,nP,lI];exact ahm f n env t
def k8.iM(hX:X.Ok){f:Nat->Option Nat}{ρ ρ':bJ}(hf:Ren f ρ ρ'){F:bD}{w:World}(n:Nat){env:bL}{tmps:Array Value}(h:k8 X ρ F w env tmps):k8 X ρ' F w (GC f n env) tmps:=by
 intro t;rcases ahm f n env t with e|e
 ·rw [e];exact(h t).iM hX.kinds hf n
 ·rw [e];exact .top _
def Kind.fix:Kind->Bool| .any =>false|_=>true
def wQ(f:Nat->Option Nat):eE->eE
 | .var ks cs=>match ks.all Kind.fix with|true=> .var ks cs|false=> .var ks (cs.map (iM f 4))
 | .loop s env b p=> .loop s (GC f 4 env) b p
 | .map kd ag ks es=>match ks.all Kind.fix with|true=> .map kd ag ks es|false=> .map kd ag ks (es.map λe=>(e.1,iM f 4 e.2))
 |b=>b
def Bt(f:Nat->Option Nat):eE->Bool
 | .var ks cs=>match ks.all Kind.fix with|true=>true|false=>cZ ks (cs.map (iM f 4))
 | .map _ ag ks es=>match ks.all Kind.fix with|true=>true|false=>es.all λe=>cZ ks (iM f 4 e.2).cells &&(iM f 4 e.2).shape ag
 |_=>true
def IA(f:Nat->Option Nat)(b:eE):(wQ f b).kU =b.kU:=by
 cases b<;>simp only [wQ]<;>first|rfl|(split<;>rfl)
def a8.fix{K:TypeId->er}(hK:∀t,∀k∈K t,k≠ .any){ρ ρ':bJ}{F:bD}{w:World}{ks:er}(hk:ks.all Kind.fix=true){x:AV}{v:Value}(hx:cZ ks x.cells=true)(h:a8 K ρ F w x v):a8 K ρ' F w x v:=by
 have each:∀{j:Nat} {y:AV},x.cells[j]?=some y->y.pure=true:=λ{j y} hy=>by
  have hl:=kS hx;have hj:j<ks.length:=aa2;refine L8 (λe=> ?_) (xD hx (dy hj) hy);exact akn
 cases h with
 |agg cs vs hl hr=>exact .agg cs vs hl λj y u hy hu=>(hr j y u hy hu).pure hK (each hy)
 |top v=>have:=each (j:=0) (y:= .top) rfl;cases this
 |eV cs vs hl hr=>have:=each (j:=0) (y:= .eV cs) rfl;cases this
 |int k n=>exact .int k n
 |bool b=>exact .bool b
 |str s=>exact .str s
 |jh=>exact .jh
 |kj t row off a vs sj hl hc hr=>exact a8.pure hK (.kj t row off a vs sj hl hc hr) (each (j:=0) rfl)
 |ng t=>exact .ng t
 |ae t xs a cap vss hl nA mB sj hc hr=>exact a8.pure hK (.ae t xs a cap vss hl nA mB sj hc hr) (each (j:=0) rfl)
 |jI=>exact .jI
 |eJ f first gV vf vc hf hc U h2=>exact a8.pure hK (.eJ f first gV vf vc hf hc U h2) (each (j:=0) rfl)
 |nw=>exact .nw
 |pI=>exact .pI
 |ptr id i off hd g o n c hid hv=>exact Dw
 |au id hd hid=>exact Dw
 |jz id hd g hid hv=>exact Dw
 |oy id m hd g o n c cap hid hv=>exact Dw
 |vw id lo m hd g o n c cap hid hv hc hb=>exact Dw
 |yb id lo=>exact Dw
 |ya id lo a cap=>exact Dw
 |mS a cap=>exact .mS a cap
 |mp id hd hid=>exact Dw
def agi{kd:Kind}(qL:kd≠ .any){x:AV}(h:kF kd x=true):x.pure=true:=L8 qL h
def aij(f:Nat->Option Nat)(n:Nat):∀cs:ak,tF (cs.map (iM f (n+1)))=tF cs
 | []=>rfl
 |x::cs=>by
  have ih:=aij f n cs;unfold tF at ih⊢;rw [jG,RH,RH,ih]
  congr 1
  cases x with
  |au id=>exact Jm
  |ptr id i o=>exact Jm
  |jz id=>exact Jm
  |mp id=>exact Jm
  |oy id m=>exact Jm
  |vw id lo m=>exact Jm
  |_=>rfl
def n6.iM(hX:X.Ok){f:Nat->Option Nat}{ρ ρ':bJ}(hf:Ren f ρ ρ'){F:bD}{w:World}{hd:Hd}{b:eE}(bB:Bt f b=true)(h:n6 X ρ F w hd b):n6 X ρ' F w hd (wQ f b):=by
 cases b with
 |var ks cs=>
  obtain⟨U,h2,g,cur,e,hv,hh,hr,hy⟩:=h;simp only [wQ];simp only [Bt]at bB;split
  ·rename_i hk;refine⟨U,h2,g,cur,e,hv,hh,⟨hr.1,λj x v hx hv=>(hr.2 j x v hx hv).pure hX.kinds ?_⟩,hy⟩;have hl:=kS U;have hj:j<ks.length:=S2;refine L8 (λe=> ?_) (xD U (dy hj) hx);exact akn
  ·rename_i hk;rw [hk]at bB;exact⟨bB,uq,g,cur,e,hv,hh,hr.iM hX.kinds hf 4,by rw [aij];exact hy⟩
 |row t xs=>
  obtain⟨U,h2,h3⟩:=h;refine⟨U,h2,?_⟩;rcases h3 with h3|⟨g,o,c,cur,hv,hh,h4,h5,h6,h7⟩
  ·exact .inl h3
  ·refine .inr ⟨g,o,c,cur,hv,hh,h4,h5,h6,λi row hi j x hx=> ?_⟩;obtain⟨v,mD,hr⟩:=h7 i row hi j x hx;refine⟨v,mD,hr.pure hX.kinds ?_⟩;have hk:=h2 i row hi;have hl:=kS hk;have hj:j<(X.K t).length :=S2;exact L8 (hX.kinds t _ (ei hj)) (xD hk (dy hj) hx)
 |map kd ag ks es=>
  obtain⟨qL,g,mes,clock,hv,hh,eX,yj⟩:=h;simp only [wQ];simp only [Bt]at bB;split
  ·rename_i hk;exact⟨qL,g,mes,clock,hv,hh,eX,λi e me he hm=>let⟨a,r1,r2⟩:=yj i e me he hm;⟨a,r1.pure hX.kinds (agi qL a.1),r2.fix hX.kinds hk a.2.1⟩⟩
  ·rename_i hk;rw [hk]at bB;refine⟨qL,g,mes,clock,hv,hh,M5,λi e me he hm=> ?_⟩;rw [kG]at he;cases hi:es[i]? with
   |none=>rw [hi]at he;cases he
   |some e0=>
    rw [hi]at he;simp only [nN,Option.some.injEq]at he;subst he;obtain⟨a,r1,r2⟩:=yj i e0 me hi hm;have:=mz.1 bB e0 (rU hi);rw [bw]at this;exact⟨⟨a.1,this.1,this.2⟩,r1.pure hX.kinds (agi qL a.1),r2.iM hX.kinds hf 4⟩
 |loop s env busy BK=>
  obtain⟨g,lp,hv,hh,U,h2,h3,h4,h5,h6⟩:=h;exact⟨g,lp,hv,hh,U,h2,h3,h4,h5.iM hX hf 4,h6⟩
 |Vz=>exact h
 |fP t xs=>exact a8.pure hX.kinds h rfl
 |dead=>trivial
def idx:dx->Nat->Option Nat
 | [],_=>none
 |i::is,id=>if id==i then some 0 else(idx is id).map (·+1)
def aiW:∀{bC:dx} {id j:Nat},idx bC id=some j->bC[j]?=some id
 | [],id,j,h=>by simp [idx]at h
 |i::is,id,j,h=>by
  simp only [idx]at h;split at h
  ·rename_i hi;injection h with h;subst h;simpa using Eq.symm (Jj)
  ·cases hx:idx is id with
   |none=>rw [hx]at h;cases h
   |some m=>
    rw [hx]at h;simp only [nN,Option.some.injEq]at h;subst h;simpa using aiW hx
def qJ(m:Nat)(bC:dx)(n:Nat)(j:Nat):Option Nat:=match Nat.blt j m with|true=>bC[j]?|false=>some (n+(j- m))
def sub(d:Hd)(ρ:bJ)(bC:dx):bJ:=bC.map λi=>ρ.getD i d
def tC(M:aF)(bC:dx):aF:=bC.map λi=>wQ (idx bC) (M.getD i .dead)
def yG(M:aF)(bC:dx):Bool:=distinct bC&&bC.all λi=>Nat.blt i M.length&&Bt (idx bC) (M.getD i .dead)
where distinct:dx->Bool
 | []=>true
 |i::is=> !is.contains i&&distinct is
def Xc:∀{bC:dx},yG.distinct bC=true->bC.Nodup
 | [],_=> .nil
 |i::is,h=>by
  simp only [yG.distinct,bw]at h;exact FM.2 ⟨by simpa using h.1,Xc h.2⟩
def wS:aF->dx->aF->aF
 |M,i::is,b::bs=>wS (M.set i b) is bs
 |M,_,_=>M
def Iu:∀(bC:dx) (bs M:aF),(wS M bC bs).length =M.length
 | [],_,_=>by simp [wS]
 |_::_,[],_=>by simp [wS]
 |i::is,b::bs,M=>by simp only [wS];rw [Iu is bs];simp
def RV:∀(bC:dx) (bs M:aF) {id:Nat},id∉bC->(wS M bC bs)[id]?=M[id]?
 | [],_,_,_,_=>by simp [wS]
 |_::_,[],_,_,_=>by simp [wS]
 |i::is,b::bs,M,id,h=>by
  simp only [wS];rw [RV is bs _ (λh'=>h (fJ _ h')),mW (λe=>h (by rw [e];exact ez))]
def Zy:∀(bC:dx) (bs M:aF),bC.Nodup->(∀i∈bC,i<M.length)->∀{j i:Nat} {b:eE},bC[j]?=some i->bs[j]?=some b->(wS M bC bs)[i]?=some b
 | [],_,_,_,_,j,i,b,h,_=>gU
 |_::_,[],_,_,_,j,i,b,_,h=>gU
 |i0::is,b0::bs,M,hn,hl,j,i,b,hi,hb=>by
  simp only [wS];rw [FM]at hn;cases j with
  |zero=>
   simp at hi hb;subst hi;subst hb;rw [RV is bs _ hn.1,uf (hl i0 ez)]
  |succ j=>
   simp at hi hb;exact Zy is bs _ hn.2 (λk hk=>by simpa using hl k (fJ _ hk)) hi hb
def merge(m:Nat)(M:aF)(bC:dx)(Mc:aF):aF:=wS M bC ((Mc.take m).map (wQ (qJ m bC M.length))++List.replicate (bC.length- m) .dead)++(Mc.drop m).map (wQ (qJ m bC M.length))
def IY(m:Nat)(M:aF)(bC:dx)(Mc:aF):Bool:=Nat.ble m bC.length&&Nat.ble m Mc.length&&Mc.all (Bt (qJ m bC M.length))
structure uw(m:Nat)(F F':bD)(ρ ρ':bJ)(w w':World):Prop where
 hF:∀a,F a->F' a
 jD:∀(id:Nat) hd,id<m->ρ[id]?=some hd->ρ'[id]?=some hd
 hb:∀a,F a->w'.heap[a.block]?=w.heap[a.block]?
def Grow.toF{F F':bD}{ρ:bJ}{w w':World}(h:Grow F F' ρ ρ' w w')(m:Nat):uw m F F' ρ ρ' w w':=⟨h.hF,λid hd _ hh=>h.jD id hd hh,h.hb⟩
def uw.hw{m:Nat}{F F':bD}{ρ:bJ}{w w':World}(h:uw m F F' ρ ρ' w w'):∀a v,F a->w.cell? a=some v->w'.cell? a=some v:=λa _ ha hc=>agP (h.hb a ha) hc
section
variable {w0 w w':World} {S:Sc} {F F':bD} {ρ sP:bJ} {M rM:aF} {bC:dx}
def hand(ρ:bJ)(M:aF)(bC:dx)(F:bD):Sc:=⟨λg=>∃i∈bC,∃b hd,M[i]?=some b/\b.kU=false/\ρ[i]?=some hd/\hd.fj=some g,F⟩
def Sa{d:Hd}{j i:Nat}(h:bC[j]?=some i)(hi:i<ρ.length):(sub d ρ bC)[j]?=ρ[i]?:=by
 simp only [sub,kG,h,nN,List.getD,dy hi,uh]
def aiB(cH:∀i∈bC,i<ρ.length)(d:Hd):Ren (idx bC) ρ (sub d ρ bC):=by
 intro id j hd hj hh;have:=aiW hj;rw [Sa this (cH _ (rU this)),hh]
def Inv.anZ(hX:X.Ok)(hI:Inv X w0 S F ρ M w)(bB:yG M bC=true)(d:Hd):Inv X w0 S F (aj.sub d ρ bC) (tC M bC) w/\Inv X w (hand ρ M bC F) F (aj.sub d ρ bC) (tC M bC) w:=by
 unfold yG at bB;rw [bw]at bB;obtain⟨ac9,jP⟩:=bB;have ES:=Xc ac9;have cH:∀i∈bC,i<M.length:=λi hi=>akR;have si:∀i∈bC,Bt (idx bC) (M.getD i .dead)=true:=λi hi=>by
  have:=mz.1 jP i hi;rw [bw]at this;exact this.2
 have ang:∀i∈bC,i<ρ.length:=λi hi=>by rw [hI.len];exact cH i hi
 have back:∀{j:Nat} {c:eE},(tC M bC)[j]?=some c->∃i b,bC[j]?=some i/\M[i]?=some b/\c=wQ (idx bC) b/\Bt (idx bC) b=true:=by
  intro j c hc;simp only [tC,kG]at hc;cases hj:bC[j]? with
  |none=>rw [hj]at hc;cases hc
  |some i=>
   rw [hj]at hc;have hi:=cH i (rU hj);simp only [nN,Option.some.injEq,List.getD,dy hi,uh]at hc;have h2:=si i (rU hj);simp only [List.getD,dy hi,uh]at h2;exact⟨i,M[i],rfl,dy hi,hc.symm,h2⟩
 have Nn:∀{j:Nat} {h:Hd},(aj.sub d ρ bC)[j]?=some h->∃i,bC[j]?=some i/\ρ[i]?=some h:=by
  intro j h hh;cases hj:bC[j]? with
  |none=>simp only [aj.sub,kG,hj]at hh;cases hh
  |some i=>rw [Sa hj (ang i (rU hj))]at hh;exact⟨i,rfl,hh⟩
 have U:∀(id:Nat) b hd,(tC M bC)[id]?=some b->(aj.sub d ρ bC)[id]?=some hd->n6 X (aj.sub d ρ bC) F w hd b:=by
  intro j c h hc hh;obtain⟨i,b,U,h2,rfl,h3⟩:=back hc;obtain⟨i',uX,h4⟩:=Nn hh;rw [U]at uX;injection uX with uX;subst uX;exact(hI.rep i b h h2 h4).iM hX (aiB ang d) h3
 have h2:∀(j:Nat) c h g,(tC M bC)[j]?=some c->c.kU=false->(aj.sub d ρ bC)[j]?=some h->h.fj=some g->(g<w.heap.size/\(S g∨w0.heap.size<=g)/\∀a,F a->a.block≠g)/\(hand ρ M bC F) g:=by
  intro j c h g hc fw hh dQ;obtain⟨i,b,U,h2,rfl,h3⟩:=back hc;obtain⟨i',uX,h4⟩:=Nn hh;rw [U]at uX;injection uX with uX;subst uX;rw [IA]at fw;exact⟨hI.sep i b h g h2 fw h4 dQ,i,rU U,b,h,h2,fw,h4,dQ⟩
 have h3:∀(j j':Nat) c c' h h' g,j≠j'->(tC M bC)[j]?=some c->(tC M bC)[j']?=some c'->c.kU=false->c'.kU=false->(aj.sub d ρ bC)[j]?=some h->(aj.sub d ρ bC)[j']?=some h'->h.fj=some g->h'.fj≠some g:=by
  intro j j' c c' h h' g eY hc Co fw rA hh eC dQ;obtain⟨i,b,U,h2,rfl,h3⟩:=back hc;obtain⟨i',b',uX,h2',rfl,E3⟩:=back Co;obtain⟨i2,e1,h4⟩:=Nn hh;obtain⟨i2',e2,h4'⟩:=Nn eC;rw [U]at e1;injection e1 with e1;subst e1;rw [uX]at e2;injection e2 with e2;subst e2;rw [IA]at fw rA;refine hI.mC i i' b b' h h' g (λe=>eY ?_) h2 h2' fw rA h4 h4' dQ;subst e;have l1:=(fK.1 U).1;have l2:=(fK.1 uX).1;exact(List.getElem?_inj l1 ES).1 (U.trans uX.symm)
 have h4:∀(id:Nat) hd,(aj.sub d ρ bC)[id]?=some hd->hd.v.oneCell'=true:=by
  intro j h hh;obtain⟨i,_,h4⟩:=Nn hh;exact hI.one i h h4
 have h5:∀g,a8 X.K (aj.sub d ρ bC) F w (X.kz g) (.pointer (some ⟨g,0,none⟩)):=λg=>(hI.kz g).az9 hX.kinds (hX.kz g);have h6:(aj.sub d ρ bC).length =(tC M bC).length :=by simp [aj.sub,tC]
 exact⟨⟨hI.os,hI.tape,hI.output,hI.size,hI.frame,h6,U,λj c h g p1 p2 p3 p4=>(h2 j c h g p1 p2 p3 p4).1,h3,hI.fz,h5,h4,hI.jS,hI.fin,hI.dV⟩,
  ⟨rfl,rfl,rfl,iZ _,λ_ _ _=>rfl,h6,U,λj c h g p1 p2 p3 p4=>⟨(h2 j c h g p1 p2 p3 p4).1.1,.inl (h2 j c h g p1 p2 p3 p4).2,(h2 j c h g p1 p2 p3 p4).1.2.2⟩,h3,hI.fz,h5,h4,λa ha=> .inl ha,λa ha=>ha,hI.dV⟩⟩
def Inv.sub(hX:X.Ok)(hI:Inv X w0 S F ρ M w)(bB:yG M bC=true)(d:Hd):Inv X w (hand ρ M bC F) F (aj.sub d ρ bC) (tC M bC) w:=(hI.anZ hX bB d).2
end
end
end Go.aj
namespace Go.aj
def SK{p:Prop}(h:p:=by simp [eE.kU]):p:=h
end Go.aj
namespace Go.aj
def Fy:=@Bool.eq_false_iff
end Go.aj
namespace Go.aj
open Go
noncomputable section
variable {X:Cx} {R:Type}
variable {w0 w w':World} {S:Sc} {F F':bD} {ρ sP:bJ} {M rM:aF} {bC:dx} {m:Nat}
structure ZP(M:aF)(bC:dx):Prop where
 nd:bC.Nodup
 lt:∀i∈bC,i<M.length
def ahg(bB:yG M bC=true):ZP M bC:=by
 unfold yG at bB;rw [bw]at bB;obtain⟨ac9,jP⟩:=bB;refine⟨Xc ac9,λi hi=> ?_⟩;exact akR
def agf:(merge m M bC rM).length =M.length+(rM.length- m):=by
 simp [merge,Iu]
def Mo(hs:ZP M bC)(hm:IY m M bC rM=true){id:Nat}{b:eE}(h:(merge m M bC rM)[id]?=some b):
 (id∉bC/\id<M.length/\M[id]?=some b)∨b= .dead ∨∃j c,qJ m bC M.length j=some id/\rM[j]?=some c/\b=wQ (qJ m bC M.length) c/\Bt (qJ m bC M.length) c=true:=by
 unfold IY at hm;rw [bw,bw]at hm;obtain⟨⟨O4,hle⟩,jP⟩:=hm;have hle:m<=rM.length:=zI hle;have O4:m<=bC.length:=zI O4;have ro:∀{j:Nat} {c:eE},rM[j]?=some c->Bt (qJ m bC M.length) c=true:=λhj=>mz.1 jP _ (rU hj);unfold merge at h
 by_cases hid:id<M.length
 ·rw [mF (by rw [Iu];exact hid)]at h
  by_cases ac0:id∈bC
  ·obtain⟨j,hj⟩:=Be ac0;have EW:=(fK.1 hj).1
   by_cases yf:j<m
   ·have hjc:j<rM.length:=by omega
    have hb:((rM.take m).map (wQ (qJ m bC M.length))++List.replicate (bC.length- m) .dead)[j]?=some (wQ (qJ m bC M.length) rM[j]):=by
     rw [mF (fB),kG,th,if_pos yf,dy hjc];rfl
    rw [Zy bC _ M hs.nd hs.lt hj hb]at h;injection h with h;have:Nat.blt j m=true:=by simpa using yf
    exact .inr (.inr ⟨j,rM[j],by simp only [qJ,this];exact hj,dy hjc,h.symm,ro (dy hjc)⟩)
   ·have hb:((rM.take m).map (wQ (qJ m bC M.length))++List.replicate (bC.length- m) .dead)[j]?=some .dead :=by
     rw [nM (fB),C6,if_pos (fB)]
    rw [Zy bC _ M hs.nd hs.lt hj hb]at h;injection h with h;exact .inr (.inl h.symm)
  ·rw [RV bC _ M ac0]at h;exact .inl ⟨ac0,hid,h⟩
 ·rw [nM (by rw [Iu];omega),Iu,kG,ug]at h;cases hc:rM[m+(id- M.length)]? with
  |none=>rw [hc]at h;cases h
  |some c=>
   rw [hc]at h;simp only [nN,Option.some.injEq]at h;refine .inr (.inr ⟨_,c,?_,hc,h.symm,ro hc⟩);have:Nat.blt (m+(id- M.length)) m=false:=by
    rw [Fy];simp
   simp only [qJ,this,Option.some.injEq];omega
def azL(hI:Inv X w0 S F ρ M w)(hs:ZP M bC)(d:Hd)(hg:uw m F F' (sub d ρ bC) sP w w'):Ren (qJ m bC M.length) sP (ρ++sP.drop m):=by
 intro j id hd hj hh;have hlen:=hI.len;simp only [qJ]at hj;split at hj
 ·rename_i hb;have yf:j<m:=by simpa using hb
  have hi:id<ρ.length:=by rw [hlen];exact hs.lt id (rU hj)
  rw [mF hi];have U:(sub d ρ bC)[j]?=some ρ[id]:=by rw [Sa hj hi,dy hi]
  have:=hg.jD j _ yf U;rw [hh]at this;injection this with this;rw [dy hi,this]
 ·rename_i hb;have yf:¬j<m:=λcH=>by rw [(by simpa using cH:Nat.blt j m=true)]at hb;cases hb
  simp only [Option.some.injEq]at hj;subst hj;rw [nM (by omega),ug,<-hh]
  congr 1
  omega
def Inv.merge(hX:X.Ok)(hI:Inv X w0 S F ρ M w)(bB:yG M bC=true)(d:Hd)(hC:Inv X w (hand ρ M bC F) F' sP rM w')(hg:uw m F F' (aj.sub d ρ bC) sP w w')(hm:IY m M bC rM=true):
 Inv X w0 S F' (ρ++sP.drop m) (aj.merge m M bC rM) w'/\Grow F F' ρ (ρ++sP.drop m) w w'/\Ren (qJ m bC M.length) sP (ρ++sP.drop m):=by
 have hs:=ahg bB;have ac1:=azL hI hs d hg;have hlen:=hI.len;have aLP:=hC.len;have eX:w.heap.size<=w'.heap.size:=hC.size;have mM:∀(id:Nat) hd,ρ[id]?=some hd->(ρ++sP.drop m)[id]?=some hd:=λid hd h=>ajM;have nT:Grow F F' ρ (ρ++sP.drop m) w w':=⟨hg.hF,mM,hg.hb⟩;have apart:∀{id:Nat} {b:eE} {hd:Hd} {g:Nat},id∉bC->M[id]?=some b->b.kU=false->ρ[id]?=some hd->hd.fj=some g->g<w.heap.size/\¬(hand ρ M bC F) g:=by
  intro id b hd g xq hb fw hh dQ;refine⟨(hI.sep id b hd g hb fw hh dQ).1,?_⟩;rintro⟨i,hi,b',dS,pz,rA,eC,nX⟩;exact hI.mC id i b b' hd dS g (λe=>xq (e▸hi)) hb pz fw rA hh eC dQ nX
 have handed:∀{g:Nat},(hand ρ M bC F) g->S g∨w0.heap.size<=g:=by
  rintro g ⟨i,_,b',dS,pz,rA,eC,nX⟩;exact(hI.sep i b' dS g pz rA eC nX).2.1
 have cρ:∀{id:Nat} {h:Hd},id<M.length->(ρ++sP.drop m)[id]?=some h->ρ[id]?=some h:=by
  intro id h hid hh;rw [mF (by omega)]at hh;exact hh
 have Kg:∀{j id:Nat} {c:eE} {h:Hd},qJ m bC M.length j=some id->rM[j]?=some c->(ρ++sP.drop m)[id]?=some h->sP[j]?=some h:=by
  intro j id c h hj hc hh;have hl:j<sP.length:=by have:=(fK.1 hc).1;omega
  have:=ac1 j id _ hj (dy hl);rw [hh]at this;injection this with this;rw [dy hl,this]
 refine⟨⟨hC.os.trans hI.os,hC.tape.trans hI.tape,hC.output.trans hI.output,qR hI.size eX,λg U h2=> ?_,?_,λid b hd hb hh=> ?_,λid b hd g hb fw hh dQ=> ?_,
  λid id' b b' hd dS g eY hb pz fw rA hh eC dQ nX=> ?_,hC.fz,λg=>(hI.kz g).grow nT,λid hd hh=> ?_,λa ha=> ?_,λa ha=>hg.hF _ (hI.fin a ha),hC.dV⟩,nT,ac1⟩
 ·refine(hC.frame g (vg U hI.size) (λh=> ?_)).trans (hI.frame g U h2);rcases handed h with h|h
  ·exact h2 h
  ·omega
 ·rw [agf,cw,Fz];omega
 ·rcases Mo hs hm hb with⟨xq,cH,hb⟩|rfl|⟨j,c,hj,hc,rfl,si⟩
  ·have hh:=cρ cH hh
   by_cases fw:b.kU=true
   ·exact(hI.rep id b hd hb hh).YS mM hg.hF hg.hw fw
   ·refine(hI.rep id b hd hb hh).mono mM hg.hF hg.hw λg dQ=> ?_;obtain⟨a1,a2⟩:=apart xq hb (by simpa using fw) hh dQ;exact hC.frame g a1 a2
  ·trivial
  ·exact(hC.rep j c hd hc (Kg hj hc hh)).iM hX ac1 si
 ·rcases Mo hs hm hb with⟨xq,cH,hb⟩|rfl|⟨j,c,hj,hc,rfl,si⟩
  ·have hh:=cρ cH hh;obtain⟨a1,a2,a3⟩:=hI.sep id b hd g hb fw hh dQ;refine⟨vg a1 eX,a2,λa ha e=> ?_⟩;rcases hC.jS a ha with h|h|h
   ·exact a3 a h e
   ·exact(apart xq hb fw hh dQ).2 (e▸h)
   ·omega
  ·exact absurd fw (SK)
  ·rw [IA]at fw;obtain⟨a1,a2,a3⟩:=hC.sep j c hd g hc fw (Kg hj hc hh) dQ;refine⟨a1,?_,a3⟩;rcases a2 with a2|a2
   ·exact handed a2
   ·exact .inr (qR hI.size a2)
 ·have mixed:∀{id id' j:Nat} {b c:eE} {hd dS:Hd} {g:Nat},id∉bC->M[id]?=some b->b.kU=false->ρ[id]?=some hd->hd.fj=some g->rM[j]?=some c->c.kU=false->sP[j]?=some dS->dS.fj=some g->False:=by
   intro id id' j b c hd dS g xq hb fw hh dQ hc rA eC nX;obtain⟨a1,a2⟩:=apart xq hb fw hh dQ;rcases(hC.sep j c dS g hc rA eC nX).2.1 with h|h
   ·exact a2 h
   ·omega
  rcases Mo hs hm hb with⟨xq,cH,hb⟩|rfl|⟨j,c,hj,hc,rfl,si⟩
  ·rcases Mo hs hm pz with⟨aps,GM,pz⟩|rfl|⟨j',c',AN,Co,rfl,aKG⟩
   ·exact hI.mC id id' b b' hd dS g eY hb pz fw rA (cρ cH hh) (cρ GM eC) dQ nX
   ·exact absurd rA (SK)
   ·rw [IA]at rA;exact mixed (id':=0) xq hb fw (cρ cH hh) dQ Co rA (Kg AN Co eC) nX
  ·exact absurd fw (SK)
  ·rw [IA]at fw;rcases Mo hs hm pz with⟨aps,GM,pz⟩|rfl|⟨j',c',AN,Co,rfl,aKG⟩
   ·exact mixed (id':=0) aps pz rA (cρ GM eC) nX hc fw (Kg hj hc hh) dQ
   ·exact absurd rA (SK)
   ·rw [IA]at rA;refine hC.mC j j' c c' hd dS g (λe=>eY ?_) hc Co fw rA (Kg hj hc hh) (Kg AN Co eC) dQ nX;subst e;rw [hj]at AN;injection AN
 ·by_cases hid:id<ρ.length
  ·rw [mF hid]at hh;exact hI.one id hd hh
  ·rw [nM (by omega),ug]at hh;exact hC.one _ hd hh
 ·rcases hC.jS a ha with h|h|h
  ·exact hI.jS a h
  ·exact .inr (handed h)
  ·exact .inr (.inr (qR hI.size h))
end
noncomputable section
variable {X:Cx} {R:Type} {M M':aF}
variable{x:AV}{g:FuncId}{o:Oper}{e:Operand->AV}{args:ak}
def NA:AV->Bool| .int _ _| .bool _| .str _| .jh | .kj _ _ _| .ae _ _| .nw | .eJ _ [] []=>true|_=>false
def uD:AV->Bool| .agg cs=>cs.all NA|x=>NA x
def ag4(h:NA x=true):x.pure=true:=by
 unfold NA at h;split at h<;>first|rfl|cases h
def a8.uD(hX:X.Ok){ρ ρ':bJ}{F:bD}{w:World}{x:AV}{v:Value}(hq:uD x=true)(h:a8 X.K ρ F w x v):a8 X.K ρ' F w x v:=by
 cases h with
 |agg cs vs hl hr=>exact .agg cs vs hl λj y u hy hu=>(hr j y u hy hu).pure hX.kinds (ag4 (mz.1 hq y (rU hy)))
 |int k n=>exact .int k n
 |bool b=>exact .bool b
 |str s=>exact .str s
 |jh=>exact .jh
 |kj t row off a vs hk hl hc hr=>exact a8.pure hX.kinds (.kj t row off a vs hk hl hc hr) rfl
 |ng t=>exact .ng t
 |ae t xs a cap vss hl nA mB hk hc hr=>exact a8.pure hX.kinds (.ae t xs a cap vss hl nA mB hk hc hr) rfl
 |nw=>exact .nw
 |eJ f first gV vf vc hf hc U h2=>exact a8.pure hX.kinds (.eJ f first gV vf vc hf hc U h2) (ag4 (by simpa only [aj.uD]using hq))
 |_=>exact absurd hq (by simp [aj.uD,NA])
def dm.uD(hX:X.Ok){ρ ρ':bJ}{F:bD}{w:World}{xs:ak}{vs:gz}(hq:xs.all uD=true)(h:dm X.K ρ F w xs vs):dm X.K ρ' F w xs vs:=
 ⟨h.1,λj y u hy hu=>(h.2 j y u hy hu).uD hX (mz.1 hq y (rU hy))⟩
def hdQ:Hd:=⟨.nilFunc,0⟩
def wH.lift(hX:X.Ok){f:FuncId}(h:wH X f args [] x [])(ha:args.all uD=true)(hx:uD x=true)(M:aF):wH X f args M x M:=by
 refine⟨h.1,λ{w0 S F ρ w vs} hI hr=> ?_⟩;have bB:yG M []=true:=rfl;have hs:=hI.sub hX bB hdQ;have vP:dm X.K (aj.sub hdQ ρ []) F w args vs:=hr.uD hX ha;refine(h.2 hs vP).mono ?_;rintro e w' ⟨v,ρ',F',rfl,eZ,hg,hv⟩;obtain⟨i3,g3,_⟩:=hI.merge (m:=0) hX bB hdQ eZ (hg.toF 0) rfl;have hm:aj.merge 0 M [] []=M:=by simp [aj.merge,wS]
 rw [hm]at i3;exact⟨v,_,F',rfl,i3,g3,hv.uD hX hx⟩
def az1{c:Call}(ho:o.op= .call c){f:Operand}(pq:c.callee= .value f){first gV:ak}(hf:e f= .eJ g first gV)
 (h:wH X g (first++c.args.toList.map e++gV) M x M'):gQ X o e M x M':=by
 obtain⟨qo,sq⟩:=h;intro rd n w0 S F ρ w act next Q hI hr hn;have U:=hr f;rw [hf]at U;generalize hv:act.eval f=vf at U;cases U with
 |eJ _ _ _ v1 v2 gY ko r1 r2=>
  exact ao8
def aEA(X:Cx)(t:TypeId):Bool:=(X.ti t).ok &&(X.ti t).ks.all λk=>match k with| .int _=>true| .bool =>true| .str =>true|_=>false
def TU(X:Cx)(e:Operand->AV)(o:Oper):Option (FuncId×ak):=
 match o.op with
 | .call c=>
   match c.callee with
   | .value f=>
     match e f with
     | .eJ g first gV=>
       match(aEA X o.type&&(first++c.args.toList.map e++gV).all uD)&&X.pk with
       |true=>some (g,first++c.args.toList.map e++gV)
       |false=>none
     |_=>none
   |_=>none
 |_=>none
def ahe(hX:X.Okb){T:j0 R}(hT:T.qV X){k:AV->Option R}{r:R}(hq:TU X e o=some (g,args))
 (h:(T.call g args [] λx M'=>bf (M'.isEmpty&&uD x) (k x))=some r):∃y,k y=some r/\∀(M':aF),gQ X o e M' y M':=by
 unfold TU at hq;split at hq
 case h_2=>cases hq
 rename_i c ho;split at hq
 case h_2=>cases hq
 rename_i f pq;split at hq
 case h_2=>cases hq
 rename_i g' first gV hf
 split at hq
 case h_2=>cases hq
 rename_i jP;injection hq with hq;injection hq with U h2;subst U;subst h2;obtain⟨x,M1,hc,h,_⟩:=hT.call h;replace h:=cO h;obtain⟨U,h⟩:=h;rw [bw]at U jP;obtain⟨jP,hpk⟩:=jP;rw [bw]at jP;have:M1=[]:=by simpa using U.1
 subst this;exact⟨x,h,λM'=>az1 ho pq hf (hc.lift (hX.ok hpk) jP.2 U.2 M')⟩
end
end Go.aj
namespace Go.aj
def Nb{p:Prop}(h:p:=by
 intro y h;cases y<;>first|rfl|cases h):p:=h
def abc{p:Prop}(h:p:=by
 intro a y h;cases y<;>first|cases h|skip
 rw [dX h]):p:=h
def akJ{p:Prop}(h:p:=by
 simp only [bw]at h;rw [dX h.1.1,dX h.1.2,dX h.2]):p:=h
def akt{p:Prop}(h:p:=by
 obtain⟨e',Cn,hh⟩:=h2 w hw;exact⟨e',fJ _ Cn,hh⟩):p:=h
def MY{p:Prop}(h:p:=by simpa using ht):p:=h
def aj7{p:Prop}(h:p:=by
 intro cs ih y h;cases y<;>first|cases h|skip
 rw [ih _ h]):p:=h
end Go.aj
namespace Go.aj
open Go
noncomputable section
variable {X:Cx} {R:Type}
variable{id:Nat}
structure bX where
 i:Nat
 o:Oper
 q:Bool
 x:AV
 ids:dx
 cl:Nat
 env:bL
 M:aF
 M':aF
variable{s:bX}
def kf(o:Oper):dx:=o.op.operands.toList.filterMap λ| .tmp t=>some t|_=>none
def guardOf(ops:Array Oper)(o:Oper):dx:=match o.guard with|some (j,_)=>(DG ops j).toList |none=>[]
def oA(rs:dx)(env:bL):bL:=rs.map λu=>(u,look env u)
theorem ah3(env:bL)(t:Nat):∀rs:dx,look (oA rs env) t=look env t/\t∈rs∨look (oA rs env) t= .top
 | []=> .inr rfl
 |u::rs=>by
  unfold oA;simp only [jG,sy,look_nil]
  by_cases ht:t=u
  ·subst ht;simp
  ·have:(t==u)=false:=by simpa using ht
   simp only [this,nP,lI];rcases ah3 env t rs with⟨h,hm⟩|h
   ·exact .inl ⟨h,fJ _ hm⟩
   ·exact .inr h
def TR:List bX->Nat->Option Nat
 | [],_=>none
 |t::log,i=>if t.i==i then some t.cl else TR log i
def uC(log:List bX):List Edge->Option Nat
 | []=>some 0
 |e::es=>
  if Region.binds .any e then
   match TR log e.on,uC log es with
   |some m,some r=>some (2^e.on|||m|||r)
   |_,_=>none
  else uC log es
theorem azy{log:List bX}{i m:Nat}(h:TR log i=some m):∃t∈log,t.i=i/\t.cl=m:=by
 induction log with
 |nil=>exact aD
 |cons t log ih=>
  simp only [TR]at h;split at h
  ·rename_i ht;injection h with h;exact⟨t,ez,MY,h⟩
  ·obtain⟨s,hs,U⟩:=ih h;exact⟨s,fJ _ hs,U⟩
theorem Rn{log:List bX}:∀{es:List Edge} {m:Nat},uC log es=some m->
 (∀e∈es,Region.binds .any e=true->∃t∈log,t.i=e.on)/\∀w,m.testBit w=true->∃e∈es,Region.binds .any e=true/\(w=e.on∨∃t∈log,t.i=e.on/\t.cl.testBit w=true)
 | [],m,h=>by
   simp only [uC,Option.some.injEq]at h;subst h;exact⟨λe he=>by simp at he,λw hw=>by simp at hw⟩
 |e::es,m,h=>by
  simp only [uC]at h;split at h
  ·rename_i hb;split at h
   ·rename_i a r ha hr;injection h with h;subst h;obtain⟨t,ht,Vc,htc⟩:=azy ha;obtain⟨U,h2⟩:=Rn hr;refine⟨λe' Cn pz=> ?_,λw hw=> ?_⟩
    ·rcases fV.1 Cn with rfl|Cn
     ·exact⟨t,ht,Vc⟩
     ·exact U e' Cn pz
    ·rw [Nat.testBit_or,Nat.testBit_or,A8,A8]at hw;rcases hw with(hw|hw)|hw
     ·rw [Nat.testBit_two_pow]at hw;exact⟨e,ez,hb,.inl (by simpa using Eq.symm (by simpa using hw))⟩
     ·exact⟨e,ez,hb,.inr ⟨t,ht,Vc,by rw [htc];exact hw⟩⟩
     ·exact akt
   ·exact aD
  ·rename_i hb;obtain⟨U,h2⟩:=Rn h;refine⟨λe' Cn pz=> ?_,λw hw=> ?_⟩
   ·rcases fV.1 Cn with rfl|Cn
    ·exact absurd pz hb
    ·exact U e' Cn pz
   ·exact akt
def xZ(o:Option Nat)(l:dx):Bool:=match o with|some d=>l.contains d|none=>false
theorem RY{o:Option Nat}{l:dx}(h:(!xZ o l)=true):∀d,o=some d->d∉l:=by
 intro d hd hm;subst hd;simp [xZ,hm]at h
def xM{α:Type}(f:α->α->Bool):List α->List α->Bool
 | [],[]=>true
 |x::xs,y::ys=>f x y&&xM f xs ys
 |_,_=>false
theorem Db{α:Type}{f:α->α->Bool}(hf:∀x y,f x y=true->x=y):∀{xs ys:List α},xM f xs ys=true->xs=ys
 | [],[],_=>rfl
 | [],_::_,h=>by simp [xM]at h
 |_::_,[],h=>by simp [xM]at h
 |x::xs,y::ys,h=>by
  simp only [xM,bw]at h;rw [hf x y h.1,Db hf h.2]
def Nv:AV->AV->Bool
 | .int k a,.int k' b=>k==k'&&a==b
 | .bool a,.bool b=>a==b
 | .jh,.jh =>true
 | .ptr a i o,.ptr b j p=>Nat.beq a b&&Nat.beq i j&&Nat.beq o p
 | .au a,.au b=>Nat.beq a b
 | .jI,.jI =>true
 | .nw,.nw =>true
 | .jz a,.jz b=>Nat.beq a b
 | .mp a,.mp b=>Nat.beq a b
 | .pI,.pI =>true
 | .oy a n,.oy b m=>Nat.beq a b&&Nat.beq n m
 | .vw a l n,.vw b k m=>Nat.beq a b&&Nat.beq l k&&Nat.beq n m
 | .mS,.mS =>true
 | .str a,.str b=>decide (a=b)
 |_,_=>false
theorem Zv(x y:AV)(h:Nv x y=true):x=y:=by
 cases x<;>cases y<;>simp_all [Nv]
def Ju(x:AV):AV->Bool:=AV.rec (motive_1:=λ_=>AV->Bool) (motive_2:=λ_=>List AV->Bool) (motive_3:=λ_=>List ak->Bool) (λ_=>false) (λk a y=>match y with| .int k' b=>k==k'&&a==b|_=>false) (λa y=>match y with| .bool b=>a==b|_=>false) (λa y=>match y with| .str b=>decide (a=b)|_=>false)
 (λ_ ih y=>match y with| .agg ys=>ih ys|_=>false) (λ_ ih y=>match y with| .eV ys=>ih ys|_=>false) (λy=>match y with| .jh =>true|_=>false)
 (λt _ off ih y=>match y with| .kj t' row BL=>Nat.beq t t'&&Nat.beq off BL&&ih row|_=>false) (λa i o y=>match y with| .ptr b j p=>Nat.beq a b&&Nat.beq i j&&Nat.beq o p|_=>false)
 (λt _ ih y=>match y with| .ae t' ys=>Nat.beq t t'&&ih ys|_=>false) (λa y=>match y with| .au b=>Nat.beq a b|_=>false) (λy=>match y with| .jI =>true|_=>false)
 (λf _ _ nG mu y=>match y with| .eJ g a b=>Nat.beq f g&&nG a&&mu b|_=>false) (λy=>match y with| .nw =>true|_=>false) (λa y=>match y with| .jz b=>Nat.beq a b|_=>false) (λa y=>match y with| .mp b=>Nat.beq a b|_=>false)
 (λy=>match y with| .pI =>true|_=>false) (λa n y=>match y with| .oy b m=>Nat.beq a b&&Nat.beq n m|_=>false) (λa l n y=>match y with| .vw b k m=>Nat.beq a b&&Nat.beq l k&&Nat.beq n m|_=>false) (λy=>match y with| .mS =>true|_=>false)
 (λl=>match l with| []=>true|_=>false) (λ_ _ nG mu l=>match l with|y::ys=>nG y&&mu ys| []=>false) (λl=>match l with| []=>true|_=>false) (λ_ _ nG mu l=>match l with|y::ys=>nG y&&mu ys| []=>false) x
def I9(x:ak):ak->Bool:=AV.rec_1 (motive_1:=λ_=>AV->Bool) (motive_2:=λ_=>List AV->Bool) (motive_3:=λ_=>List ak->Bool) (λ_=>false) (λk a y=>match y with| .int k' b=>k==k'&&a==b|_=>false) (λa y=>match y with| .bool b=>a==b|_=>false) (λa y=>match y with| .str b=>decide (a=b)|_=>false)
 (λ_ ih y=>match y with| .agg ys=>ih ys|_=>false) (λ_ ih y=>match y with| .eV ys=>ih ys|_=>false) (λy=>match y with| .jh =>true|_=>false)
 (λt _ off ih y=>match y with| .kj t' row BL=>Nat.beq t t'&&Nat.beq off BL&&ih row|_=>false) (λa i o y=>match y with| .ptr b j p=>Nat.beq a b&&Nat.beq i j&&Nat.beq o p|_=>false)
 (λt _ ih y=>match y with| .ae t' ys=>Nat.beq t t'&&ih ys|_=>false) (λa y=>match y with| .au b=>Nat.beq a b|_=>false) (λy=>match y with| .jI =>true|_=>false)
 (λf _ _ nG mu y=>match y with| .eJ g a b=>Nat.beq f g&&nG a&&mu b|_=>false) (λy=>match y with| .nw =>true|_=>false) (λa y=>match y with| .jz b=>Nat.beq a b|_=>false) (λa y=>match y with| .mp b=>Nat.beq a b|_=>false)
 (λy=>match y with| .pI =>true|_=>false) (λa n y=>match y with| .oy b m=>Nat.beq a b&&Nat.beq n m|_=>false) (λa l n y=>match y with| .vw b k m=>Nat.beq a b&&Nat.beq l k&&Nat.beq n m|_=>false) (λy=>match y with| .mS =>true|_=>false)
 (λl=>match l with| []=>true|_=>false) (λ_ _ nG mu l=>match l with|y::ys=>nG y&&mu ys| []=>false) (λl=>match l with| []=>true|_=>false) (λ_ _ nG mu l=>match l with|y::ys=>nG y&&mu ys| []=>false) x
def aas(x:List ak):List ak->Bool:=AV.rec_2 (motive_1:=λ_=>AV->Bool) (motive_2:=λ_=>List AV->Bool) (motive_3:=λ_=>List ak->Bool) (λ_=>false) (λk a y=>match y with| .int k' b=>k==k'&&a==b|_=>false) (λa y=>match y with| .bool b=>a==b|_=>false) (λa y=>match y with| .str b=>decide (a=b)|_=>false)
 (λ_ ih y=>match y with| .agg ys=>ih ys|_=>false) (λ_ ih y=>match y with| .eV ys=>ih ys|_=>false) (λy=>match y with| .jh =>true|_=>false)
 (λt _ off ih y=>match y with| .kj t' row BL=>Nat.beq t t'&&Nat.beq off BL&&ih row|_=>false) (λa i o y=>match y with| .ptr b j p=>Nat.beq a b&&Nat.beq i j&&Nat.beq o p|_=>false)
 (λt _ ih y=>match y with| .ae t' ys=>Nat.beq t t'&&ih ys|_=>false) (λa y=>match y with| .au b=>Nat.beq a b|_=>false) (λy=>match y with| .jI =>true|_=>false)
 (λf _ _ nG mu y=>match y with| .eJ g a b=>Nat.beq f g&&nG a&&mu b|_=>false) (λy=>match y with| .nw =>true|_=>false) (λa y=>match y with| .jz b=>Nat.beq a b|_=>false) (λa y=>match y with| .mp b=>Nat.beq a b|_=>false)
 (λy=>match y with| .pI =>true|_=>false) (λa n y=>match y with| .oy b m=>Nat.beq a b&&Nat.beq n m|_=>false) (λa l n y=>match y with| .vw b k m=>Nat.beq a b&&Nat.beq l k&&Nat.beq n m|_=>false) (λy=>match y with| .mS =>true|_=>false)
 (λl=>match l with| []=>true|_=>false) (λ_ _ nG mu l=>match l with|y::ys=>nG y&&mu ys| []=>false) (λl=>match l with| []=>true|_=>false) (λ_ _ nG mu l=>match l with|y::ys=>nG y&&mu ys| []=>false) x
theorem Zt(x:AV):∀(y:AV),Ju x y=true->x=y:=by
 refine AV.rec (motive_1:=λx=>∀y,Ju x y=true->x=y) (motive_2:=λl=>∀l',I9 l l'=true->l=l') (motive_3:=λl=>∀l',aas l l'=true->l=l') ?_ ?_ ?_ ?_ ?_ ?_ ?_ ?_ ?_ ?_ ?_ ?_ ?_ ?_ ?_ ?_ ?_ ?_ ?_ ?_ ?_ ?_ ?_ ?_ x
 ·intro y h;cases h
 ·intro k a y h;cases y<;>first|cases h|skip
  rename_i k' b;have h:(k==k'&&a==b)=true:=h;simp only [bw,iU]at h;rw [h.1,h.2]
 ·intro a y h;cases y<;>first|cases h|skip
  rename_i b;have h:(a==b)=true:=h;rw [iU]at h;rw [h]
 ·intro a y h;cases y<;>first|cases h|skip
  rename_i b;have h:decide (a=b)=true:=h;rw [yy h]
 ·exact aj7
 ·exact aj7
 ·exact Nb
 ·intro t row off ih y h;cases y<;>first|cases h|skip
  rename_i t' J0 BL;have h:(Nat.beq t t'&&Nat.beq off BL&&I9 row J0)=true:=h;simp only [bw]at h;rw [dX h.1.1,dX h.1.2,ih _ h.2]
 ·intro a i o y h;cases y<;>first|cases h|skip
  rename_i b j p;have h:(Nat.beq a b&&Nat.beq i j&&Nat.beq o p)=true:=h;exact akJ
 ·intro t xs ih y h;cases y<;>first|cases h|skip
  rename_i t' ys;have h:(Nat.beq t t'&&aas xs ys)=true:=h;rw [bw]at h;rw [dX h.1,ih _ h.2]
 ·exact abc
 ·exact Nb
 ·intro f a b nG mu y h;cases y<;>first|cases h|skip
  rename_i g a' b';have h:(Nat.beq f g&&I9 a a'&&I9 b b')=true:=h;simp only [bw]at h;rw [dX h.1.1,nG _ h.1.2,mu _ h.2]
 ·exact Nb
 ·exact abc
 ·exact abc
 ·exact Nb
 ·intro a n y h;cases y<;>first|cases h|skip
  rename_i b m;have h:(Nat.beq a b&&Nat.beq n m)=true:=h;rw [bw]at h;rw [dX h.1,dX h.2]
 ·intro a l n y h;cases y<;>first|cases h|skip
  rename_i b k m;have h:(Nat.beq a b&&Nat.beq l k&&Nat.beq n m)=true:=h;exact akJ
 ·exact Nb
 ·intro l h;cases l<;>first|rfl|cases h
 ·intro x xs nG mu l h;cases l with
  |nil=>exact aD
  |cons y ys=>
   have h:(Ju x y&&I9 xs ys)=true:=h;rw [bw]at h;rw [nG _ h.1,mu _ h.2]
 ·intro l h;cases l<;>first|rfl|cases h
 ·intro x xs nG mu l h;cases l with
  |nil=>exact aD
  |cons y ys=>
   have h:(I9 x y&&aas xs ys)=true:=h;rw [bw]at h;rw [nG _ h.1,mu _ h.2]
def Tn:AV->AV->Bool
 | .ae t xs,y=>Ju (.ae t xs) y
 | .kj t row off,y=>Ju (.kj t row off) y
 |x,y=>Nv x y
theorem ahU(x y:AV)(h:Tn x y=true):x=y:=by
 unfold Tn at h;split at h
 ·exact Zt _ _ h
 ·exact Zt _ _ h
 ·exact Zv _ _ h
def Nu:AV->AV->Bool
 | .agg xs,.agg ys=>xM Tn xs ys
 | .eJ f [] xs,.eJ g [] ys=>Nat.beq f g&&xM Nv xs ys
 |x,y=>Tn x y
theorem Zu(x y:AV)(h:Nu x y=true):x=y:=by
 unfold Nu at h;split at h
 ·rw [Db ahU h]
 ·rw [bw]at h;rw [Db Zv h.2,dX h.1]
 ·exact ahU _ _ h
def abD(x y:AV×AV):Bool:=Nv x.1 y.1&&Nu x.2 y.2
theorem aAh(x y:AV×AV)(h:abD x y=true):x=y:=by
 obtain⟨a,b⟩:=x;obtain⟨c,d⟩:=y;simp only [abD,bw]at h;rw [Zv _ _ h.1,Zu _ _ h.2]
def abF:eE->eE->Bool
 | .var ks cs,.var Cf AQ=>ks==Cf&&xM Nu cs AQ
 | .row t xs,.row t' jN=>t==t'&&xM (xM Nu) xs jN
 | .map k ag ks es,.map k' ag' Cf es'=>k==k'&&ag==ag'&&ks==Cf&&xM abD es es'
 | .dead,.dead =>true
 |_,_=>false
theorem aAi(x y:eE)(h:abF x y=true):x=y:=by
 unfold abF at h;split at h
 ·simp only [bw,iU]at h;rw [h.1,Db Zu h.2]
 ·simp only [bw,iU]at h;rw [h.1,Db (λ_ _ h=>Db Zu h) h.2]
 ·simp only [bw,iU]at h;rw [h.1.1.1,h.1.1.2,h.1.2,Db aAh h.2]
 ·rfl
 ·exact aD
def adb(l:dx)(d:Nat):Bool:=List.rec (motive:=λ_=>Bool) false (λu _ ih=>Bool.rec (motive:=λ_=>Bool) ih true (Nat.beq d u)) l
theorem ah8:∀{l:dx} {d:Nat},adb l d=false->d∉l
 | [],_,_,h=>gU
 |u::l,d,h,hm=>by
  have h:Bool.rec (motive:=λ_=>Bool) (adb l d) true (Nat.beq d u)=false:=h;cases hb:Nat.beq d u with
  |true=>rw [hb]at h;cases h
  |false=>
   rw [hb]at h;rcases fV.1 hm with e|hm
   ·subst e;simp at hb
   ·exact ah8 h hm
def bX.keeps(s:bX)(id:Nat):Bool:=
 match gm s.M id with
 |none=>false
 |some b=>match adb s.ids id with
  |false=>true
  |true=>match gm s.M' id with|some a=>abF a b|none=>false
def bX.yM(s:bX)(id:Nat):Prop:=(id∉s.ids/\id<s.M.length)∨s.M'[id]?=s.M[id]?
theorem bX.ag6(h:s.keeps id=true):s.yM id:=by
 unfold bX.keeps at h;simp only [fR]at h;split at h
 ·exact aD
 ·rename_i b hb;split at h
  ·rename_i hn;exact .inl ⟨ah8 hn,(fK.1 hb).1⟩
  ·split at h
   ·rename_i a ha;exact .inr (by rw [ha,hb,aAi _ _ h])
   ·exact aD
theorem bX.yM.at(h:s.yM id)(ha:dc s.ids s.M s.M'):s.M'[id]?=s.M[id]?:=by
 rcases h with⟨U,h2⟩|h
 ·exact ha.2 id h2 U
 ·exact h
def aaC(ops:Array Oper)(t s:bX):Bool:=
 !(t.i==s.i)&& !(t.o.dst.isSome&&t.o.dst==s.o.dst)&&
 (t.cl.testBit s.i||
   (!xZ s.o.dst (kf t.o++guardOf ops t.o)&& !xZ t.o.dst (kf s.o++guardOf ops s.o)&&
     match t.q,s.q with
     |true,true=>true
     |false,false=>false
     |true,false=>t.ids.all λid=>s.keeps id
     |false,true=>s.ids.all λid=>t.keeps id))
def bX.UL(X:Cx)(nt:Nt)(ops:Array Oper)(t:bX):Prop:=
 ∀{M0:aF},(t.q=true->∀id∈t.ids,M0[id]?=t.M[id]?)->(t.q=false->M0=t.M)->
  ∀{rdc:Cy} {n:Nat} {w0:World} {S:Sc} {F:bD} {ρ:bJ} {a:Act} {w:World} {Q:Exit->Act->World->Prop} {K:Act->World->Prop},Inv X w0 S F ρ M0 w->a.tmps.size=nt.n->
   (∀u∈kf t.o++guardOf ops t.o,a8 X.K ρ F w (look t.env u) (a.tmps.getD u undef))->
   (∀v w' F' ρ',Inv X w0 S F' ρ' (if t.q then M0 else t.M') w'->a8 X.K ρ' F' w' t.x v->Grow F F' ρ ρ' w w'->K (a.put t.o.dst v) w')->wpOpIn (nK rdc.r) n X.P ops Q t.i K a w
section
variable {D:Nat->Bool} {nt:Nt} {ops:Array Oper} {env0:bL} {M0:aF}
abbrev cG(L:Array Bool)(i:Nat):Prop:=L.getD i false=true
def wG(L:Array Bool)(log:List bX):Prop:=∀t∈log,cG L t.i->∀e∈t.o.after,Region.binds .any e=true->cG L e.on
end
end
end Go.aj
namespace Go.aj
def Jg{p:Prop}(h:p:=by simp [hq]):p:=h
end Go.aj
namespace Go.aj
def Rz:=@List.countP_cons_of_pos
def Zl:=@List.countP_cons_of_neg
end Go.aj
namespace Go.aj
open Go
noncomputable section
variable {X:Cx} {R:Type}
section
variable {D:Nat->Bool} {nt:Nt} {ops:Array Oper} {env0:bL} {M0:aF}
theorem Y9{α:Type}{p q:α->Bool}:∀{l:List α},(∀x∈l,q x=true->p x=true)->(∃x∈l,p x=true/\q x=false)->l.countP q<l.countP p
 | [],_,⟨x,hx,_⟩=>Jc
 |a::l,h,⟨x,hx,hp,hq⟩=>by
  have aLO:l.countP q<=l.countP p:=List.countP_mono_left λy hy=>h y (fJ _ hy);rcases fV.1 hx with rfl|hx
  ·rw [Rz hp,Zl (Jg)];omega
  ·have ih:=Y9 (λy hy=>h y (fJ _ hy)) ⟨x,hx,hp,hq⟩
   by_cases hqa:q a=true
   ·rw [Rz hqa,Rz (h a ez hqa)];omega
   ·rw [Zl hqa]
    by_cases hpa:p a=true
    ·rw [Rz hpa];omega
    ·rw [Zl hpa];omega
end
end
noncomputable section
variable {X:Cx} {R:Type}
section
variable {w0 w:World} {S:Sc} {F:bD}
end
def alT(o:Oper):Option TypeId:=match o.op with| .alloc t=>some t|_=>none
def ap8(X:Cx)(o:Oper):Bool:=match alT o with|some t=>((X.ti t).ok &&X.yc (qH X t) t)&&cZ (qH X t) (X.ti t).zero &&(X.ti t).zero.all (λx=>x.pure)&&o.guard.isNone|none=>false
section
variable {D:Nat->Bool} {nt:Nt} {ops:Array Oper} {env0:bL} {M0:aF}
end
end
noncomputable section
variable {X:Cx} {R:Type}
variable{env:bL}
def Nw(T:j0 R)(ops:Array Oper)(t:bX)(st:St)(log:List bX)(k:List bX->St->Option R):Option R:=
 bf (log.all (aaC ops t)) (vF T.nt st t.o.dst t.x t.M' λaV=>k (t::log) aV)
def al7:Nat->List Oper->Bool
 |_,[]=>true
 |i,o::os=>(o.after.toList.all λe=> !Region.binds .any e||Nat.blt e.on i)&&al7 (i+1) os
def ahN(done:dx):Nat->List Oper->Option Nat
 |_,[]=>none
 |i,o::os=>if !done.contains i&&(o.after.toList.all λe=> !Region.binds .any e||done.contains e.on)then some i else ahN done (i+1) os
def anX(ops:List Oper):Nat->dx->dx
 |0,done=>done.reverse
 |n+1,done=>match ahN done 0 ops with|some i=>anX ops n (i::done)|none=>done.reverse
def amu(ops:List Oper):dx:=if al7 0 ops then List.range ops.length else anX ops ops.length []
theorem Iz{ρ:bJ}{F:bD}{w:World}{tmps:Array Value}{rs:dx}(h:∀u∈rs,a8 X.K ρ F w (look env u) (tmps.getD u undef)):k8 X ρ F w (oA rs env) tmps:=by
 intro t;rcases ah3 env t rs with⟨he,hm⟩|he
 ·rw [he];exact h t hm
 ·rw [he];exact .top _
theorem CU{d:Nat}{x:AV}(h:look env d=x)(u:Nat):look ((d,x)::env) u=look env u:=by
 simp only [sy,look_nil]
 by_cases hu:u=d
 ·subst hu;simp [h]
 ·have:(u==d)=false:=by simpa using hu
  simp [this]
def JJ(X:Cx)(ops:Array Oper)(o:Oper)(env:bL)(b:Bool):Prop:=
 ∀{ρ:bJ} {F:bD} {w:World} {tmps:Array Value},(∀u∈kf o++guardOf ops o,a8 X.K ρ F w (look env u) (tmps.getD u undef))->Region.wanted o (yielded ops tmps)=b
variable {D:Nat->Bool} {nt:Nt} {ops:Array Oper} {env0 jy:bL} {M0 M1:aF}
theorem agY{T:j0 R}{t:bX}{st:St}{log:List bX}{k:List bX->St->Option R}{r:R}(h:Nw T ops t st log k=some r):
 ∃aV,k (t::log) aV=some r/\(∀s∈log,aaC ops t s=true)/\(∀d,t.o.dst=some d->d<T.nt.n/\T.nt.mask.testBit d=true)/\(∀u,look aV.env u=(if t.o.dst=some u then t.x else look st.env u))/\aV.mem=t.M'/\aV.kR=st.kR/\aV.rd=st.rd:=by
 unfold Nw at h;replace h:=cO h;obtain⟨hp,h⟩:=h;unfold vF at h;have ER:∀s∈log,aaC ops t s=true:=λs hs=>mz.1 hp s hs;cases hd:t.o.dst with
 |none=>
  rw [hd]at h;exact⟨_,h,ER,λd e=>by simp at e,λu=>by simp,rfl,rfl,rfl⟩
 |some d=>
  rw [hd]at h;replace h:=cO h;obtain⟨cH,h⟩:=h;refine⟨_,h,ER,λd' e=>by injection e with e;subst e;simp only [bw]at cH;exact⟨by simpa using cH.1,cH.2⟩,λu=> ?_,rfl,rfl,rfl⟩;simp only [sy,look_nil]
  by_cases hu:u=d
  ·subst hu;simp
  ·have:(u==d)=false:=by simpa using hu
   have h2:¬d=u:=λe=>hu e.symm;simp [this,h2]
theorem World.afZ(w:World):w.grownBy {w with drawn:=w.drawn+1} none:=⟨rfl,rfl,rfl,iZ _,λ_ _ _=>rfl⟩
end
noncomputable section
variable {X:Cx} {R:Type}
variable {D:Nat->Bool} {nt:Nt} {ops:Array Oper} {env0:bL} {M0:aF}
end
noncomputable section
variable {X:Cx} {R:Type}
def aEa(l:dx):Nat:=List.rec (motive:=λ_=>Nat) 0 (λu _ ih=>Nat.lor (Nat.shiftLeft 1 u) ih) l
def OE(ops:Array Oper)(o:Oper):Nat:=aEa (kf o++guardOf ops o)
variable {D:Nat->Bool} {nt:Nt} {ops:Array Oper} {env0 jy:bL} {M0 M1:aF}
end
end Go.aj
namespace Go.aj
def ao6{p:Prop}(h:p:=by
 intro l1
 induction l1 with
 |nil=>intro _ _ _ _ _ t ht;simp at ht
 |cons s l1 ih=>
  intro l2 jR M' hl he t ht;obtain⟨jy,M1,gY,st⟩:=hl;have qK:=ih (l2++[s]) jy M1 gY (by simpa using he);rcases fV.1 ht with rfl|ht
  ·by_cases di:cG L t.i
   ·exact di
   ·exfalso;have kl:t.i∈Region.ready .any ops L:=by
     rw [RR];have cH:t.i<ops.size:=(zH.1 st.op).1;refine⟨?_,t.o,st.op,λe hee hb=> ?_⟩
     ·have:t.i<L.size:=by omega
      simp only [cG,sG,FC this,uh]at di⊢;simpa using di
     ·obtain⟨r,vP,AM⟩:=st.pre e hee hb;rw [<-AM];exact qK r vP
    rw [hr]at kl;simp at kl
  ·exact qK t ht):p:=h
def Tz{p:Prop}(h:p:=by
 intro _ Mx hM _ rdc n w0 S F ρ a w Q K hI eX hr hk;unfold wpOpIn;simp only [hi,hw hr,lG];exact du Mx hI (λz=>Di hI (Iz λu hu=>hr u (A7 _ hu)) z) (λv w' ρ' F' eZ hg hx=>hk v w' F' ρ' eZ hx hg)):p:=h
def am3{p:Prop}(h:p:=by
 cases hr:Region.ready .any ops L with
 |nil=>rfl
 |cons i is=>
  exfalso;have kl:i∈Region.ready .any ops L:=by rw [hr];exact ez
  rw [RR]at kl;obtain⟨hf,o,ho,_⟩:=kl;have cH:i<ops.size:=(zH.1 ho).1;obtain⟨t,ht,rfl⟩:=jP i cH;have U:=di t ht;have:t.i<L.size:=by omega
  simp only [cG,sG,FC this,uh]at U hf;rw [U]at hf;cases hf):p:=h
def amZ{p:Prop}(h:p:=by
 intro _ Mx _ hM rdc n w0 S F ρ a w Q K hI eX hr hk;unfold wpOpIn;simp only [hi,hw hr,lG];have HE:=hM rfl;subst HE;exact du hI (λz=>Di hI (Iz λu hu=>hr u (A7 _ hu)) z) (λv w' ρ' F' eZ hg hx=>hk v w' F' ρ' eZ hx hg)):p:=h
def amY{p:Prop}(h:p:=by
 cases qM:(cT M0 L c).2 with
 |false=>rfl
 |true=>
  rw [yq]at qM;have:(cT M0 (L.setIfInBounds t.i true) c).2 =true:=yq.2 λr hr xm=>(pQ _).2 (.inr (qM r hr xm));rw [this]at jY;cases jY):p:=h
def amW{p:Prop}(h:p:=by
 intro t ht;have h0:log.countP (λt=> !(L.getD t.i false))=0:=by omega
 have:=List.countP_eq_zero.1 h0 t ht;cases hb:L.getD t.i false with
 |true=>exact hb
 |false=>exact absurd (by simp only [hb,RQ]) this):p:=h
def amV{p:Prop}(h:p:=by
 intro _ Mx hM _ rdc n w0 S F ρ a w Q K hI eX hr hk;unfold wpOpIn;simp only [hi,hw hr,lG];exact du Mx (hM rfl) hI (λz=>Di hI (Iz λu hu=>hr u (A7 _ hu)) z) (λv w' ρ' F' eZ hg hx=>hk v w' F' ρ' eZ hx hg)):p:=h
def amU{p:Prop}(h:p:=by
 have:=hr d kl;rw [hb]at this;generalize hv:tmps.getD d undef=v at this;cases this with
 |eV cs vs ko _=>
  have:vs=[]:=by simpa using ko
  subst this;rw [L5 hg,afT hd hv];rfl):p:=h
def amR{p:Prop}(h:p:=by
 intro b env hb ρ F w tmps hr;have:=hr d kl;rw [hb]at this;generalize hv:tmps.getD d undef=v at this;cases this;rw [L5 hg,agS hd hv];cases b<;>cases want<;>rfl):p:=h
def amO{p:Prop}(h:p:=by
 rcases fV.1 hs with rfl|hs
 ·obtain⟨e,he,hb,rfl|⟨u,hu,Hq,hut⟩⟩:=st.cl w hw
  ·exact hp e he hb
  ·exact ih u hu (fh u (fJ _ hu) (by rw [Hq];exact hp e he hb)) w hut
 ·exact ih s hs hp w hw):p:=h
def Dy{p:Prop}(h:p:=by simp [sy,look_nil]):p:=h
def amD{p:Prop}(h:p:=by
 intro j
 by_cases hj:j=t.i
 ·subst hj;simp [cG,sG,ac4]
 ·simp only [cG];rw [getD_set_ne false (Ne.symm hj)];simp [hj]):p:=h
def amC{p:Prop}(h:p:=by
 cases Hr:t.o.dst with
 |none=>rfl
 |some d'=>
  have eY:d'≠u:=λe=>EM (e▸Hr);simp [Act.put,sG,RN eY]):p:=h
def abJ{p:Prop}(h:p:=by
 intro ht hs id hid;rw [ht,hs]at h6;exact bX.ag6 (mz.1 h6 id hid)):p:=h
def alD{p:Prop}(h:p:=by
 intro s hs ed eR;rcases(pQ _).1 ed with h|h
 ·exact absurd (dI.distinct hL s hs t ht h) eR
 ·exact h):p:=h
def alz{p:Prop}(h:p:=by
 rw [he];refine h0 λs hs ed hd=> ?_;rcases fV.1 hs with rfl|hs
 ·exact lx ed
 ·exact hn s hs hd):p:=h
def alj{p:Prop}(h:p:=by
 refine .inr ⟨λs hs=> ?_,h2⟩;rcases fV.1 hs with rfl|hs
 ·exact hd
 ·exact U s hs):p:=h
def alg{p:Prop}(h:p:=by
 intro i di;simp only [cG,sG,az4]at di;split at di<;>simp at di):p:=h
def ald{p:Prop}(h:p:=by
 cases Hr:t.o.dst with
 |none=>exact hm.kept
 |some d=>exact ah7 (st.dst d Hr).2 hm.kept):p:=h
def ak8{p:Prop}(h:p:=by
 simp only [cG,sG,FC ac4,uh]at hf⊢;rw [hf];simp):p:=h
def akZ{p:Prop}(h:p:=by have AL:=st.op;rw [ho]at AL;injection AL with AL;exact AL.symm):p:=h
def akG{p:Prop}(h:p:=by
 unfold Nw;simp only [List.all_nil,bf];exact h):p:=h
def akF{p:Prop}(h:p:=by
 obtain⟨t,ht,Vc⟩:=RM.1 this;exact⟨t,ht,by simpa using Vc⟩):p:=h
def aks{p:Prop}(h:p:=by have:=(pQ t.i).2 (.inl rfl);simpa [cG]using this):p:=h
def ako{p:Prop}(h:p:=by exact(hm.jS u λs hs ed=>hu s hs ((pQ _).2 (.inr ed))).grow hg):p:=h
def SH{p:Prop}(h:p:=by intro _ _ _ s hs;simp at hs):p:=h
def aj5{p:Prop}(h:p:=by simp only [newRow,gh,IQ,iV,ke,IN]):p:=h
def aj0{p:Prop}(h:p:=by simp only [Act.put];split<;>simp [hm.size]):p:=h
def ajW{p:Prop}(h:p:=by rw [h3];exact oC _ (fJ _ hr)):p:=h
def ajU{p:Prop}(h:p:=by simp only [Act.put];split<;>exact hm.defs):p:=h
def aaK{p:Prop}(h:p:=by rw [yi]at h;cases h):p:=h
def ajJ{p:Prop}(h:p:=by rw [<-Hw];exact oC _ ez):p:=h
def ajw{p:Prop}(h:p:=by rw [fW];exact oC _ ez):p:=h
def Sz{p:Prop}(h:p:=by rw [hq];simp):p:=h
end Go.aj
namespace Go.aj
def hY:=@List.cons_append
def oC:=@List.mem_append_right
def RR:=@Go.mem_ready
def RQ:=@Bool.not_false
def ue:=@List.append_of_mem
def xC:=@congrArg
def A7:=@List.mem_append_left
def az4:=@Array.getElem?_replicate
def ahL:=@List.countP_le_length
def RD:=@Bool.and_self
def RC:=@Bool.not_true
end Go.aj
namespace Go.aj
open Go
noncomputable section
variable {X:Cx} {R:Type}
variable{s t:bX}{l2 log:List bX}{k:List bX->St->Option R}{cl i:Nat}{o:Oper}{r:R}{st:St}{T:j0 R}{env:bL}
def adp(X:Cx)(t:TypeId)(len:Nat)(ps:bL):Option (TypeId×aY):=
 match(X.ti t).ok,(X.ti t).u with
 |true,.slice e=>
  (match(X.ti e).ok &&decide (0<(X.ti e).size)&&decide (len*(X.ti e).size <=16777216)with
   |true=>(match Aa (λi=>some (i*(X.ti e).size,(X.ti e).size)) ((List.replicate len (pg X e)).flatten) ps with
    |some cs=>(match(chunk (X.ti e).size len cs).all λrow=>cZ (X.K e) row with
     |true=>some (e,chunk (X.ti e).size len cs)
     |false=>none)
    |none=>none)
   |false=>none)
 |_,_=>none
theorem aA4(hX:X.Okb){t:TypeId}{len:Nat}{ps:bL}{e:TypeId}{rows:aY}(h:adp X t len ps=some (e,rows)){ρ:bJ}{F:bD}{w:World}(rr:∀(id:Nat) hd,ρ[id]?=some hd->hd.v.oneCell'=true)
 (pv:List (Nat×Value)) (hl:pv.length=ps.length) (hp:∀(j:Nat) p q,ps[j]?=some p->pv[j]?=some q->p.1=q.1/\a8 X.K ρ F w p.2 q.2):
 ∃us,(Instr.buildSlice t len pv.toArray).run X.P w= .ok (.slice (some ⟨w.heap.size,0,none⟩) len len) (w.alloc (.cells us e))/\rows.length=len/\
  n6 X ρ F (w.alloc (.cells us e)) ⟨.slice (some ⟨w.heap.size,0,none⟩) len len,(X.K e).length⟩ (.row e rows):=by
 unfold adp at h;split at h
 ·rename_i e' bB hu;split at h
  ·rename_i U;split at h
   ·rename_i cs xP;split at h
    ·rename_i lN;injection h with h;injection h with h2 h3;subst h2;subst h3;simp only [bw,gG]at U;obtain⟨⟨he,rm⟩,mB⟩:=U;obtain⟨i,d,z,f⟩:=hX.facts bB;obtain⟨i2,d2,z2,f2⟩:=hX.facts he;have dN:=f.slice hu;have tS:z2.cells.size=(X.ti e').size :=SU;have pO:(X.K e').length =(X.ti e').size :=Dx;have hz:dm X.K ρ F w (List.replicate len (pg X e')).flatten ((Array.range (len*z2.cells.size)).map (z2.cells[· %z2.cells.size]!)).toList :=abK;obtain⟨us,hf,hr⟩:=Iv rr ps _ cs _ pv xP hz hl hp;have aKY:cs.length=len*(X.ti e').size :=ao7;refine⟨us,?_,Fl _ _ _,rfl,λi row hi=> ?_,.inr ⟨w.heap.size,0,len,us,?_,Ry w _,by rw [Fl];exact iZ _,?_,?_,λi row hi j x hx=> ?_⟩⟩
     ·unfold Instr.buildSlice;simp only [gh,k7 dN,iV,f2.sizeOf];rw [if_neg (by omega)]
      by_cases h0:len*(X.ti e').size =0
      ·have e0:(Array.range (len*z2.cells.size)).map (z2.cells[· %z2.cells.size]!)= #[]:=by rw [tS,h0];simp
       rw [e0]at hf;rw [if_pos h0];simp only [gh,ke,iV];have e1:(Array.range (len*(X.ti e').size)).map (λx=>(#[]:Array Value)[x %(#[]:Array Value).size]!)= #[]:=by rw [h0];simp
       rw [e1,hf];exact aj5
      ·rw [if_neg h0];simp only [gh,ke,iV,f2.zeroValue];rw [tS]at hf;rw [tS,hf];exact aj5
     ·rw [mz]at lN;exact lN row (rU hi)
     ·rw [Fl]
     ·have:len<=len*(X.ti e').size :=Rx _ rm;exact Rj (by omega)
     ·have:=hr.1;simp only [qQ]at this;show 0+len*(X.K e').length <=us.size;rw [pO];omega
     ·obtain⟨v,U,h2⟩:=ahv hr hi hx;refine⟨v,?_,h2.mono (λ_ _ h=>h) (λ_ h=>h) (λa v _ hc=>awg a v hc)⟩;show us[0+i*(X.K e').length +j]?=some v;rw [pO,MB];rw [Mt]at U;exact U
    ·exact aD
   ·exact aD
  ·exact aD
 ·cases h
def flO(X:Cx)(o:Oper):Bool:=
 o.guard.isNone&&match o.op with
 | .alloc _=>o.after.toList.isEmpty|| !X.pk
 | .buildSlice _ n _=>(!X.pk&&Nat.blt 0 n)||(X.pk&&Nat.beq n 0&&o.after.toList.isEmpty)
 |_=>false
def iG(X:Cx)(t:bX):Bool:= !t.q&&flO X t.o
def IW(X:Cx)(ops:Array Oper)(t s:bX):Bool:=
 !(t.i==s.i)&& !(t.o.dst.isSome&&t.o.dst==s.o.dst)&&
 (t.cl.testBit s.i||
   (!xZ s.o.dst (kf t.o++guardOf ops t.o)&& !xZ t.o.dst (kf s.o++guardOf ops s.o)&&
     match t.q,s.q with
     |true,true=>true
     |false,false=>iG X t
     |true,false=>t.ids.all λid=>s.keeps id
     |false,true=>s.ids.all λid=>t.keeps id))
theorem xx{ops:Array Oper}(h:IW X ops t s=true):t.i≠s.i/\(∀d,t.o.dst=some d->s.o.dst≠some d)/\
 (t.cl.testBit s.i=true∨((∀d,s.o.dst=some d->d∉kf t.o++guardOf ops t.o)/\(∀d,t.o.dst=some d->d∉kf s.o++guardOf ops s.o)/\(t.q=true∨s.q=true∨iG X t=true)/\
   (t.q=true->s.q=false->∀id∈t.ids,s.yM id)/\(t.q=false->s.q=true->∀id∈s.ids,t.yM id))):=by
 unfold IW at h;rw [bw,bw,A8]at h;obtain⟨⟨U,h2⟩,h3⟩:=h;refine⟨xO,λd hd hs=>by simp [hd,hs]at h2,?_⟩;rcases h3 with h3|h3
 ·exact .inl h3
 ·refine .inr ?_;rw [bw,bw]at h3;obtain⟨⟨h4,h5⟩,h6⟩:=h3;refine⟨RY h4,RY h5,?_,?_,?_⟩
  ·revert h6;cases t.q<;>cases s.q<;>simp
  ·exact abJ
  ·exact abJ
def Ej(X:Cx)(t:bX):List bX->Bool
 | []=>true
 |f::l=>(!(iG X f&&t.cl.testBit f.i)||l.all λr=>r.q||t.cl.testBit r.i)&&Ej X t l
theorem RU{t:bX}:∀{l2:List bX} {f:bX} {l1:List bX},Ej X t (l2++f::l1)=true->iG X f=true->t.cl.testBit f.i=true->∀r∈l1,r.q=false->t.cl.testBit r.i=true
 | [],f,l1,h,hf,hc,r,hr,hq=>by
   simp only [nO,Ej,hf,hc,RD,RC,IJ,bw]at h;have:=mz.1 h.1 r hr;rw [hq,IJ]at this;exact this
 |_::l2,f,l1,h,hf,hc,r,hr,hq=>by
  simp only [hY,Ej,bw]at h;exact RU (l2:=l2) h.2 hf hc r hr hq
def bX.ama(X:Cx)(nt:Nt)(ops:Array Oper)(t:bX)(b:eE):Prop:=
 ∀{M0:aF} {rdc:Cy} {n:Nat} {w0:World} {S:Sc} {F:bD} {ρ:bJ} {a:Act} {w:World} {Q:Exit->Act->World->Prop} {K:Act->World->Prop},Inv X w0 S F ρ M0 w->a.tmps.size=nt.n->
  (∀u∈kf t.o++guardOf ops t.o,a8 X.K ρ F w (look t.env u) (a.tmps.getD u undef))->
  (∀v w' hd,w.grownBy w' none->hd.fj=some w.heap.size->w.heap.size<w'.heap.size->hd.v.oneCell'=true->n6 X ρ F w' hd b->
    (∀(ρ2:bJ) (F2:bD) (w2:World),ρ2.length=t.M.length->a8 X.K (ρ2++[hd]) F2 w2 t.x v)->K (a.put t.o.dst v) w')->wpOpIn (nK rdc.r) n X.P ops Q t.i K a w
structure ant(X:Cx)(nt:Nt)(ops:Array Oper)(t:bX)(log:List bX)(jy:bL)(M1:aF)(env:bL)(M:aF):Prop where
 N3:∀u,look t.env u=look jy u
 hM:t.M=M1
 hq:t.q=true->t.M'=t.M
 gZ:t.q=false->dc t.ids t.M t.M'
 runs:iG X t=false->t.UL X nt ops
 fl:iG X t=true->∃b,t.M'=t.M++[b]/\t.ama X nt ops b
 op:ops[t.i]?=some t.o
 dst:∀d,t.o.dst=some d->d<nt.n/\nt.mask.testBit d=true
 pair:∀s∈log,IW X ops t s=true
 rok:Ej X t log=true
 pre:∀e∈t.o.after,Region.binds .any e=true->∃s∈log,s.i=e.on
 cl:∀w,t.cl.testBit w=true->∃e∈t.o.after,Region.binds .any e=true/\(w=e.on∨∃s∈log,s.i=e.on/\s.cl.testBit w=true)
 lk:∀u,look env u=(if t.o.dst=some u then t.x else look jy u)
 mem:M=t.M'
def dI(X:Cx)(nt:Nt)(ops:Array Oper)(env0:bL)(M0:aF):List bX->bL->aF->Prop
 | [],env,M=>(∀u,look env u=look env0 u)/\M=M0
 |t::log,env,M=>∃jy M1,dI X nt ops env0 M0 log jy M1/\ant X nt ops t log jy M1 env M
def cT(M0:aF)(L:Array Bool):List bX->aF×Bool
 | []=>(M0,true)
 |t::log=>if t.q=true then cT M0 L log else if cG L t.i/\(cT M0 L log).2 =true then(t.M',true)else((cT M0 L log).1,false)
section
variable {nt:Nt} {ops:Array Oper} {env0:bL} {M0:aF} {L:Array Bool}
theorem yq:∀{log:List bX},(cT M0 L log).2 =true ↔∀s∈log,s.q=false->cG L s.i
 | []=>by simp [cT]
 |t::log=>by
  have ih:=yq (log:=log);simp only [cT];cases hq:t.q with
  |true=>
   rw [if_pos rfl,ih];constructor
   ·intro h s hs ij;rcases fV.1 hs with rfl|hs
    ·rw [hq]at ij;cases ij
    ·exact h s hs ij
   ·exact λh s hs=>h s (fJ _ hs)
  |false=>
   rw [if_neg (by simp)]
   by_cases hc:cG L t.i/\(cT M0 L log).2 =true
   ·rw [if_pos hc];refine⟨λ_ s hs ij=> ?_,λ_=>rfl⟩;rcases fV.1 hs with rfl|hs
    ·exact hc.1
    ·exact ih.1 hc.2 s hs ij
   ·rw [if_neg hc];refine⟨λh=>gU,λh=>absurd ⟨h t ez hq,ih.2 λs hs=>h s (fJ _ hs)⟩ hc⟩
theorem ah1:∀{l2 l1:List bX},(cT M0 L l1).2 =false->cT M0 L (l2++l1)=((cT M0 L l1).1,false)
 | [],l1,h=>by rw [nO];exact Prod.ext rfl h
 |t::l2,l1,h=>by
  have ih:=ah1 (l2:=l2) h;simp only [hY,cT];rw [ih];split
  ·rfl
  ·rw [if_neg (by simp)]
theorem YA{L':Array Bool}:∀{log:List bX},(∀s∈log,s.q=false->(cG L s.i ↔ cG L' s.i))->cT M0 L log=cT M0 L' log
 | [],_=>rfl
 |t::log,h=>by
  have ih:=YA (log:=log) λs hs=>h s (fJ _ hs);simp only [cT];rw [ih];cases hq:t.q with
  |true=>rfl
  |false=>
   have:=h t ez hq
   by_cases hc:cG L t.i/\(cT M0 L' log).2 =true
   ·simp only [nP,lI];rw [if_pos hc,if_pos ⟨this.1 hc.1,hc.2⟩]
   ·simp only [nP,lI];rw [if_neg hc,if_neg λhh=>hc ⟨this.2 hh.1,hh.2⟩]
theorem dI.look:∀{log:List bX} {env:bL} {M:aF},dI X nt ops env0 M0 log env M->∀u,(∃s∈log,s.o.dst=some u/\aj.look env u=s.x)∨((∀s∈log,s.o.dst≠some u)/\aj.look env u=aj.look env0 u)
 | [],env,M,⟨h,_⟩,u=> .inr ⟨λs hs=>by simp at hs,h u⟩
 |t::log,env,M,⟨_,_,hl,st⟩,u=>by
  rw [st.lk u];split
  ·rename_i hd;exact .inl ⟨t,ez,hd,rfl⟩
  ·rename_i hd;rcases dI.look hl u with⟨s,hs,h⟩|⟨U,h2⟩
   ·exact .inl ⟨s,fJ _ hs,h⟩
   ·exact alj
theorem dI.closed:∀{log:List bX} {env:bL} {M:aF},dI X nt ops env0 M0 log env M->wG L log->∀t∈log,(∀e∈t.o.after,Region.binds .any e=true->cG L e.on)->∀w,t.cl.testBit w=true->cG L w
 | [],_,_,_,_,t,ht,_,_,_=>by simp at ht
 |t::log,_,_,⟨_,_,hl,st⟩,fh,s,hs,hp,w,hw=>by
  have ih:=dI.closed hl (λa ha=>fh a (fJ _ ha));exact amO
theorem dI.entry{t:bX}{l1:List bX}:∀{l2:List bX} {jR:bL} {M':aF},dI X nt ops env0 M0 (l2++t::l1) jR M'->∃jy M1 env M,dI X nt ops env0 M0 l1 jy M1/\ant X nt ops t l1 jy M1 env M
 | [],_,_,⟨_,_,hl,st⟩=>⟨_,_,_,_,hl,st⟩
 |_::l2,_,_,⟨_,_,hl,_⟩=>dI.entry (l2:=l2) hl
theorem dI.distinct:∀{env:bL} {M:aF},dI X nt ops env0 M0 log env M->∀s∈log,∀t∈log,s.i=t.i->s=t:=by
 induction log with
 |nil=>exact SH
 |cons a log ih=>
  intro env M h s hs t ht e;obtain⟨_,_,hl,st⟩:=h
  ·rcases fV.1 hs with rfl|c7<;>rcases fV.1 ht with rfl|zf
   ·rfl
   ·exact absurd e (xx (st.pair t zf)).1
   ·exact absurd e.symm (xx (st.pair s c7)).1
   ·exact ih hl s c7 t zf e
theorem dI.dst{log:List bX}:∀{env:bL} {M:aF},dI X nt ops env0 M0 log env M->∀s∈log,∀t∈log,∀d,s.o.dst=some d->t.o.dst=some d->s=t:=by
 induction log with
 |nil=>exact SH
 |cons a log ih=>
  intro env M h s hs t ht d U h2;obtain⟨_,_,hl,st⟩:=h
  ·rcases fV.1 hs with rfl|c7<;>rcases fV.1 ht with rfl|zf
   ·rfl
   ·exact absurd h2 ((xx (st.pair t zf)).2.1 d U)
   ·exact absurd U ((xx (st.pair s c7)).2.1 d h2)
   ·exact ih hl s c7 t zf d U h2
theorem dI.zJ:∀{log:List bX} {env:bL} {M:aF},dI X nt ops env0 M0 log env M->(cT M0 L log).2 =true->(cT M0 L log).1 =M
 | [],_,_,⟨_,h⟩,_=>h.symm
 |t::log,_,_,⟨_,_,hl,st⟩,h=>by
  simp only [cT]at h⊢;cases hq:t.q with
  |true=>
   rw [if_pos hq]at h;rw [if_pos rfl,dI.zJ hl h,st.mem,st.hq hq,st.hM]
  |false=>
   rw [if_neg (Jg)]at h;rw [if_neg (by simp)]
   by_cases hc:cG L t.i/\(cT M0 L log).2 =true
   ·rw [if_pos hc];exact st.mem.symm
   ·rw [if_neg hc]at h;simp at h
theorem dI.flag{o1:List bX}{M:aF}(hL:dI X nt ops env0 M0 (l2++s::o1) env M)(fh:wG L (l2++s::o1))(ij:s.q=false)(hf:iG X s=false)
 (mM:∀e∈s.o.after,Region.binds .any e=true->cG L e.on):(cT M0 L o1).2 =true:=by
 rw [yq];intro r hr xm;obtain⟨_,_,_,_,hl,st⟩:=dI.entry hL;have hc:=dI.closed (L:=L) hL fh s (oC _ ez) mM;obtain⟨_,_,h|⟨_,_,h,_⟩⟩:=xx (st.pair r hr)
 ·exact hc _ h
 ·rw [ij,xm,hf]at h;simp at h
theorem dI.ahl{t:bX}{l1:List bX}{id:Nat}(lx:¬cG L t.i)(hq:t.q=true)(hid:id∈t.ids):
 ∀{l2:List bX} {jR:bL} {M':aF},dI X nt ops env0 M0 (l2++t::l1) jR M'->wG L (l2++t::l1)->(∀e∈t.o.after,Region.binds .any e=true->cG L e.on)->
  (cT M0 L (l2++t::l1)).1[id]?=t.M[id]?
 | [],jR,M',hL,fh,mM=>by
   obtain⟨_,_,hl,st⟩:=_root_.id hL
   ·simp only [nO,cT];rw [if_pos hq,st.hM];have N7:=dI.closed (L:=L) hL fh t ez mM;have key:∀(l:List bX) (l':List bX) (e:bL) (N:aF),l'++l=l1->dI X nt ops env0 M0 l e N->(cT M0 L l).1[id]?=N[id]?:=by
     intro l
     induction l with
     |nil=>intro _ _ _ _ h;rw [h.2];rfl
     |cons s l ih=>
      intro l' e N Hw h;have lC:s∈l1:=ajJ;have hp:=xx (st.pair s lC);obtain⟨_,_,ko,lL⟩:=h
      ·have qK:=ih (l'++[s]) _ _ (by simpa using Hw) ko;simp only [cT];cases ij:s.q with
       |true=>rw [if_pos rfl,qK,lL.mem,lL.hq ij,lL.hM]
       |false=>
        rw [if_neg (by simp)]
        by_cases hc:cG L s.i/\(cT M0 L l).2 =true
        ·rw [if_pos hc,lL.mem]
        ·rw [if_neg hc];have hk:s.yM id:=by
          obtain⟨_,_,h|⟨_,_,_,h,_⟩⟩:=hp
          ·exfalso;refine hc ⟨N7 _ h,?_⟩;cases hf:iG X s with
           |true=>
            rw [yq];intro r hr xm;have:=RU (l2:=l') (l1:=l) (by rw [Hw];exact st.rok) hf h r hr xm;exact N7 _ this
           |false=>
            have uW:dI X nt ops env0 M0 ((t::l')++s::l) jR M':=by
             have e:(t::l')++s::l=t::l1:=by rw [<-Hw];rfl
             rw [e];exact hL
            have apD:wG L ((t::l')++s::l):=by
             have e:(t::l')++s::l=t::l1:=by rw [<-Hw];rfl
             rw [e];exact fh
            exact dI.flag uW apD ij hf (apD s (oC _ ez) (N7 _ h))
          ·exact h hq ij id hid
         rw [qK,lL.mem,hk.at (lL.gZ ij),lL.hM]
    exact key l1 [] _ _ rfl hl
 |s::l2,jR,M',hL,fh,mM=>by
  obtain⟨_,_,hl,st⟩:=_root_.id hL
  ·have ih:=dI.ahl lx hq hid (l2:=l2) hl (λa ha=>fh a (fJ _ ha)) mM;simp only [hY,cT];cases ij:s.q with
   |true=>rw [if_pos rfl];exact ih
   |false=>
    rw [if_neg (by simp)]
    by_cases hc:cG L s.i/\(cT M0 L (l2++t::l1)).2 =true
    ·rw [if_pos hc];have hp:=xx (st.pair t (oC _ ez));have qn:=dI.closed (L:=L) hL fh s ez (fh s ez hc.1);obtain⟨_,_,h|⟨_,_,_,_,h⟩⟩:=hp
     ·exact absurd (qn _ h) lx
     ·show s.M'[id]?=_;rw [(h ij hq id hid).at (st.gZ ij),st.hM,<-dI.zJ hl hc.2];exact ih
    ·rw [if_neg hc];exact ih
theorem dI.aiS{l1:List bX}(lx:¬cG L t.i)(hq:t.q=false):cT M0 L (l2++t::l1)=((cT M0 L l1).1,false):=by
 have:cT M0 L (t::l1)=((cT M0 L l1).1,false):=by
  simp only [cT];rw [if_neg (Jg),if_neg (λh=>lx h.1)]
 rw [ah1 (by rw [this]),this]
theorem dI.reads{t:bX}{l1:List bX}(lx:¬cG L t.i){u:Nat}(hu:u∈kf t.o++guardOf ops t.o){P:AV->Prop}:
 ∀{l2:List bX} {jR:bL} {M':aF},dI X nt ops env0 M0 (l2++t::l1) jR M'->wG L (l2++t::l1)->(∀e∈t.o.after,Region.binds .any e=true->cG L e.on)->
  (∀s∈l1,t.cl.testBit s.i=true->s.o.dst=some u->P s.x)->((∀s∈l2++t::l1,cG L s.i->s.o.dst≠some u)->P (aj.look env0 u))->P (aj.look t.env u)
 | [],jR,M',hL,fh,mM,hw,h0=>by
   obtain⟨_,_,hl,st⟩:=hL
   ·rw [st.N3 u];rcases dI.look hl u with⟨s,hs,hd,he⟩|⟨hn,he⟩
    ·rw [he];refine hw s hs ?_ hd;obtain⟨_,_,h|⟨h,_⟩⟩:=xx (st.pair s hs)
     ·exact h
     ·exact absurd hu (h u hd)
    ·exact alz
 |s::l2,jR,M',hL,fh,mM,hw,h0=>by
  obtain⟨_,_,hl,st⟩:=_root_.id hL
  ·refine dI.reads lx hu (l2:=l2) hl (λa ha=>fh a (fJ _ ha)) mM hw λhn=>h0 λr hr AM hd=> ?_;rcases fV.1 hr with rfl|hr
   ·have qn:=dI.closed (L:=L) hL fh r ez (fh r ez AM);obtain⟨_,_,h|⟨_,h,_⟩⟩:=xx (st.pair t (oC _ ez))
    ·exact lx (qn _ h)
    ·exact h u hd hu
   ·exact hn r hr AM hd
end
def live(ρ:bJ)(M:aF)(F:bD):Sc:=⟨λg=>∃(id:Nat) (b:eE) (hd:Hd),M[id]?=some b/\b.kU=false/\ρ[id]?=some hd/\hd.fj=some g,F⟩
section
variable {w0 w w':World} {S:Sc} {F F':bD} {ρ ρ':bJ} {M M':aF}
theorem Inv.aCw(hI:Inv X w0 S F ρ M w):Inv X w (live ρ M F) F ρ M w:=
 ⟨rfl,rfl,rfl,iZ _,λ_ _ _=>rfl,hI.len,hI.rep,λid b hd g U h2 h3 h4=>⟨(hI.sep id b hd g U h2 h3 h4).1,.inl ⟨id,b,hd,U,h2,h3,h4⟩,(hI.sep id b hd g U h2 h3 h4).2.2⟩,hI.mC,hI.fz,hI.kz,hI.one,λa ha=> .inl ha,λa ha=>ha,hI.dV⟩
theorem Inv.back(hI:Inv X w0 S F ρ M w)(h:Inv X w (live ρ M F) F' ρ' M' w'):Inv X w0 S F' ρ' M' w' where
 os:=h.os.trans hI.os
 tape:=h.tape.trans hI.tape
 output:=h.output.trans hI.output
 size:=qR hI.size h.size
 frame:=λg hg hn=>by
  rw [h.frame g (vg hg hI.size) ?_,hI.frame g hg hn];rintro⟨id,b,hd,U,h2,h3,h4⟩;rcases(hI.sep id b hd g U h2 h3 h4).2.1 with h5|h5
  ·exact hn h5
  ·omega
 len:=h.len
 rep:=h.rep
 sep:=λid b hd g U h2 h3 h4=>by
  obtain⟨s1,s2,s3⟩:=h.sep id b hd g U h2 h3 h4;refine⟨s1,?_,s3⟩;rcases s2 with⟨id',b',dS,p1,p2,p3,p4⟩|s2
  ·exact(hI.sep id' b' dS g p1 p2 p3 p4).2.1
  ·exact .inr (qR hI.size s2)
 mC:=h.mC
 fz:=h.fz
 kz:=h.kz
 dV:=h.dV
 one:=h.one
 jS:=λa ha=>by
  rcases h.jS a ha with U|⟨id',b',dS,p1,p2,p3,p4⟩|U
  ·exact hI.jS a U
  ·exact .inr (hI.sep id' b' dS _ p1 p2 p3 p4).2.1
  ·exact .inr (.inr (qR hI.size U))
 fin:=λa ha=>h.fin a (hI.fin a ha)
structure Aside(F:bD)(ρ:bJ)(M:aF)(w:World)(g:Nat):Prop where
 lt:g<w.heap.size
 fz:∀a,F a->a.block≠g
 no:∀(id:Nat) b hd,M[id]?=some b->b.kU=false->ρ[id]?=some hd->hd.fj≠some g
theorem Aside.wW{g:Nat}(hA:Aside F ρ M w g)(h:Inv X w (live ρ M F) F' ρ' M' w'):Aside F' ρ' M' w' g/\w'.heap[g]?=w.heap[g]?:=by
 have hn:¬(live ρ M F) g:=by
  rintro⟨id,b,hd,U,h2,h3,h4⟩;exact hA.no id b hd U h2 h3 h4
 refine⟨⟨vg hA.lt h.size,λa ha e=> ?_,λid b hd U h2 h3 h4=> ?_⟩,h.frame g hA.lt hn⟩
 ·rcases h.jS a ha with U|U|U
  ·exact hA.fz a U e
  ·exact hn (e▸U)
  ·have:=hA.lt;omega
 ·rcases(h.sep id b hd g U h2 h3 h4).2.1 with h5|h5
  ·exact hn h5
  ·have:=hA.lt;omega
structure yW(X:Cx)(w0:World)(ρ:bJ)(F:bD)(a:Act)(w:World)(g:Nat)(s:bX):Prop where
 ex:∃b hd,s.M'=s.M++[b]/\hd.fj=some g/\hd.v.oneCell'=true/\n6 X ρ F w hd b/\
  ∀d,s.o.dst=some d->∀(ρ2:bJ) (F2:bD) (w2:World),ρ2.length=s.M.length->a8 X.K (ρ2++[hd]) F2 w2 s.x (a.tmps.getD d undef)
 new:w0.heap.size<=g
theorem yW.mono{w0 w w':World}{ρ ρ':bJ}{F F':bD}{a a':Act}{g:Nat}{s:bX}(h:yW X w0 ρ F a w g s)(jD:∀(id:Nat) hd,ρ[id]?=some hd->ρ'[id]?=some hd)(hF:∀x,F x->F' x)(hw:∀x v,F x->w.cell? x=some v->w'.cell? x=some v)(hg:w'.heap[g]?=w.heap[g]?)
 (ha:∀d,s.o.dst=some d->a'.tmps.getD d undef=a.tmps.getD d undef):yW X w0 ρ' F' a' w' g s:=by
 obtain⟨⟨b,hd,U,h2,h3,h4,h5⟩,h6⟩:=h;exact⟨⟨b,hd,U,h2,h3,h4.mono jD hF hw (λk hk=>by rw [h2]at hk;injection hk with hk;subst hk;exact hg),λd dS=>by rw [ha d dS];exact h5 d dS⟩,h6⟩
end
section
variable {nt:Nt} {ops:Array Oper} {env0:bL} {M0:aF} {L:Array Bool}
theorem aau{w0 w:World}{S:Sc}{F:bD}{ρ:bJ}{a:Act}{γ:Nat->Nat}{base:List bX}:∀{l2:List bX} {env:bL} {M:aF},dI X nt ops env0 M0 (l2++base) env M->Inv X w0 S F ρ (cT M0 L base).1 w->
 (∀s∈l2,s.q=false->cG L s.i->iG X s=true)->
 (∀s∈l2,iG X s=true->cG L s.i->yW X w0 ρ F a w (γ s.i) s/\Aside F ρ (cT M0 L base).1 w (γ s.i))->
 (∀s∈l2,∀s'∈l2,iG X s=true->iG X s'=true->cG L s.i->cG L s'.i->s.i≠s'.i->γ s.i≠γ s'.i)->
 ∃ρ2,Inv X w0 S F ρ2 (cT M0 L (l2++base)).1 w/\(∀(id:Nat) hd,ρ[id]?=some hd->ρ2[id]?=some hd)/\
  (∀b s c,l2=b++s::c->iG X s=true->cG L s.i->(cT M0 L (c++base)).2 =true->∀d,s.o.dst=some d->a8 X.K ρ2 F w s.x (a.tmps.getD d undef))/\
  (∀g,Aside F ρ (cT M0 L base).1 w g->(∀b s c,l2=b++s::c->iG X s=true->cG L s.i->(cT M0 L (c++base)).2 =true->γ s.i≠g)->Aside F ρ2 (cT M0 L (l2++base)).1 w g)
 | [],env,M,hL,hI,_,_,_=>⟨ρ,hI,λ_ _ h=>h,λb s c h=>gU,λg hg _=>hg⟩
 |s::l2,env,M,hL,hI,xr,Uw,hγ=>by
  obtain⟨jy,M1,hl,st⟩:=_root_.id hL;obtain⟨ρ1,i1,e1,p1,a1⟩:=aau (l2:=l2) hl hI (λr hr=>xr r (fJ _ hr)) (λr hr=>Uw r (fJ _ hr)) (λr hr r' vP=>hγ r (fJ _ hr) r' (fJ _ vP));have same:(cT M0 L (s::(l2++base))).1 =(cT M0 L (l2++base)).1 ->(iG X s=true->cG L s.i->(cT M0 L (l2++base)).2 =true->False)->_:=λkl tc=>
   (⟨ρ1,by rw [hY,kl];exact i1,e1,λb r c fW hf di jY d hd=>by
      cases b with
      |nil=>
       rw [nO]at fW;injection fW with U h2;subst U;subst h2;exact(tc hf di jY).elim
      |cons b0 b=>
       rw [hY]at fW;injection fW with U h2;exact p1 b r c h2 hf di jY d hd,
     λg hg hr=>by
      rw [hY,kl];exact a1 g hg λb r c fW=>hr (s::b) r c (by rw [fW,hY])⟩:
     ∃ρ2,Inv X w0 S F ρ2 (cT M0 L (s::l2++base)).1 w/\(∀(id:Nat) hd,ρ[id]?=some hd->ρ2[id]?=some hd)/\
      (∀b r c,s::l2=b++r::c->iG X r=true->cG L r.i->(cT M0 L (c++base)).2 =true->∀d,r.o.dst=some d->a8 X.K ρ2 F w r.x (a.tmps.getD d undef))/\
      (∀g,Aside F ρ (cT M0 L base).1 w g->(∀b r c,s::l2=b++r::c->iG X r=true->cG L r.i->(cT M0 L (c++base)).2 =true->γ r.i≠g)->Aside F ρ2 (cT M0 L (s::l2++base)).1 w g))
  cases hq:s.q with
  |true=>
   refine same (by simp only [cT];rw [if_pos hq]) λhf _ _=> ?_;simp [iG,hq]at hf
  |false=>
   by_cases hc:cG L s.i/\(cT M0 L (l2++base)).2 =true
   ·have hf:=xr s ez hq hc.1;obtain⟨hh,ha⟩:=Uw s ez hf hc.1;obtain⟨b1,zn,HE,Ux,abY,abU,abQ⟩:=hh.ex;have kl:(cT M0 L (s::(l2++base))).1 =s.M':=by
     simp only [cT];rw [if_neg (Jg),if_pos hc]
    have hMs:s.M=(cT M0 L (l2++base)).1 :=by rw [st.hM];exact(dI.zJ hl hc.2).symm
    have asd:∀g,Aside F ρ (cT M0 L base).1 w g->(∀b r c,l2=b++r::c->iG X r=true->cG L r.i->(cT M0 L (c++base)).2 =true->γ r.i≠g)->Aside F ρ1 s.M w g:=by
     intro g U h2;rw [hMs];exact a1 g U h2
    have lC:=asd (γ s.i) ha λb r c fW rH EX _=>by
     have hr:r∈l2:=ajw;exact hγ r (fJ _ hr) s ez rH hf EX hc.1 (λe=>(xx (st.pair r (A7 _ hr))).1 e.symm)
    rw [<-hMs]at i1;have hlen:ρ1.length=s.M.length:=i1.len;have i2:Inv X w0 S F (ρ1++[zn]) (s.M++[b1]) w:=by
     refine i1.F8 (hd:=zn) (λg hg=> ?_) abY (abU.mono (λid hd h=>qu (e1 id hd h)) (λ_ h=>h) (λ_ _ _ h=>h) (λ_ _=>rfl));rw [Ux]at hg;injection hg with hg;subst hg;exact⟨lC.lt,.inr hh.new,lC.fz,lC.no⟩
    refine⟨_,by rw [hY,kl,HE];exact i2,λid hd h=>qu (e1 id hd h),λb r c fW rH EX jY dd fw=> ?_,λg hg hr=> ?_⟩
    ·cases b with
     |nil=>
      rw [nO]at fW;injection fW with U h2;subst U;subst h2;exact abQ dd fw ρ1 F w hlen
     |cons b0 b=>
      rw [hY]at fW;injection fW with U h2;exact(p1 b r c h2 rH EX jY dd fw).mono (λid hd h=>qu h) (λ_ h=>h) (λ_ _ _ h=>h)
    ·have U:=asd g hg λb r c fW=>hr (s::b) r c (by rw [fW,hY]);have eY:γ s.i≠g:=hr [] s l2 rfl hf hc.1 hc.2;rw [hY,kl,HE];refine⟨U.lt,U.fz,λid b hd hb fw eC=> ?_⟩
     by_cases hid:id<s.M.length
     ·rw [mF hid]at hb;rw [mF (by omega)]at eC;exact U.no id b hd hb fw eC
     ·by_cases Ka:id=s.M.length
      ·subst Ka;rw [nM (by omega),hlen,FI]at eC;simp only [Ms,Option.some.injEq]at eC;subst eC;rw [Ux];exact λe=>eY (Option.some.inj e)
      ·rw [FH (fB)]at hb;cases hb
   ·refine same (by simp only [cT];rw [if_neg (Jg),if_neg hc]) λ_ di jY=>hc ⟨di,jY⟩
end
structure aqd(X:Cx)(nt:Nt)(env0:bL)(M0:aF)(w0:World)(S:Sc)(F0:bD)(ρ0:bJ)(wb:World)(ds:List Deferred)(tv:Nat->Value)(log:List bX)(L:Array Bool)(γ:Nat->Nat)(F:bD)(ρ:bJ)(a:Act)(w:World):Prop where
 inv:Inv X w0 S F ρ (cT M0 L log).1 w
 grow:Grow F0 F ρ0 ρ wb w
 size:a.tmps.size=nt.n
 defs:a.defers=ds
 kept:∀t,nt.mask.testBit t=false->a.tmps.getD t undef=tv t
 wrote:∀l2 s l1,log=l2++s::l1->cG L s.i->(iG X s=true->(cT M0 L l1).2 =true)->∀d,s.o.dst=some d->a8 X.K ρ F w s.x (a.tmps.getD d undef)
 hid:∀l2 s l1,log=l2++s::l1->cG L s.i->iG X s=true->(cT M0 L l1).2 =false->yW X w0 ρ F a w (γ s.i) s/\Aside F ρ (cT M0 L log).1 w (γ s.i)
 lt:∀s∈log,iG X s=true->cG L s.i->γ s.i<w.heap.size
 Pn:∀s∈log,∀s'∈log,iG X s=true->iG X s'=true->cG L s.i->cG L s'.i->s.i≠s'.i->γ s.i≠γ s'.i
 jS:∀u,(∀s∈log,cG L s.i->s.o.dst≠some u)->a8 X.K ρ F w (aj.look env0 u) (a.tmps.getD u undef)
section
variable {nt:Nt} {ops:Array Oper} {env0:bL} {M0:aF}
theorem aCY(h:iG X t=true):t.q=false:=by
 unfold iG at h;rw [bw]at h;simpa using h.1
theorem Yh{α:Type}{b c l2 l1:List α}{s t:α}(h:b++s::c=l2++t::l1):
 (∃m,l2=b++s::m/\c=m++t::l1)∨(b=l2/\s=t/\c=l1)∨(∃m,l1=m++s::c/\b=l2++t::m):=by
 induction b generalizing l2 with
 |nil=>
  cases l2 with
  |nil=>simp only [nO,List.cons.injEq]at h;exact .inr (.inl ⟨rfl,h.1,h.2⟩)
  |cons x l2=>simp only [nO,hY,List.cons.injEq]at h;exact .inl ⟨l2,by rw [h.1];rfl,h.2⟩
 |cons y b ih=>
  cases l2 with
  |nil=>simp only [nO,hY,List.cons.injEq]at h;exact .inr (.inr ⟨b,h.2.symm,by rw [h.1];rfl⟩)
  |cons x l2=>
   simp only [hY,List.cons.injEq]at h;rcases ih h.2 with⟨m,U,h2⟩|⟨U,h2,h3⟩|⟨m,U,h2⟩
   ·exact .inl ⟨m,by rw [U,h.1];rfl,h2⟩
   ·exact .inr (.inl ⟨by rw [U,h.1],h2,h3⟩)
   ·exact .inr (.inr ⟨m,U,by rw [h2,h.1];rfl⟩)
theorem dI.uniq{M:aF}(hL:dI X nt ops env0 M0 log env M){b c b' c':List bX}(U:log=b++s::c)(h2:log=b'++s::c'):c=c':=by
 have irr:∀{p q r:List bX},log=p++s::(q++s::r)->False:=by
  intro p q r h;obtain⟨_,_,_,_,_,st⟩:=dI.entry (h▸hL);exact(xx (st.pair s (oC _ ez))).1 rfl
 rcases Yh (U.symm.trans h2)with⟨m,h3,h4⟩|⟨_,_,h⟩|⟨m,h3,h4⟩
 ·exact(irr (p:=b) (q:=m) (r:=c') (by rw [U,h4])).elim
 ·exact h
 ·exact(irr (p:=b') (q:=m) (r:=c) (by rw [h2,h3])).elim
theorem az3(hX:X.Okb){rdc:Cy}{n:Nat}{w0 wb:World}{S:Sc}{F0:bD}{ρ0:bJ}{ds:List Deferred}{tv:Nat->Value}{Q:Exit->Act->World->Prop}{M:aF}(hL:dI X nt ops env0 M0 log env M)
 (jP:∀i,i<ops.size->∃t∈log,t.i=i)
 (hQ:∀a' w' F' ρ',Inv X w0 S F' ρ' M w'->k8 X ρ' F' w' env a'.tmps->a'.tmps.size=nt.n->a'.defers=ds->(∀t,nt.mask.testBit t=false->a'.tmps.getD t undef=tv t)->Grow F0 F' ρ0 ρ' wb w'->Q .normal a' w'):
 ∀(fuel:Nat) (L:Array Bool) (γ:Nat->Nat) (F:bD) (ρ:bJ) (a:Act) (w:World),L.size=ops.size->log.countP (λt=> !(L.getD t.i false))<=fuel->wG L log->
  aqd X nt env0 M0 w0 S F0 ρ0 wb ds tv log L γ F ρ a w->wpAnyIn (nK rdc.r) n X.P .any ops Q fuel L a w:=by
 have done:∀(L:Array Bool) (γ:Nat->Nat) (F:bD) (ρ:bJ) (a:Act) (w:World),(∀t∈log,cG L t.i)->aqd X nt env0 M0 w0 S F0 ρ0 wb ds tv log L γ F ρ a w->Q .normal a w:=by
  intro L γ F ρ a w di hm;refine hQ a w F ρ ?_ (λu=> ?_) hm.size hm.defs hm.kept hm.grow
  ·have:=dI.zJ hL (L:=L) (yq.2 λs hs _=>di s hs);rw [<-this];exact hm.inv
  ·rcases dI.look hL u with⟨s,hs,hd,he⟩|⟨hn,he⟩
   ·rw [he];obtain⟨l2,l1,po⟩:=ue hs;exact hm.wrote l2 s l1 po (di s hs) (λ_=>yq.2 λr hr _=>di r (by rw [po];exact oC _ (fJ _ hr))) u hd
   ·rw [he];exact hm.jS u λs hs _=>hn s hs
 have none_ready:∀(L:Array Bool),L.size=ops.size->Region.ready .any ops L=[]->∀t∈log,cG L t.i:=by
  intro L eX hr;have key:∀(l1:List bX) (l2:List bX) (jR:bL) (M':aF),dI X nt ops env0 M0 l1 jR M'->l2++l1=log->∀t∈l1,cG L t.i:=ao6;exact λt ht=>key log [] env M hL rfl t ht
 intro fuel
 induction fuel with
 |zero=>
  intro L γ F ρ a w eX ada fh hm;have di:∀t∈log,cG L t.i:=amW;refine⟨?_,done L γ F ρ a w di hm⟩;exact am3
 |succ fuel ih=>
  intro L γ F ρ a w eX ada fh hm;refine⟨λhr=>done L γ F ρ a w (none_ready L eX hr) hm,λi hi=> ?_⟩;rw [RR]at hi;obtain⟨hf,o,ho,mM⟩:=hi;have cH:i<ops.size:=(zH.1 ho).1;obtain⟨t,ht,rfl⟩:=jP i cH;have ac4:t.i<L.size:=by omega
  have lx:¬cG L t.i:=ak8;obtain⟨l2,l1,po⟩:=ue ht;obtain⟨jy,M1,aLh,ME,gY,st⟩:=dI.entry (po▸hL);have O3:t.o=o:=akZ;subst O3;have pQ:∀j,cG (L.setIfInBounds t.i true) j ↔ j=t.i∨cG L j:=amD;have aEy:log.countP (λs=> !((L.setIfInBounds t.i true).getD s.i false))<=fuel:=by
   have:=Y9 (l:=log) (p:=λt=> !(L.getD t.i false)) (q:=λs=> !((L.setIfInBounds t.i true).getD s.i false)) (λs hs h=>by
    have h':¬cG (L.setIfInBounds t.i true) s.i:=by simpa [cG]using h
    rw [pQ]at h';have:¬cG L s.i:=λhh=>h' (.inr hh);simpa [cG]using this) ⟨t,ht,by simpa [cG]using lx,aks⟩
   omega
  have N7:wG (L.setIfInBounds t.i true) log:=by
   intro s hs ed e he hb;rw [pQ]at ed⊢;rcases ed with h|h
   ·have:=dI.distinct hL s hs t ht h;subst this;exact .inr (mM e he hb)
   ·exact .inr (fh s hs h e he hb)
  have D5:=dI.closed (L:=L) hL fh t ht mM;have Kb:wG L (l2++t::l1):=po▸fh;have uW:dI X nt ops env0 M0 (l2++t::l1) env M:=po▸hL;have apt:∀s∈l1,s.i≠t.i:=λs hs e=>(xx (st.pair s hs)).1 e.symm;have Uj:∀{l:List bX},(∀s∈l,s∈l1)->cT M0 (L.setIfInBounds t.i true) l=cT M0 L l:=λh=>YA λs hs _=>by
   rw [pQ];exact⟨λhh=>hh.resolve_left (apt s (h s hs)),.inr⟩
  have apn:∀s∈log,cG L s.i->s≠t:=λs _ ed e=>lx (e▸ed);have tmp_ne:∀(v:Value) (s:bX),s∈log->s≠t->∀d,s.o.dst=some d->(a.put t.o.dst v).tmps.getD d undef=a.tmps.getD d undef:=by
   intro v s hs eR d hd;cases Hr:t.o.dst with
   |none=>rfl
   |some d'=>
    have eY:d'≠d:=λe=>eR (dI.dst hL s hs t ht d hd (e▸Hr));exact aaR
  have tmp_eq:∀(v:Value) d,t.o.dst=some d->(a.put t.o.dst v).tmps.getD d undef=v:=by
   intro v d hd;have GM:=(st.dst d hd).1;simp [Act.put,hd,sG,hm.size,GM]
  have tmp_old:∀(v:Value) u,t.o.dst≠some u->(a.put t.o.dst v).tmps.getD u undef=a.tmps.getD u undef:=by
   intro v u EM;exact amC
  have ab0:∀(v:Value),∀u,nt.mask.testBit u=false->(a.put t.o.dst v).tmps.getD u undef=tv u:=by
   intro v;exact ald
  have apx:t.q=false->∀s∈l2,s.q=false->cG L s.i->iG X s=true:=by
   intro xl s hs ij ed;cases fT:iG X s with
   |true=>rfl
   |false=>
    exfalso;obtain⟨b,c,fW⟩:=ue hs;have hLs:dI X nt ops env0 M0 (b++s::(c++t::l1)) env M:=by have:=uW;rw [fW]at this;simpa using this
    have aKZ:wG L (b++s::(c++t::l1)):=by have:=Kb;rw [fW]at this;simpa using this
    have c7:s∈log:=by rw [po];exact A7 _ hs
    have:=dI.flag hLs aKZ ij fT (fh s c7 ed);rw [yq]at this;exact lx (this t (oC _ ez) xl)
  have fin:∀(γ2:Nat->Nat) (F2:bD) (ρ2:bJ) (v:Value) (w2:World),Inv X w0 S F2 ρ2 (cT M0 (L.setIfInBounds t.i true) log).1 w2->Grow F F2 ρ ρ2 w w2->w.heap.size<=w2.heap.size->
   (iG X t=false->a8 X.K ρ2 F2 w2 t.x v)->
   (∀b s c,log=b++s::c->iG X s=true->cG (L.setIfInBounds t.i true) s.i->(cT M0 (L.setIfInBounds t.i true) c).2 =true->(s=t∨(cT M0 L c).2 =false)->∀d,s.o.dst=some d->a8 X.K ρ2 F2 w2 s.x ((a.put t.o.dst v).tmps.getD d undef))->
   (∀b s c,log=b++s::c->iG X s=true->cG (L.setIfInBounds t.i true) s.i->(cT M0 (L.setIfInBounds t.i true) c).2 =false->yW X w0 ρ2 F2 (a.put t.o.dst v) w2 (γ2 s.i) s/\Aside F2 ρ2 (cT M0 (L.setIfInBounds t.i true) log).1 w2 (γ2 s.i))->
   (∀s∈log,iG X s=true->s≠t->γ2 s.i=γ s.i)->(iG X t=true->w.heap.size<=γ2 t.i/\γ2 t.i<w2.heap.size)->
   wpAnyIn (nK rdc.r) n X.P .any ops Q fuel (L.setIfInBounds t.i true) (a.put t.o.dst v) w2:=by
   intro γ2 F2 ρ2 v w2 yl hg aEp hx apq Uw hγ Al;have nY:∀s∈log,cG (L.setIfInBounds t.i true) s.i->s≠t->cG L s.i:=alD;refine ih _ γ2 F2 ρ2 _ w2 (M5) aEy N7 ⟨yl,hm.grow.trans hg,aj0,ajU,ab0 v,?_,λb s c U h2 h3 h4=>Uw b s c U h3 h2 h4,?_,?_,?_⟩
   ·intro b s c fW ed ani d hd;have hs:s∈log:=ajw
    by_cases eR:s=t
    ·subst eR;cases yi:iG X s with
     |true=>exact apq b s c fW yi ed (ani yi) (.inl rfl) d hd
     |false=>rw [tmp_eq v d hd];exact hx yi
    ·have xY:=nY s hs ed eR;cases fT:iG X s with
     |false=>rw [tmp_ne v s hs eR d hd];exact(hm.wrote b s c fW xY (λh=>by rw [fT]at h;cases h) d hd).grow hg
     |true=>
      cases qM:(cT M0 L c).2 with
      |true=>rw [tmp_ne v s hs eR d hd];exact(hm.wrote b s c fW xY (λ_=>qM) d hd).grow hg
      |false=>exact apq b s c fW fT ed (ani fT) (.inr qM) d hd
   ·intro s hs fT ed
    by_cases eR:s=t
    ·subst eR;exact(Al fT).2
    ·rw [hγ s hs fT eR];exact vg (hm.lt s hs fT (nY s hs ed eR)) aEp
   ·intro s hs s' c7 fT An ed xY eY
    by_cases eR:s=t
    ·by_cases D3:s'=t
     ·exact absurd (by rw [eR,D3]) eY
     ·rw [hγ s' c7 An D3];have U:=hm.lt s' c7 An (nY s' c7 xY D3);have h2:=(Al (eR▸fT)).1;rw [eR];omega
    ·by_cases D3:s'=t
     ·rw [hγ s hs fT eR];have U:=hm.lt s hs fT (nY s hs ed eR);have h2:=(Al (D3▸An)).1;rw [D3];omega
     ·rw [hγ s hs fT eR,hγ s' c7 An D3];exact hm.Pn s hs s' c7 fT An (nY s hs ed eR) (nY s' c7 xY D3) eY
   ·intro u hu;have EM:t.o.dst≠some u:=hu t ht ((pQ _).2 (.inl rfl));rw [tmp_old v u EM];exact ako
  have hid_flag:t.q=false->∀{b:List bX} {s:bX} {c:List bX},log=b++s::c->s∈l2->(cT M0 L c).2 =false:=by
   intro xl b s c fW hs;obtain⟨b',c',BT⟩:=ue hs;have e:=dI.uniq hL fW (show log=b'++s::(c'++t::l1)by rw [po,BT];simp);rw [e];cases jY:(cT M0 L (c'++t::l1)).2 with
   |false=>rfl
   |true=>
    rw [yq]at jY;exact absurd (jY t (oC _ ez) xl) lx
  have hin_log:∀{b:List bX} {s:bX} {c:List bX},log=b++s::c->s∈log:=λh=>by rw [h];exact oC _ ez
  have nY:∀s∈log,cG (L.setIfInBounds t.i true) s.i->s≠t->cG L s.i:=alD;have ny:∀{s:bX},s∈l2->s∈log:=λhs=>by rw [po];exact A7 _ hs
  have vG:∀s∈l2,s≠t:=by
   intro s hs e;subst e;obtain⟨b',c',BT⟩:=ue hs;have:=dI.uniq hL po (show log=b'++s::(c'++s::l1)by rw [po,BT];simp);have:=xC List.length this;simp at this;omega
  cases yi:iG X t with
  |true=>
   have xl:=aCY yi;obtain⟨b1,HE,du⟩:=st.fl yi;have kl:cT M0 L log=((cT M0 L l1).1,false):=by rw [po];exact dI.aiS lx xl
   have ET:cT M0 (L.setIfInBounds t.i true) l1=cT M0 L l1:=Uj (λs hs=>hs);refine du hm.inv hm.size (λu hu=>dI.reads (P:=λx=>a8 X.K ρ F w x (a.tmps.getD u undef)) lx hu uW Kb mM (λs hs yk hd=>by
    obtain⟨m,c,O5⟩:=ue hs;exact hm.wrote (l2++t::m) s c (by rw [po,O5];simp) (D5 _ yk) (λfT=>yq.2 λr hr xm=>D5 _ (RU (l2:=m) (O5▸st.rok) fT yk r hr xm)) u hd) (λh=>hm.jS u (by rw [po];exact h))) ?_
   intro v1 w1 zn oe Ux Uv abY abU abQ;have KT:Inv X w0 S F ρ (cT M0 (L.setIfInBounds t.i true) l1).1 w1:=by
    rw [ET];have:=hm.inv.grown oe;rw [kl]at this;exact this
   have Nh:=hm.inv.cells oe (by simp)
   let γ2:Nat->Nat:=λj=>if j=t.i then w.heap.size else γ j
   have Al:γ2 t.i=w.heap.size:=by simp [γ2]
   have Am:∀s∈log,s≠t->γ2 s.i=γ s.i:=λs hs eR=>by
    have:s.i≠t.i:=λe=>eR (dI.distinct hL s hs t ht e);simp [γ2,this]
   have TC:(l2++[t])++l1=log:=by rw [po];simp
   have hLr:dI X nt ops env0 M0 ((l2++[t])++l1) env M:=TC▸hL;have tr:∀b s c,log=b++s::c->cG L s.i->iG X s=true->(cT M0 L c).2 =false->yW X w0 ρ F (a.put t.o.dst v1) w1 (γ2 s.i) s/\Aside F ρ (cT M0 (L.setIfInBounds t.i true) l1).1 w1 (γ2 s.i):=by
    intro b s c fW ed fT jY;have hs:=hin_log fW;have eR:=apn s hs ed;obtain⟨U,h2⟩:=hm.hid b s c fW ed fT jY;rw [Am s hs eR];rw [kl]at h2;exact⟨U.mono (λ_ _ h=>h) (λ_ h=>h) Nh (oe.block _ h2.lt (by simp)) (λdd fw=>tmp_ne _ s hs eR dd fw),⟨vg h2.lt oe.size,h2.fz,by rw [ET];exact h2.no⟩⟩
   have trt:yW X w0 ρ F (a.put t.o.dst v1) w1 (γ2 t.i) t/\Aside F ρ (cT M0 (L.setIfInBounds t.i true) l1).1 w1 (γ2 t.i):=by
    rw [Al];refine⟨⟨⟨b1,zn,HE,Ux,abY,abU,λdd fw=>by rw [tmp_eq _ dd fw];exact abQ⟩,hm.inv.size⟩,⟨Uv,λb hb e=> ?_,λid b hd U h2 h3 h4=> ?_⟩⟩
    ·have:=hm.inv.fz b hb;omega
    ·rw [ET]at U;have jX:(cT M0 L log).1 =(cT M0 L l1).1 :=by rw [kl]
     have:=(hm.inv.sep id b hd _ (by rw [jX];exact U) h2 h3 h4).1;omega
   obtain⟨ρ2,i2,e2,p2,a2⟩:=aau (L:=L.setIfInBounds t.i true) (γ:=γ2) (a:=a.put t.o.dst v1) hLr KT (λs hs ij ed=>by
    rcases mE.1 hs with hs|hs
    ·exact apx xl s hs ij (nY s (ny hs) ed (vG s hs))
    ·rw [my.1 hs];exact yi) (λs hs fT ed=>by
    rcases mE.1 hs with hs|hs
    ·obtain⟨b,c,fW⟩:=ue (ny hs);exact tr b s c fW (nY s (ny hs) ed (vG s hs)) fT (hid_flag xl fW hs)
    ·rw [my.1 hs];exact trt) (λs hs s' c7 fT An ed xY eY=>by
    rcases mE.1 hs with hs|hs<;>rcases mE.1 c7 with c7|c7
    ·rw [Am s (ny hs) (vG s hs),Am s' (ny c7) (vG s' c7)];exact hm.Pn s (ny hs) s' (ny c7) fT An (nY s (ny hs) ed (vG s hs)) (nY s' (ny c7) xY (vG s' c7)) eY
    ·rw [my.1 c7,Al,Am s (ny hs) (vG s hs)];have:=hm.lt s (ny hs) fT (nY s (ny hs) ed (vG s hs));omega
    ·rw [my.1 hs,Al,Am s' (ny c7) (vG s' c7)];have:=hm.lt s' (ny c7) An (nY s' (ny c7) xY (vG s' c7));omega
    ·exact absurd (by rw [my.1 hs,my.1 c7]) eY)
   rw [TC]at i2 a2;refine fin γ2 F ρ2 _ _ i2 ⟨λ_ h=>h,e2,hm.inv.Ap oe (by simp)⟩ oe.size (λh=>aaK) ?_ ?_ (λs hs _ eR=>Am s hs eR) (λ_=>by rw [Al];exact⟨iZ _,Uv⟩)
   ·intro b s c fW fT ed jY vQ dd fw;rcases Yh (fW.symm.trans po)with⟨m,h3,h4⟩|⟨h3,h4,h5⟩|⟨m,h3,h4⟩
    ·exact p2 b s (m++[t]) (by rw [h3];simp) fT ed (by rw [show(m++[t])++l1=c by rw [h4];simp];exact jY) dd fw
    ·subst h4;exact p2 l2 s [] rfl fT ed (by rw [nO,<-h5];exact jY) dd fw
    ·exfalso;have h6:cT M0 (L.setIfInBounds t.i true) c=cT M0 L c:=Uj (λr hr=>ajW);rw [h6]at jY;rcases vQ with h|h
     ·exact apt s (by rw [h3];exact oC _ ez) (by rw [h])
     ·rw [h]at jY;cases jY
   ·intro b s c fW fT ed jY;have hs:=hin_log fW;have hH:yW X w0 ρ F (a.put t.o.dst v1) w1 (γ2 s.i) s/\Aside F ρ (cT M0 (L.setIfInBounds t.i true) l1).1 w1 (γ2 s.i):=by
     by_cases eR:s=t
     ·rw [eR];exact trt
     ·refine tr b s c fW (nY s hs ed eR) fT ?_;exact amY
    refine⟨hH.1.mono e2 (λ_ h=>h) (λ_ _ _ h=>h) rfl (λ_ _=>rfl),a2 _ hH.2 λb' r c' BT rH EX ac8 e=> ?_⟩;have hr:r∈log:=by rw [<-TC,BT];simp
    by_cases uL:r.i=s.i
    ·have e1:=dI.distinct hL r hr s hs uL;subst e1;have:=dI.uniq hL fW (show log=b'++r::(c'++l1)by rw [<-TC,BT];simp);rw [this,ac8]at jY;cases jY
    ·by_cases zg:r=t
     ·by_cases eR:s=t
      ·exact uL (by rw [zg,eR])
      ·rw [zg,Al,Am s hs eR]at e;have:=hm.lt s hs fT (nY s hs ed eR);omega
     ·by_cases eR:s=t
      ·rw [eR,Al,Am r hr zg]at e;have:=hm.lt r hr rH (nY r hr EX zg);omega
      ·rw [Am r hr zg,Am s hs eR]at e;exact hm.Pn r hr s hs rH fT (nY r hr EX zg) (nY s hs ed eR) uL e
  |false=>
   refine st.runs yi (M0:=(cT M0 L log).1) (λhq id hid=>by rw [po];exact dI.ahl lx hq hid uW Kb mM) (λhq=>by
    rw [po,dI.aiS lx hq,st.hM];exact dI.zJ gY (dI.flag uW Kb hq yi mM))
    hm.inv.aCw hm.size (λu hu=>dI.reads (P:=λx=>a8 X.K ρ F w x (a.tmps.getD u undef)) lx hu uW Kb mM (λs hs yk hd=>by
     obtain⟨m,c,O5⟩:=ue hs;exact hm.wrote (l2++t::m) s c (by rw [po,O5];simp) (D5 _ yk) (λfT=>yq.2 λr hr xm=>D5 _ (RU (l2:=m) (O5▸st.rok) fT yk r hr xm)) u hd) (λh=>hm.jS u (by rw [po];exact h))) ?_
   intro v w' F' ρ' eZ hx hg;have yl:=hm.inv.back eZ;have tr:∀b s c,log=b++s::c->cG L s.i->iG X s=true->(cT M0 L c).2 =false->yW X w0 ρ' F' (a.put t.o.dst v) w' (γ s.i) s/\Aside F' ρ' (if t.q=true then(cT M0 L log).1 else t.M') w' (γ s.i):=by
    intro b s c fW ed fT jY;have hs:=hin_log fW;have eR:=apn s hs ed;obtain⟨U,h2⟩:=hm.hid b s c fW ed fT jY;obtain⟨h3,h4⟩:=h2.wW eZ;exact⟨U.mono hg.jD hg.hF hg.hw h4 (λdd fw=>tmp_ne _ s hs eR dd fw),h3⟩
   have KJ:∀s,iG X s=true->s≠t:=λs fT e=>by rw [e,yi]at fT;cases fT
   cases hq:t.q with
   |true=>
    have same:∀{l:List bX},(∀s∈l,s∈log)->cT M0 (L.setIfInBounds t.i true) l=cT M0 L l:=λh=>YA λs hs ij=>by
     rw [pQ];refine⟨λhh=>hh.resolve_left λe=> ?_,.inr⟩;have:=dI.distinct hL s (h s hs) t ht e;rw [this,hq]at ij;cases ij
    rw [if_pos hq]at yl;have amp:∀{b:List bX} {s:bX} {c:List bX},log=b++s::c->cT M0 (L.setIfInBounds t.i true) c=cT M0 L c:=λfW=>same λr hr=>by rw [fW];exact oC _ (fJ _ hr)
    refine fin γ F' ρ' v w' (by rw [same λs hs=>hs];exact yl) hg eZ.size (λ_=>hx) ?_ ?_ (λ_ _ _ _=>rfl) (λh=>aaK)
    ·intro b s c fW fT ed jY vQ;rw [amp fW]at jY;rcases vQ with h|h
     ·exact absurd h (KJ s fT)
     ·rw [h]at jY;cases jY
    ·intro b s c fW fT ed jY;rw [amp fW]at jY;have:=tr b s c fW (nY s (hin_log fW) ed (KJ s fT)) fT jY;rw [if_pos hq]at this;rw [same λs hs=>hs];exact this
   |false=>
    have hqn:¬t.q=true:=Sz;have ank:cT M0 (L.setIfInBounds t.i true) (t::l1)=(t.M',true):=by
     simp only [cT];rw [if_neg hqn,if_pos ⟨(pQ _).2 (.inl rfl),by rw [Uj λs hs=>hs];exact dI.flag uW Kb hq yi mM⟩]
    rw [if_neg hqn]at yl;have trb:∀b s c,log=b++s::c->cG L s.i->iG X s=true->(cT M0 L c).2 =false->yW X w0 ρ' F' (a.put t.o.dst v) w' (γ s.i) s/\Aside F' ρ' (cT M0 (L.setIfInBounds t.i true) (t::l1)).1 w' (γ s.i):=by
     intro b s c U h2 h3 h4;have:=tr b s c U h2 h3 h4;rw [if_neg hqn]at this;rw [ank];exact this
    obtain⟨ρ2,i2,e2,p2,a2⟩:=aau (L:=L.setIfInBounds t.i true) (γ:=γ) (a:=a.put t.o.dst v) (base:=t::l1) uW (by rw [ank];exact yl)
     (λs hs ij ed=>apx hq s hs ij (nY s (ny hs) ed (vG s hs)))
     (λs hs fT ed=>by
       obtain⟨b,c,fW⟩:=ue (ny hs);exact trb b s c fW (nY s (ny hs) ed (vG s hs)) fT (hid_flag hq fW hs))
     (λs hs s' c7 fT An ed xY eY=>hm.Pn s (ny hs) s' (ny c7) fT An (nY s (ny hs) ed (vG s hs)) (nY s' (ny c7) xY (vG s' c7)) eY)
    rw [<-po]at i2 a2;refine fin γ F' ρ2 v w' i2 ⟨hg.hF,λid hd h=>e2 id hd (hg.jD id hd h),hg.hb⟩ eZ.size (λ_=>hx.mono e2 (λ_ h=>h) (λ_ _ _ h=>h)) ?_ ?_ (λ_ _ _ _=>rfl) (λh=>aaK)
    ·intro b s c fW fT ed jY vQ dd fw;rcases Yh (fW.symm.trans po)with⟨m,h3,h4⟩|⟨h3,h4,h5⟩|⟨m,h3,h4⟩
     ·exact p2 b s m h3 fT ed (by rw [<-h4];exact jY) dd fw
     ·exact absurd h4 (KJ s fT)
     ·exfalso;have h6:cT M0 (L.setIfInBounds t.i true) c=cT M0 L c:=Uj (λr hr=>ajW);rw [h6]at jY;rcases vQ with h|h
      ·exact KJ s fT h
      ·rw [h]at jY;cases jY
    ·intro b s c fW fT ed jY;have hs:=hin_log fW;have eR:=KJ s fT;have qM:(cT M0 L c).2 =false:=amY;have hH:=trb b s c fW (nY s hs ed eR) fT qM;refine⟨hH.1.mono e2 (λ_ h=>h) (λ_ _ _ h=>h) rfl (λ_ _=>rfl),a2 _ hH.2 λb' r c' BT rH EX ac8 e=> ?_⟩;have zj:r∈l2:=by rw [BT];exact oC _ ez
     have hr:=ny zj
     by_cases uL:r.i=s.i
     ·have e1:=dI.distinct hL r hr s hs uL;subst e1;have:=dI.uniq hL fW (show log=b'++r::(c'++t::l1)by rw [po,BT];simp);rw [this,ac8]at jY;cases jY
     ·exact hm.Pn r hr s hs rH fT (nY r hr EX (KJ r rH)) (nY s hs ed eR) uL e
end
def zS(X:Cx)(T:j0 R)(ops:Array Oper)(t:bX)(st:St)(log:List bX)(k:List bX->St->Option R):Option R:=
 bf (log.all (IW X ops t)&&Ej X t log) (vF T.nt st t.o.dst t.x t.M' λaV=>k (t::log) aV)
def Of(X:Cx)(T:j0 R)(ops:Array Oper)(i:Nat)(o:Oper)(cl:Nat)(st:St)(log:List bX)(k:List bX->St->Option R):Option R:=
 match flO X o with
 |true=>
  match o.op with
  | .alloc ty=>bf (((X.ti ty).ok &&X.yc (qH X ty) ty)&&cZ (qH X ty) (X.ti ty).zero) (zS X T ops ⟨i,o,false,.ptr st.mem.length 0 0,[],cl,st.env,st.mem,st.mem++[.var (qH X ty) (X.ti ty).zero]⟩ st log k)
  | .buildSlice t n ps=>
    (match adp X t n (ps.toList.map λp=>(p.1,nL X (oA (kf o) st.env) p.2))with
     |some (e,rows)=>HH (.row e rows) λb=>zS X T ops ⟨i,o,false,.au st.mem.length,[],cl,st.env,st.mem,st.mem++[b]⟩ st log k
     |none=>none)
  |_=>none
 |false=>
 match Bc X (nL X (oA (kf o) st.env)) o with
 |some ids=>vH X T (nL X (oA (kf o) st.env)) o st.mem λx _=>zS X T ops ⟨i,o,true,x,ids,cl,st.env,st.mem,st.mem⟩ st log k
 |none=>
  match TA X ops (nL X (oA (kf o) st.env)) o with
  |some (t,n,ps)=>Fp X t n (ps.toList.map λp=>(p.1,nL X (oA (kf o) st.env) p.2)) λx=>zS X T ops ⟨i,o,true,x,[],cl,st.env,st.mem,st.mem⟩ st log k
  |none=>
   match TU X (nL X (oA (kf o) st.env)) o with
   |some (g,args)=>T.call g args [] λx M'=>bf (M'.isEmpty&&uD x) (zS X T ops ⟨i,o,true,x,[],cl,st.env,st.mem,st.mem⟩ st log k)
   |none=>
    match sK T (nL X (oA (kf o) st.env)) o st.mem with
    |some ids=>vH X T (nL X (oA (kf o) st.env)) o st.mem λx M'=>zS X T ops ⟨i,o,false,x,ids,cl,st.env,st.mem,M'⟩ st log k
    |none=>none
def Og(X:Cx)(T:j0 R)(ops:Array Oper)(i:Nat)(o:Oper)(cl:Nat)(st:St)(log:List bX)(k:List bX->St->Option R):Option R:=
 zS X T ops ⟨i,o,true,.eV [],[],cl,st.env,st.mem,st.mem⟩ st log k
def adm(X:Cx)(T:j0 R)(ops:Array Oper)(i:Nat)(o:Oper)(cl:Nat)(st:St)(log:List bX)(k:List bX->St->Option R):Option R:=
 match o.guard with
 |none=>Of X T ops i o cl st log k
 |some (j,want)=>
  match DG ops j with
  |none=>none
  |some d=>
   match look st.env d with
   | .bool b=>
     match b with
     |true=>match want with
      |true=>Of X T ops i o cl {st with env:=(d,.bool true)::st.env} log k
      |false=>Og X T ops i o cl {st with env:=(d,.bool true)::st.env} log k
     |false=>match want with
      |false=>Of X T ops i o cl {st with env:=(d,.bool false)::st.env} log k
      |true=>Og X T ops i o cl {st with env:=(d,.bool false)::st.env} log k
   | .eV []=>Og X T ops i o cl st log k
   |_=>none
def UE(X:Cx)(T:j0 R)(ops:Array Oper):dx->List bX->St->(List bX->St->Option R)->Option R
 | [],log,st,k=>k log st
 |i::rest,log,st,k=>
  match ops.toList[i]? with
  |none=>none
  |some o=>
   match uC log o.after.toList with
   |none=>none
   |some cl=>adm X T ops i o cl st log λwT aV=>UE X T ops rest wT aV k
def abu(X:Cx)(T:j0 R)(ops:Array Oper)(st:St)(k:St->Option R):Option R:=
 UE X T ops (amu ops.toList) [] st λlog aV=>bf (Nat.ble log.length ops.size&&(List.range ops.size).all λi=>log.any λt=>t.i==i) (k aV)
section
variable {nt:Nt} {ops:Array Oper} {env0 jy:bL} {M0 M1:aF}
theorem Fs(h:zS X T ops t st log k=some r):
 ∃aV,k (t::log) aV=some r/\(∀s∈log,IW X ops t s=true)/\Ej X t log=true/\(∀d,t.o.dst=some d->d<T.nt.n/\T.nt.mask.testBit d=true)/\(∀u,look aV.env u=(if t.o.dst=some u then t.x else look st.env u))/\aV.mem=t.M'/\aV.kR=st.kR/\aV.rd=st.rd:=by
 unfold zS at h;replace h:=cO h;obtain⟨hp,h⟩:=h;rw [bw]at hp;have hq:Nw T ops t st [] (λ_ aV=>k (t::log) aV)=some r:=akG;obtain⟨aV,h,_,hd,mR,jX,e1,e2⟩:=agY hq;exact⟨aV,h,λs hs=>mz.1 hp.1 s hs,hp.2,hd,mR,jX,e1,e2⟩
theorem Fw(hl:dI X nt ops env0 M0 log jy M1)(U:∀u,look t.env u=look jy u)(h2:t.M=M1)(h3:t.q=true->t.M'=t.M)(h4:t.q=false->dc t.ids t.M t.M')(h5:iG X t=false->t.UL X nt ops)
 (h5':iG X t=true->∃b,t.M'=t.M++[b]/\t.ama X nt ops b) (h6:ops[t.i]?=some t.o)
 (h7:∀d,t.o.dst=some d->d<nt.n/\nt.mask.testBit d=true) (h8:∀s∈log,IW X ops t s=true) (h8':Ej X t log=true) (h9:uC log t.o.after.toList=some t.cl)  {M:aF} (lR:∀u,look env u=(if t.o.dst=some u then t.x else look t.env u)) (pA:M=t.M'):
 dI X nt ops env0 M0 (t::log) env M:=by
 obtain⟨c1,c2⟩:=Rn h9;refine⟨jy,M1,hl,U,h2,h3,h4,h5,h5',h6,h7,h8,h8',λe he hb=>c1 e (Bn) hb,λw hw=> ?_,λu=>by rw [lR u,U u],pA⟩;obtain⟨e,he,hb,hh⟩:=c2 w hw;exact⟨e,Bn,hb,hh⟩
theorem YH(hl:dI X T.nt ops env0 M0 log jy M1)(hi:ops[i]?=some o)(hc:uC log o.after.toList=some cl)
 (he:∀u,look st.env u=look jy u) (hm:st.mem=M1) (hw:JJ X ops o st.env false) (h:Og X T ops i o cl st log k=some r):
 ∃t aV,k (t::log) aV=some r/\dI X T.nt ops env0 M0 (t::log) aV.env aV.mem/\aV.kR=st.kR/\aV.rd=st.rd:=by
 unfold Og at h;obtain⟨aV,h,hp,xo,hd,mR,jX,U,h2⟩:=Fs h;refine⟨_,aV,h,Fw hl he hm (λ_=>rfl) (λhq=>rX) ?_ (λhf=>by simp [iG]at hf) hi hd hp xo hc mR jX,U,h2⟩;intro _ Mx _ _ rdc n w0 S F ρ a w Q K hI eX hr hk;unfold wpOpIn;simp only [hi,hw hr,nP,lI];exact⟨λ_ _=>trivial,hk _ w F ρ hI YO (Grow.refl _ _ _)⟩
theorem YG(hX:X.Okb)(hT:T.qV X)(hl:dI X T.nt ops env0 M0 log jy M1)(hi:ops[i]?=some o)(hc:uC log o.after.toList=some cl)
 (he:∀u,look st.env u=look jy u) (hm:st.mem=M1) (hw:JJ X ops o st.env true) (h:Of X T ops i o cl st log k=some r):
 ∃t aV,k (t::log) aV=some r/\dI X T.nt ops env0 M0 (t::log) aV.env aV.mem/\aV.kR=st.kR/\aV.rd=st.rd:=by
 unfold Of at h;split at h
 ·rename_i xr;have alN:∀{x:AV} {M':aF},iG X ⟨i,o,false,x,[],cl,st.env,st.mem,M'⟩=false->False:=λhf=>by simp [iG,xr]at hf
  split at h
  ·rename_i ty ho;replace h:=cO h;obtain⟨bB,h⟩:=h;rw [bw,bw]at bB;obtain⟨aV,h,hp,xo,hd,mR,jX,U,h2⟩:=Fs h;refine⟨_,aV,h,Fw hl he hm (λhq=>rX) (λ_=>dc.push _ _ _) (λhf=>(alN hf).elim) (λ_=>⟨_,rfl,?_⟩) hi hd hp xo hc mR jX,U,h2⟩;intro Mx rdc n w0 S F ρ a w Q K hI eX hr hk;obtain⟨i',d,z,f⟩:=hX.facts bB.1.1;have du:(Instr.alloc ty true (.tuple #[])).run X.P w= .ok (.pointer (some ⟨w.heap.size,0,none⟩)) (w.alloc (.cells z.cells ty)):=by
    simp only [Instr.alloc,gh,f.zeroValue,iV,newVar,newRow,IQ,ke,IN]
   unfold wpOpIn;simp only [hi,hw hr,lG];refine CO (iW) (v:= .pointer (some ⟨w.heap.size,0,none⟩)) (w':=w.alloc (.cells z.cells ty)) (by
    rw [show execOp a.eval o=(do pure (.value (<-Instr.alloc ty true (.tuple #[]))):Sem Next)from mI,gh,du];rfl) ?_
   refine hk _ _ ⟨.slice (some ⟨w.heap.size,0,none⟩) 1 1,(X.ti ty).zero.length⟩ (II w _ none) rfl (by simp) rfl ⟨bB.2,rfl,_,_,_,rfl,Ry w _,JB,(by rw [bB.1.2];rfl)⟩ (λρ2 F2 w2 hlen=> ?_);have:=Zx (X:=X) (M:=st.mem) (F:=F2) (w:=w2) (hd:=⟨.slice (some ⟨w.heap.size,0,none⟩) 1 1,(X.ti ty).zero.length⟩) hlen rfl 0 0;exact sI
  ·rename_i t n ps ho;split at h
   ·rename_i e rows hb;rw [abp]at h;obtain⟨aV,h,hp,xo,hd,mR,jX,U,h2⟩:=Fs h;refine⟨_,aV,h,Fw hl he hm (λhq=>rX) (λ_=>dc.push _ _ _) (λhf=>(alN hf).elim) (λ_=>⟨_,rfl,?_⟩) hi hd hp xo hc mR jX,U,h2⟩;intro Mx rdc n' w0 S F ρ a w Q K hI eX hr hk;have Vl:∀z,a8 X.K ρ F w (nL X (oA (kf o) st.env) z) (a.eval z):=λz=>Di hI (Iz λu hu=>hr u (A7 _ hu)) z;obtain⟨us,du,hlen,nm⟩:=aA4 hX hb (w:=w) hI.one (ps.toList.map λp=>(p.1,a.eval p.2)) (by simp) (λj p q hp hq=>by
     rw [kG]at hp hq;cases hj:ps.toList[j]? with
     |none=>exact MV
     |some z=>
      rw [hj]at hp hq;simp only [nN,Option.some.injEq]at hp hq;subst hp;subst hq;exact⟨rfl,Vl z.2⟩)
    have e1:(ps.map λ(i,x)=>(i,a.eval x))=(ps.toList.map λp=>(p.1,a.eval p.2)).toArray :=yJ;unfold wpOpIn;simp only [hi,hw hr,lG];refine CO (iW) (v:= .slice (some ⟨w.heap.size,0,none⟩) n n) (w':=w.alloc (.cells us e)) (by
     rw [show execOp a.eval o=(do pure (.value (<-Instr.buildSlice t n (ps.map λ(i,x)=>(i,a.eval x)))):Sem Next)from mI,gh,e1,du];rfl) ?_
    refine hk _ _ ⟨.slice (some ⟨w.heap.size,0,none⟩) n n,(X.K e).length⟩ (II w _ none) rfl (by simp) rfl nm (λρ2 F2 w2 aEu=> ?_);exact Dd (M:=st.mem) (hd:=⟨.slice (some ⟨w.heap.size,0,none⟩) n n,(X.K e).length⟩) aEu
   ·exact aD
  ·exact aD
 ·rename_i xr;have Un:∀{q:Bool} {x:AV} {ids:dx} {M':aF},iG X ⟨i,o,q,x,ids,cl,st.env,st.mem,M'⟩=true->False:=by
   intro q x ids M' hf;simp [iG,xr]at hf
  split at h
  ·rename_i ids hq;obtain⟨y,h,du⟩:=agX hX hq h;obtain⟨aV,h,hp,xo,hd,mR,jX,U,h2⟩:=Fs h;refine⟨_,aV,h,Fw hl he hm (λ_=>rfl) (λhq=>rX) ?_ (λhf=>(Un hf).elim) hi hd hp xo hc mR jX,U,h2⟩;exact amV
  ·rename_i hq;split at h
   ·rename_i t n ps ac5;obtain⟨y,h,du⟩:=aho hX (ag2 ac5) h;obtain⟨aV,h,hp,xo,hd,mR,jX,U,h2⟩:=Fs h;refine⟨_,aV,h,Fw hl he hm (λ_=>rfl) (λhq=>rX) ?_ (λhf=>(Un hf).elim) hi hd hp xo hc mR jX,U,h2⟩;exact Tz
   ·split at h
    ·rename_i g args hcq;obtain⟨y,h,du⟩:=ahe hX hT hcq (k:=λy=>zS X T ops ⟨i,o,true,y,[],cl,st.env,st.mem,st.mem⟩ st log k) h;obtain⟨aV,h,hp,xo,hd,mR,jX,U,h2⟩:=Fs h;refine⟨_,aV,h,Fw hl he hm (λ_=>rfl) (λhq=>rX) ?_ (λhf=>(Un hf).elim) hi hd hp xo hc mR jX,U,h2⟩;exact Tz
    ·split at h
     ·rename_i ids hwr;obtain⟨x,M',du,h,gZ⟩:=Mj hX hT h;obtain⟨aV,h,hp,xo,hd,mR,jX,U,h2⟩:=Fs h;refine⟨_,aV,h,Fw hl he hm (λhq=>rX) (λ_=>gZ ids hwr) ?_ (λhf=>(Un hf).elim) hi hd hp xo hc mR jX,U,h2⟩;exact amZ
     ·exact aD
theorem azk(hX:X.Okb)(hT:T.qV X)(hl:dI X T.nt ops env0 M0 log st.env st.mem)(hi:ops[i]?=some o)(hc:uC log o.after.toList=some cl)
 (h:adm X T ops i o cl st log k=some r):
 ∃t aV,k (t::log) aV=some r/\dI X T.nt ops env0 M0 (t::log) aV.env aV.mem/\aV.kR=st.kR/\aV.rd=st.rd:=by
 unfold adm at h;split at h
 ·rename_i hg;exact YG hX hT hl hi hc (λ_=>rfl) rfl (λ{ρ F w tmps} _=>Ye hg _) h
 ·rename_i j want hg;split at h
  ·exact aD
  ·rename_i d hd;have kl:d∈kf o++guardOf ops o:=oC _ (by simp [guardOf,hg,hd]);have Bs:∀(b:Bool) (env:bL),look env d= .bool b->JJ X ops o env (b==want):=amR;split at h
   ·rename_i b hb;split at h
    ·split at h
     ·exact YG hX hT (st:={st with env:=(d,.bool true)::st.env}) hl hi hc (λu=>CU hb u) rfl (Bs true _ (Dy)) h
     ·exact YH (st:={st with env:=(d,.bool true)::st.env}) hl hi hc (λu=>CU hb u) rfl (Bs true _ (Dy)) h
    ·split at h
     ·exact YG hX hT (st:={st with env:=(d,.bool false)::st.env}) hl hi hc (λu=>CU hb u) rfl (Bs false _ (Dy)) h
     ·exact YH (st:={st with env:=(d,.bool false)::st.env}) hl hi hc (λu=>CU hb u) rfl (Bs false _ (Dy)) h
   ·rename_i hb;refine YH hl hi hc (λ_=>rfl) rfl (λ{ρ F w tmps} hr=> ?_) h;exact amU
   ·exact aD
theorem ag9(hX:X.Okb){T:j0 R}(hT:T.qV X){k:List bX->St->Option R}{r:R}:∀(ord:dx) {log:List bX} {st:St},dI X T.nt ops env0 M0 log st.env st.mem->UE X T ops ord log st k=some r->
 ∃wT aV,k wT aV=some r/\dI X T.nt ops env0 M0 wT aV.env aV.mem/\aV.kR=st.kR/\aV.rd=st.rd
 | [],log,st,hl,h=>⟨log,st,h,hl,rfl,rfl⟩
 |i::rest,log,st,hl,h=>by
  simp only [UE]at h;split at h
  ·exact aD
  ·rename_i o ho;split at h
   ·exact aD
   ·rename_i cl hc;obtain⟨t,cm,h,gY,e1,e2⟩:=azk hX hT hl (by simpa using ho) hc h;obtain⟨wT,aV,h,Hx,e3,e4⟩:=ag9 hX hT rest gY h;exact⟨wT,aV,h,Hx,e3.trans e1,e4.trans e2⟩
theorem ayf(hX:X.Okb)(hT:T.qV X){id:Nat}{k:St->Option R}(h:abu X T ops st k=some r):
 ∃aV,k aV=some r/\sE X T.nt (.region id ops true) st .normal aV:=by
 unfold abu at h;obtain⟨log,aV,h,hl,e1,e2⟩:=ag9 hX hT (ops:=ops) (env0:=st.env) (M0:=st.mem) _ (log:=[]) (st:=st) (show dI X T.nt ops st.env st.mem [] st.env st.mem from⟨λ_=>rfl,rfl⟩) h;replace h:=cO h;obtain⟨jP,h⟩:=h;rw [bw]at jP;obtain⟨hlen,jP⟩:=jP;refine⟨aV,h,λ{rdc n w0 S F ρ a w Q} hI hs hq=>wpIn_region_any hX.mixed ?_⟩;have hg:=World.afZ w;have eZ:=hI.grown hg;have lP:Grow F F ρ ρ w {w with drawn:=w.drawn+1}:=⟨λ_ h=>h,λ_ _ h=>h,hI.Ap hg (by simp)⟩;have c7:=hs.grow lP;have tc:∀i,¬cG (Array.replicate ops.size false) i:=alg;have hm0:∀l:List bX,(cT st.mem (Array.replicate ops.size false) l).1 =st.mem:=by
  intro l
  induction l with
  |nil=>rfl
  |cons t l KE=>
   simp only [cT];split
   ·exact KE
   ·rw [if_neg λhh=>tc _ hh.1];exact KE
 refine az3 hX (ds:=a.defers) (tv:=rdc.tv) (wb:=w) (S:=S) (w0:=w0) (F0:=F) (ρ0:=ρ) hl (λi hi=> ?_) (λa' w' F' ρ' yl hE eX KS KM oB=> ?_) ops.size _ (λ_=>0) F ρ a _ (by simp) ?_ ?_ ?_
 ·have:=mz.1 jP i (Bf.2 hi);exact akF
 ·refine hq a' w' F' ρ' yl ⟨hE,eX,?_,?_,KM⟩ oB
  ·rw [e1,KS];exact hs.defs.mono oB.hF oB.hb
  ·exact hs.rd.mono oB.hF oB.hb
 ·exact qR ahL (zI hlen)
 ·exact λt ht di=>absurd di (tc _)
 ·exact⟨by rw [hm0];exact eZ,lP,hs.size,rfl,hs.kept,λ_ s _ _ di=>absurd di (tc _),λ_ s _ _ di=>absurd di (tc _),λs _ _ di=>absurd di (tc _),λs _ s' _ _ _ di=>absurd di (tc _),λu _=>c7.env u⟩
end
end
end Go.aj
namespace Go.aj
def amX{p:Prop}(h:p:=by
 obtain⟨m2,m1,jX⟩:=ue Ck;have uW:fq X nt ops env0 M0 (m2++s::(m1++t::l1)) env M:=by rw [jX]at hL;simpa using hL
 obtain⟨_,_,_,_,_,OC⟩:=fq.entry uW;exact OC.pair t (oC _ ez)):p:=h
def sJ{p:Prop}(h:p:=by rw [h];rfl):p:=h
def aaW{p:Prop}(h:p:=by injection h with h;subst h;rfl):p:=h
end Go.aj
namespace Go.aj
open Go
noncomputable section
variable {X:Cx} {R:Type}
variable{p x:AV}{b:eE}{t:bX}{log:List bX}{k:List bX->St->Option R}{cl i id:Nat}{o:Oper}{r:R}{st:St}{T:j0 R}{M:aF}{env:bL}
def cnv(k:Kind)(x:AV):Option AV:=
 match k,x with
 | .slice t,.jI =>some (.ae t [])
 | .slice _,.au _=>none
 |_,x=>some x
def GU:er->ak->Option ak
 |k::ks,x::xs=>(match cnv k x with|some y=>(match GU ks xs with|some ys=>some (y::ys)|none=>none)|none=>none)
 |_,xs=>some xs
theorem aBQ{k:Kind}{y:AV}(h:cnv k x=some y)(M:aF)(c:AV->aF->Option R):kZ k x M c=c y M:=by
 unfold cnv at h;split at h
 ·exact aaW
 ·exact aD
 ·rename_i U h2;injection h with h;subst h;unfold kZ;split
  ·exact absurd rfl (U _ rfl)
  ·exact absurd rfl (h2 _ _ rfl)
  ·rfl
theorem aid:∀{ks:er} {xs ys:ak},GU ks xs=some ys->∀(M:aF) (c:ak->aF->Option R),uB ks xs M c=c ys M
 | [],xs,ys,h,M,c=>by
   cases xs<;>(simp only [GU,Option.some.injEq]at h;subst h;rfl)
 |k::ks,[],ys,h,M,c=>by simp only [GU,Option.some.injEq]at h;subst h;rfl
 |k::ks,x::xs,ys,h,M,c=>by
  simp only [GU]at h;split at h
  ·rename_i y hy;split at h
   ·rename_i zs hz;injection h with h;subst h;simp only [uB];rw [aBQ hy,aid hz]
   ·exact aD
  ·exact aD
def JX(X:Cx)(t:TypeId)(p x:AV)(M:aF):Option (Nat×eE):=
 match p with
 | .ptr id i off=>
   match gm M id with
   |some (.var ks cs)=>
    (match x.plain&&(X.ti t).ok &&i==0&&x.cells.length==(X.ti t).size &&decide (off+(X.ti t).size <=ks.length)&&BN ks off x.cells&&X.vK ks cs (setAt cs off x.cells)with
     |true=>some (id,.var ks (setAt cs off x.cells))
     |false=>none)
   |some (.row t' xs)=>
    (match x.plain,GU (X.ti t).ks x.cells with
     |true,some xc=>
      (match(X.ti t).ok &&xc.length==(X.ti t).size &&decide (off+(X.ti t).size <=(X.K t').length)&&BN (X.K t') off xc&&decide (i<xs.length)with
       |true=>some (id,.row t' (xs.set i (setAt (xs.getD i []) off xc)))
       |false=>none)
     |_,_=>none)
   |_=>none
 |_=>none
def acB(X:Cx)(t:TypeId)(p x:AV)(M:aF)(k:Nat->eE->Option R):Option R:=
 match p with
 | .ptr id i off=>
   match gm M id with
   |some (.var ks cs)=>bf (x.plain&&(X.ti t).ok &&i==0&&x.cells.length==(X.ti t).size &&decide (off+(X.ti t).size <=ks.length)&&BN ks off x.cells&&X.vK ks cs (setAt cs off x.cells)) (k id (.var ks (setAt cs off x.cells)))
   |some (.row t' xs)=>
    (match x.plain,GU (X.ti t).ks x.cells with
     |true,some xc=>bf ((X.ti t).ok &&xc.length==(X.ti t).size &&decide (off+(X.ti t).size <=(X.K t').length)&&BN (X.K t') off xc&&decide (i<xs.length)) (k id (.row t' (xs.set i (setAt (xs.getD i []) off xc))))
     |_,_=>none)
   |_=>none
 |_=>none
theorem azE{t:TypeId}{k:Nat->eE->Option R}(h:acB X t p x M k=some r):∃id b,JX X t p x M=some (id,b)/\k id b=some r:=by
 unfold acB at h;split at h
 ·split at h
  ·rename_i hb;obtain⟨hc,h⟩:=cO h;exact⟨_,_,by simp only [JX,hb,hc],h⟩
  ·rename_i hb;split at h
   ·rename_i hp mD;obtain⟨hc,h⟩:=cO h;exact⟨_,_,by simp only [JX,hb,hp,mD,hc],h⟩
   ·exact aD
  ·exact aD
 ·exact aD
theorem ahi{t:TypeId}(h:JX X t p x M=some (id,b)):zN p=[id]/\id<M.length/\∀(M0:aF),M0[id]?=M[id]?->∀(k:aF->Option R),I7 X t p x M0 k=k (M0.set id b):=by
 unfold JX at h;split at h
 ·rename_i id' i off;split at h
  ·rename_i ks cs hb;split at h
   ·rename_i hc;injection h with h;injection h with U h2;subst U;subst h2;rw [fR]at hb;refine⟨rfl,(fK.1 hb).1,λM0 hM k=> ?_⟩;have Pf:M0[id']?=some (.var ks cs):=by rw [hM];exact hb
    unfold I7;simp only [fR,Pf,hc,bf]
   ·exact aD
  ·rename_i t' xs hb;split at h
   ·rename_i xc uN mD;split at h
    ·rename_i hc;injection h with h;injection h with U h2;subst U;subst h2;rw [fR]at hb;refine⟨rfl,(fK.1 hb).1,λM0 hM k=> ?_⟩;have Pf:M0[id']?=some (.row t' xs):=by rw [hM];exact hb
     unfold I7;simp only [fR,Pf,uN,bf];rw [aid mD];simp only [fR,Pf,hc,bf]
    ·exact aD
   ·exact aD
  ·exact aD
 ·exact aD
theorem azD(hX:X.Okb){e:Operand->AV}{t:TypeId}{p x:Operand}(ho:o.op= .store t p x)(h:JX X t (e p) (e x) M=some (id,b)){M0:aF}(hM:M0[id]?=M[id]?):gQ X o e M0 (.eV []) (M0.set id b):=by
 have U:=(ahi (R:=AV×aF) h).2.2 M0 hM (λM'=>some (.eV [],M'));have h2:sO X (NQ (AV×aF)) e o M0 (λx M=>some (x,M))=some (.eV [],M0.set id b):=by
  unfold sO;simp only [ho];exact U
 obtain⟨x',M',du,he,_⟩:=agJ hX (aiu X _) h2;injection he with he;injection he with e1 e2;subst e1;subst e2;exact @du
def J7(o:Oper):Bool:=match o.op with| .store _ _ _=>true|_=>false
def mh(t:bX):Bool:= !t.q&&J7 t.o
def nW(t:bX):Nat:=t.ids.headD 0
def E7(t:bX):eE:=(t.M'[nW t]?).getD .dead
def vr(ops:Array Oper)(t s:bX):Bool:=
 !(t.i==s.i)&& !(t.o.dst.isSome&&t.o.dst==s.o.dst)&&
 (t.cl.testBit s.i||
   (!xZ s.o.dst (kf t.o++guardOf ops t.o)&& !xZ t.o.dst (kf s.o++guardOf ops s.o)&&
     match t.q,s.q with
     |true,true=>true
     |false,false=>mh t&&mh s&& !(Nat.beq (nW t) (nW s))
     |true,false=>t.ids.all λid=>s.keeps id
     |false,true=>(match mh t with|true=>s.ids.all λid=> !(Nat.beq id (nW t))|false=>s.ids.all λid=>t.keeps id)))
theorem uc{ops:Array Oper}{s:bX}(h:vr ops t s=true):t.i≠s.i/\(∀d,t.o.dst=some d->s.o.dst≠some d)/\
 (t.cl.testBit s.i=true∨((∀d,s.o.dst=some d->d∉kf t.o++guardOf ops t.o)/\(∀d,t.o.dst=some d->d∉kf s.o++guardOf ops s.o)/\(t.q=false->s.q=false->mh t=true/\mh s=true/\nW t≠nW s)/\
   (t.q=true->s.q=false->∀id∈t.ids,s.yM id)/\(t.q=false->s.q=true->∀id∈s.ids,(mh t=true->id≠nW t)/\(mh t=false->t.yM id)))):=by
 unfold vr at h;rw [bw,bw,A8]at h;obtain⟨⟨U,h2⟩,h3⟩:=h;refine⟨xO,λd hd hs=>by simp [hd,hs]at h2,?_⟩;rcases h3 with h3|h3
 ·exact .inl h3
 ·refine .inr ?_;rw [bw,bw]at h3;obtain⟨⟨h4,h5⟩,h6⟩:=h3;refine⟨RY h4,RY h5,?_,?_,?_⟩
  ·intro ht hs;rw [ht,hs]at h6;simp only [bw,jF]at h6;exact⟨h6.1.1,h6.1.2,λe=>by rw [e]at h6;simp at h6⟩
  ·exact abJ
  ·intro ht hs id hid;rw [ht,hs]at h6;simp only at h6;constructor
   ·intro hl;rw [hl]at h6;have:=mz.1 h6 id hid;intro e;rw [e]at this;simp at this
   ·intro hl;rw [hl]at h6;exact bX.ag6 (mz.1 h6 id hid)
def bX.anu(X:Cx)(nt:Nt)(ops:Array Oper)(t:bX):Prop:=
 ∀{M0:aF},M0[nW t]?=t.M[nW t]?->
  ∀{rdc:Cy} {n:Nat} {w0:World} {S:Sc} {F:bD} {ρ:bJ} {a:Act} {w:World} {Q:Exit->Act->World->Prop} {K:Act->World->Prop},Inv X w0 S F ρ M0 w->a.tmps.size=nt.n->
   (∀u∈kf t.o++guardOf ops t.o,a8 X.K ρ F w (look t.env u) (a.tmps.getD u undef))->
   (∀v w' F' ρ',Inv X w0 S F' ρ' (M0.set (nW t) (E7 t)) w'->a8 X.K ρ' F' w' t.x v->Grow F F' ρ ρ' w w'->K (a.put t.o.dst v) w')->wpOpIn (nK rdc.r) n X.P ops Q t.i K a w
structure ace(X:Cx)(nt:Nt)(ops:Array Oper)(t:bX)(log:List bX)(jy:bL)(M1:aF)(env:bL)(M:aF):Prop where
 N3:∀u,look t.env u=look jy u
 hM:t.M=M1
 hq:t.q=true->t.M'=t.M
 gZ:t.q=false->dc t.ids t.M t.M'
 runs:mh t=false->t.UL X nt ops
 lc:mh t=true->t.anu X nt ops/\nW t<t.M.length/\t.M'=t.M.set (nW t) (E7 t)
 op:ops[t.i]?=some t.o
 dst:∀d,t.o.dst=some d->d<nt.n/\nt.mask.testBit d=true
 pair:∀s∈log,vr ops t s=true
 pre:∀e∈t.o.after,Region.binds .any e=true->∃s∈log,s.i=e.on
 cl:∀w,t.cl.testBit w=true->∃e∈t.o.after,Region.binds .any e=true/\(w=e.on∨∃s∈log,s.i=e.on/\s.cl.testBit w=true)
 lk:∀u,look env u=(if t.o.dst=some u then t.x else look jy u)
 mem:M=t.M'
def fq(X:Cx)(nt:Nt)(ops:Array Oper)(env0:bL)(M0:aF):List bX->bL->aF->Prop
 | [],env,M=>(∀u,look env u=look env0 u)/\M=M0
 |t::log,env,M=>∃jy M1,fq X nt ops env0 M0 log jy M1/\ace X nt ops t log jy M1 env M
def ji(M0:aF)(L:Array Bool):List bX->aF
 | []=>M0
 |t::log=>if t.q=false/\cG L t.i then(if mh t=true then(ji M0 L log).set (nW t) (E7 t)else t.M')else ji M0 L log
theorem aCX(h:mh t=true):t.q=false:=by
 unfold mh at h;rw [bw]at h;simpa using h.1
section
variable {nt:Nt} {ops:Array Oper} {env0:bL} {M0:aF} {L:Array Bool}
theorem fq.look:∀{log:List bX} {env:bL} {M:aF},fq X nt ops env0 M0 log env M->∀u,(∃s∈log,s.o.dst=some u/\aj.look env u=s.x)∨((∀s∈log,s.o.dst≠some u)/\aj.look env u=aj.look env0 u)
 | [],env,M,⟨h,_⟩,u=> .inr ⟨λs hs=>by simp at hs,h u⟩
 |t::log,env,M,⟨_,_,hl,st⟩,u=>by
  rw [st.lk u];split
  ·rename_i hd;exact .inl ⟨t,ez,hd,rfl⟩
  ·rename_i hd;rcases fq.look hl u with⟨s,hs,h⟩|⟨U,h2⟩
   ·exact .inl ⟨s,fJ _ hs,h⟩
   ·exact alj
theorem fq.closed:∀{log:List bX} {env:bL} {M:aF},fq X nt ops env0 M0 log env M->wG L log->∀t∈log,(∀e∈t.o.after,Region.binds .any e=true->cG L e.on)->∀w,t.cl.testBit w=true->cG L w
 | [],_,_,_,_,t,ht,_,_,_=>by simp at ht
 |t::log,_,_,⟨_,_,hl,st⟩,fh,s,hs,hp,w,hw=>by
  have ih:=fq.closed hl (λa ha=>fh a (fJ _ ha));exact amO
theorem fq.entry{t:bX}{l1:List bX}:∀{l2:List bX} {jR:bL} {M':aF},fq X nt ops env0 M0 (l2++t::l1) jR M'->∃jy M1 env M,fq X nt ops env0 M0 l1 jy M1/\ace X nt ops t l1 jy M1 env M
 | [],_,_,⟨_,_,hl,st⟩=>⟨_,_,_,_,hl,st⟩
 |_::l2,_,_,⟨_,_,hl,_⟩=>fq.entry (l2:=l2) hl
theorem fq.distinct:∀{env:bL} {M:aF},fq X nt ops env0 M0 log env M->∀s∈log,∀t∈log,s.i=t.i->s=t:=by
 induction log with
 |nil=>exact SH
 |cons a log ih=>
  intro env M h s hs t ht e;obtain⟨_,_,hl,st⟩:=h;rcases fV.1 hs with rfl|c7<;>rcases fV.1 ht with rfl|zf
  ·rfl
  ·exact absurd e (uc (st.pair t zf)).1
  ·exact absurd e.symm (uc (st.pair s c7)).1
  ·exact ih hl s c7 t zf e
theorem fq.dst{log:List bX}:∀{env:bL} {M:aF},fq X nt ops env0 M0 log env M->∀s∈log,∀t∈log,∀d,s.o.dst=some d->t.o.dst=some d->s=t:=by
 induction log with
 |nil=>exact SH
 |cons a log ih=>
  intro env M h s hs t ht d U h2;obtain⟨_,_,hl,st⟩:=h;rcases fV.1 hs with rfl|c7<;>rcases fV.1 ht with rfl|zf
  ·rfl
  ·exact absurd h2 ((uc (st.pair t zf)).2.1 d U)
  ·exact absurd U ((uc (st.pair s c7)).2.1 d h2)
  ·exact ih hl s c7 t zf d U h2
theorem fq.zJ:∀{log:List bX} {env:bL} {M:aF},fq X nt ops env0 M0 log env M->(∀s∈log,s.q=false->cG L s.i)->ji M0 L log=M
 | [],_,_,⟨_,h⟩,_=>h.symm
 |t::log,_,_,⟨_,_,hl,st⟩,h=>by
  have ih:=fq.zJ hl (λs hs=>h s (fJ _ hs));simp only [ji];cases hq:t.q with
  |false=>
   rw [if_pos ⟨rfl,h t ez hq⟩];split
   ·rename_i nJ;rw [ih,<-st.hM,st.mem];exact(st.lc nJ).2.2.symm
   ·exact st.mem.symm
  |true=>rw [if_neg (by simp),ih,st.mem,st.hq hq,st.hM]
theorem fq.Sf:∀{log:List bX} {env:bL} {M:aF},fq X nt ops env0 M0 log env M->(∀s∈log,s.q=false->mh s=false->cG L s.i)->(ji M0 L log).length =M.length
 | [],_,_,⟨_,h⟩,_=>sJ
 |t::log,_,_,⟨_,_,hl,st⟩,h=>by
  have ih:=fq.Sf hl (λs hs=>h s (fJ _ hs));simp only [ji];cases hq:t.q with
  |true=>rw [if_neg (by simp),ih,st.mem,st.hq hq,st.hM]
  |false=>
   cases nJ:mh t with
   |true=>
    have hm:=(st.lc nJ).2.2
    by_cases di:cG L t.i
    ·rw [if_pos ⟨rfl,di⟩,if_pos rfl,Mz,ih,st.mem,hm,Mz,st.hM]
    ·rw [if_neg (λhh=>di hh.2),ih,st.mem,hm,Mz,st.hM]
   |false=>rw [if_pos ⟨rfl,h t ez hq nJ⟩,if_neg (by simp),st.mem]
theorem aCd{jy:bL}{M1:aF}(st:ace X nt ops t log jy M1 env M)(nJ:mh t=true):t.M'[nW t]?=some (E7 t):=by
 obtain⟨_,h2,h3⟩:=st.lc nJ;rw [h3,uf h2]
theorem fq.aiR{t:bX}{l1:List bX}{id:Nat}(lx:¬cG L t.i){v:Option eE}:
 ∀{l2:List bX} {jR:bL} {M':aF},fq X nt ops env0 M0 (l2++t::l1) jR M'->wG L (l2++t::l1)->(ji M0 L (t::l1))[id]?=v->
  (∀s∈l2,s.q=false->cG L s.i->vr ops s t=true->mh s=true->id≠nW s)->(∀s∈l2,s.q=false->cG L s.i->vr ops s t=true->mh s=false->∀l env M,fq X nt ops env0 M0 (s::l) env M->s.M'[id]?=s.M[id]?)->
  (ji M0 L (l2++t::l1))[id]?=v
 | [],_,_,_,_,h0,_,_=>h0
 |s::l2,jR,M',hL,fh,h0,U,h2=>by
  obtain⟨_,_,hl,st⟩:=_root_.id hL;have ih:=fq.aiR lx (l2:=l2) hl (λa ha=>fh a (fJ _ ha)) h0 (λr hr=>U r (fJ _ hr)) (λr hr=>h2 r (fJ _ hr));simp only [hY,ji]
  by_cases hc:s.q=false/\cG L s.i
  ·have hp:=st.pair t (oC _ ez);rw [if_pos hc];split
   ·rename_i nJ;rw [mW (Ne.symm (U s ez hc.1 hc.2 hp nJ))];exact ih
   ·rename_i nJ;have apv:mh s=false:=by simpa using nJ
    rw [h2 s ez hc.1 hc.2 hp apv _ _ _ hL,st.hM];rw [<-ih];have qn:=fq.closed (L:=L) hL fh s ez (fh s ez hc.2);have:ji M0 L (l2++t::l1)=_:=fq.zJ (L:=L) hl λr hr xm=>by
     obtain⟨_,_,h|⟨_,_,h,_⟩⟩:=uc (st.pair r hr)
     ·exact qn _ h
     ·have:=(h hc.1 xm).1;rw [apv]at this;cases this
    rw [this]
  ·rw [if_neg hc];exact ih
theorem fq.reads{t:bX}{l1:List bX}(lx:¬cG L t.i){u:Nat}(hu:u∈kf t.o++guardOf ops t.o){P:AV->Prop}:
 ∀{l2:List bX} {jR:bL} {M':aF},fq X nt ops env0 M0 (l2++t::l1) jR M'->wG L (l2++t::l1)->(∀e∈t.o.after,Region.binds .any e=true->cG L e.on)->
  (∀s∈l1,t.cl.testBit s.i=true->s.o.dst=some u->P s.x)->((∀s∈l2++t::l1,cG L s.i->s.o.dst≠some u)->P (aj.look env0 u))->P (aj.look t.env u)
 | [],jR,M',hL,fh,mM,hw,h0=>by
   obtain⟨_,_,hl,st⟩:=hL;rw [st.N3 u];rcases fq.look hl u with⟨s,hs,hd,he⟩|⟨hn,he⟩
   ·rw [he];refine hw s hs ?_ hd;obtain⟨_,_,h|⟨h,_⟩⟩:=uc (st.pair s hs)
    ·exact h
    ·exact absurd hu (h u hd)
   ·exact alz
 |s::l2,jR,M',hL,fh,mM,hw,h0=>by
  obtain⟨_,_,hl,st⟩:=_root_.id hL;refine fq.reads lx hu (l2:=l2) hl (λa ha=>fh a (fJ _ ha)) mM hw λhn=>h0 λr hr AM hd=> ?_;rcases fV.1 hr with rfl|hr
  ·have qn:=fq.closed (L:=L) hL fh r ez (fh r ez AM);obtain⟨_,_,h|⟨_,h,_⟩⟩:=uc (st.pair t (oC _ ez))
   ·exact lx (qn _ h)
   ·exact h u hd hu
  ·exact hn r hr AM hd
theorem Yz{L':Array Bool}:∀{log:List bX},(∀s∈log,s.q=false->(cG L s.i ↔ cG L' s.i))->ji M0 L log=ji M0 L' log
 | [],_=>rfl
 |t::log,h=>by
  have ih:=Yz (L':=L') (log:=log) λs hs=>h s (fJ _ hs);simp only [ji]
  by_cases hq:t.q=false
  ·have:=h t ez hq
   by_cases di:cG L t.i
   ·rw [ih,if_pos ⟨hq,di⟩];exact(if_pos ⟨hq,this.1 di⟩).symm
   ·rw [if_neg (λhh=>di hh.2),if_neg (λhh=>di (this.2 hh.2)),ih]
  ·rw [if_neg (λhh=>hq hh.1),if_neg (λhh=>hq hh.1),ih]
end
structure aqc(X:Cx)(nt:Nt)(env0:bL)(M0:aF)(w0:World)(S:Sc)(F0:bD)(ρ0:bJ)(wb:World)(ds:List Deferred)(tv:Nat->Value)(log:List bX)(L:Array Bool)(F:bD)(ρ:bJ)(a:Act)(w:World):Prop where
 inv:Inv X w0 S F ρ (ji M0 L log) w
 grow:Grow F0 F ρ0 ρ wb w
 size:a.tmps.size=nt.n
 defs:a.defers=ds
 kept:∀t,nt.mask.testBit t=false->a.tmps.getD t undef=tv t
 wrote:∀s∈log,cG L s.i->∀d,s.o.dst=some d->a8 X.K ρ F w s.x (a.tmps.getD d undef)
 jS:∀u,(∀s∈log,cG L s.i->s.o.dst≠some u)->a8 X.K ρ F w (aj.look env0 u) (a.tmps.getD u undef)
section
variable {nt:Nt} {ops:Array Oper} {env0:bL} {M0:aF}
theorem az2{rdc:Cy}{n:Nat}{w0 wb:World}{S:Sc}{F0:bD}{ρ0:bJ}{ds:List Deferred}{tv:Nat->Value}{Q:Exit->Act->World->Prop}(hL:fq X nt ops env0 M0 log env M)
 (jP:∀i,i<ops.size->∃t∈log,t.i=i)
 (hQ:∀a' w' F' ρ',Inv X w0 S F' ρ' M w'->k8 X ρ' F' w' env a'.tmps->a'.tmps.size=nt.n->a'.defers=ds->(∀t,nt.mask.testBit t=false->a'.tmps.getD t undef=tv t)->Grow F0 F' ρ0 ρ' wb w'->Q .normal a' w'):
 ∀(fuel:Nat) (L:Array Bool) (F:bD) (ρ:bJ) (a:Act) (w:World),L.size=ops.size->log.countP (λt=> !(L.getD t.i false))<=fuel->wG L log->
  aqc X nt env0 M0 w0 S F0 ρ0 wb ds tv log L F ρ a w->wpAnyIn (nK rdc.r) n X.P .any ops Q fuel L a w:=by
 have done:∀(L:Array Bool) (F:bD) (ρ:bJ) (a:Act) (w:World),(∀t∈log,cG L t.i)->aqc X nt env0 M0 w0 S F0 ρ0 wb ds tv log L F ρ a w->Q .normal a w:=by
  intro L F ρ a w di hm;refine hQ a w F ρ ?_ (λu=> ?_) hm.size hm.defs hm.kept hm.grow
  ·have:=fq.zJ hL (L:=L) (λs hs _=>di s hs);rw [<-this];exact hm.inv
  ·rcases fq.look hL u with⟨s,hs,hd,he⟩|⟨hn,he⟩
   ·rw [he];exact hm.wrote s hs (di s hs) u hd
   ·rw [he];exact hm.jS u λs hs _=>hn s hs
 have none_ready:∀(L:Array Bool),L.size=ops.size->Region.ready .any ops L=[]->∀t∈log,cG L t.i:=by
  intro L eX hr;have key:∀(l1:List bX) (l2:List bX) (jR:bL) (M':aF),fq X nt ops env0 M0 l1 jR M'->l2++l1=log->∀t∈l1,cG L t.i:=ao6;exact λt ht=>key log [] env M hL rfl t ht
 intro fuel
 induction fuel with
 |zero=>
  intro L F ρ a w eX ada fh hm;have di:∀t∈log,cG L t.i:=amW;refine⟨?_,done L F ρ a w di hm⟩;exact am3
 |succ fuel ih=>
  intro L F ρ a w eX ada fh hm;refine⟨λhr=>done L F ρ a w (none_ready L eX hr) hm,λi hi=> ?_⟩;rw [RR]at hi;obtain⟨hf,o,ho,mM⟩:=hi;have cH:i<ops.size:=(zH.1 ho).1;obtain⟨t,ht,rfl⟩:=jP i cH;have ac4:t.i<L.size:=by omega
  have lx:¬cG L t.i:=ak8;obtain⟨l2,l1,rfl⟩:=ue ht;obtain⟨jy,M1,aLh,ME,gY,st⟩:=fq.entry hL;have O3:t.o=o:=akZ;subst O3;have D5:=fq.closed (L:=L) hL fh t ht mM;have apC:∀s∈l2++t::l1,cG L s.i->∀w,s.cl.testBit w=true->cG L w:=λs hs ed=>fq.closed (L:=L) hL fh s hs (fh s hs ed);have pQ:∀j,cG (L.setIfInBounds t.i true) j ↔ j=t.i∨cG L j:=amD;have jS:∀(id:Nat),(∀s∈l1,s.q=false->t.cl.testBit s.i=true∨s.yM id)->(ji M0 L l1)[id]?=t.M[id]?:=by
   intro id hk;rw [st.hM];have key:∀(l l':List bX) (e:bL) (N:aF),l'++l=l1->fq X nt ops env0 M0 l e N->(ji M0 L l)[id]?=N[id]?:=by
    intro l
    induction l with
    |nil=>intro _ _ _ _ h;rw [h.2];rfl
    |cons s l KE=>
     intro l' e N Hw hls;obtain⟨_,_,Vh,tK⟩:=hls;have ih0:=KE (l'++[s]) _ _ (by simpa using Hw) Vh;have lC:s∈l1:=ajJ;have hsm:s∈l2++t::l1:=oC _ (fJ _ lC);simp only [ji];cases ij:s.q with
     |true=>rw [if_neg (by simp),ih0,tK.mem,tK.hq ij,tK.hM]
     |false=>
      by_cases di:cG L s.i
      ·rw [if_pos ⟨rfl,di⟩];split
       ·rename_i nJ;obtain⟨_,h2,h3⟩:=tK.lc nJ;have hlen:(ji M0 L l).length =s.M.length:=by
         rw [tK.hM];refine fq.Sf Vh λr hr xm uM=> ?_;obtain⟨_,_,h|⟨_,_,h,_⟩⟩:=uc (tK.pair r hr)
         ·exact apC s hsm di _ h
         ·have:=(h ij xm).2.1;rw [uM]at this;cases this
        by_cases hid:id=nW s
        ·subst hid;rw [uf (by omega),tK.mem,aCd tK nJ]
        ·rw [mW (Ne.symm hid),ih0,tK.mem,h3,mW (Ne.symm hid),tK.hM]
       ·exact xC (·[id]?) tK.mem.symm
      ·rw [if_neg (λhh=>di hh.2),ih0];rcases hk s lC ij with h|h
       ·exact absurd (D5 _ h) di
       ·rw [tK.mem,h.at (tK.gZ ij),tK.hM]
   exact key l1 [] _ _ rfl gY
  have Gj:ji M0 L (t::l1)=ji M0 L l1:=by
   simp only [ji];rw [if_neg λhh=>lx hh.2]
  have new:∀(id:Nat),(∀s∈l2,s.q=false->cG L s.i->vr ops s t=true->mh s=true->id≠nW s)->(∀s∈l2,s.q=false->cG L s.i->vr ops s t=true->mh s=false->s.yM id)->(ji M0 L l1)[id]?=t.M[id]?->(ji M0 L (l2++t::l1))[id]?=t.M[id]?:=by
   intro id U h2 h0;refine fq.aiR lx hL fh (by rw [Gj];exact h0) U λs hs ij ed hp nJ l env M hLs=> ?_;obtain⟨_,_,_,lL⟩:=hLs;exact(h2 s hs ij ed hp nJ).at (lL.gZ ij)
  have fin:∀(F2:bD) (ρ2:bJ) (v:Value) (w2:World),Inv X w0 S F2 ρ2 (ji M0 (L.setIfInBounds t.i true) (l2++t::l1)) w2->Grow F F2 ρ ρ2 w w2->a8 X.K ρ2 F2 w2 t.x v->wpAnyIn (nK rdc.r) n X.P .any ops Q fuel (L.setIfInBounds t.i true) (a.put t.o.dst v) w2:=by
   intro F' ρ' v w' eZ hg hx;refine ih (L.setIfInBounds t.i true) F' ρ' _ w' (M5) ?_ ?_ ⟨eZ,hm.grow.trans hg,aj0,ajU,?_,?_,?_⟩
   ·have:=Y9 (l:=l2++t::l1) (p:=λt=> !(L.getD t.i false)) (q:=λs=> !((L.setIfInBounds t.i true).getD s.i false)) (λs hs h=>by
     have h':¬cG (L.setIfInBounds t.i true) s.i:=by simpa [cG]using h
     rw [pQ]at h';have:¬cG L s.i:=λhh=>h' (.inr hh);simpa [cG]using this) ⟨t,ht,by simpa [cG]using lx,aks⟩
    omega
   ·intro s hs ed e he hb;rw [pQ]at ed⊢;rcases ed with h|h
    ·have:=fq.distinct hL s hs t ht h;subst this;exact .inr (mM e he hb)
    ·exact .inr (fh s hs h e he hb)
   ·exact ald
   ·intro s hs ed d hd;rw [pQ]at ed
    by_cases eR:s=t
    ·subst eR;have GM:=(st.dst d hd).1;have:(a.put s.o.dst v).tmps.getD d undef=v:=by
      simp [Act.put,hd,sG,hm.size,GM]
     rw [this];exact hx
    ·have xY:cG L s.i:=by
      rcases ed with h|h
      ·exact absurd (fq.distinct hL s hs t ht h) eR
      ·exact h
     have:(a.put t.o.dst v).tmps.getD d undef=a.tmps.getD d undef:=by
      cases Hr:t.o.dst with
      |none=>rfl
      |some d'=>
       have eY:d'≠d:=λe=>eR (fq.dst hL s hs t ht d hd (e▸Hr));exact aaR
     rw [this];exact(hm.wrote s hs xY d hd).grow hg
   ·intro u hu;have EM:t.o.dst≠some u:=hu t ht ((pQ _).2 (.inl rfl));have:(a.put t.o.dst v).tmps.getD u undef=a.tmps.getD u undef:=amC;rw [this];exact ako
  have alO:∀u∈kf t.o++guardOf ops t.o,a8 X.K ρ F w (aj.look t.env u) (a.tmps.getD u undef):=λu hu=>
   fq.reads (P:=λx=>a8 X.K ρ F w x (a.tmps.getD u undef)) lx hu hL fh mM (λs hs yk hd=>hm.wrote s (oC _ (fJ _ hs)) (D5 _ yk) u hd) (hm.jS u)
  have F7:∀s∈l2,cG L s.i->vr ops s t=true->(t.q=false->s.q=false->mh s=true/\mh t=true/\nW s≠nW t)/\(s.q=false->t.q=true->∀id∈t.ids,(mh s=true->id≠nW s)/\(mh s=false->s.yM id)):=by
   intro s hs ed hp;obtain⟨_,_,h|⟨_,_,U,_,h2⟩⟩:=uc hp
   ·exact absurd (apC s (A7 _ hs) ed _ h) lx
   ·exact⟨λa b=>U b a,λa b=>h2 a b⟩
  cases nJ:mh t with
  |true=>
   have xl:=aCX nJ;obtain⟨du,aLT,HE⟩:=st.lc nJ;have hM0:(ji M0 L (l2++t::l1))[nW t]?=t.M[nW t]?:=by
    refine new _ (λs hs ij ed hp _=> ?_) (λs hs ij ed hp hl=> ?_) (jS _ λs hs ij=> ?_)
    ·exact λe=>((F7 s hs ed hp).1 xl ij).2.2 e.symm
    ·have:=((F7 s hs ed hp).1 xl ij).1;rw [hl]at this;cases this
    ·obtain⟨_,_,h|⟨_,_,h,_⟩⟩:=uc (st.pair s hs)
     ·exact .inl h
     ·obtain⟨_,h2,h3⟩:=h xl ij;obtain⟨b,c,fW⟩:=ue hs;obtain⟨_,_,_,_,_,lL⟩:=fq.entry (fW▸gY);refine .inr (.inr ?_);rw [(lL.lc h2).2.2,mW (Ne.symm h3)]
   refine du (M0:=ji M0 L (l2++t::l1)) hM0 hm.inv hm.size alO ?_;intro v w' F' ρ' eZ hx hg;refine fin F' ρ' v w' ?_ hg hx;have kl:ji M0 (L.setIfInBounds t.i true) (l2++t::l1)=(ji M0 L (l2++t::l1)).set (nW t) (E7 t):=by
    have key:∀(b:List bX),(∀s∈b,s∈l2)->ji M0 (L.setIfInBounds t.i true) (b++t::l1)=(ji M0 L (b++t::l1)).set (nW t) (E7 t):=by
     intro b
     induction b with
     |nil=>
      intro _;rw [nO,Gj];simp only [ji];rw [if_pos ⟨xl,(pQ _).2 (.inl rfl)⟩,if_pos nJ]
      congr 1
      refine Yz λs hs _=> ?_;rw [pQ];exact⟨λh=>h.resolve_left λe=>(uc (st.pair s hs)).1 e.symm,.inr⟩
     |cons s b kY=>
      intro hb;have apj:=kY (λr hr=>hb r (fJ _ hr));have Ck:=hb s ez;have eR:s.i≠t.i:=by
       obtain⟨m2,m1,jX⟩:=ue Ck;have uW:fq X nt ops env0 M0 (m2++s::(m1++t::l1)) env M:=by rw [jX]at hL;simpa using hL
       obtain⟨_,_,_,_,_,OC⟩:=fq.entry uW;exact(uc (OC.pair t (oC _ ez))).1
      have hp:vr ops s t=true:=amX;simp only [hY,ji]
      by_cases hc:s.q=false/\cG L s.i
      ·obtain⟨hsl,_,eY⟩:=(F7 s Ck hc.2 hp).1 xl hc.1;rw [if_pos ⟨hc.1,(pQ _).2 (.inr hc.2)⟩,if_pos hsl,if_pos hc,if_pos hsl,apj,List.set_comm _ _ eY]
      ·rw [if_neg hc,if_neg λhh=>hc ⟨hh.1,((pQ _).1 hh.2).resolve_left eR⟩];exact apj
    exact key l2 λs hs=>hs
   rw [kl];exact eZ
  |false=>
   refine st.runs nJ (M0:=ji M0 L (l2++t::l1)) (λhq id hid=> ?_) (λhq=> ?_) hm.inv hm.size alO ?_
   ·refine new _ (λs hs ij ed hp hl=>((F7 s hs ed hp).2 ij hq id hid).1 hl) (λs hs ij ed hp hl=>((F7 s hs ed hp).2 ij hq id hid).2 hl) (jS _ λs hs ij=> ?_);obtain⟨_,_,h|⟨_,_,_,h,_⟩⟩:=uc (st.pair s hs)
    ·exact .inl h
    ·exact .inr (h hq ij id hid)
   ·have U:ji M0 L l1=t.M:=by
     rw [st.hM];refine fq.zJ gY λs hs ij=> ?_;obtain⟨_,_,h|⟨_,_,h,_⟩⟩:=uc (st.pair s hs)
     ·exact D5 _ h
     ·have:=(h hq ij).1;rw [nJ]at this;cases this
    have key:∀(b:List bX),(∀s∈b,s∈l2)->ji M0 L (b++t::l1)=ji M0 L (t::l1):=by
     intro b
     induction b with
     |nil=>intro _;rfl
     |cons s b kY=>
      intro hb;have Ck:=hb s ez;have hp:vr ops s t=true:=amX;simp only [hY,ji];rw [if_neg λhh=>by
       have:=((F7 s Ck hh.2 hp).1 hq hh.1).2.1;rw [nJ]at this;cases this]
      rw [kY λr hr=>hb r (fJ _ hr)];rfl
    rw [key l2 λs hs=>hs,Gj,U]
   ·intro v w' F' ρ' eZ hx hg;refine fin F' ρ' v w' ?_ hg hx;have kl:ji M0 (L.setIfInBounds t.i true) (l2++t::l1)=if t.q then ji M0 L (l2++t::l1)else t.M':=by
     cases hq:t.q with
     |true=>
      rw [if_pos rfl];refine Yz λs hs ij=> ?_;rw [pQ];constructor
      ·rintro(h|h)
       ·have:=fq.distinct hL s hs t ht h;subst this;rw [hq]at ij;cases ij
       ·exact h
      ·exact .inr
     |false=>
      rw [if_neg (by simp)];have key:∀(b:List bX),(∀s∈b,s∈l2)->ji M0 (L.setIfInBounds t.i true) (b++t::l1)=t.M':=by
       intro b
       induction b with
       |nil=>
        intro _;simp only [nO,ji];rw [if_pos ⟨hq,(pQ _).2 (.inl rfl)⟩,if_neg (by simp [nJ])]
       |cons s b kY=>
        intro hb;have Ck:=hb s ez;obtain⟨m2,m1,jX⟩:=ue Ck;have uW:fq X nt ops env0 M0 (m2++s::(m1++t::l1)) env M:=by rw [jX]at hL;simpa using hL
        obtain⟨_,_,_,_,_,OC⟩:=fq.entry uW;have hp:vr ops s t=true:=OC.pair t (oC _ ez);simp only [hY,ji];rw [if_neg λhh=>by
         have ed:cG L s.i:=((pQ _).1 hh.2).resolve_left (uc hp).1;have:=((F7 s Ck ed hp).1 hq hh.1).2.1;rw [nJ]at this;cases this]
        exact kY λr hr=>hb r (fJ _ hr)
      exact key l2 λs hs=>hs
    rw [kl];exact eZ
end
def yH(T:j0 R)(ops:Array Oper)(t:bX)(st:St)(log:List bX)(k:List bX->St->Option R):Option R:=
 bf (log.all (vr ops t)) (vF T.nt st t.o.dst t.x t.M' λaV=>k (t::log) aV)
def Oc(X:Cx)(T:j0 R)(ops:Array Oper)(i:Nat)(o:Oper)(cl:Nat)(st:St)(log:List bX)(k:List bX->St->Option R):Option R:=
 match o.op with
 | .store ty p x=>
   acB X ty (nL X (oA (kf o) st.env) p) (nL X (oA (kf o) st.env) x) st.mem λid b=>match X.pk with
    |true=>yH T ops ⟨i,o,false,.eV [],[id],cl,st.env,st.mem,st.mem.set id b⟩ st log k
    |false=>Ke (st.mem.set id b) id λM'=>yH T ops ⟨i,o,false,.eV [],[id],cl,st.env,st.mem,M'⟩ st log k
 |_=>
 match Bc X (nL X (oA (kf o) st.env)) o with
 |some ids=>vH X T (nL X (oA (kf o) st.env)) o st.mem λx _=>yH T ops ⟨i,o,true,x,ids,cl,st.env,st.mem,st.mem⟩ st log k
 |none=>
  match TA X ops (nL X (oA (kf o) st.env)) o with
  |some (t,n,ps)=>Fp X t n (ps.toList.map λp=>(p.1,nL X (oA (kf o) st.env) p.2)) λx=>yH T ops ⟨i,o,true,x,[],cl,st.env,st.mem,st.mem⟩ st log k
  |none=>
   match TU X (nL X (oA (kf o) st.env)) o with
   |some (g,args)=>T.call g args [] λx M'=>bf (M'.isEmpty&&uD x) (yH T ops ⟨i,o,true,x,[],cl,st.env,st.mem,st.mem⟩ st log k)
   |none=>
    match sK T (nL X (oA (kf o) st.env)) o st.mem with
    |some ids=>vH X T (nL X (oA (kf o) st.env)) o st.mem λx M'=>yH T ops ⟨i,o,false,x,ids,cl,st.env,st.mem,M'⟩ st log k
    |none=>none
def Od(T:j0 R)(ops:Array Oper)(i:Nat)(o:Oper)(cl:Nat)(st:St)(log:List bX)(k:List bX->St->Option R):Option R:=
 yH T ops ⟨i,o,true,.eV [],[],cl,st.env,st.mem,st.mem⟩ st log k
def adl(X:Cx)(T:j0 R)(ops:Array Oper)(i:Nat)(o:Oper)(cl:Nat)(st:St)(log:List bX)(k:List bX->St->Option R):Option R:=
 match o.guard with
 |none=>Oc X T ops i o cl st log k
 |some (j,want)=>
  match DG ops j with
  |none=>none
  |some d=>
   match look st.env d with
   | .bool b=>
     match b with
     |true=>match want with
      |true=>Oc X T ops i o cl {st with env:=(d,.bool true)::st.env} log k
      |false=>Od T ops i o cl {st with env:=(d,.bool true)::st.env} log k
     |false=>match want with
      |false=>Oc X T ops i o cl {st with env:=(d,.bool false)::st.env} log k
      |true=>Od T ops i o cl {st with env:=(d,.bool false)::st.env} log k
   | .eV []=>Od T ops i o cl st log k
   |_=>none
def UD(X:Cx)(T:j0 R)(ops:Array Oper):dx->List bX->St->(List bX->St->Option R)->Option R
 | [],log,st,k=>k log st
 |i::rest,log,st,k=>
  match ops.toList[i]? with
  |none=>none
  |some o=>
   match uC log o.after.toList with
   |none=>none
   |some cl=>adl X T ops i o cl st log λwT aV=>UD X T ops rest wT aV k
def abr(X:Cx)(T:j0 R)(ops:Array Oper)(st:St)(k:St->Option R):Option R:=
 UD X T ops (amu ops.toList) [] st λlog aV=>bf (Nat.ble log.length ops.size&&(List.range ops.size).all λi=>log.any λt=>t.i==i) (k aV)
def al0(i:Nat):List Edge->Bool
 | []=>false
 |e::es=>(Region.binds .any e&&Nat.beq e.on i)||al0 i es
def aiw:Nat->List Oper->Bool
 |_,[]=>false
 |i,o::os=>(J7 o&&aix i os)||aiw (i+1) os
where aix (i:Nat):List Oper->Bool
 | []=>false
 |o::os=>(J7 o&& !al0 i o.after.toList)||aix i os
def ab8(X:Cx)(T:j0 R)(ops:Array Oper)(draw:Bool)(st:St)(k:St->Option R):Option R:=
 match draw with
 |false=>uv X T ops ops.toList st k
 |true=>match aiw 0 ops.toList with
  |true=>abr X T ops st k
  |false=>abu X T ops st k
section
variable {nt:Nt} {ops:Array Oper} {env0 jy:bL} {M0 M1:aF}
theorem Iy(h:yH T ops t st log k=some r):
 ∃aV,k (t::log) aV=some r/\(∀s∈log,vr ops t s=true)/\(∀d,t.o.dst=some d->d<T.nt.n/\T.nt.mask.testBit d=true)/\(∀u,look aV.env u=(if t.o.dst=some u then t.x else look st.env u))/\aV.mem=t.M'/\aV.kR=st.kR/\aV.rd=st.rd:=by
 unfold yH at h;replace h:=cO h;obtain⟨hp,h⟩:=h;have hq:Nw T ops t st [] (λ_ aV=>k (t::log) aV)=some r:=akG;obtain⟨aV,h,_,hd,mR,jX,e1,e2⟩:=agY hq;exact⟨aV,h,λs hs=>mz.1 hp s hs,hd,mR,jX,e1,e2⟩
theorem IB(hl:fq X nt ops env0 M0 log jy M1)(U:∀u,look t.env u=look jy u)(h2:t.M=M1)(h3:t.q=true->t.M'=t.M)(h4:t.q=false->dc t.ids t.M t.M')(h5:mh t=false->t.UL X nt ops)
 (h5':mh t=true->t.anu X nt ops/\nW t<t.M.length/\t.M'=t.M.set (nW t) (E7 t)) (h6:ops[t.i]?=some t.o)
 (h7:∀d,t.o.dst=some d->d<nt.n/\nt.mask.testBit d=true) (h8:∀s∈log,vr ops t s=true) (h9:uC log t.o.after.toList=some t.cl)   (lR:∀u,look env u=(if t.o.dst=some u then t.x else look t.env u)) (pA:M=t.M'):
 fq X nt ops env0 M0 (t::log) env M:=by
 obtain⟨c1,c2⟩:=Rn h9;refine⟨jy,M1,hl,U,h2,h3,h4,h5,h5',h6,h7,h8,λe he hb=>c1 e (Bn) hb,λw hw=> ?_,λu=>by rw [lR u,U u],pA⟩;obtain⟨e,he,hb,hh⟩:=c2 w hw;exact⟨e,Bn,hb,hh⟩
theorem YD(hl:fq X T.nt ops env0 M0 log jy M1)(hi:ops[i]?=some o)(hc:uC log o.after.toList=some cl)
 (he:∀u,look st.env u=look jy u) (hm:st.mem=M1) (hw:JJ X ops o st.env false) (h:Od T ops i o cl st log k=some r):
 ∃t aV,k (t::log) aV=some r/\fq X T.nt ops env0 M0 (t::log) aV.env aV.mem/\aV.kR=st.kR/\aV.rd=st.rd:=by
 unfold Od at h;obtain⟨aV,h,hp,hd,mR,jX,U,h2⟩:=Iy h;refine⟨_,aV,h,IB hl he hm (λ_=>rfl) (λhq=>rX) ?_ (λhf=>by simp [mh]at hf) hi hd hp hc mR jX,U,h2⟩;intro _ Mx _ _ rdc n w0 S F ρ a w Q K hI eX hr hk;unfold wpOpIn;simp only [hi,hw hr,nP,lI];exact⟨λ_ _=>trivial,hk _ w F ρ hI YO (Grow.refl _ _ _)⟩
theorem YC(hX:X.Okb)(hT:T.qV X)(hl:fq X T.nt ops env0 M0 log jy M1)(hi:ops[i]?=some o)(hc:uC log o.after.toList=some cl)
 (he:∀u,look st.env u=look jy u) (hm:st.mem=M1) (hw:JJ X ops o st.env true) (h:Oc X T ops i o cl st log k=some r):
 ∃t aV,k (t::log) aV=some r/\fq X T.nt ops env0 M0 (t::log) aV.env aV.mem/\aV.kR=st.kR/\aV.rd=st.rd:=by
 unfold Oc at h;split at h
 ·rename_i ty p x ho
  ·obtain⟨id,b,eR,h⟩:=azE h;obtain⟨_,cH,_⟩:=ahi (R:=R) eR;have h':yH T ops ⟨i,o,false,.eV [],[id],cl,st.env,st.mem,st.mem.set id b⟩ st log k=some r:=by
    split at h
    ·exact h
    ·rw [Z2]at h;exact h
   obtain⟨aV,h,hp,hd,mR,jX,U,h2⟩:=Iy h';refine⟨_,aV,h,IB hl he hm (λhq=>rX) (λ_=>dc.set _ _ _) (λhf=>by simp [mh,J7,ho]at hf) (λ_=> ?_) hi hd hp hc mR jX,U,h2⟩;have hb:E7 ⟨i,o,false,.eV [],[id],cl,st.env,st.mem,st.mem.set id b⟩=b:=by
    show((st.mem.set id b)[id]?).getD .dead =b;rw [uf cH];rfl
   refine⟨?_,cH,by rw [hb];rfl⟩;intro Mx hM rdc n w0 S F ρ a w Q K hI eX hr hk;rw [hb]at hk;unfold wpOpIn;simp only [hi,hw hr,lG];exact azD hX ho eR (M0:=Mx) hM hI (λz=>Di hI (Iz λu hu=>hr u (A7 _ hu)) z) (λv w' ρ' F' eZ hg hx=>hk v w' F' ρ' eZ hx hg)
 ·rename_i xq;have Um:∀{q:Bool} {x:AV} {ids:dx} {M':aF},mh ⟨i,o,q,x,ids,cl,st.env,st.mem,M'⟩=true->False:=by
   intro q x ids M' hf;have h2:J7 o=true:=by
    unfold mh at hf;rw [bw]at hf;exact hf.2
   unfold J7 at h2;split at h2
   ·rename_i ty p x2 ho;exact xq _ _ _ ho
   ·cases h2
  split at h
  ·rename_i ids hq;obtain⟨y,h,du⟩:=agX hX hq h;obtain⟨aV,h,hp,hd,mR,jX,U,h2⟩:=Iy h;refine⟨_,aV,h,IB hl he hm (λ_=>rfl) (λhq=>rX) ?_ (λhf=>(Um hf).elim) hi hd hp hc mR jX,U,h2⟩;exact amV
  ·rename_i hq;split at h
   ·rename_i t n ps ac5;obtain⟨y,h,du⟩:=aho hX (ag2 ac5) h;obtain⟨aV,h,hp,hd,mR,jX,U,h2⟩:=Iy h;refine⟨_,aV,h,IB hl he hm (λ_=>rfl) (λhq=>rX) ?_ (λhf=>(Um hf).elim) hi hd hp hc mR jX,U,h2⟩;exact Tz
   ·split at h
    ·rename_i g args hcq;obtain⟨y,h,du⟩:=ahe hX hT hcq (k:=λy=>yH T ops ⟨i,o,true,y,[],cl,st.env,st.mem,st.mem⟩ st log k) h;obtain⟨aV,h,hp,hd,mR,jX,U,h2⟩:=Iy h;refine⟨_,aV,h,IB hl he hm (λ_=>rfl) (λhq=>rX) ?_ (λhf=>(Um hf).elim) hi hd hp hc mR jX,U,h2⟩;exact Tz
    ·split at h
     ·rename_i ids hwr;obtain⟨x,M',du,h,gZ⟩:=Mj hX hT h;obtain⟨aV,h,hp,hd,mR,jX,U,h2⟩:=Iy h;refine⟨_,aV,h,IB hl he hm (λhq=>rX) (λ_=>gZ ids hwr) ?_ (λhf=>(Um hf).elim) hi hd hp hc mR jX,U,h2⟩;exact amZ
     ·exact aD
theorem azj(hX:X.Okb)(hT:T.qV X)(hl:fq X T.nt ops env0 M0 log st.env st.mem)(hi:ops[i]?=some o)(hc:uC log o.after.toList=some cl)
 (h:adl X T ops i o cl st log k=some r):
 ∃t aV,k (t::log) aV=some r/\fq X T.nt ops env0 M0 (t::log) aV.env aV.mem/\aV.kR=st.kR/\aV.rd=st.rd:=by
 unfold adl at h;split at h
 ·rename_i hg;exact YC hX hT hl hi hc (λ_=>rfl) rfl (λ{ρ F w tmps} _=>Ye hg _) h
 ·rename_i j want hg;split at h
  ·exact aD
  ·rename_i d hd;have kl:d∈kf o++guardOf ops o:=oC _ (by simp [guardOf,hg,hd]);have Bs:∀(b:Bool) (env:bL),look env d= .bool b->JJ X ops o env (b==want):=amR;split at h
   ·rename_i b hb;split at h
    ·split at h
     ·exact YC hX hT (st:={st with env:=(d,.bool true)::st.env}) hl hi hc (λu=>CU hb u) rfl (Bs true _ (Dy)) h
     ·exact YD (st:={st with env:=(d,.bool true)::st.env}) hl hi hc (λu=>CU hb u) rfl (Bs true _ (Dy)) h
    ·split at h
     ·exact YC hX hT (st:={st with env:=(d,.bool false)::st.env}) hl hi hc (λu=>CU hb u) rfl (Bs false _ (Dy)) h
     ·exact YD (st:={st with env:=(d,.bool false)::st.env}) hl hi hc (λu=>CU hb u) rfl (Bs false _ (Dy)) h
   ·rename_i hb;refine YD hl hi hc (λ_=>rfl) rfl (λ{ρ F w tmps} hr=> ?_) h;exact amU
   ·exact aD
theorem ag8(hX:X.Okb){T:j0 R}(hT:T.qV X){k:List bX->St->Option R}{r:R}:∀(ord:dx) {log:List bX} {st:St},fq X T.nt ops env0 M0 log st.env st.mem->UD X T ops ord log st k=some r->
 ∃wT aV,k wT aV=some r/\fq X T.nt ops env0 M0 wT aV.env aV.mem/\aV.kR=st.kR/\aV.rd=st.rd
 | [],log,st,hl,h=>⟨log,st,h,hl,rfl,rfl⟩
 |i::rest,log,st,hl,h=>by
  simp only [UD]at h;split at h
  ·exact aD
  ·rename_i o ho;split at h
   ·exact aD
   ·rename_i cl hc;obtain⟨t,cm,h,gY,e1,e2⟩:=azj hX hT hl (by simpa using ho) hc h;obtain⟨wT,aV,h,Hx,e3,e4⟩:=ag8 hX hT rest gY h;exact⟨wT,aV,h,Hx,e3.trans e1,e4.trans e2⟩
theorem aye(hX:X.Okb)(hT:T.qV X){k:St->Option R}(h:abr X T ops st k=some r):
 ∃aV,k aV=some r/\sE X T.nt (.region id ops true) st .normal aV:=by
 unfold abr at h;obtain⟨log,aV,h,hl,e1,e2⟩:=ag8 hX hT (ops:=ops) (env0:=st.env) (M0:=st.mem) _ (log:=[]) (st:=st) (show fq X T.nt ops st.env st.mem [] st.env st.mem from⟨λ_=>rfl,rfl⟩) h;replace h:=cO h;obtain⟨jP,h⟩:=h;rw [bw]at jP;obtain⟨hlen,jP⟩:=jP;refine⟨aV,h,λ{rdc n w0 S F ρ a w Q} hI hs hq=>wpIn_region_any hX.mixed ?_⟩;have hg:=World.afZ w;have eZ:=hI.grown hg;have lP:Grow F F ρ ρ w {w with drawn:=w.drawn+1}:=⟨λ_ h=>h,λ_ _ h=>h,hI.Ap hg (by simp)⟩;have c7:=hs.grow lP;have tc:∀i,¬cG (Array.replicate ops.size false) i:=alg;have hm0:∀l:List bX,ji st.mem (Array.replicate ops.size false) l=st.mem:=by
  intro l
  induction l with
  |nil=>rfl
  |cons t l KE=>
   simp only [ji];rw [if_neg λhh=>tc _ hh.2];exact KE
 refine az2 (ds:=a.defers) (tv:=rdc.tv) (wb:=w) (S:=S) (w0:=w0) (F0:=F) (ρ0:=ρ) hl (λi hi=> ?_) (λa' w' F' ρ' yl hE eX KS KM oB=> ?_) ops.size _ F ρ a _ (by simp) ?_ ?_ ?_
 ·have:=mz.1 jP i (Bf.2 hi);exact akF
 ·refine hq a' w' F' ρ' yl ⟨hE,eX,?_,?_,KM⟩ oB
  ·rw [e1,KS];exact hs.defs.mono oB.hF oB.hb
  ·exact hs.rd.mono oB.hF oB.hb
 ·exact qR ahL (zI hlen)
 ·exact λt ht di=>absurd di (tc _)
 ·exact⟨by rw [hm0];exact eZ,lP,hs.size,rfl,hs.kept,λs _ di=>absurd di (tc _),λu _=>c7.env u⟩
theorem ayI(hX:X.Okb)(hT:T.qV X){draw:Bool}{k:St->Option R}(h:ab8 X T ops draw st k=some r):
 ∃aV,k aV=some r/\sE X T.nt (.region id ops draw) st .normal aV:=by
 unfold ab8 at h;split at h
 ·obtain⟨aV,h,hr⟩:=agI hX hT ops.toList 0 (λi=>by simp) h;refine⟨aV,h,λ{rdc n w0 S F ρ a w Q} hI hs hq=>wpIn_region ?_⟩;have:=hr (n:=n) hI hs hq;exact sI
 ·split at h
  ·exact aye hX hT h
  ·exact ayf hX hT h
end
end
end Go.aj
namespace Go.aj
def yI{p:Prop}(h:p:=by simp [F6,hl]):p:=h
def abd{p:Prop}(h:p:=by exact⟨_,a₁,w₁,hq,.of_steps (.one h0 QN) Uy⟩):p:=h
end Go.aj
namespace Go.aj
def Rt:=@Go.wpIn_block
end Go.aj
namespace Go.aj
open Go
noncomputable section
variable {X:Cx} {R:Type}
variable{c:Code}{p:Nat}
def F6(root:Code):List Bool->Option Code
 | []=>some root
 |b::p=>
  match F6 root p with
  |some (.seq x y)=>some (bif b then y else x)
  |some (.cond _ x y)=>some (bif b then y else x)
  |some (.block _ x)=>bif b then none else some x
  |some (.loop x)=>bif b then none else some x
  |some (.scope x)=>bif b then none else some x
  |some (.rangeFunc _ _ x y)=>some (bif b then y else x)
  |_=>none
def enc:List Bool->Nat
 | []=>1
 |b::p=>2*enc p+(bif b then 1 else 0)
def Sl:∀p,1<=enc p
 | []=>iZ _
 |b::p=>by have:=Sl p;simp only [enc];omega
def ai5:∀{p q:List Bool},enc p=enc q->p=q
 | [],[],_=>rfl
 | [],b::q,h=>by
   have:=Sl q;simp only [enc]at h;cases b<;>simp at h<;>omega
 |b::p,[],h=>by
  have:=Sl p;simp only [enc]at h;cases b<;>simp at h<;>omega
 |b::p,c::q,h=>by
  simp only [enc]at h;have h2:enc p=enc q/\b=c:=by cases b<;>cases c<;>simp at h⊢<;>omega
  rw [ai5 h2.1,h2.2]
def At(root:Code)(p:Nat)(c:Code):Prop:=∃l,enc l=p/\F6 root l=some c
def At.root(c:Code):At c 1 c:=⟨[],rfl,rfl⟩
def At.det{root:Code}(h:At root p c)(l:List Bool)(hl:enc l=p):F6 root l=some c:=by
 obtain⟨l',U,h2⟩:=h;rw [ai5 (hl.trans U.symm)];exact h2
def At.down{root d:Code}(h:At root p c)(b:Bool)(hd:∀l,F6 root l=some c->F6 root (b::l)=some d):At root (2*p+(bif b then 1 else 0)) d:=by
 obtain⟨l,U,h2⟩:=h;exact⟨b::l,by simp only [enc,U],hd l h2⟩
def Ex.pd:Ex->Exit
 | .normal => .normal
 | .exit i=> .exit i
 | .ret => .ret
structure mO(R:Type) where
 dV:j0 R
 loop:Nat->St->(Ex->St->Option R)->Option R
 range:Nat->St->(Ex->St->Option R)->Option R
 cut:Nat->Option (St->(Ex->St->Option R)->Option R)
structure mO.Ok(X:Cx)(root:Code)(L:mO R):Prop where
 dV:L.dV.qV X
 loop:∀{p c st k r},At root p (.loop c)->L.loop p st k=some r->∃e aV,sE X L.dV.nt (.loop c) st (Ex.pd e) aV/\k e aV=some r
 range:∀{p g ps x y st k r},At root p (.rangeFunc g ps x y)->L.range p st k=some r->∃e aV,sE X L.dV.nt (.rangeFunc g ps x y) st (Ex.pd e) aV/\k e aV=some r
 cut:∀{p c f st k r},At root p c->L.cut p=some f->f st k=some r->∃e aV,sE X L.dV.nt c st (Ex.pd e) aV/\k e aV=some r
def anr(o:Option (St->(Ex->St->Option R)->Option R))(other:(Ex->St->Option R)->Option R)(st:St)(k:Ex->St->Option R):Option R:=
 match o with
 |some f=>f st k
 |none=>other k
def Sb(c:Operand)(b:Bool)(st:St):St:=match c with| .tmp t=>{st with env:=(t,.bool b)::st.env}|_=>st
def qq(X:Cx)(L:mO R):Code->Nat->St->(Ex->St->Option R)->Option R
 | .skip,_,st,k=>k .normal st
 | .label _,_,st,k=>k .normal st
 | .region _ ops draw,_,st,k=>ab8 X L.dV ops draw st λaV=>k .normal aV
 | .seq a b,p,st,k=>anr (L.cut (2*p)) (λk'=>qq X L a (2*p) st k') st λe aV=>match e with| .normal =>qq X L b (2*p+1) aV k| .exit i=>k (.exit i) aV| .ret =>k .ret aV
 | .cond c a b,p,st,k=>
   match nL X st.env c with
   | .bool t=>(match t with|true=>qq X L a (2*p) (Sb c true st) k|false=>qq X L b (2*p+1) (Sb c false st) k)
   |_=>none
 | .block i a,p,st,k=>qq X L a (2*p) st λe aV=>match e with| .normal =>k .normal aV| .exit j=>(match Nat.beq j i with|true=>k .normal aV|false=>k (.exit j) aV)| .ret =>k .ret aV
 | .scope a,p,st,k=>qq X L a (2*p) st k
 | .loop _,p,st,k=>L.loop p st k
 | .rangeFunc _ _ _ _,p,st,k=>L.range p st k
 | .exit i,_,st,k=>k (.exit i) st
 | .ret,_,st,k=>k .ret st
 |_,_,_,_=>none
section
variable {F:Fence} {n:Nat} {P:Program} {b:Frame} {a:Act} {k:List Item} {cs:List Frame} {w:World} {Q:Exit->Act->World->Prop}
def QN:step P (lone (b.atR a (.code (.scope c)::k)) cs w)= .next (lone (b.atR a (.code c:: .inScope c::k)) cs w):=
 step_lone_go (by simp [stepG,stepG.exec,Frame.atR])
def awX:step P (lone (b.atR a (.inScope c::k)) cs w)= .next (lone (b.atR a k) cs w):=
 step_lone_go (by simp [stepG,stepG.exec,Frame.atR])
def ayz(h:c.wpIn F n P (λe a w=>(∀l,e≠ .goto l)/\Q e a w) a w):(Code.scope c).wpIn F n P Q a w:=by
 intro b k cs si hb hr;have h0:(lone (b.atR a (.code (.scope c)::k)) cs w).fenced P F:=fenced_calm hb hr rfl;obtain⟨e,a₁,w₁,⟨hg,hq⟩,Uy⟩:=h b (.inScope c::k) cs si hb hr;cases e with
 |normal=>exact⟨.normal,a₁,w₁,hq,.head h0 QN (StepsIn.trans Uy (.one (fenced_calm hb hr rfl) awX))⟩
 |exit id'=>
  have hx:exitTo id' (.inScope c::k)=exitTo id' k:=by simp [exitTo]
  exact⟨.exit id',a₁,w₁,hq,λk' hk=> .head h0 QN (Uy.1 k' (by rw [hx];exact hk)),
   λvP hk=>let⟨k₁,U,h2⟩:=Uy.2 vP (by rw [hx];exact hk);⟨k₁,U,.head h0 QN h2⟩⟩
 |goto l=>exact absurd rfl (hg l)
 |ret=>exact abd
 |panic ch=>exact abd
 |outgrown=>exact abd
end
def agw{nt:Nt}{st:St}{rdc:Cy}{F:bD}{ρ:bJ}{a:Act}{w:World}{c:Operand}{b:Bool}(h:iz X nt st rdc F ρ a w)(hc:nL X st.env c= .bool b):iz X nt (Sb c b st) rdc F ρ a w:=by
 cases c with
 |tmp t=>exact h.refine hc
 |_=>exact h
def agx(c:Operand)(b:Bool)(st:St):(Sb c b st).mem =st.mem:=by cases c<;>rfl
def wk(hX:X.Okb){root:Code}{L:mO R}(hL:L.Ok X root):∀(c:Code) {p:Nat} {st:St} {k:Ex->St->Option R} {r:R},At root p c->qq X L c p st k=some r->
 ∃e aV,sE X L.dV.nt c st (Ex.pd e) aV/\k e aV=some r
 | .skip,p,st,k,r,_,h=>⟨.normal,st,λ{rdc n w0 S F ρ a w Q} hI hs hq=>wpIn_skip (hq a w F ρ hI hs (Grow.refl _ _ _)),h⟩
 | .label l,p,st,k,r,_,h=>⟨.normal,st,λ{rdc n w0 S F ρ a w Q} hI hs hq=>wpIn_label (hq a w F ρ hI hs (Grow.refl _ _ _)),h⟩
 | .region id ops draw,p,st,k,r,_,h=>by
   obtain⟨aV,h,hr⟩:=ayI hX hL.dV (id:=id) (k:=λaV=>k .normal aV) h;exact⟨.normal,aV,hr,h⟩
 | .seq x y,p,st,k,r,fX,h=>by
   simp only [qq]at h;have hax:At root (2*p) x:=fX.down false λl hl=>yI;have h':∃e cm,sE X L.dV.nt x st (Ex.pd e) cm/\(match e with| .normal =>qq X L y (2*p+1) cm k| .exit i=>k (.exit i) cm| .ret =>k .ret cm)=some r:=by
    unfold anr at h;split at h
    ·rename_i f hf;exact hL.cut hax hf h
    ·exact wk hX hL x hax h
   obtain⟨e,cm,U,h⟩:=h';cases e with
   |normal=>
    obtain⟨e,lL,h2,h⟩:=wk hX hL y (fX.down true λl hl=>yI) h;refine⟨e,lL,λ{rdc n w0 S F ρ a w Q} hI hs hq=>wpIn_seq (U hI hs λa' w' F' ρ' eZ c7 hg=> ?_),h⟩;exact h2 eZ c7 λHO tI xv wN GO GL lQ=>hq HO tI xv wN GO GL (hg.trans lQ)
   |exit i=>exact⟨.exit i,cm,λ{rdc n w0 S F ρ a w Q} hI hs hq=>wpIn_seq (U hI hs λa' w' F' ρ' eZ c7 hg=>hq a' w' F' ρ' eZ c7 hg),h⟩
   |ret=>exact⟨.ret,cm,λ{rdc n w0 S F ρ a w Q} hI hs hq=>wpIn_seq (U hI hs λa' w' F' ρ' eZ c7 hg=>hq a' w' F' ρ' eZ c7 hg),h⟩
 | .cond c x y,p,st,k,r,fX,h=>by
   simp only [qq]at h;split at h
   ·rename_i t ht;have Vl:∀{w0:World} {S:Sc} {F:bD} {ρ:bJ} {a:Act} {w:World} {rdc:Cy},Inv X w0 S F ρ st.mem w->iz X L.dV.nt st rdc F ρ a w->a.eval c= .bool t:=by
     intro w0 S F ρ a w rdc hI hs;have:=Di hI hs.env c;rw [ht]at this;generalize a.eval c=v at this;cases this;rfl
    split at h
    ·obtain⟨e,cm,U,h⟩:=wk hX hL x (fX.down false λl hl=>yI) h;exact⟨e,cm,λ{rdc n w0 S F ρ a w Q} hI hs hq=>wpIn_cond_true (Vl hI hs) (U (by rw [agx];exact hI) (agw hs ht) hq),h⟩
    ·obtain⟨e,cm,U,h⟩:=wk hX hL y (fX.down true λl hl=>yI) h;exact⟨e,cm,λ{rdc n w0 S F ρ a w Q} hI hs hq=>wpIn_cond_false (Vl hI hs) (U (by rw [agx];exact hI) (agw hs ht) hq),h⟩
   ·exact aD
 | .block i x,p,st,k,r,fX,h=>by
   simp only [qq]at h;obtain⟨e,cm,U,h⟩:=wk hX hL x (fX.down false λl hl=>yI) h;cases e with
   |normal=>exact⟨.normal,cm,λ{rdc n w0 S F ρ a w Q} hI hs hq=>Rt (U hI hs λa' w' F' ρ' eZ c7 hg=>hq a' w' F' ρ' eZ c7 hg),h⟩
   |exit j=>
    simp only at h;split at h
    ·rename_i hj;have hj:j=i:=dX hj;refine⟨.normal,cm,λ{rdc n w0 S F ρ a w Q} hI hs hq=>Rt (U hI hs λa' w' F' ρ' eZ c7 hg=> ?_),h⟩;simp only [Ex.pd,Exit.inBlock,hj,lG];exact hq a' w' F' ρ' eZ c7 hg
    ·rename_i hj;have hj:j≠i:=λe=>by subst e;simp at hj
     refine⟨.exit j,cm,λ{rdc n w0 S F ρ a w Q} hI hs hq=>Rt (U hI hs λa' w' F' ρ' eZ c7 hg=> ?_),h⟩;simp only [Ex.pd,Exit.inBlock,if_neg hj];exact hq a' w' F' ρ' eZ c7 hg
   |ret=>exact⟨.ret,cm,λ{rdc n w0 S F ρ a w Q} hI hs hq=>Rt (U hI hs λa' w' F' ρ' eZ c7 hg=>hq a' w' F' ρ' eZ c7 hg),h⟩
 | .loop c,p,st,k,r,fX,h=>hL.loop fX h
 | .rangeFunc g ps x y,p,st,k,r,fX,h=>hL.range fX h
 | .exit i,p,st,k,r,_,h=>⟨.exit i,st,λ{rdc n w0 S F ρ a w Q} hI hs hq=>wpIn_exit (hq a w F ρ hI hs (Grow.refl _ _ _)),h⟩
 | .ret,p,st,k,r,_,h=>⟨.ret,st,λ{rdc n w0 S F ρ a w Q} hI hs hq=>wpIn_ret (hq a w F ρ hI hs (Grow.refl _ _ _)),h⟩
 | .scope x,p,st,k,r,fX,h=>by
   simp only [qq]at h;obtain⟨e,cm,U,h⟩:=wk hX hL x (fX.down false λl hl=>yI) h;exact⟨e,cm,λ{rdc n w0 S F ρ a w Q} hI hs hq=>ayz (U hI hs λa' w' F' ρ' eZ c7 hg=>⟨λl=>by cases e<;>simp [Ex.pd],hq a' w' F' ρ' eZ c7 hg⟩),h⟩
 | .goto _,_,_,_,_,_,h=>by simp [qq]at h
 | .refuse _,_,_,_,_,_,h=>by simp [qq]at h
end
end Go.aj
namespace Go.aj
def aka{p:Prop}(h:p:=by simp [Instr.sureAddr,gh,stuck,Sem.run,Result.andThen]at U):p:=h
end Go.aj
namespace Go.aj
open Go
noncomputable section
variable {X:Cx} {R:Type}
variable{k:AV->aF->Option R}{c:Code}{fn:Func}{f:FuncId}{rs:List ResultVar}{r:R}{st:St}{args:ak}{M:aF}
def sk:Hd:=⟨.nilFunc,0⟩
def agA{Mc:aF}{bC:dx}{m:Nat}:dc bC M (merge m M bC Mc):=
 ⟨by rw [agf];omega,λid hid hn=>by unfold merge;rw [mF (by rw [Iu];exact hid),RV bC _ M hn]⟩
def qz:Nat->ak->bL
 |_,[]=>[]
 |i,x::xs=>(i,x)::qz (i+1) xs
def Yi:∀(xs:ak) (i t:Nat),look (qz i xs) t=if i<=t then(xs[t- i]?).getD .top else .top
 | [],i,t=>by simp [qz,sy,look_nil]
 |x::xs,i,t=>by
  simp only [qz,sy,look_nil]
  by_cases ht:t=i
  ·subst ht;simp
  ·have:(t==i)=false:=by simpa using ht
   simp only [this,nP,lI];rw [Yi xs (i+1) t]
   by_cases h:i<=t
   ·rw [if_pos (by omega),if_pos h,show t- i=(t-(i+1))+1 by omega];simp
   ·rw [if_neg (by omega),if_neg h]
def F4(X:Cx)(rv:ResultVar)(st:St)(k:AV->Option R):Option R:=
 match rv with
 | .tmp t=>k (look st.env t)
 | .cell a t=>yE X t (look st.env a) st.mem k
def TH(X:Cx)(rs:List ResultVar)(st:St)(k:AV->aF->Option R):Option R:=
 match rs with
 | []=>k (.eV []) st.mem
 | [a]=>F4 X a st λx=>k x st.mem
 | [a,b]=>F4 X a st λx=>F4 X b st λy=>k (.eV [x,y]) st.mem
 | [a,b,c]=>F4 X a st λx=>F4 X b st λy=>F4 X c st λz=>k (.eV [x,y,z]) st.mem
 |_=>none
def acN(tmps:Array Value):ResultVar->Sem Value
 | .tmp t=>pure (tmps.getD t undef)
 | .cell a t=>do loadVar t (<-asAddr (tmps.getD a undef))
def It(hX:X.Okb){rv:ResultVar}{k:AV->Option R}(h:F4 X rv st k=some r):
 ∃x,k x=some r/\∀{nt:Nt} {rdc:Cy} {w0:World} {S:Sc} {F:bD} {ρ:bJ} {a:Act} {w:World},Inv X w0 S F ρ st.mem w->iz X nt st rdc F ρ a w->∃v,(acN a.tmps rv).run X.P w= .ok v w/\a8 X.K ρ F w x v:=by
 cases rv with
 |tmp t=>exact⟨_,h,λ{nt rdc w0 S F ρ a w} hI hs=>⟨_,rfl,hs.env t⟩⟩
 |cell a t=>
  obtain⟨x,h,hd⟩:=agk hX h;refine⟨x,h,λ{nt rdc w0 S F ρ act w} hI hs=> ?_⟩;obtain⟨v,U,h2⟩:=hd hI (hs.env a);refine⟨v,?_,h2⟩;unfold Instr.loadAt at U;simp only [acN];generalize act.tmps.getD a undef=p at U;cases p with
  |pointer o=>
   cases o with
   |some ad=>exact U
   |none=>exact aka
  |_=>exact aka
def ayH(hX:X.Okb)(uL:fn.results.toList=rs)(h:TH X rs st k=some r):
 ∃x,k x st.mem=some r/\∀{nt:Nt} {rdc:Cy} {w0:World} {S:Sc} {F:bD} {ρ:bJ} {a:Act} {w:World},Inv X w0 S F ρ st.mem w->iz X nt st rdc F ρ a w->∃v,(results fn a.tmps).run X.P w= .ok v w/\a8 X.K ρ F w x v:=by
 have BO:∀tmps,results fn tmps=(do let vs<-fn.results.mapM (acN tmps);pure (if h:vs.size=1 then vs[0]else .tuple vs)):=by
  intro tmps;unfold results
  congr 1
 have Ut:fn.results=rs.toArray:=by rw [<-uL]
 unfold TH at h;split at h
 ·exact⟨_,h,λ{nt rdc w0 S F ρ a w} hI hs=>⟨.tuple #[],by rw [BO,Ut];simp [gh],.eV [] [] rfl (λj x v h _=>gU)⟩⟩
 ·rename_i a;obtain⟨x,h,hd⟩:=It hX h;refine⟨x,h,λ{nt rdc w0 S F ρ act w} hI hs=> ?_⟩;obtain⟨v,U,h2⟩:=hd hI hs;exact⟨v,by rw [BO,Ut];simp [gh,U],h2⟩
 ·rename_i a b;obtain⟨x,h,hd⟩:=It hX h;obtain⟨y,h,oR⟩:=It hX h;refine⟨_,h,λ{nt rdc w0 S F ρ act w} hI hs=> ?_⟩;obtain⟨v,U,h2⟩:=hd hI hs;obtain⟨v2,h3,h4⟩:=oR hI hs;refine⟨.tuple #[v,v2],by rw [BO,Ut];simp [gh,U,h3],.eV [x,y] [v,v2] rfl (λj z u hz hu=> ?_)⟩
  match j with
  |0=>simp at hz hu;subst hz;subst hu;exact h2
  |1=>simp at hz hu;subst hz;subst hu;exact h4
  |j+2=>simp at hz
 ·rename_i a b c;obtain⟨x,h,hd⟩:=It hX h;obtain⟨y,h,oR⟩:=It hX h;obtain⟨z,h,hd3⟩:=It hX h;refine⟨_,h,λ{nt rdc w0 S F ρ act w} hI hs=> ?_⟩;obtain⟨v,U,h2⟩:=hd hI hs;obtain⟨v2,h3,h4⟩:=oR hI hs;obtain⟨v3,h5,h6⟩:=hd3 hI hs;refine⟨.tuple #[v,v2,v3],by rw [BO,Ut];simp [gh,U,h3,h5],.eV [x,y,z] [v,v2,v3] rfl (λj q u hz hu=> ?_)⟩
  match j with
  |0=>simp at hz hu;subst hz;subst hu;exact h2
  |1=>simp at hz hu;subst hz;subst hu;exact h4
  |2=>simp at hz hu;subst hz;subst hu;exact h6
  |j+3=>simp at hz
 ·cases h
def TJ(X:Cx)(rs:List ResultVar)(k:AV->aF->Option R)(e:Ex)(st:St):Option R:=
 match e with
 | .exit _=>none
 |_=>match st.kR with| []=>TH X rs st k|_=>none
def Oe(X:Cx)(L:mO R)(c:Code)(rs:List ResultVar)(args:ak)(M:aF)(k:AV->aF->Option R):Option R:=
 bf (Nat.ble args.length L.dV.nt.n) (qq X L c 1 ⟨qz 0 args,M,[],.out⟩ (TJ X rs k))
def Grow.less{F0 F:bD}{ρ ρ':bJ}{wb w:World}(g:Grow F0 F ρ ρ' wb w){D:Nat}(hD:∀a,F0 a->a.block≠D)(o:Obj):Grow F0 (less F D) ρ ρ' wb (w.putObj D o):=
 ⟨λa ha=>⟨g.hF a ha,hD a ha⟩,g.jD,λa ha=>by rw [uk (hD a ha)];exact g.hb a ha⟩
def agh{fn:Func}{tmps:Array Value}{M:aF}{env:bL}{w0 wb:World}{S:Sc}{F0:bD}{ρ ρ':bJ}{x:AV}(qN:∀a,S.F0 a->F0 a)
 (BO:∀{F:bD} {w:World},Inv X w0 S F ρ' M w->k8 X ρ' F w env tmps->∃v,(results fn tmps).run X.P w= .ok v w/\a8 X.K ρ' F w x v):
 ∀(ms:dx) {F:bD} {w:World},Inv X w0 S F ρ' M w->k8 X ρ' F w env tmps->ms.Nodup->(∀D∈ms,(∀a,F0 a->a.block≠D)/\F ⟨D,0,none⟩/\w.heap[D]?=some (.deferred (some [])))->Grow F0 F ρ ρ' wb w->
  LeavesInM Fence.wide 0 X.P fn tmps (λe w'=>∃v ρ' F',e= .returned v/\Inv X w0 S F' ρ' M w'/\Grow F0 F' ρ ρ' wb w'/\a8 X.K ρ' F' w' x v) (ms.map λD=>({target:= .collected D,args:= #[]}:Deferred)) .returning w
 | [],F,w,hI,hE,_,_,hg=>by
   obtain⟨v,U,h2⟩:=BO hI hE;exact⟨v,U,v,ρ',F,rfl,hI,hg,h2⟩
 |D::ms,F,w,hI,hE,ES,O4,hg=>by
  obtain⟨U,h2,h3⟩:=O4 D (by simp);have hc:=aut h3;refine⟨by simp,.inl ⟨D,_,rfl,run_takeDeferred h3,agh qN BO ms (hI.Q8 h2 hc (λa ha=>U a (qN a ha)) _) (hE.less hc _) (FM.1 ES).2 (λD' hD'=> ?_) (hg.less U _)⟩⟩;have eY:D'≠D:=by rintro rfl;exact(FM.1 ES).1 hD'
  obtain⟨k1,k2,k3⟩:=O4 D' (by simp [hD']);exact⟨k1,⟨k2,eY⟩,by rw [uk eY];exact k3⟩
def azP(hX:X.Okb){nt:Nt}(hf:X.P.funcs[f]?=some fn)(hb:fn.body=some c)(hn:fn.ntmps=nt.n)
 (hc:∀(vs:Array Value) (w:World),(callFunc f vs).run X.P w= .ok (.enter f vs) w)  (uL:fn.results.toList=rs)    
 (hle:args.length<=nt.n) {e:Ex} {aV:St} (du:sE X nt c ⟨qz 0 args,M,[],.out⟩ (Ex.pd e) aV) (h:TJ X rs k e aV=some r):
 ∃x M',wH X f args M x M'/\k x M'=some r:=by
 have he:e≠ .normal ->e= .ret :=by
  intro eY;cases e with
  |normal=>exact absurd rfl eY
  |ret=>rfl
  |exit i=>simp [TJ]at h
 have GN:(match aV.kR with| []=>TH X rs aV k|_=>none)=some r:=by
  cases e with
  |normal=>exact h
  |ret=>exact h
  |exit i=>simp [TJ]at h
 split at GN
 ·rename_i apz;obtain⟨x,hk,BO⟩:=ayH hX uL GN;refine⟨x,aV.mem,⟨hc,λ{w0 S F ρ w vs} hI hr=> ?_⟩,hk⟩;refine(aah (n:=0)).1 (callsIn_of_wp_marks hf hb trivial ?_);have hlen:=hr.1;have:=du (rdc:=⟨none,F,λt=>(vs.toArray++Array.replicate (fn.ntmps- vs.toArray.size) undef).getD t undef⟩) (n:=0) (Q:=bodyPostM Fence.wide 0 X.P fn (λe w'=>∃v ρ' F',e= .returned v/\Inv X w0 S F' ρ' aV.mem w'/\Grow F F' ρ ρ' w w'/\a8 X.K ρ' F' w' x v))
   (a:={tmps:=vs.toArray++Array.replicate (fn.ntmps- vs.toArray.size) undef,defers:=[]}) hI ⟨λt=> ?_,?_,Marks.nil _ _ (λ_ h=>h),.inl rfl,λt _=>rfl⟩ ?_
  ·exact this
  ·rw [Yi,if_pos (qy _)];cases hx:args[t- 0]? with
   |none=>exact .top _
   |some y=>
    have ht:t<vs.length:=S2;have hv:(vs.toArray++Array.replicate (fn.ntmps- vs.toArray.size) undef).getD t undef=vs[t]:=by
     rw [sG,IU (MY)];simp [ht]
    rw [hv];exact hr.2 t y _ (MZ) (dy ht)
  ·simp only [Array.size_append,MF,Array.size_replicate,hlen,hn];omega
  ·intro a' w' F' ρ' eZ c7 hg;have hd:Marks F' w' F a'.defers:=by have:=c7.defs;rw [apz]at this;exact this
   obtain⟨_,ms,aKO,aKN,aKM⟩:=hd;have alP:LeavesInM Fence.wide 0 X.P fn a'.tmps (λe w'=>∃v ρ' F',e= .returned v/\Inv X w0 S F' ρ' aV.mem w'/\Grow F F' ρ ρ' w w'/\a8 X.K ρ' F' w' x v) a'.defers .returning w':=by
    rw [aKO];exact agh (env:=aV.env) hI.fin (λ{F2 w2} i2 e2=>BO (rdc:=⟨none,λ_=>False,λt=>a'.tmps.getD t undef⟩) (a:={tmps:=a'.tmps,defers:=[]}) i2 ⟨e2,c7.size,by rw [apz];exact Marks.nil _ _ (λ_ h=>h.elim),.inl rfl,λt _=>rfl⟩) ms eZ c7.env aKN aKM hg
   by_cases eY:e= .normal
   ·subst eY;exact alP
   ·rw [he eY];exact alP
 ·cases GN
def YE(hX:X.Okb){L:mO R}(hL:L.Ok X c)(hf:X.P.funcs[f]?=some fn)(hb:fn.body=some c)(hn:fn.ntmps=L.dV.nt.n)
 (hc:∀(vs:Array Value) (w:World),(callFunc f vs).run X.P w= .ok (.enter f vs) w)  (uL:fn.results.toList=rs)     (h:Oe X L c rs args M k=some r):
 ∃x M',wH X f args M x M'/\k x M'=some r:=by
 unfold Oe at h;replace h:=cO h;obtain⟨hle,h⟩:=h;obtain⟨e,aV,du,h⟩:=wk hX hL c (At.root c) h;exact azP hX hf hb hn hc uL (zI hle) du h
end
end Go.aj
namespace Go.aj
def abN{p:Prop}(h:p:=by
 have lC:=hs.grow g1;obtain⟨F2,ρ2,i2,s2,g2⟩:=hr (nt:=nt) (rdc:=rdc) (a:=a) i1 ⟨lC.env,lC.size,lC.defs,lC.rd,lC.kept⟩;exact⟨F2,ρ2,i2,s2,g1.trans g2⟩):p:=h
def amS{p:Prop}(h:p:=by
 rw [C5]at iY;split at iY
 ·rename_i ej;subst ej;split at iY
  ·injection iY with iY;subst iY;rw [hk]at sj;injection sj with sj;subst sj;rfl
  ·cases iY
 ·exact xD q1 sj iY):p:=h
def amL{p:Prop}(h:p:=by
 have lC:=hs.grow g1;obtain⟨F2,ρ2,i2,s2,g2⟩:=hr (nt:=nt) (rdc:=rdc) (a:=a) i1 ⟨lC.env.over r1,lC.size,lC.defs,lC.rd,lC.kept⟩;exact⟨F2,ρ2,i2,s2,g1.trans g2⟩):p:=h
def Bm{p:Prop}(h:p:=by exact wj hX cs h):p:=h
def aa3{p:Prop}(h:p:=by rw [hI.len];exact(fK.1 hb).1):p:=h
def SG{p:Prop}(h:p:=by simp [Ak]at h):p:=h
def SE{p:Prop}(h:p:=by simp [DX]at h):p:=h
def Je{p:Prop}(h:p:=by rw [dX h]):p:=h
def aaM{p:Prop}(h:p:=by exact⟨F2,ρ2,i2,s2,g1.trans g2⟩):p:=h
def SB{p:Prop}(h:p:=by simp [G9]at h):p:=h
end Go.aj
namespace Go.aj
def Zd:=@List.headD_cons
def Zc:=@List.tail_cons
end Go.aj
namespace Go.aj
open Go
noncomputable section
variable {X:Cx} {R O:Type}
variable{x:AV}{tmps:Array Value}{S:Sc}{st:St}{w w0:World}{F:bD}{bC:dx}{ρ:bJ}
inductive eD where
 |cell(k:Kind)
 |au(j:Nat)
 |ptr(j i off:Nat)
 |jz(j:Nat)
 |mpr(j:Nat)
 |jh
 |nw
 |fn(f:FuncId)
 |cl(f:FuncId)(ps:List (Nat×Nat×Nat))
 |vw(j:Nat)
 |jI
 |mS
 |any
inductive Sh where
 |one(s:eD)
 |agg(ss:List eD)
 |eJ(f:FuncId)(ss:List eD)
inductive gp where
 |row(t:TypeId)
 |fP(t:TypeId)
 |var(ks:er)(ss:List eD)
 |arr(ks:er)
 |mp(k:Kind)(ag:Bool)(ks:er)
 |loop(s:Nat)(es:List (Nat×Sh))(BK:Option Ex)
 |gone
def AV.gV:AV->List AV| .eJ _ _ cs=>cs|_=>[]
def AV.id:AV->Nat| .au id=>id| .ptr id _ _=>id| .jz id=>id| .mp id=>id| .vw id _ _=>id|_=>0
def eE.rows:eE->List Row| .row _ xs=>xs| .fP _ xs=>xs|_=>[]
def eE.cells:eE->List AV| .var _ cs=>cs|_=>[]
def eE.aU:eE->List (AV×AV)| .map _ _ _ es=>es|_=>[]
def eE.acT:eE->List (Nat×AV)| .loop _ env _ _=>env|_=>[]
def BW:eD->AV->AV
 | .cell k,x=>ld k x
 | .au j,_=> .au j
 | .ptr j i off,_=> .ptr j i off
 | .jz j,_=> .jz j
 | .mpr j,_=> .mp j
 | .jh,_=> .jh
 | .nw,_=> .nw
 | .fn f,_=> .eJ f [] []
 | .cl f ps,_=> .eJ f [] (ps.map λp=> .ptr p.1 p.2.1 p.2.2)
 | .vw j,x=> .vw j x.vlo x.vn
 | .jI,_=> .jI
 | .mS,_=> .mS
 | .any,x=>x
def Kw:List (Nat×Nat×Nat)->ak->Bool
 | [],[]=>true
 |p::ps,.ptr j i off::cs=>Nat.beq j p.1&&Nat.beq i p.2.1&&Nat.beq off p.2.2&&Kw ps cs
 |_,_=>false
def aCH:∀{ps:List (Nat×Nat×Nat)} {cs:ak},Kw ps cs=true->(ps.map λp=>AV.ptr p.1 p.2.1 p.2.2)=cs:=by
 intro ps cs h
 induction ps generalizing cs with
 |nil=>
  cases cs with
  |nil=>rfl
  |cons _ _=>simp [Kw]at h
 |cons p ps ih=>
  cases cs with
  |nil=>simp [Kw]at h
  |cons c cs=>
   cases c<;>simp only [Kw,nP]at h
   rw [bw,bw,bw]at h;rw [jG,ih h.2,dX h.1.1.1,dX h.1.1.2,dX h.1.2]
def U0:eD->AV->Bool
 | .cell k,x=>kF k x
 | .au j,.au i=>Nat.beq i j
 | .ptr j i off,.ptr j' i' BL=>Nat.beq j' j&&Nat.beq i' i&&Nat.beq BL off
 | .jz j,.jz i=>Nat.beq i j
 | .mpr j,.mp i=>Nat.beq i j
 | .jh,.jh =>true
 | .nw,.nw =>true
 | .fn f,.eJ g [] []=>Nat.beq g f
 | .cl f ps,.eJ g [] cs=>Nat.beq g f&&Kw ps cs
 | .vw j,.vw i _ _=>Nat.beq i j
 | .jI,.jI =>true
 | .mS,.mS =>true
 | .any,_=>true
 |_,_=>false
def Sq{s:eD}(h:U0 s x=true):BW s x=x:=by
 unfold U0 at h;split at h
 ·exact IC h
 ·rw [dX h];rfl
 ·rw [bw,bw]at h;rw [dX h.1.1,dX h.1.2,dX h.2];rfl
 ·rw [dX h];rfl
 ·rw [dX h];rfl
 ·rfl
 ·rfl
 ·rw [dX h];rfl
 ·rw [bw]at h;simp only [BW];rw [aCH h.2,dX h.1]
 ·simp only [BW,AV.vlo,AV.vn];rw [dX h]
 ·rfl
 ·rfl
 ·rfl
 ·exact aD
def JH:List eD->ak->ak
 | [],_=>[]
 |s::ss,xs=>BW s (xs.headD .top)::JH ss xs.tail
def Ak:List eD->ak->Bool
 | [],[]=>true
 |s::ss,x::xs=>U0 s x&&Ak ss xs
 |_,_=>false
def R3:∀{ss:List eD} {xs:ak},Ak ss xs=true->JH ss xs=xs
 | [],[],_=>rfl
 |s::ss,x::xs,h=>by
  simp only [Ak,bw]at h;simp only [JH,Zd,Zc];rw [Sq h.1,R3 h.2]
 | [],_::_,h=>SG
 |_::_,[],h=>SG
def Oj:Sh->AV->AV
 | .one s,x=>BW s x
 | .agg ss,x=> .agg (JH ss x.cells)
 | .eJ f ss,x=> .eJ f [] (JH ss x.gV)
def Kv:Sh->AV->Bool
 | .one s,x=>U0 s x
 | .agg ss,.agg cs=>Ak ss cs
 | .eJ f ss,.eJ g [] cs=>Nat.beq g f&&Ak ss cs
 |_,_=>false
def aaf{s:Sh}(h:Kv s x=true):Oj s x=x:=by
 unfold Kv at h;split at h
 ·exact Sq h
 ·simp only [Oj,AV.cells];rw [R3 h]
 ·rw [bw]at h;simp only [Oj,AV.gV];rw [R3 h.2,dX h.1]
 ·exact aD
def TS:List (Nat×Sh)->bL->bL
 | [],_=>[]
 |e::es,env=>(e.1,Oj e.2 (env.headD (0,.top)).2)::TS es env.tail
def DX:List (Nat×Sh)->bL->Bool
 | [],[]=>true
 |e::es,x::env=>Nat.beq x.1 e.1&&Kv e.2 x.2&&DX es env
 |_,_=>false
def aik:∀{es:List (Nat×Sh)} {env:bL},DX es env=true->TS es env=env
 | [],[],_=>rfl
 |e::es,x::env,h=>by
  simp only [DX,bw]at h;simp only [TS,Zd,Zc];rw [aaf h.1.2,aik h.2,<-dX h.1.1]
 | [],_::_,h=>SE
 |_::_,[],h=>SE
def okX:Option Ex->Option Ex->Bool
 |none,none=>true
 |some .ret,some .ret =>true
 |some (.exit i),some (.exit j)=>Nat.beq i j
 |_,_=>false
def ajr{a b:Option Ex}(h:okX a b=true):a=b:=by
 unfold okX at h;split at h
 ·rfl
 ·rfl
 ·exact Je
 ·exact aD
def D9:gp->eE->eE
 | .row t,b=> .row t b.rows
 | .fP t,b=> .fP t b.rows
 | .var ks ss,b=> .var ks (JH ss b.cells)
 | .arr ks,b=> .var ks b.cells
 | .mp k ag ks,b=> .map k ag ks b.aU
 | .loop s es p,b=> .loop s (TS es b.acT) false p
 | .gone,_=> .dead
def okB:gp->eE->Bool
 | .row t,.row t' _=>t'==t
 | .fP t,.fP t' _=>t'==t
 | .var ks ss,.var Cf cs=>Cf==ks&&Ak ss cs
 | .arr ks,.var Cf _=>Cf==ks
 | .mp k ag ks,.map k' ag' Cf _=>k'==k&&ag'==ag&&Cf==ks
 | .loop s es p,.loop s' env false p'=>Nat.beq s' s&&DX es env&&okX p' p
 | .gone,.dead =>true
 |_,_=>false
def aB9{s:gp}{b:eE}(h:okB s b=true):D9 s b=b:=by
 unfold okB at h;split at h
 ·simp only [D9,eE.rows];rw [eq_of_beq h]
 ·simp only [D9,eE.rows];rw [eq_of_beq h]
 ·rw [bw]at h;simp only [D9,eE.cells];rw [R3 h.2,eq_of_beq h.1]
 ·simp only [D9,eE.cells];rw [eq_of_beq h]
 ·rw [bw,bw]at h;simp only [D9,eE.aU];rw [eq_of_beq h.1.1,eq_of_beq h.1.2,eq_of_beq h.2]
 ·rw [bw,bw]at h;simp only [D9,eE.acT];rw [aik h.1.2,dX h.1.1,ajr h.2]
 ·rfl
 ·exact aD
def UJ:List gp->aF->aF
 | [],_=>[]
 |s::ss,M=>D9 s (M.headD .dead)::UJ ss M.tail
def G9:List gp->aF->Bool
 | [],[]=>true
 |s::ss,b::M=>okB s b&&G9 ss M
 |_,_=>false
def aag:∀{ss:List gp} {M:aF},G9 ss M=true->UJ ss M=M
 | [],[],_=>rfl
 |s::ss,x::xs,h=>by
  simp only [G9,bw]at h;simp only [UJ,Zd,Zc];rw [aB9 h.1,aag h.2]
 | [],_::_,h=>SB
 |_::_,[],h=>SB
structure ax where
 env:List (Nat×Sh)
 mem:List gp
variable{σ:ax}
def GV(lk:Nat->AV):List (Nat×Sh)->bL
 | []=>[]
 |(t,s)::es=>(t,Oj s (lk t))::GV lk es
def Kx(lk:Nat->AV):List (Nat×Sh)->Bool
 | []=>true
 |(t,s)::es=>Kv s (lk t)&&Kx lk es
def ap6(σ:ax)(lk:Nat->AV)(M:aF):St:=⟨GV lk σ.env,UJ σ.mem M,[],.tJ⟩
def ahy{lk:Nat->AV}:∀{es:List (Nat×Sh)},Kx lk es=true->∀t,look (GV lk es) t=lk t∨look (GV lk es) t= .top
 | [],_,t=> .inr rfl
 |(u,s)::es,h,t=>by
  simp only [Kx,bw]at h;simp only [GV,sy,look_nil]
  by_cases ht:t=u
  ·subst ht;simp only [Zb,lG];rw [aaf h.1];exact .inl rfl
  ·have:(t==u)=false:=by simpa using ht
   simp only [this,nP,lI];exact ahy h.2 t
def Jq(σ:ax)(bC:dx)(st:St):St:=ap6 σ (λt=>iM (idx bC) 4 (look st.env t)) (tC st.mem bC)
def zK(σ:ax)(bC:dx)(st:St):Bool:=yG st.mem bC&&Kx (λt=>iM (idx bC) 4 (look st.env t)) σ.env&&G9 σ.mem (tC st.mem bC)
def Q7(h:zK σ bC st=true):yG st.mem bC=true/\(Jq σ bC st).mem =tC st.mem bC/\
 ∀t,look (Jq σ bC st).env t=iM (idx bC) 4 (look st.env t)∨look (Jq σ bC st).env t= .top :=by
 unfold zK at h;rw [bw,bw]at h;exact⟨h.1.1,aag h.2,ahy h.1.2⟩
def Y3(hX:X.Ok)(h:zK σ bC st=true)(hI:Inv X w0 S F ρ st.mem w)(he:k8 X ρ F w st.env tmps):k8 X (sub sk ρ bC) F w (Jq σ bC st).env tmps:=by
 obtain⟨U,h2,h3⟩:=Q7 h;have hs:=ahg U;have cH:∀i∈bC,i<ρ.length:=λi hi=>by rw [hI.len];exact hs.lt i hi
 intro t;rcases h3 t with e|e
 ·rw [e];exact(he t).iM hX.kinds (aiB cH sk) 4
 ·rw [e];exact .top _
inductive Cv where
 |kZ(t:Nat)(k:Kind)
 |mk(t:Nat)(ty:TypeId)
 |AF(i:bL->aF->Nat)(c:Nat)(ty:TypeId)
 |apX(i:bL->aF->Nat)(t:TypeId)
 |nZ(t:Nat)(ks:er)
 |mov(t:Nat)
 |GQ(i:bL->aF->Nat)(c:Nat)(ty:TypeId)
def kB(X:Cx):List Cv->St->(St->Option R)->Option R
 | [],st,k=>k st
 | .kZ t kd::cs,st,k=>kZ kd (look st.env t) st.mem λx M=>kB X cs {st with env:=(t,x)::st.env,mem:=M} k
 | .mk t ty::cs,st,k=>
   match look st.env t with
   | .jI =>kB X cs {st with env:=(t,.au st.mem.length)::st.env,mem:=st.mem++[.row ty []]} k
   |_=>kB X cs st k
 | .AF i c ty::cs,st,k=>
   match gm st.mem (i st.env st.mem)with
   |some (.var ks xs)=>
    match xs[c]?,ks[c]? with
    |some .jI,some .any =>kB X cs {st with mem:=(st.mem++[eE.row ty []]).set (i st.env st.mem) (.var ks (xs.set c (.au st.mem.length)))} k
    |_,_=>kB X cs st k
   |_=>kB X cs st k
 | .nZ t ks::cs,st,k=>
   match look st.env t with
   | .agg xs=>bf (Nat.beq xs.length ks.length) (uB ks xs st.mem λys M=>kB X cs {st with env:=(t,.agg ys)::st.env,mem:=M} k)
   |_=>kB X cs st k
 | .apX i t::cs,st,k=>kZ (.slice t) (.au (i st.env st.mem)) st.mem λ_ M=>kB X cs {st with mem:=M} k
 | .mov t::cs,st,k=>
   match look st.env t with
   | .au id=>
     match gm st.mem id with
     |some (.row ty xs)=>kB X cs {st with env:=(t,.au st.mem.length)::st.env,mem:=st.mem.set id .dead ++[.row ty xs]} k
     |_=>kB X cs st k
   |_=>kB X cs st k
 | .GQ i c ty::cs,st,k=>
   match gm st.mem (i st.env st.mem)with
   |some (.var ks xs)=>
    match xs[c]?,ks[c]? with
    |some (.au id),some .any =>
     match gm st.mem id with
     |some (.row t rs)=>bf (ty==t) (kB X cs {st with mem:=(st.mem.set id (.fP t rs)).set (i st.env st.mem) (.var ks (xs.set c (.ae t rs)))} k)
     |some (.fP t rs)=>bf (ty==t) (kB X cs {st with mem:=st.mem.set (i st.env st.mem) (.var ks (xs.set c (.ae t rs)))} k)
     |_=>kB X cs st k
    |_,_=>kB X cs st k
   |_=>kB X cs st k
def k8.over{env:bL}(h:k8 X ρ F w env tmps){d:Nat}(hx:a8 X.K ρ F w x (tmps.getD d undef)):k8 X ρ F w ((d,x)::env) tmps:=by
 intro t;simp only [sy,look_nil]
 by_cases ht:t=d
 ·subst ht;simpa using hx
 ·have:(t==d)=false:=by simpa using ht
  simp only [this,nP,lI];exact h t
def aia{M M1:aF}{i c id:Nat}{ks:er}{xs:ak}{t:TypeId}{rs:aY}(hI:Inv X w0 S F ρ M w)(hb:M[i]?=some (.var ks xs))(hx:xs[c]?=some (.au id))(hk:ks[c]?=some .any)(hM:M1[i]?=some (.var ks xs))
 (hf:kZ (.slice t) (.au id) M (λx M'=>some (x,M'))=some (.ae t rs,M1)):∃F',Inv X w0 S F' ρ (M1.set i (.var ks (xs.set c (.ae t rs)))) w/\Grow F F' ρ ρ w w:=by
 obtain⟨x',M',e,hl,_,hd⟩:=ID (X:=X) hf;injection e with e;injection e with e1 e2;subst e1;subst e2;obtain⟨F1,i1,g1,r1⟩:=hd hI;refine⟨F1,?_,g1⟩;have cH:i<ρ.length:=aa3;have hh:ρ[i]?=some ρ[i]:=dy cH;obtain⟨p1,p2,g0,aLm,e0,p3,p4,⟨p5,p6⟩,_⟩:=hI.rep _ _ _ hb hh;obtain⟨q1,q2,g,cur,e,q3,q4,⟨q5,q6⟩,q7⟩:=i1.rep _ _ _ hM hh;refine i1.write hM rfl hh (g:=g) (aa0) ⟨rfl,rfl,rfl,iZ _,λ_ _ _=>rfl⟩ ⟨?_,by simpa using q2,g,cur,e,q3,q4,⟨by simpa using q5,λj x v iY hv=> ?_⟩,ai9 hx rfl _ q7⟩
 ·refine ZW (by simpa using kS q1) λj k x sj iY=> ?_;exact amS
 ·rw [C5]at iY;split at iY
  ·rename_i ej;subst ej;split at iY
   ·injection iY with iY;subst iY;have eg:g0=g:=by rw [p3]at q3;simpa using q3
    subst eg;have ec:aLm=cur:=by rw [p4]at q4;injection q4 with q4;injection q4
    subst ec;exact r1 v (p6 _ _ v hx hv)
   ·cases iY
  ·exact q6 j x v iY hv
def wj(hX:X.Ok){k:St->Option R}{r:R}:∀(cs:List Cv) {st:St},kB X cs st k=some r->∃aV,k aV=some r/\aV.kR=st.kR/\aV.rd=st.rd/\
 ∀{nt:Nt} {rdc:Cy} {w0:World} {S:Sc} {F:bD} {ρ:bJ} {a:Act} {w:World},Inv X w0 S F ρ st.mem w->iz X nt st rdc F ρ a w->∃F' ρ',Inv X w0 S F' ρ' aV.mem w/\iz X nt aV rdc F' ρ' a w/\Grow F F' ρ ρ' w w
 | [],st,h=>⟨st,h,rfl,rfl,λ{nt rdc w0 S F ρ a w} hI hs=>⟨F,ρ,hI,hs,Grow.refl _ _ _⟩⟩
 | .kZ t kd::cs,st,h=>by
   simp only [kB,fR]at h;obtain⟨x,M',h,hl,_,hd⟩:=ID (X:=X) h;obtain⟨aV,h,e1,e2,hr⟩:=wj hX cs h;refine⟨aV,h,e1,e2,λ{nt rdc w0 S F ρ a w} hI hs=> ?_⟩;obtain⟨F1,i1,g1,r1⟩:=hd hI;obtain⟨F2,ρ2,i2,s2,g2⟩:=hr (nt:=nt) (rdc:=rdc) (a:=a) i1 ⟨(hs.env.grow g1).over (r1 _ (hs.env t)),hs.size,(hs.grow g1).defs,(hs.grow g1).rd,hs.kept⟩;exact aaM
 | .nZ t ks::cs,st,h=>by
   simp only [kB,fR]at h;split at h
   ·rename_i xs hx;replace h:=cO h;obtain⟨_,h⟩:=h;obtain⟨ys,M',h,hl,_,hd⟩:=Re (X:=X) _ _ _ h;obtain⟨aV,h,e1,e2,hr⟩:=wj hX cs h;refine⟨aV,h,e1,e2,λ{nt rdc w0 S F ρ a w} hI hs=> ?_⟩;obtain⟨F1,i1,g1,r1⟩:=hd hI;have lC:=hs.grow g1;have hv:=hs.env t;rw [hx]at hv;have nm:a8 X.K ρ F1 w (.agg ys) (a.tmps.getD t undef):=by
     generalize a.tmps.getD t undef=v at hv;cases hv with
     |agg _ vs hl hr=>
      have:=r1 vs ⟨hl,hr⟩;exact .agg ys vs this.1 this.2
    obtain⟨F2,ρ2,i2,s2,g2⟩:=hr (nt:=nt) (rdc:=rdc) (a:=a) i1 ⟨lC.env.over nm,lC.size,lC.defs,lC.rd,lC.kept⟩;exact aaM
   ·exact Bm
 | .apX i t::cs,st,h=>by
   simp only [kB,fR]at h;obtain⟨x,M',h,hl,_,hd⟩:=ID (X:=X) h;obtain⟨aV,h,e1,e2,hr⟩:=wj hX cs h;refine⟨aV,h,e1,e2,λ{nt rdc w0 S F ρ a w} hI hs=> ?_⟩;obtain⟨F1,i1,g1,r1⟩:=hd hI;exact abN
 | .mov t::cs,st,h=>by
   simp only [kB,fR]at h;split at h
   ·rename_i id hv;split at h
    ·rename_i ty xs hb;obtain⟨aV,h,e1,e2,hr⟩:=wj hX cs h;refine⟨aV,h,e1,e2,λ{nt rdc w0 S F ρ a w} hI hs=> ?_⟩;have cH:id<ρ.length:=aa3;have hh:ρ[id]?=some ρ[id]:=dy cH;have i0:=hI.rep _ _ _ hb hh;have g1:Grow F F ρ (ρ++[ρ[id]]) w w:=⟨λ_ h=>h,λ_ _ h=>qu h,λ_ _=>rfl⟩;have i1:Inv X w0 S F (ρ++[ρ[id]]) (st.mem.set id .dead ++[.row ty xs]) w:=
      hI.move hb rfl hh (row:=none) ⟨rfl,rfl,rfl,iZ _,λ_ _ _=>rfl⟩ (.inl rfl) (λg hg=>⟨(hI.sep id _ _ g hb rfl hh hg).1,.inl hg⟩) (hI.one _ _ hh) (n6.mono (b:= .row ty xs) g1.jD g1.hF (λ_ _ _ h=>h) (λ_ _=>rfl) i0)
     have r1:a8 X.K (ρ++[ρ[id]]) F w (.au st.mem.length) (a.tmps.getD t undef):=by
      have:=hs.env t;rw [hv]at this;generalize a.tmps.getD t undef=v at this;cases this with
      |au _ hd h2=>
       rw [hh]at h2;injection h2 with h2;rw [<-h2];exact a8.au (K:=X.K) _ ρ[id] (Jk)
     exact amL
    ·exact Bm
   ·exact Bm
 | .GQ i c ty::cs,st,h=>by
   simp only [kB,fR]at h;split at h
   ·rename_i ks xs hb;split at h
    ·rename_i id hx hk;split at h
     ·rename_i t rs EP;replace h:=cO h;obtain⟨ht,h⟩:=h;have ht:=eq_of_beq ht;subst ht;obtain⟨aV,h,e1,e2,hr⟩:=wj hX cs h;refine⟨aV,h,e1,e2,λ{nt rdc w0 S F ρ a w} hI hs=> ?_⟩;have eY:id≠i st.env st.mem:=by intro e;subst e;rw [hb]at EP;cases EP
      obtain⟨F1,i1,g1⟩:=aia hI hb hx hk (M1:=st.mem.set id (.fP ty rs)) (id:=id) (t:=ty) (rs:=rs) (by rw [mW eY];exact hb) (by simp [kZ,fR,EP,bf]);exact abN
     ·rename_i t rs EP;replace h:=cO h;obtain⟨ht,h⟩:=h;have ht:=eq_of_beq ht;subst ht;obtain⟨aV,h,e1,e2,hr⟩:=wj hX cs h;refine⟨aV,h,e1,e2,λ{nt rdc w0 S F ρ a w} hI hs=> ?_⟩;obtain⟨F1,i1,g1⟩:=aia hI hb hx hk (M1:=st.mem) (id:=id) (t:=ty) (rs:=rs) hb (by simp [kZ,fR,EP,bf]);exact abN
     ·exact Bm
    ·exact Bm
   ·exact Bm
 | .mk t ty::cs,st,h=>by
   simp only [kB,fR]at h;split at h
   ·rename_i hn;obtain⟨aV,h,e1,e2,hr⟩:=wj hX cs h;refine⟨aV,h,e1,e2,λ{nt rdc w0 S F ρ a w} hI hs=> ?_⟩;have hv:a.tmps.getD t undef= .slice none 0 0:=by
     have:=hs.env t;rw [hn]at this;generalize a.tmps.getD t undef=v at this;cases this;rfl
    have i1:Inv X w0 S F (ρ++[⟨.slice none 0 0,(X.K ty).length⟩]) (st.mem++[.row ty []]) w:=hI.F8 (hd:=⟨.slice none 0 0,(X.K ty).length⟩) (λg hg=>S0) rfl
     ⟨rfl,λi row h=>gU,.inl ⟨rfl,rfl⟩⟩
    have g1:Grow F F ρ (ρ++[⟨.slice none 0 0,(X.K ty).length⟩]) w w:=⟨λ_ h=>h,λ_ _ h=>qu h,λ_ _=>rfl⟩;have r1:a8 X.K (ρ++[⟨.slice none 0 0,(X.K ty).length⟩]) F w (.au st.mem.length) (a.tmps.getD t undef):=by
     rw [hv];exact a8.au (K:=X.K) _ ⟨.slice none 0 0,(X.K ty).length⟩ (Jk)
    exact amL
   ·exact Bm
 | .AF i c ty::cs,st,h=>by
   simp only [kB,fR]at h;split at h
   ·rename_i ks xs hb;split at h
    ·rename_i hx hk;obtain⟨aV,h,e1,e2,hr⟩:=wj hX cs h;refine⟨aV,h,e1,e2,λ{nt rdc w0 S F ρ a w} hI hs=> ?_⟩;have i1:Inv X w0 S F (ρ++[⟨.slice none 0 0,(X.K ty).length⟩]) (st.mem++[.row ty []]) w:=hI.F8 (hd:=⟨.slice none 0 0,(X.K ty).length⟩) (λg hg=>S0) rfl
      ⟨rfl,λi row h=>gU,.inl ⟨rfl,rfl⟩⟩
     have g1:Grow F F ρ (ρ++[⟨.slice none 0 0,(X.K ty).length⟩]) w w:=⟨λ_ h=>h,λ_ _ h=>qu h,λ_ _=>rfl⟩;have cH:i st.env st.mem<ρ.length:=aa3;have hh:(ρ++[(⟨.slice none 0 0,(X.K ty).length⟩:Hd)])[i st.env st.mem]?=some ρ[i st.env st.mem]:=qu (dy cH);have zo:(st.mem++[eE.row ty []])[i st.env st.mem]?=some (.var ks xs):=qu hb;obtain⟨q1,q2,g,cur,e,q3,q4,⟨q5,q6⟩,q7⟩:=i1.rep _ _ _ zo hh;have i2:Inv X w0 S F (ρ++[⟨.slice none 0 0,(X.K ty).length⟩]) ((st.mem++[eE.row ty []]).set (i st.env st.mem) (.var ks (xs.set c (.au st.mem.length)))) w:=by
      refine i1.write zo rfl hh (g:=g) (aa0) ⟨rfl,rfl,rfl,iZ _,λ_ _ _=>rfl⟩ ⟨?_,by simpa using q2,g,cur,e,q3,q4,⟨by simpa using q5,λj x v iY hv=> ?_⟩,ai9 hx rfl _ q7⟩
      ·refine ZW (by simpa using kS q1) λj k x sj iY=> ?_;exact amS
      ·rw [C5]at iY;split at iY
       ·rename_i ej;subst ej;split at iY
        ·injection iY with iY;subst iY;have:=q6 c _ v hx hv;cases this;exact a8.au (K:=X.K) _ ⟨.slice none 0 0,(X.K ty).length⟩ (Jk)
        ·cases iY
       ·exact q6 j x v iY hv
     have lC:=hs.grow g1;obtain⟨F2,ρ2,i2,s2,g2⟩:=hr (nt:=nt) (rdc:=rdc) (a:=a) i2 ⟨lC.env,lC.size,lC.defs,lC.rd,lC.kept⟩;exact aaM
    ·exact Bm
   ·exact Bm
end
noncomputable section
variable {X:Cx} {R O:Type}
def uw.trans{m:Nat}{F F' xv:bD}{ρ ρ' wN:bJ}{w w' tI:World}(h:uw m F F' ρ ρ' w w')(k:uw m F' xv ρ' wN w' tI):uw m F xv ρ wN w tI:=
 ⟨λa ha=>k.hF a (h.hF a ha),λid hd hm hh=>k.jD id hd hm (h.jD id hd hm hh),λa ha=>(k.hb a (h.hF a ha)).trans (h.hb a ha)⟩
def pre(m:Nat)(bC:dx):Bool:=(bC.take m)==List.range m
def aBl{m:Nat}{bC:dx}(h:pre m bC=true){j:Nat}(hj:j<m):bC[j]?=some j:=by
 have e:bC.take m=List.range m:=by simpa [pre]using h
 have:(bC.take m)[j]?=some j:=by rw [e,wz hj]
 rw [th,if_pos hj]at this;exact this
def Ta(m mask:Nat)(bC:dx)(st so:St):St:=
 {env:=GC (qJ m bC st.mem.length) 4 so.env++st.env.filter (λp=> !mask.testBit p.1),mem:=merge m st.mem bC so.mem,kR:=st.kR,rd:=st.rd}
def agB:∀(A B:bL) (t:Nat),look (A++B) t=look A t∨look (A++B) t=look B t
 | [],B,t=> .inr rfl
 |(u,x)::A,B,t=>by
  simp only [hY,sy,look_nil]
  by_cases ht:t=u
  ·subst ht;simp
  ·have:(t==u)=false:=by simpa using ht
   simp only [this,nP,lI];exact agB A B t
def ahn(mask:Nat):∀(env:bL) (t:Nat),look (env.filter (λp=> !mask.testBit p.1)) t= .top ∨(mask.testBit t=false/\look (env.filter (λp=> !mask.testBit p.1)) t=look env t)
 | [],t=> .inl rfl
 |(u,x)::env,t=>by
  have ih:=ahn mask env t;rw [List.filter_cons]
  by_cases hu:mask.testBit u=true
  ·rw [if_neg (by simp [hu])];rcases ih with h|⟨U,h2⟩
   ·exact .inl h
   ·refine .inr ⟨U,?_⟩;have ht:(t==u)=false:=by
     by_cases ht:t=u
     ·subst ht;rw [hu]at U;cases U
     ·exact MY
    simp only [sy,look_nil,ht,nP,lI];exact h2
  ·have qm:mask.testBit u=false:=by simpa using hu
   rw [if_pos (by simp [qm])];simp only [sy,look_nil]
   by_cases ht:t=u
   ·subst ht;exact .inr ⟨qm,by simp⟩
   ·have:(t==u)=false:=by simpa using ht
    simp only [this,nP,lI];exact ih
end
noncomputable section
variable {X:Cx} {R O:Type}
variable{w:World}{F:bD}{ρ:bJ}{vs:gz}
def yF(X:Cx)(f:FuncId)(m:Nat)(args:ak)(M:aF)(x:AV)(M':aF):Prop:=
 ∀{w0:World} {S:Sc} {F:bD} {ρ:bJ} {w:World} {vs:gz},Inv X w0 S F ρ M w->dm X.K ρ F w args vs->
  Calls X.P f vs.toArray w (λe w'=>∃v ρ' F',e= .returned v/\Inv X w0 S F' ρ' M' w'/\uw m F F' ρ ρ' w w'/\a8 X.K ρ' F' w' x v)
def DJ(n:Nat)(env:bL):ak:=(List.range n).map λt=>look env t
def ahk{args:ak}(h:dm X.K ρ F w args vs):k8 X ρ F w (qz 0 args) vs.toArray:=by
 intro t;rw [Yi,if_pos (qy _)];cases hx:args[t- 0]? with
 |none=>exact .top _
 |some y=>
  have ht:t<vs.length:=by have:=(fK.1 hx).1;have:=h.1;omega
  have hv:vs.toArray.getD t undef=vs[t]:=by simp [sG,ht]
  rw [hv];exact h.2 t y _ (MZ) (dy ht)
def ahW{env:bL}(h:k8 X ρ F w env vs.toArray):dm X.K ρ F w (DJ vs.length env) vs:=by
 refine⟨by simp [DJ],λj x v hx hv=> ?_⟩;simp only [DJ,kG]at hx;have hj:j<vs.length:=(fK.1 hv).1;rw [wz hj]at hx;simp only [nN,Option.some.injEq]at hx;subst hx;have:=h j;have mv:vs.toArray.getD j undef=v:=by
  rw [dy hj]at hv;injection hv with hv;simp [sG,hj,hv]
 rw [mv]at this;exact this
end
end Go.aj
namespace Go.aj
def tj:=@List.map_append
def aim:=@List.length_eq_zero_iff
def Ze:=@Go.World.alloc_heap_new
end Go.aj
namespace Go.aj
open Go
noncomputable section
variable {X:Cx} {R:Type}
variable{ps:Array Tmp}{id s:Nat}{g:Operand}{r:R}{w:World}{args:ak}{F:bD}{M:aF}
def Marks.putObj{F:bD}{w:World}{db:bD}{ds:List Deferred}(h:Marks F w db ds){g:Nat}{lp:Loop}(hg:w.heap[g]?=some (.loop lp))(o:Obj):Marks F (w.putObj g o) db ds:=by
 obtain⟨h0,ms,U,h2,h3⟩:=h;refine⟨h0,ms,U,h2,λD hD=>⟨(h3 D hD).1,(h3 D hD).2.1,?_⟩⟩;have eY:D≠g:=by
  rintro rfl;have:=(h3 D hD).2.2;rw [hg]at this;cases this
 rw [uk eY];exact(h3 D hD).2.2
def Inv.rewrite{w0:World}{S:Sc}{ρ:bJ}(hI:Inv X w0 S F ρ M w){D:Nat}(hF:F ⟨D,0,none⟩)(hD:∀a v,a.block=D->w.cell? a≠some v)(hN:∀a,S.F0 a->a.block≠D)(o:Obj):
 Inv X w0 S F ρ M (w.putObj D o):=by
 have i:=hI.Q8 hF hD hN o;exact⟨i.os,i.tape,i.output,i.size,i.frame,i.len,λid b hd hb hh=>(i.rep id b hd hb hh).mono (λ_ _ h=>h) (λ_ h=>h.1) (λ_ _ _ h=>h) (λ_ _=>rfl),
  λid b hd g hb fw hh dQ=>⟨by simpa using(hI.sep id b hd g hb fw hh dQ).1,(hI.sep id b hd g hb fw hh dQ).2⟩,
  i.mC,λa ha=>by simpa using hI.fz a ha,λg=>(i.kz g).mono (λ_ _ h=>h) (λ_ h=>h.1) (λ_ _ _ h=>h),i.one,hI.jS,hI.fin,i.dV.mono (λ_ h=>h.1) λ_ _=>rfl⟩
def Inv.wW{w0 w:World}{S:Sc}{F:bD}{ρ:bJ}{M:aF}(hI:Inv X w0 S F ρ M w){mk:Option Nat}(U:∀D,mk=some D->D<w.heap.size/\w0.heap.size<=D)
 (h2:∀(D:Nat) (id:Nat) b hd,mk=some D->M[id]?=some b->b.kU=false->ρ[id]?=some hd->hd.fj≠some D):
 Inv X w0 S (λa=>F a∨∃D,mk=some D/\a.block=D) ρ M w where
 os:=hI.os
 tape:=hI.tape
 output:=hI.output
 size:=hI.size
 frame:=hI.frame
 len:=hI.len
 rep:=λid b hd hb hh=>(hI.rep id b hd hb hh).mono (λ_ _ h=>h) (λ_ h=> .inl h) (λ_ _ hF hc=>hc) (λ_ _=>rfl)
 sep:=λid b hd g hb fw hh dQ=>let⟨a1,a2,a3⟩:=hI.sep id b hd g hb fw hh dQ;⟨a1,a2,λa ha=>by
  rcases ha with ha|⟨D,hD,e⟩
  ·exact a3 a ha
  ·intro e';exact h2 D id b hd hD hb fw hh (by rw [dQ,<-e',e])⟩
 mC:=hI.mC
 fz:=λa ha=>by
  rcases ha with ha|⟨D,hD,e⟩
  ·exact hI.fz a ha
  ·rw [e];exact(U D hD).1
 kz:=λg=>(hI.kz g).mono (λ_ _ h=>h) (λ_ h=> .inl h) (λ_ _ _ h=>h)
 dV:=hI.dV.mono (λ_ h=> .inl h) λ_ _=>rfl
 one:=hI.one
 jS:=λa ha=>by
  rcases ha with ha|⟨D,hD,e⟩
  ·exact hI.jS a ha
  ·rw [e];exact .inr (.inr (U D hD).2)
 fin:=λa ha=> .inl (hI.fin a ha)
def xV:dx->ak->bL->Option bL
 | [],[],env=>some env
 |p::ps,x::xs,env=>xV ps xs ((p,x)::env)
 |_,_,_=>none
def ahZ{ρ:bJ}{F:bD}{w:World}:∀(ps:dx) {xs:ak} {env jR:bL} {tmps:Array Value} {vs:gz},xV ps xs env=some jR->k8 X ρ F w env tmps->dm X.K ρ F w xs vs->(∀p∈ps,p<tmps.size)->
 k8 X ρ F w jR ((ps.zip vs).foldl (λt p=>t.setIfInBounds p.1 p.2) tmps)/\((ps.zip vs).foldl (λt p=>t.setIfInBounds p.1 p.2) tmps).size =tmps.size
 | [],[],env,jR,tmps,vs,h,he,_,_=>by
   simp only [xV,Option.some.injEq]at h;subst h;simpa using he
 |p::ps,x::xs,env,jR,tmps,[],h,he,hr,hp=>by have:=hr.1;simp at this
 |p::ps,x::xs,env,jR,tmps,v::vs,h,he,hr,hp=>by
  simp only [xV]at h;have hx:=hr.2 0 x v rfl rfl;have vP:dm X.K ρ F w xs vs:=⟨by simpa using hr.1,λj x' v' iY ig=>hr.2 (j+1) x' v' (by simpa using iY) (by simpa using ig)⟩;have:=ahZ ps h (he.put (hp p (by simp)) hx) vP (λq hq=>by simpa using hp q (Jg));simp only [List.zip_cons_cons,Zg];exact⟨this.1,by rw [this.2];simp⟩
 | [],_::_,_,_,_,_,h,_,_,_=>by simp [xV]at h
 |_::_,[],_,_,_,_,h,_,_,_=>by simp [xV]at h
def ano(e:Ex):Option Ex:=match e with| .normal =>none| .exit i=>some (.exit i)| .ret =>some .ret
def alS(e:Ex):Bool:=match e with| .normal =>true|_=>false
def Sk(X:Cx)(L:mO R)(s p:Nat)(id:Nat)(args:ak)(M:aF)(k:AV->aF->Option R):Option R:=
 match gm M id with
 |some (.loop s' env false none)=>
  bf (Nat.beq s' s&&Nat.beq (X.site s).nt L.dV.nt.n&&(X.site s).params.toList.all λt=>Nat.blt t L.dV.nt.n)
   (match xV (X.site s).params.toList args env with
    |none=>none
    |some jR=>
     qq X L (X.site s).assign (2*p) ⟨jR,M.set id .dead,[],.tJ⟩ λe cm=>
      match e,cm.kR with
      | .normal,[]=>
        qq X L (X.site s).body (2*p+1) cm λe lL=>
         match gm lL.mem id with
         |some .dead =>k (.bool (alS e)) (lL.mem.set id (.loop s env false (ano e)))
         |_=>none
      |_,_=>none)
 |_=>none
def ayd{nt:Nt}{s':Nat}{env jR:bL}(hb:M[id]?=some (.loop s' env false none))(KI:(X.site s').nt =nt.n)(OZ:∀t∈(X.site s').params.toList,t<nt.n)
 (Uu:xV (X.site s').params.toList args env=some jR) {e1 e2:Ex} {cm lL:St} (Pd:e1= .normal) (abT:sE X nt (X.site s').assign ⟨jR,M.set id .dead,[],.tJ⟩ (Ex.pd e1) cm) (D4:cm.kR=[])
 (abS:sE X nt (X.site s').body cm (Ex.pd e2) lL) (ot:lL.mem[id]?=some .dead):Ss X id args M (.bool (alS e2)) (lL.mem.set id (.loop s' env false (ano e2))):=by
 subst Pd;intro rd n w0 S F ρ w vs hd g hI hr KO hv;obtain⟨g',lp,ig,Gk,hp1,Vd,hp3,hp4,hp5,_,hp6,_,hp7,_⟩:=hI.rep _ _ _ hb KO;rw [hv]at ig;injection ig with ig;injection ig with ig;injection ig with ig;subst ig;have aC0:lp.state= .ready :=hp6 rfl rfl;have aLN:lp.pending=none:=hp7;have BS:hd.fj=some g:=qZ;obtain⟨q1,q2,q3⟩:=hI.sep _ _ _ _ hb rfl KO BS;have hN:∀a,S.F0 a->a.block≠g:=λa ha=>q3 a (hI.fin a ha);have hnc:=LL Gk;have hlen:args.length=(X.site s').params.toList.length :=by
  have:∀(ps:dx) (xs:ak) (env jR:bL),xV ps xs env=some jR->xs.length=ps.length:=by
   intro ps
   induction ps with
   |nil=>intro xs env jR h;cases xs with|nil=>rfl|cons _ _=>simp [xV]at h
   |cons p ps ih=>intro xs env jR h;cases xs with|nil=>simp [xV]at h|cons x xs=>simp only [xV]at h;simp [ih _ _ _ h]
  exact this _ _ _ _ Uu
 refine⟨lp.fn,_,lp.assign,lp.body,run_yield Gk (by rw [hp1];simp [hr.1,hlen]),roundIn_of_wpIn trivial ?_⟩;rw [Vd,hp3];have i1:Inv X w0 S (λa=>F a∨a.block=g) ρ (M.set id .dead) w:=hI.freeze hb rfl KO BS rfl trivial;have g1:Grow F (λa=>F a∨a.block=g) ρ ρ w w:=⟨λ_ h=> .inl h,λ_ _ h=>h,λ_ _=>rfl⟩;have ab2:(Array.foldl (λtmps (x:Nat×Value)=>tmps.setIfInBounds x.1 x.2) lp.tmps (lp.params.zip vs.toArray))=((X.site s').params.toList.zip vs).foldl (λt p=>t.setIfInBounds p.1 p.2) lp.tmps:=by
  rw [<-Zk,Array.toList_zip,hp1]
 have ane:=ahZ (X:=X) _ Uu (hp5.grow g1) (hr.grow g1) (λt ht=>by rw [hp4,KI];exact OZ t ht);refine abT (rdc:=⟨some g,λ_=>False,λt=>(((X.site s').params.toList.zip vs).foldl (λt p=>t.setIfInBounds p.1 p.2) lp.tmps).getD t undef⟩) (n:=n) i1
  ⟨by simp only [ab2];exact ane.1,by simp only [ab2];rw [ane.2,hp4,KI],Marks.nil _ _ (λ_ h=>h.elim),.inr ⟨g,lp,rfl,.inr rfl,Gk⟩,λt _=>by simp only [ab2]⟩ ?_
 intro a1 w1 F1 ρ1 i2 s2 g2;have oe:Grow F F1 ρ ρ1 w w1:=g1.trans g2;have Vt:F1 ⟨g,0,none⟩:=g2.hF _ (.inr rfl);have yh:w1.heap[g]?=some (.loop lp):=(g2.hb ⟨g,0,none⟩ (.inr rfl)).trans Gk;refine⟨_,run_beginRound yh aC0,?_⟩;have i3:=i2.rewrite Vt (LL yh) hN (.loop {lp with state:= .busy });have Uv:g<w1.heap.size:=(zH.1 yh).1;have yg:(w1.putObj g (.loop {lp with state:= .busy })).heap[g]?=some (.loop {lp with state:= .busy }):=Zf Uv;have zl:Grow F F1 ρ ρ1 w (w1.putObj g (.loop {lp with state:= .busy })):=⟨oe.hF,oe.jD,λa ha=>by rw [uk (q3 a ha)];exact oe.hb a ha⟩;have s3:iz X nt cm ⟨some g,λ_=>False,λt=>(((X.site s').params.toList.zip vs).foldl (λt p=>t.setIfInBounds p.1 p.2) lp.tmps).getD t undef⟩ F1 ρ1 a1 (w1.putObj g (.loop {lp with state:= .busy })):=by
  refine⟨λt=>((s2.env t).less (LL yh) _).mono (λ_ _ h=>h) (λ_ h=>h.1) (λ_ _ _ h=>h),s2.size,?_,.inr ⟨g,_,rfl,Vt,yg⟩,s2.kept⟩;have:=s2.defs;rw [D4]at this⊢;exact Marks.putObj this yh _
 refine abS (rdc:=⟨some g,λ_=>False,λt=>(((X.site s').params.toList.zip vs).foldl (λt p=>t.setIfInBounds p.1 p.2) lp.tmps).getD t undef⟩) (n:=n) i3 s3 ?_;intro a2 w3 F3 ρ3 i4 s4 g4;have hF3:F3 ⟨g,0,none⟩:=g4.hF _ Vt;have hh3:w3.heap[g]?=some (.loop {lp with state:= .busy }):=(g4.hb ⟨g,0,none⟩ Vt).trans yg;have apu:g<w3.heap.size:=(zH.1 hh3).1;have ab1:Grow F F3 ρ ρ3 w w3:=zl.trans g4;have aKU:ρ3[id]?=some hd:=ab1.jD _ _ KO;have key:∀(jump:Option Code) (pe:Option Ex),jump=pe.bind Ex.code->jump.isNone=pe.isNone->pe≠some .normal ->∃v w',(Instr.endRound g jump).run X.P w3= .ok v w'/\∃v' ρ' F',Ending.returned v= .returned v'/\Inv X w0 S F' ρ' (lL.mem.set id (.loop s' env false pe)) w'/\Grow F F' ρ ρ' w w'/\a8 X.K ρ' F' w' (.bool pe.isNone) v':=by
  intro jump pe hj Hy hpe;have sN:=LL hh3;refine⟨_,_,run_endRound jump hh3,_,ρ3,less F3 g,rfl,?_,ab1.less q3 _,by rw [Hy];exact .bool _⟩;refine(i4.Q8 hF3 sN hN _).aCu ot aKU BS (by simpa using apu) q2 (λa ha=>ha.2) (λid' b' dS pz rA eC nX=>(i4.sep id' b' dS g pz rA eC nX).2.2 _ hF3 rfl) ?_;have hE:k8 X ρ3 (less F3 g) (w3.putObj g (.loop {lp with state:=if jump.isNone then .ready else .done,pending:=jump})) env lp.tmps:=(hp5.grow ab1).less sN _;refine⟨g,_,hv,Zf apu,hp1,Vd,hp3,hp4,hE,(λh=>aD),λ_ h=> ?_,λ_ h=> ?_,hj,hpe⟩
  ·subst h;simp only [Option.isNone_none]at Hy;simp [Hy]
  ·cases pe with
   |none=>exact absurd rfl h
   |some _=>simp only [Option.isNone_some]at Hy;simp [Hy]
 cases e2 with
 |normal=>obtain⟨v,w',k1,k2⟩:=key none none rfl rfl (by simp);exact⟨v,w',k1,k2⟩
 |exit i=>obtain⟨v,w',k1,k2⟩:=key (some (.exit i)) (some (.exit i)) rfl rfl (by simp);exact⟨v,w',k1,k2⟩
 |ret=>obtain⟨v,w',k1,k2⟩:=key (some .ret) (some .ret) rfl rfl (by simp);exact⟨v,w',k1,k2⟩
def axD(hX:X.Okb){root:Code}{L:mO R}(hL:L.Ok X root){p:Nat}(fX:At root p (.rangeFunc g ps (X.site s).assign (X.site s).body)){k:AV->aF->Option R}
 (h:Sk X L s p id args M k=some r):∃x M',Ss X id args M x M'/\k x M'=some r:=by
 unfold Sk at h;simp only [fR]at h;split at h
 case h_2=>cases h
 rename_i s' env hb;replace h:=cO h;obtain⟨hc,h⟩:=h;rw [bw,bw]at hc;obtain⟨⟨c7,KI⟩,OZ⟩:=hc;have c7:s'=s:=dX c7;subst c7;have KI:(X.site s').nt =L.dV.nt.n:=dX KI;have OZ:∀t∈(X.site s').params.toList,t<L.dV.nt.n:=λt ht=>by have:=mz.1 OZ t ht;simpa using this
 split at h
 case h_1=>cases h
 rename_i jR Uu;obtain⟨e1,cm,abT,h⟩:=wk hX hL _ (fX.down false λl hl=>yI) h;split at h
 case h_2=>cases h
 rename_i D4;obtain⟨e2,lL,abS,h⟩:=wk hX hL _ (fX.down true λl hl=>yI) h;split at h
 case h_2=>cases h
 rename_i ot;exact⟨_,_,ayd hb KI OZ Uu rfl abT D4 abS ot,h⟩
def Z3(X:Cx)(T:j0 R)(s:Nat)(wW:dx)(g:Operand)(st:St)(k:Ex->St->Option R):Option R:=
 match nL X st.env g,st.kR with
 | .eJ f [] gV,[]=>
   T.call f (.jz st.mem.length::gV) (st.mem++[.loop s (oA wW st.env) false none]) λ_ M2=>
    match gm M2 (st.mem.length)with
    |some (.loop _ _ false pe)=>k (pe.getD .normal) {st with mem:=M2.set st.mem.length .dead }
    |_=>none
 |_,_=>none
def azl{rdc:Option Nat}(oP:NI F w rdc)(fn:FuncId)(tmps:Array Value)(ps:Array Tmp)(ag bd:Code):
 ∃l mk w1 lp,(Instr.enterLoop fn tmps ps ag bd rdc).run X.P w= .ok (l,(mk:Option Nat).toList.map (λD=>({target:= .collected D,args:= #[]}:Deferred))) w1/\w.grownBy w1 none/\w1.heap[l]?=some (.loop lp)/\w.heap.size<=l/\
  (∀D,mk=some D->w.heap.size<=D/\D≠l/\w1.heap[D]?=some (.deferred (some [])))/\lp.state= .ready /\lp.pending=none/\lp.params=ps/\lp.assign=ag/\lp.body=bd/\lp.tmps=tmps:=by
 have ga:∀(w:World) (o:Obj),w.grownBy (w.alloc o) none:=λw o=>II w o none;rcases oP with rfl|⟨g,r,rfl,_,hg⟩
 ·refine⟨w.heap.size+1,some w.heap.size,(w.alloc (.deferred (some []))).alloc (.loop {state:= .ready,pending:=none,fn,tmps,params:=ps,assign:=ag,body:=bd,defers:=w.heap.size}),{state:= .ready,pending:=none,fn,tmps,params:=ps,assign:=ag,body:=bd,defers:=w.heap.size},run_enterLoop_outer fn tmps ps ag bd,?_,?_,by omega,(λD hD=> ?_),rfl,rfl,rfl,rfl,rfl,rfl⟩
  ·exact⟨rfl,rfl,rfl,fB,λk hk _=>by rw [(ga (w.alloc (.deferred (some []))) _).block k (fB) (by simp),(ga w _).block k hk (by simp)]⟩
  ·have:=Ze (w.alloc (.deferred (some []))) (.loop {state:= .ready,pending:=none,fn,tmps,params:=ps,assign:=ag,body:=bd,defers:=w.heap.size})
   rwa [World.size_alloc]at this
  ·injection hD with hD;subst hD;refine⟨iZ _,by omega,?_⟩;rw [(ga (w.alloc (.deferred (some []))) _).block _ (by simp) (by simp)];exact Ze w _
 ·exact⟨w.heap.size,none,w.alloc (.loop {state:= .ready,pending:=none,fn,tmps,params:=ps,assign:=ag,body:=bd,defers:=r.defers}),{state:= .ready,pending:=none,fn,tmps,params:=ps,assign:=ag,body:=bd,defers:=r.defers},run_enterLoop_inner hg fn tmps ps ag bd,ga _ _,Ze w _,iZ _,(λD hD=>by cases hD),rfl,rfl,rfl,rfl,rfl,rfl⟩
def axE(hX:X.Okb){T:j0 R}(hT:T.qV X){wW:dx}{ag bd:Code}(Gi:X.site s=⟨T.nt.n,ps,ag,bd⟩){st:St}{k:Ex->St->Option R}
 (h:Z3 X T s wW g st k=some r):∃e aV,sE X T.nt (.rangeFunc g ps ag bd) st (Ex.pd e) aV/\k e aV=some r:=by
 unfold Z3 at h;simp only [fR]at h;split at h
 case h_2=>cases h
 rename_i f gV hg KS;obtain⟨x,M2,⟨qo,sq⟩,h,_⟩:=hT.call h;split at h
 case h_2=>cases h
 rename_i s2 aLW pe vS;refine⟨_,_,λ{rdc n w0 S F ρ a w Q} hI hs hq=> ?_,h⟩;have U:=Di hI hs.env g;rw [hg]at U;generalize hv:a.eval g=vf at U;cases U with
 |eJ _ _ _ v1 v2 gY ko r1 r2=>
 have ze:v1=[]:=aim.1 (by simpa using gY);subst ze;refine wpIn_rangeFunc λfn _=> ?_;obtain⟨l,mk,w1,lp,aC3,lP,hl,aKQ,Vg,p1,p2,p3,p4,p5,p6⟩:=azl (X:=X) hs.rd fn a.tmps ps ag bd;have cH:l<w1.heap.size:=(zH.1 hl).1;refine⟨l,_,w1,{target:= .fn (.func f) v2.toArray,args:= #[.func (.yield l) #[] #[]]},w1,f,#[.func (.yield l) #[] #[]]++v2.toArray,w1,aC3,?_,λ_ _=>trivial,?_,λhd=>by simp [nK,Fence.wide]at hd,?_⟩
 ·simp only [resolve,hv];simp [go_sem]
 ·simp [invoke,go_sem,qo]
 have gr0:Grow F F ρ ρ w w1:=⟨λ_ h=>h,λ_ _ h=>h,λa ha=>lP.block _ (hI.fz a ha) (by simp)⟩;have i1:Inv X w0 S F (ρ++[⟨.pointer (some ⟨l,0,none⟩),0⟩]) (st.mem++[.loop s (oA wW st.env) false none]) w1:=by
  refine hI.push lP (λg' lQ=> ?_) rfl ?_
  ·simp only [Hd.fj,Value.fj,Option.some.injEq]at lQ;subst lQ;exact⟨aKQ,cH⟩
  ·refine⟨l,lp,rfl,hl,by rw [p3,Gi],by rw [p4,Gi],by rw [p5,Gi],by rw [p6,Gi];exact hs.size,?_,(λh=>aD),λ_ _=>p1,λ_ h=>absurd rfl h,p2,by simp⟩;rw [p6];have he:k8 X (ρ++[⟨.pointer (some ⟨l,0,none⟩),0⟩]) F w1 st.env a.tmps:=(hs.env.grow gr0).grow ⟨λ_ h=>h,λ_ _ h=>qu h,λ_ _=>rfl⟩;exact Iz λu _=>he u
 have i2:Inv X w0 S (λa=>F a∨∃D,mk=some D/\a.block=D) (ρ++[⟨.pointer (some ⟨l,0,none⟩),0⟩]) (st.mem++[.loop s (oA wW st.env) false none]) w1:=by
  refine i1.wW (λD hD=> ?_) (λD id b hd hD hb fw hh e=> ?_)
  ·obtain⟨m1,_,m3⟩:=Vg D hD;exact⟨(zH.1 m3).1,qR hI.size m1⟩
  ·obtain⟨m1,m2,_⟩:=Vg D hD
   by_cases hid:id<st.mem.length
   ·rw [mF hid]at hb;rw [mF (by rw [hI.len];exact hid)]at hh;have:=(hI.sep id b hd D hb fw hh e).1;omega
   ·rw [nM (by rw [hI.len];omega)]at hh;have aKT:id- ρ.length=0:=by
     have:=(fK.1 hh).1;simp at this;exact this
    rw [aKT]at hh;simp only [Ms,Option.some.injEq]at hh;subst hh;simp only [Hd.fj,Value.fj,Option.some.injEq]at e;exact m2 e.symm
 have g2:Grow F (λa=>F a∨∃D,mk=some D/\a.block=D) ρ (ρ++[⟨.pointer (some ⟨l,0,none⟩),0⟩]) w w1:=⟨λ_ h=> .inl h,λ_ _ h=>qu h,gr0.hb⟩;have hyl:(ρ++[(⟨.pointer (some ⟨l,0,none⟩),0⟩:Hd)])[st.mem.length]?=some ⟨.pointer (some ⟨l,0,none⟩),0⟩:=Jk;have zZ:dm X.K (ρ++[⟨.pointer (some ⟨l,0,none⟩),0⟩]) (λa=>F a∨∃D,mk=some D/\a.block=D) w1 (.jz st.mem.length::gV) (.func (.yield l) #[] #[]::v2):=by
  refine⟨by simp [ko],λj y v hy hv=> ?_⟩;cases j with
  |zero=>simp at hy hv;subst hy;subst hv;exact .jz _ _ l hyl rfl
  |succ j=>simp at hy hv;exact(r2 j y v hy hv).grow g2
 have Bz:=sq i2 zZ;have di:CallsIn Fence.wide (n- 1) X.P f (.func (.yield l) #[] #[]::v2).toArray w1 _:=aah.2 Bz;have ny:CallsIn (nK rdc.r) (n- 1) X.P f (.func (.yield l) #[] #[]::v2).toArray w1 _:=di;have e1: #[Value.func (.yield l) #[] #[]]++v2.toArray=(.func (.yield l) #[] #[]::v2).toArray :=yJ;rw [e1];refine ny.mono ?_;rintro en w2 ⟨v,ρ',F',rfl,i3,g3,_⟩;have hid:ρ'[st.mem.length]?=some ⟨.pointer (some ⟨l,0,none⟩),0⟩:=g3.jD _ _ hyl;obtain⟨g',U6,ig,yg,_,_,_,_,_,_,k1,k2,k3,k4⟩:=i3.rep _ _ _ vS hid;simp only [Value.pointer.injEq,Option.some.injEq,Addr.mk.injEq]at ig;obtain⟨rfl,_⟩:=ig;have Ht:U6.state≠ .busy :=by
  cases pe with
  |none=>rw [k1 rfl rfl];simp
  |some _=>rw [k2 rfl (by simp)];simp
 have hFl:∀a,F a->a.block≠l:=λa ha e=>by have:=hI.fz a ha;omega
 have i4:Inv X w0 S (λa=>F' a∨a.block=l) ρ' (M2.set st.mem.length .dead) w2:=i3.freeze vS rfl hid rfl rfl trivial;have i5:=i4.Q8 (D:=l) (.inr rfl) (LL yg) (λa ha=>hFl a (hI.fin a ha)) (.loop {U6 with state:= .exhausted });have g5:Grow F (less (λa=>F' a∨a.block=l) l) ρ ρ' w (w2.putObj l (.loop {U6 with state:= .exhausted })):=(g2.trans (g3.trans ⟨λ_ h=> .inl h,λ_ _ h=>h,λ_ _=>rfl⟩)).less hFl _;have acZ:iz X T.nt {st with mem:=M2.set st.mem.length .dead } rdc (less (λa=>F' a∨a.block=l) l) ρ' {a with defers:=mk.toList.map (λD=>({target:= .collected D,args:= #[]}:Deferred))++a.defers} (w2.putObj l (.loop {U6 with state:= .exhausted })):=by
  refine⟨hs.env.grow g5,hs.size,?_,hs.rd.mono g5.hF g5.hb,hs.kept⟩;have hd:=hs.defs;rw [KS]at hd;simp only [KS];obtain⟨d0,ms,d1,d2,d3⟩:=Marks.mono g5.hF g5.hb hd;refine⟨d0,mk.toList++ms,by rw [tj,d1],?_,λD hD=> ?_⟩
  ·cases mk with
   |none=>simpa using d2
   |some D=>
    simp only [Option.toList_some,List.singleton_append,FM];refine⟨λhD=> ?_,d2⟩;obtain⟨_,ms',e1',_,e3⟩:=hd;have:ms=ms':=by
     have:=d1.symm.trans e1';have inj:∀(a b:dx),a.map (λD=>({target:= .collected D,args:= #[]}:Deferred))=b.map (λD=>({target:= .collected D,args:= #[]}:Deferred))->a=b:=by
      intro a
      induction a with
      |nil=>intro b hb;cases b with|nil=>rfl|cons _ _=>simp at hb
      |cons x a ih=>intro b hb;cases b with
       |nil=>simp at hb
       |cons y b=>simp only [jG,List.cons.injEq,Deferred.mk.injEq,Target.collected.injEq]at hb;rw [hb.1.1,ih b hb.2]
     exact inj _ _ this
    subst this;have:=hI.fz _ (e3 D hD).2.1;have:=(Vg D rfl).1;simp at*;omega
  ·rw [mE]at hD;rcases hD with hD|hD
   ·have hD:mk=some D:=by simpa using hD
    obtain⟨m1,m2,m3⟩:=Vg D hD;have ab0:w2.heap[D]?=w1.heap[D]?:=g3.hb ⟨D,0,none⟩ (.inr ⟨D,hD,rfl⟩);refine⟨λa ha e=> ?_,⟨.inl (g3.hF _ (.inr ⟨D,hD,rfl⟩)),m2⟩,?_⟩
    ·have:=hI.fz a (hd.1 a ha);omega
    ·rw [uk m2,ab0];exact m3
   ·exact d3 D hD
 refine⟨pe.bind Ex.code,_,by rw [<-k3];exact run_endLoop yg Ht,?_⟩;cases pe with
 |none=>exact hq _ _ _ _ i5 acZ g5
 |some e=>
  cases e with
  |normal=>exact absurd rfl k4
  |exit i=>exact wpIn_exit (hq _ _ _ _ i5 acZ g5)
  |ret=>exact wpIn_ret (hq _ _ _ _ i5 acZ g5)
end
end Go.aj
namespace Go.aj
def Ty{p:Prop}(h:p:=by
 rw [RI];exact du hI hs λa' w' F' ρ' eZ c7 hg=>hq a' w' F' ρ' eZ c7 hg):p:=h
def amF{p:Prop}(h:p:=by
 rw [RI];refine du hI hs λa' w' F' ρ' eZ c7 hg=> ?_;exact hr eZ c7 λHO tI xv wN GO GL N2=>hq HO tI xv wN GO GL (hg.trans N2)):p:=h
end Go.aj
namespace Go.aj
def RI:=@Go.roundsIn_succ
end Go.aj
namespace Go.aj
open Go
noncomputable section
variable {X:Cx} {R O:Type}
variable{g:FuncId}{p:Nat}{r:R}{run:ak->aF->(AV->aF->Option R)->Option R}
abbrev se(R:Type):=St->(Ex->St->Option R)->Option R
variable{es:List (Nat×se R)}{P:Nat×se R->Prop}
def Jx:List (Nat×se R)->Nat->se R
 | [],_=>λ_ _=>none
 |e::es,p=>match Nat.beq p e.1 with|true=>e.2|false=>Jx es p
def Nx:List (Nat×se R)->Nat->Option (se R)
 | [],_=>none
 |e::es,p=>match Nat.beq p e.1 with|true=>some e.2|false=>Nx es p
def nB{α:Type}(P:α->Prop):List α->Prop
 | []=>True
 |e::es=>P e/\nB P es
def agZ(hP:nB P es){st:St}{k:Ex->St->Option R}(h:Jx es p st k=some r):∃f,P (p,f)/\f st k=some r:=by
 induction es with
 |nil=>simp [Jx]at h
 |cons e es ih=>
  simp only [Jx]at h;cases hb:Nat.beq p e.1 with
  |true=>
   simp only [hb]at h;have:=dX hb;subst this;exact⟨e.2,hP.1,h⟩
  |false=>simp only [hb]at h;exact ih hP.2 h
def azf(hP:nB P es){f:se R}(h:Nx es p=some f):P (p,f):=by
 induction es with
 |nil=>simp [Nx]at h
 |cons e es ih=>
  simp only [Nx]at h;split at h
  ·rename_i hb;have:=dX hb;subst this;injection h with h;subst h;exact hP.1
  ·exact ih hP.2 h
def al9(X:Cx)(root:Code)(nt:Nt)(e:Nat×se R):Prop:=∀{c st k r},At root e.1 (.loop c)->e.2 st k=some r->∃x aV,sE X nt (.loop c) st (Ex.pd x) aV/\k x aV=some r
def aja(X:Cx)(root:Code)(nt:Nt)(e:Nat×se R):Prop:=∀{g ps a b st k r},At root e.1 (.rangeFunc g ps a b)->e.2 st k=some r->∃x aV,sE X nt (.rangeFunc g ps a b) st (Ex.pd x) aV/\k x aV=some r
def anx(X:Cx)(root:Code)(nt:Nt)(e:Nat×se R):Prop:=∀{c st k r},At root e.1 c->e.2 st k=some r->∃x aV,sE X nt c st (Ex.pd x) aV/\k x aV=some r
structure CE(R:Type) where
 f:FuncId
 test:ak->aF->Bool
 wr:ak->aF->Option dx
 run:ak->aF->(AV->aF->Option R)->Option R
def Jy:List (CE R)->FuncId->ak->aF->(AV->aF->Option R)->Option R
 | [],_,_,_,_=>none
 |e::es,f,args,M,k=>match Nat.beq f e.f&&e.test args M with|true=>e.run args M k|false=>Jy es f args M k
def Jw:List (CE R)->FuncId->ak->aF->Option dx
 | [],_,_,_=>none
 |e::es,f,args,M=>match Nat.beq f e.f&&e.test args M with|true=>e.wr args M|false=>Jw es f args M
def yX(X:Cx)(e:CE R):Prop:=∀{args M k r},e.run args M k=some r->∃x M',wH X e.f args M x M'/\k x M'=some r/\∀ids,e.wr args M=some ids->dc ids M M'
def ag0{es:List (CE R)}(hP:nB (yX X) es){f:FuncId}{args:ak}{M:aF}{k:AV->aF->Option R}(h:Jy es f args M k=some r):
 ∃x M',wH X f args M x M'/\k x M'=some r/\∀ids,Jw es f args M=some ids->dc ids M M':=by
 induction es with
 |nil=>simp [Jy]at h
 |cons e es ih=>
  simp only [Jy]at h;split at h
  ·rename_i hb;have pz:=hb;rw [bw]at hb;have:=dX hb.1;subst this;obtain⟨x,M',U,h2,h3⟩:=hP.1 h;refine⟨x,M',U,h2,λids hi=> ?_⟩;simp only [Jw,pz]at hi;exact h3 ids hi
  ·rename_i hb;obtain⟨x,M',U,h2,h3⟩:=ih hP.2 h;refine⟨x,M',U,h2,λids hi=> ?_⟩;simp only [Jw,hb]at hi;exact h3 ids hi
def amy(nt:Nt)(cs:List (CE R))(y:Nat->ak->aF->(AV->aF->Option R)->Option R)(ls rs ks:List (Nat×se R)):mO R:=
 ⟨⟨nt,Jw cs,Jy cs,y⟩,Jx ls,Jx rs,Nx ks⟩
def HP(X:Cx)(y:Nat->ak->aF->(AV->aF->Option R)->Option R):Prop:=∀{id args M k r},y id args M k=some r->∃x M',Ss X id args M x M'/\k x M'=some r
def OM:Nat->ak->aF->(AV->aF->Option R)->Option R:=λ_ _ _ _=>none
def ajt:HP X (OM (R:=R)):=λ{_ _ _ _ _} h=>aD
def aAo{root:Code}{nt:Nt}{cs:List (CE R)}{y:Nat->ak->aF->(AV->aF->Option R)->Option R}{ls rs ks:List (Nat×se R)}(hc:nB (yX X) cs)(hy:HP X y)
 (hl:nB (al9 X root nt) ls) (hr:nB (aja X root nt) rs) (hk:nB (anx X root nt) ks):(amy nt cs y ls rs ks).Ok X root where
 dV:=⟨λ{f args M k r} h=>ag0 hc h,λ{id args M k r} h=>hy h⟩
 loop:=λ{p c st k r} fX h=>by
  obtain⟨f,U,h2⟩:=agZ hl h;exact U fX h2
 range:=λ{p g ps a b st k r} fX h=>by
  obtain⟨f,U,h2⟩:=agZ hr h;exact U fX h2
 cut:=λ{p c f st k r} fX hf h=>azf hk hf fX h
def Su(X:Cx)(L:mO R)(c:Code)(p:Nat):Nat->St->(Ex->St->Option R)->Option R
 |0,_,_=>none
 |n+1,st,k=>qq X L c p st λe aV=>match e with| .normal =>Su X L c p n aV k| .exit i=>k (.exit i) aV| .ret =>k .ret aV
def af9(hX:X.Okb){root c:Code}{p:Nat}{L:mO R}(hL:L.Ok X root)(fX:At root p (.loop c)):∀(fuel:Nat) {st:St} {k:Ex->St->Option R} {r:R},Su X L c (2*p) fuel st k=some r->
 ∃e aV,k e aV=some r/\∀{rdc:Cy} {n:Nat} {w0:World} {S:Sc} {F:bD} {ρ:bJ} {a:Act} {w:World} {Q:Exit->Act->World->Prop},Inv X w0 S F ρ st.mem w->iz X L.dV.nt st rdc F ρ a w->
  (∀a' w' F' ρ',Inv X w0 S F' ρ' aV.mem w'->iz X L.dV.nt aV rdc F' ρ' a' w'->Grow F F' ρ ρ' w w'->Q (Ex.pd e) a' w')->Code.roundsIn (nK rdc.r) n X.P c Q fuel a w
 |0,st,k,r,h=>aD
 |fuel+1,st,k,r,h=>by
  simp only [Su]at h;obtain⟨e,cm,du,h⟩:=wk hX hL c (fX.down false λl hl=>yI) h;cases e with
  |normal=>
   obtain⟨e',aV,hk,hr⟩:=af9 hX hL fX fuel h;refine⟨e',aV,hk,λ{rdc n w0 S F ρ a w Q} hI hs hq=> ?_⟩;exact amF
  |exit i=>
   refine⟨.exit i,cm,h,λ{rdc n w0 S F ρ a w Q} hI hs hq=> ?_⟩;exact Ty
  |ret=>
   refine⟨.ret,cm,h,λ{rdc n w0 S F ρ a w Q} hI hs hq=> ?_⟩;exact Ty
def inl(g:FuncId)(run:ak->aF->(AV->aF->Option R)->Option R):List (CE R):=[⟨g,λ_ _=>true,λ_ _=>none,run⟩]
def aaB(nt:Nt)(cs:List (CE R)):j0 R:=⟨nt,Jw cs,Jy cs,OM⟩
def azJ{nt:Nt}{cs:List (CE R)}(hc:nB (yX X) cs):(aaB nt cs).qV X:=⟨λ{f args M k r} h=>ag0 hc h,λ{_ _ _ _ _} h=>aD⟩
def aCZ(h:∀{args M k r},run args M k=some r->∃x M',wH X g args M x M'/\k x M'=some r):nB (yX X) (inl g run):=
 ⟨λ{args M k r} hr=>by
   obtain⟨x,M',U,h2⟩:=h hr;exact⟨x,M',U,h2,λids hi=>by cases hi⟩,trivial⟩
def aBK{test:ak->aF->Bool}(h:∀{args M k r},run args M k=some r->∃x M',wH X g args M x M'/\k x M'=some r):
 yX X ⟨g,test,λ_ M=>some (List.range M.length),λargs M k=>run args M λx M'=>bf (Nat.ble M.length M'.length) (k x M')⟩:=by
 intro args M k r hr;obtain⟨x,M',U,h2⟩:=h hr;replace h2:=cO h2;obtain⟨hle,h2⟩:=h2;refine⟨x,M',U,h2,λids hi=> ?_⟩;injection hi with hi;subst hi;exact⟨zI hle,λi hi hn=>absurd (Bf.2 hi) hn⟩
def FN:List (Nat×TypeId)->ak->ak
 | [],xs=>xs
 |p::ps,xs=>FN ps (match xs[p.1]? with|some .jI =>xs.set p.1 (.ae p.2 [])|_=>xs)
def agv{ρ:bJ}{F:bD}{w:World}{vs:gz}:∀(ps:List (Nat×TypeId)) {xs:ak},dm X.K ρ F w xs vs->dm X.K ρ F w (FN ps xs) vs
 | [],xs,h=>h
 |p::ps,xs,h=>by
  refine agv ps ?_;split
  ·rename_i hx;refine⟨by simp [h.1],λj y v hy hv=> ?_⟩
   by_cases e:j=p.1
   ·subst e;have cH:p.1<xs.length:=(fK.1 hx).1;rw [uf cH]at hy;injection hy with hy;subst hy;have:=h.2 p.1 _ v hx hv;cases this;exact .ng _
   ·rw [mW (Ne.symm e)]at hy;exact h.2 j y v hy hv
  ·exact h
def aCJ{e:CE R}(h:yX X e)(ps:List (Nat×TypeId))(test:ak->aF->Bool):yX X ⟨e.f,test,λargs M=>e.wr (FN ps args) M,λargs M k=>e.run (FN ps args) M k⟩:=by
 intro args M k r hr;obtain⟨x,M',U,h2,h3⟩:=h hr;exact⟨x,M',⟨U.1,λ{w0 S F ρ w vs} hI hv=>U.2 hI (agv ps hv)⟩,h2,h3⟩
end
noncomputable section
variable {X:Cx}
variable{P:Program}
def aEO:TI:=⟨false,.other,0,0,[],[]⟩
def xK:List (Nat×TI)->Nat->TI
 | [],_=>aEO
 |e::es,t=>match Nat.beq t e.1 with|true=>e.2|false=>xK es t
def am6:List (Nat×Site)->Nat->Site
 | [],_=>⟨0,#[],.skip,.skip⟩
 |e::es,t=>match Nat.beq t e.1 with|true=>e.2|false=>am6 es t
def Ri{l:List (Nat×TI)}(h:nB (λe=>e.2=DQ P e.1/\e.2.ok=true) l)(t:Nat):((xK l t).ok =true->xK l t=DQ P t)/\((xK l t).ok =false->(xK l t).ks =[]):=by
 induction l with
 |nil=>exact⟨λh=>(aD),λ_=>rfl⟩
 |cons e es ih=>
  simp only [xK];cases hb:Nat.beq t e.1 with
  |true=>
   have:=dX hb;subst this;exact⟨λ_=>h.1.1,λhf=>(by have:=h.1.2;rw [hf]at this;cases this)⟩
  |false=>exact ih h.2
def alF:List (Nat×Nat)->Nat->Nat->Bool
 | [],_,_=>false
 |e::es,d,t=>match Nat.beq d e.1&&Nat.beq t e.2 with|true=>true|false=>alF es d t
def DD:dx->Nat->Bool
 | [],_=>false
 |e::es,t=>match Nat.beq t e with|true=>true|false=>DD es t
def aAs{l:dx}(h:nB (λe=>Kf P e=true) l)(t:Nat)(ht:DD l t=true):Kf P t=true:=by
 induction l with
 |nil=>cases ht
 |cons e es ih=>
  simp only [DD]at ht;cases hb:Nat.beq t e with
  |true=>
   have:=dX hb;subst this;exact h.1
  |false=>rw [hb]at ht;exact ih h.2 ht
def alike_refl(a:TI):TI.alike a a:=⟨rfl,rfl,rfl,rfl,rfl,rfl⟩
def aEH{P:Program}{l:List (Nat×TI)}{s:Nat->Site}{el:dx}{gl:Nat->AV}{vw:Nat->TypeId->Bool}{ub:Option Ub}{dV:Option (Nat×Array Value)}(EL:∀u,ub=some u->aqb P u)(hgl:∀g,gl g= .top ∨(gl g).pure =true)(hm:P.follows .mixedOrders =true)(h:nB (λe=>e.2=DQ P e.1/\e.2.ok=true) l)(he:nB (λe=>Kf P e=true) el):(⟨P,xK l,s,gl,DD el,true,vw,ub,dV⟩:Cx).Ok where
 eqs:=aAs he
 facts:=λ{t} ht=>ayG (X:=⟨P,xK l,s,gl,DD el,true,vw,ub,dV⟩) (by rw [show(Cx.ti ⟨P,xK l,s,gl,DD el,true,vw,ub,dV⟩ t)=xK l t from rfl,(Ri h t).1 ht];exact alike_refl _) ht
 mixed:=hm
 bad:=λt=>(Ri h t).2
 kz:=hgl
 alG:=λ_=>ayF (X:=⟨P,xK l,s,gl,DD el,true,vw,ub,dV⟩) (λt=>(Ri h t).1) (λt=>(Ri h t).2)
 ub:=EL
 pkt:=rfl
def aDp{t:TypeId}(h:(match P.info? t with|some j=> !Nat.beq j.size 0|none=>false)=true):∃j,P.info? t=some j/\j.size≠0:=by
 split at h
 ·rename_i j hj;exact⟨j,hj,λe=>by rw [e]at h;simp at h⟩
 ·exact aD
def enters{f:FuncId}{fn:Func}{c:Code}(hf:P.funcs[f]?=some fn)(hb:fn.body=some c)(hn:(fn.name== "runtime.NumGoroutine")=false)(vs:Array Value)(w:World):(callFunc f vs).run P w= .ok (.enter f vs) w:=by
 have hp:(program).run P w= .ok P w:=rfl;have hn':fn.name≠ "runtime.NumGoroutine" :=by simpa using hn
 simp [callFunc,gh,hp,Result.andThen,hf,hn',hb]
end
end Go.aj
namespace Go.aj
def Bw{p:Prop}(h:p:=by simp [DataW.TrodAll]at h):p:=h
def kg{p:Prop}(h:p:=by rw [this];rfl):p:=h
def ak2{p:Prop}(h:p:=by
 subst this;exact⟨[],⟨by simp [dm],rfl,λx hx=>by simp at hx⟩,qy _⟩):p:=h
def ak1{p:Prop}(h:p:=by
 rw [mE]at hx;rcases hx with hx|hx
 ·exact a3 x hx
 ·exact b3 x hx):p:=h
def akX{p:Prop}(h:p:=by
 have:=f.mi;rw [f.u]at hu;cases d<;>simp_all [ph]):p:=h
def akq{p:Prop}(h:p:=by
 rw [zd];simp only [pS,Ro,IT,ahG];omega):p:=h
def ake{p:Prop}(h:p:=by
 have:=dm.append a1 b1
 rwa [<-Zi,RK]at this):p:=h
end Go.aj
namespace Go.aj
def RK:=@List.take_append_drop
def Mu:=@List.sum_cons
def ahH:=@Go.World.block_lt_of_cell?
def ahG:=@Function.comp_def
def Zh:=@Option.map_eq_some_iff
def ahF:=@List.length_eq_one_iff
end Go.aj
namespace Go.aj
open Go Go.ChangeShapes Go.WideShapes Go.ChangeAt Go.RowKit
noncomputable section
variable {X:Cx}
variable{H:Type}{t:TypeId}{enc:TypeId×Value->H}{v:Value}{S:tu}
inductive Wf(K:TypeId->er):AV->Prop
 |int(k:IntKind)(n:Int)(h:(Lit.int k n).wf =true):Wf K (.int k n)
 |bool(b:Bool):Wf K (.bool b)
 |str(s:ByteArray)(h:s.size<=maxLen):Wf K (.str s)
 |ae(t:TypeId)(xs:aY)(hl:xs.length<=maxLen)(hk:∀row∈xs,cZ (K t) row=true)(h:∀row∈xs,∀x∈row,Wf K x):Wf K (.ae t xs)
def WfL(K:TypeId->er)(row:Row):Prop:=∀x∈row,Wf K x
mutual
def rG:AV->Nat
 | .ae _ xs=>fI xs+1
 |_=>1
def dW:ak->Nat
 | []=>0
 |x::xs=>rG x+dW xs
def fI:List ak->Nat
 | []=>0
 |r::rs=>dW r+fI rs
end
mutual
def pS{H:Type}:DataW H->Nat
 | .slice e s=>vB e+vB s+1
 | .agg p=>vB p+1
 |_=>1
def vB{H:Type}:List (DataW H)->Nat
 | []=>0
 |d::r=>pS d+vB r
end
def aBv(x:AV):1<=rG x:=by cases x<;>simp [rG]
def aiP:∀row:ak,row.length<=dW row
 | []=>qy _
 |x::xs=>by have:=aiP xs;have:=aBv x;simp only [dW,fk];omega
def Yy:∀a b:ak,dW (a++b)=dW a+dW b
 | [],b=>by simp [dW]
 |x::a,b=>by simp only [hY,dW,Yy a b];omega
def R4(d:DataW H):1<=pS d:=by cases d<;>simp [pS]
def Ro{H:Type}:∀l:List (DataW H),vB l=(l.map pS).sum
 | []=>rfl
 |d::l=>by simp only [vB,jG,Mu,Ro l]
def ajs:∀{rs:List ak} {ns:dx},rs.length=ns.length->(∀(i:Nat) r n,rs[i]?=some r->ns[i]?=some n->dW r<=n)->fI rs<=ns.sum
 | [],[],_,_=>iZ _
 |r::rs,n::ns,hl,h=>by
  have:=h 0 r n rfl rfl;have:=ajs (rs:=rs) (ns:=ns) (uo) λi r' n' U h2=>h (i+1) r' n' (xO) (uq);simp only [fI,Mu];omega
 | [],_::_,hl,_=>by simp at hl
 |_::_,[],hl,_=>by simp at hl
def MS(X:Cx):Nat->List (Nat×TypeId)->Nat->Bool
 |o,[],n=>o==n
 |o,f::fs,n=>f.1==o&&MS X (o+(X.ti f.2).size) fs n
def Kt(X:Cx)(S:tu)(t:TypeId):Bool:=
 (X.ti t).ok &&match(X.ti t).u with
   | .int k=>(X.ti t).ks == [.int k]
   | .bool =>(X.ti t).ks == [.bool]
   | .str =>(X.ti t).ks == [.str]
   | .slice e=>(X.ti t).ks == [.slice e]&&S.contains e&&Nat.blt 0 (X.ti e).size
   | .struct fs=>(X.ti t).ks ==fs.flatMap (λf=>(X.ti f.2).ks)&&MS X 0 fs (X.ti t).size &&fs.all (λf=>S.contains f.2)
   | .array m e=>(X.ti t).ks ==(List.replicate m (X.ti e).ks).flatten &&S.contains e&&(m*(X.ti e).size ==(X.ti t).size)
   |_=>false
def mP(X:Cx)(S:tu):Bool:=S.all (Kt X S)
def aay(h:mP X S=true)(ht:S.contains t=true):Kt X S t=true:=by
 unfold mP at h;exact mz.1 h t (MY)
def Yl:∀{ks ls:er} {r s:Row},cZ ks r=true->cZ ls s=true->cZ (ks++ls) (r++s)=true
 | [],_,[],_,_,h=>h
 |k::ks,ls,x::r,s,h,h'=>by
  simp only [cZ,bw]at h;simp only [hY,cZ,bw];exact⟨h.1,Yl h.2 h'⟩
 | [],_,_::_,_,h,_=>FP
 |_::_,_,[],_,h,_=>FP
section
variable {w:World} {ρ:bJ}
def there(w:World)(a:Addr):Prop:=a.block<w.heap.size
def Reads(X:Cx)(ρ:bJ)(w:World)(ks:er)(cs:gz)(row:Row):Prop:=dm X.K ρ (there w) w row cs/\cZ ks row=true/\WfL X.K row
def agd{cs:gz}:∀(fs:List (Nat×TypeId)) (ns:dx) (o:Nat),fs.length=ns.length->o<=cs.length->MS X o fs cs.length=true->(∀f∈fs,(X.ti f.2).ks.length =(X.ti f.2).size)->
 (∀(j:Nat) f n,fs[j]?=some f->ns[j]?=some n->∃row,Reads X ρ w (X.ti f.2).ks ((cs.drop f.1).take (X.ti f.2).size) row/\dW row<=n)->∃row,Reads X ρ w (fs.flatMap λf=>(X.ti f.2).ks) (cs.drop o) row/\dW row<=ns.sum
 | [],ns,o,_,ho,h,_,_=>by
   have:o=cs.length:=by simpa [MS]using h
   exact ak2
 |_::_,[],_,hl,_,_,_,_=>by simp at hl
 |f::fs,n::ns,o,hl,ho,h,lN,hr=>by
  simp only [MS,bw,iU]at h;obtain⟨U,h2⟩:=h;obtain⟨r1,⟨a1,a2,a3⟩,an⟩:=hr 0 f n rfl rfl;rw [U]at a1;have gY:((cs.drop o).take (X.ti f.2).size).length =(X.ti f.2).size :=by rw [a1.1,kS a2];exact lN f (by simp)
  have ho2:o+(X.ti f.2).size <=cs.length:=by simp at gY;omega
  obtain⟨r2,⟨b1,b2,b3⟩,bn⟩:=agd fs ns (o+(X.ti f.2).size) (uo) ho2 h2 (λg hg=>lN g (by simp [hg])) (λj g m hg hm=>hr (j+1) g m (by simpa using hg) (M3));refine⟨r1++r2,⟨?_,?_,λx hx=> ?_⟩,by rw [Yy,Mu];omega⟩
  ·exact ake
  ·simp only [zF];exact Yl a2 b2
  ·exact ak1
def agy{cs:gz}{ks:er}{sz:Nat}(lN:ks.length=sz):∀(ns:dx) (o:Nat),o+ns.length*sz=cs.length->(∀(i:Nat) n,ns[i]?=some n->∃row,Reads X ρ w ks ((cs.drop (o+i*sz)).take sz) row/\dW row<=n)->∃row,Reads X ρ w (List.replicate ns.length ks).flatten (cs.drop o) row/\dW row<=ns.sum
 | [],o,ho,_=>by
   have:o=cs.length:=by simpa using ho
   exact ak2
 |n::ns,o,ho,hr=>by
  obtain⟨r1,⟨a1,a2,a3⟩,an⟩:=hr 0 n rfl;simp only [Nat.zero_mul,A9]at a1;rw [fk]at ho;have e1:(ns.length+1)*sz=ns.length*sz+sz:=Nat.succ_mul _ sz;obtain⟨r2,⟨b1,b2,b3⟩,bn⟩:=agy (cs:=cs) lN ns (o+sz) (by omega) (λi m hi=>by
   have:=hr (i+1) m (Jj);have e2:(i+1)*sz=i*sz+sz:=Nat.succ_mul i sz;rw [e2,show o+(i*sz+sz)=o+sz+i*sz by omega]at this;exact this)
  refine⟨r1++r2,⟨?_,?_,λx hx=> ?_⟩,by rw [Yy,Mu];omega⟩
  ·exact ake
  ·simp only [fk,Rv,mY];exact Yl a2 b2
  ·exact ak1
def Mn{k:Kind}{x:AV}(hr:a8 X.K ρ (there w) w x v)(hk:kF k x=true)(hw:Wf X.K x):Reads X ρ w [k] [v] [x]:=
 ⟨⟨rfl,λj y u hy hu=>by
   cases j with
   |zero=>simp at hy hu;subst hy;subst hu;exact hr
   |succ j=>simp at hy⟩,by simp [cZ,hk],λy hy=>by simp at hy;subst hy;exact hw⟩
def QE(hX:X.Ok){S:tu}(hS:mP X S=true){H:Type}{enc:TypeId×Value->H}:∀(n:Nat) {fuel:Nat} {t:TypeId} {cs:gz} {x:DataW H×List MemPlace},fuel<n->S.contains t=true->
 DataW.trod enc X.P w 0 (λ_=>true) true fuel t cs=some x->∃row,Reads X ρ w (X.ti t).ks cs row/\dW row<=pS x.1
 |0,_,_,_,_,h,_,_=>absurd h (Nat.not_lt_zero _)
 |n+1,fuel,t,cs,x,hfu,ht,hx=>by
  have h:=aay hS ht;simp only [Kt,bw]at h;obtain⟨bB,h⟩:=h;obtain⟨i,d,z,f⟩:=hX.facts bB;have sN:∀t',(X.ti t').ok =true->X.P.cellsOf t'=(X.ti t').size :=λt' ac2=>by
   obtain⟨i',d',z',f'⟩:=hX.facts ac2;simp [Program.cellsOf,f'.info,f'.size]
  have hlen:∀t',(X.ti t').ok =true->(X.ti t').ks.length =(X.ti t').size :=λt' ac2=>by
   obtain⟨i',d',z',f'⟩:=hX.facts ac2;rw [f'.ks,f'.size]
  have Uk:∀{t'},S.contains t'=true->(X.ti t').ok =true:=λ{t'} hm=>by
   have:=aay hS hm;simp only [Kt,bw]at this;exact this.1
  split at h
  ·rename_i k hu;have hk:(X.ti t).ks =[.int k]:=qc;obtain⟨m,rfl,_,hwf⟩:=DataW.trod_int (f.api hu) hx;rw [hk];exact⟨_,Mn (.int k m) (by simp [kF]) (.int k m hwf),R4 x.1⟩
  ·rename_i hu;have hk:(X.ti t).ks =[.bool]:=qc;have dN:X.P.underlying t=some .bool :=akX;obtain⟨b,rfl,_⟩:=DataW.trod_bool dN hx;rw [hk];exact⟨_,Mn (.bool b) rfl (.bool b),R4 x.1⟩
  ·rename_i hu;have hk:(X.ti t).ks =[.str]:=qc;have dN:X.P.underlying t=some .string :=akX;obtain⟨s,rfl,_,hs⟩:=DataW.trod_string dN hx;rw [hk];exact⟨_,Mn (.str s) rfl (.str s hs),R4 x.1⟩
  ·rename_i e hu;simp only [bw,iU]at h;obtain⟨⟨hk,oP⟩,rm⟩:=h;have rm:0<(X.ti e).size :=by simpa using rm
   have N1:=Uk oP;rcases DataW.trod_slice (f.slice hu) hx with⟨rfl,_⟩|⟨a,len,cap,elems,rest,m,hfm,rfl,zd,_,nJ,Pe,hel,abV,_,_⟩
   ·rw [hk];exact⟨_,Mn (.ng e) (by simp [kF]) (.ae e [] (by simp) (λrow h=>gU) (λrow h=>gU)),R4 x.1⟩
   ·rw [hk];have each:∀i,i<len->∃vs row,w.cells? 0 (a.add (i*(X.ti e).size)) (X.ti e).size =some vs/\Reads X ρ w (X.ti e).ks vs row/\∀n,(elems.map λd=>pS d.1)[i]?=some n->dW row<=n:=by
     intro i hi;have:=abV i hi;rw [sN e N1,dy (by omega)]at this;rw [Option.bind_eq_some_iff]at this;obtain⟨vs,U,h2⟩:=this;obtain⟨row,h3,h4⟩:=QE hX hS n (by omega) oP h2;exact⟨vs,row,U,h3,λm hm=>by
      rw [kG,dy (by omega)]at hm;cases hm;exact h4⟩
    have hch:∃g:Nat->gz×Row,∀i,i<len->w.cells? 0 (a.add (i*(X.ti e).size)) (X.ti e).size =some (g i).1 /\Reads X ρ w (X.ti e).ks (g i).1 (g i).2 /\∀n,(elems.map λd=>pS d.1)[i]?=some n->dW (g i).2 <=n:=by
     refine⟨λi=>if hi:i<len then((each i hi).choose,(each i hi).choose_spec.choose)else([],[]),λi hi=> ?_⟩;simp only [hi,dif_pos];exact(each i hi).choose_spec.choose_spec
    obtain⟨g,hg⟩:=hch;have tV:=hlen e N1;have AK:((List.range len).map λi=>(g i).2).length =len:=by simp
    have rep:=a8.ae (K:=X.K) (ρ:=ρ) (F:=there w) (w:=w) e ((List.range len).map λi=>(g i).2) a cap ((List.range len).map λi=>(g i).1) (by simp) (by simpa using nJ) Pe
     (λi row hi=>by
       have cH:i<len:=S8;simp only [kG,wz cH,nN,Option.some.injEq]at hi;subst hi;exact(hg i cH).2.1.2.1)
     (λi vs hi=>by
       have cH:i<len:=S8;simp only [kG,wz cH,nN,Option.some.injEq]at hi;subst hi;obtain⟨c1,c2,_⟩:=hg i cH;have EK:(g i).1.length =(X.K e).length :=by rw [c2.1.1,kS c2.2.1];rfl
       refine⟨EK,λj v hj=> ?_⟩;have EW:j<(X.ti e).size :=by have:=(fK.1 hj).1;rw [EK]at this;rw [<-tV];exact this
       have alQ:w.cell? (a.add (i*(X.K e).length +j))=some v:=by
        have abR:=World.cells?_some c1;obtain⟨_,abR⟩:=abR;have:=abR.2 j EW;rw [hj]at this;have e2:(X.K e).length =(X.ti e).size :=tV;rw [e2]
        rwa [Df]at this
       exact⟨alQ,ahH w _ alQ⟩)
     (λi row vs hi gj j y v hy hv=>by
       have cH:i<len:=S8;simp only [kG,wz cH,nN,Option.some.injEq]at hi gj;subst hi;subst gj;exact(hg i cH).2.1.1.2 j y v hy hv)
    rw [AK]at rep;refine⟨_,Mn rep (by simp [kF]) (.ae e _ (by rw [AK];omega) (λrow jx=> ?_) λrow jx y hy=> ?_),?_⟩
    ·obtain⟨i,hi,rfl⟩:=xA.1 jx;exact(hg i (Bf.1 hi)).2.1.2.1
    ·obtain⟨i,hi,rfl⟩:=xA.1 jx;exact(hg i (Bf.1 hi)).2.1.2.2 y hy
    ·have:=ajs (rs:=(List.range len).map λi=>(g i).2) (ns:=elems.map λd=>pS d.1) (by simp [hel]) λi r n U h2=>by
      have cH:i<len:=by have:=(fK.1 U).1;simpa using this
      simp only [kG,wz cH,nN,Option.some.injEq]at U;subst U;exact(hg i cH).2.2 n h2
     rw [zd];simp only [pS,Ro,IT,dW,rG,ahG];omega
  ·rename_i fs hu;simp only [bw,iU]at h;obtain⟨⟨hk,BQ⟩,jP⟩:=h;obtain⟨gs,dN,rfl⟩:=f.struct hu;obtain⟨xs,m,hfm,zd,fh,Ch,aC2⟩:=DataW.trod_struct dN hx;rw [hk];rw [sN t bB]at fh;have:=agd (X:=X) (ρ:=ρ) (w:=w) (cs:=cs) (gs.toList.map λf=>(f.offset,f.type)) (xs.map λd=>pS d.1) 0 (by simp [Ch]) (qy _) (by rw [fh];exact BQ)
    (λg hg=>hlen _ (Uk (mz.1 jP g hg))) (λj g k hg hn=>by
      have oP:=mz.1 jP g (rU hg);rw [kG,Zh]at hg;obtain⟨q,hq,rfl⟩:=hg;have AN:gs[j]?=some q:=by simpa using hq
      have hf:=aC2 j q AN;rw [sN _ (Uk oP)]at hf;rw [kG,Zh]at hn;obtain⟨y,hy,rfl⟩:=hn;rw [hy]at hf;exact QE hX hS n (by omega) oP hf)
   obtain⟨row,U,h2⟩:=this;refine⟨row,xO,?_⟩;exact akq
  ·rename_i m e hu;simp only [bw,iU]at h;obtain⟨⟨hk,oP⟩,hmul⟩:=h;have N1:=Uk oP;obtain⟨xs,m',hfm,zd,fh,Ch,abV⟩:=DataW.trod_array (f.array hu) hx;rw [hk];rw [sN t bB]at fh;have:=agy (X:=X) (ρ:=ρ) (w:=w) (cs:=cs) (hlen e N1) (xs.map λd=>pS d.1) 0 (by rw [fY,Ch];omega) (λi k hi=>by
    rw [kG,Zh]at hi;obtain⟨y,hy,rfl⟩:=hi;have hf:=abV i (aa2);rw [sN _ N1,hy]at hf;simpa using QE hX hS n (by omega) oP hf)
   obtain⟨row,U,h2⟩:=this;rw [fY,Ch]at U;refine⟨row,xO,?_⟩;exact akq
  ·exact aD
end
def aci(X:Cx)(t:TypeId)(x:AV):Prop:=((X.ti t).u.agg =true/\∃row,x= .agg row/\cZ (X.ti t).ks row=true/\WfL X.K row)∨((X.ti t).u.agg =false/\cZ (X.ti t).ks [x]=true/\Wf X.K x)
def KB:AV->Nat
 | .agg row=>dW row
 |x=>rG x
def NX(xs:ak):Nat:=(xs.map KB).sum
def ax7(hX:X.Ok)(hS:mP X S=true){w:World}{base:Nat}{ρ:bJ}{d:DataW H}{ps:List MemPlace}(oP:S.contains t=true)(h:DataW.Trod enc X.P w 0 (λ_=>true) true t v d ps)
 (bB:Value.okWide X.P w .any base t v):∃x,(aci X t x/\KB x<=pS d)/\a8 X.K ρ (there w) w x v:=by
 obtain⟨fuel,h⟩:=h;obtain⟨row,hr,hn⟩:=QE hX hS (ρ:=ρ) (fuel+1) (by omega) oP h;have xp:=aay hS oP;have AL:(X.ti t).ok =true:=by
  simp only [Kt,bw]at xp;exact xp.1
 obtain⟨i,dd,z,f⟩:=hX.facts AL;cases gZ:(X.ti t).u.agg with
 |true=>
  have hv:∃cs,v= .agg cs:=by
   unfold Value.okWide at bB;rw [f.mi]at bB;rw [f.u]at gZ;cases dd<;>simp [ph,zt.agg]at gZ
   ·obtain⟨cs,U,_⟩:=bB;exact⟨cs,U⟩
   ·obtain⟨cs,U,_⟩:=bB;exact⟨cs,U⟩
  obtain⟨cs,rfl⟩:=hv;have hc:(Value.agg cs).cells.toList =cs.toList:=rfl;rw [hc]at hr;refine⟨.agg row,⟨.inl ⟨gZ,row,rfl,hr.2.1,hr.2.2⟩,hn⟩,?_⟩;have:=a8.agg (K:=X.K) (ρ:=ρ) (F:=there w) (w:=w) row cs.toList hr.1.1 hr.1.2;exact sI
 |false=>
  have tV:(X.ti t).ks.length =1:=by
   simp only [Kt,bw]at xp;have h2:=xp.2;split at h2
   ·rename_i k hu;have:(X.ti t).ks =[.int k]:=uq;exact kg
   ·have:(X.ti t).ks =[.bool]:=by simpa using h2
    exact kg
   ·have:(X.ti t).ks =[.str]:=by simpa using h2
    exact kg
   ·simp only [bw,iU]at h2;rw [h2.1.1];rfl
   ·rename_i hu;rw [hu]at gZ;simp [zt.agg]at gZ
   ·rename_i hu;rw [hu]at gZ;simp [zt.agg]at gZ
   ·cases h2
  have uM:=kS hr.2.1;rw [tV]at uM;obtain⟨x,rfl⟩:=ahF.1 uM;have fh:v.cells.toList.length=1:=by rw [hr.1.1,uM]
  have hv:v.cells.toList=[v]:=by
   cases v with
   |agg cs=>
    exfalso;unfold Value.okWide at bB;rw [f.mi]at bB;rw [f.u]at gZ;cases dd<;>simp [ph,zt.agg]at gZ<;>simp [Cell.okWide,Cell.ok,f.mi]at bB
   |_=>rfl
  rw [hv]at hr;have hw:=hr.2.2 x (by simp);exact⟨x,⟨.inr ⟨gZ,hr.2.1,hw⟩,by cases hw<;>simpa [KB,dW]using hn⟩,hr.1.2 0 x v rfl rfl⟩
def ayy{w0 w:World}{F:bD}{ρ:bJ}{M:aF}{F0:bD}(hI:Inv X w0 ⟨λ_=>False,F0⟩ F ρ M w):Below w0.heap.size w0 w:=
 ⟨hI.os,hI.tape,hI.output,hI.size,λk hk=>hI.frame k hk (λh=>h)⟩
def axC{w w':World}(h:Below w.heap.size w w')(may:MemPlace->Prop):w.keptBut w' may:=by
 refine⟨h.os,h.output,λi hi=> ?_⟩;rw [h.block i hi];exact(World.keptBut_refl w may).2.2 i hi
def azN(hX:X.Ok)(w:World)(hg:∀g,a8 X.K [] (there w) w (X.kz g) (.pointer (some ⟨g,0,none⟩)))(hta:Gn X (there w) w):Inv X w ⟨λ_=>False,there w⟩ (there w) [] [] w where
 os:=rfl
 tape:=rfl
 output:=rfl
 size:=iZ _
 frame:=λ_ _ _=>rfl
 len:=rfl
 rep:=λid b hd hb _=>by simp at hb
 sep:=λid b hd g hb _ _ _=>by simp at hb
 mC:=λid id' b b' hd dS g _ hb _ _ _ _ _ _=>by simp at hb
 fz:=λa ha=>ha
 kz:=hg
 dV:=hta
 one:=λid hd hh=>by simp at hh
 jS:=λa ha=> .inl ha
 fin:=λa ha=>ha
def Tg(X:Cx):tu->ak->Prop
 | [],[]=>True
 |t::ts,x::xs=>aci X t x/\Tg X ts xs
 |_,_=>False
def afR(hX:X.Ok){S:tu}(hS:mP X S=true){w:World}{base:Nat}{ρ:bJ}{H:Type}{enc:TypeId×Value->H}:∀{ts:tu} {vs:gz} {ds:List (DataW H)} {ps:List MemPlace},(ts.all S.contains)=true->
 DataW.TrodAll enc X.P w 0 (λ_=>true) true ts vs ds ps->(∀(j:Nat) t v,ts[j]?=some t->vs[j]?=some v->Value.okWide X.P w .any base t v)->∃xs,(Tg X ts xs/\NX xs<=vB ds)/\dm X.K ρ (there w) w xs vs
 | [],[],[],ps,_,_,_=>⟨[],⟨trivial,iZ _⟩,by simp [dm]⟩
 |t::ts,v::vs,d::ds,ps,oP,h,bB=>by
  obtain⟨p,q,U,h2,_⟩:=h;simp only [Dg,bw]at oP;obtain⟨x,⟨hx,hn⟩,hr⟩:=ax7 hX hS (ρ:=ρ) oP.1 U (bB 0 t v rfl rfl);obtain⟨xs,⟨AK,xq⟩,uL⟩:=afR hX hS (ρ:=ρ) (ts:=ts) (vs:=vs) oP.2 h2 (λj t' v' ht hv=>bB (j+1) t' v' (MY) (by simpa using hv));refine⟨x::xs,⟨⟨hx,AK⟩,by simp only [NX,jG,Mu,vB]at xq⊢;omega⟩,by simp [uL.1],λj y u hy hu=> ?_⟩;cases j with
  |zero=>simp at hy hu;subst hy;subst hu;exact hr
  |succ j=>simp at hy hu;exact uL.2 j y u hy hu
 | [],[],_::_,_,_,h,_=>Bw
 | [],_::_,_,_,_,h,_=>Bw
 |_::_,[],_,_,_,h,_=>Bw
 |_::_,_::_,[],_,_,h,_=>Bw
def afH{P:Program}{H:Type}{enc:TypeId×Value->H}(hl:laidOutB P=true){w w':World}(hb:Below w.heap.size w w'):∀{ts:tu} {vs:gz} {ds:List (DataW H)} {ps:List MemPlace},(ts.all λt=>P.readableRec t&&Nat.blt t P.types.size)=true->
 DataW.TrodAll enc P w 0 (λ_=>true) true ts vs ds ps->(∀x∈ps,x.block<w.heap.size)->DataW.TrodAll enc P w' 0 (λb=>decide (b<w.heap.size)) true ts vs ds ps
 | [],[],[],ps,_,h,_=>h
 |t::ts,v::vs,d::ds,ps,oP,h,cH=>by
  obtain⟨p,q,U,h2,rfl⟩:=h;simp only [Dg,bw]at oP;exact⟨p,q,Below.trod hl oP.1.1 (by simpa using oP.1.2) U hb (λx hx=>cH x (by simp [hx])),afH hl hb (ts:=ts) (vs:=vs) oP.2 h2 (λx hx=>cH x (by simp [hx])),rfl⟩
 | [],[],_::_,_,_,h,_=>Bw
 | [],_::_,_,_,_,h,_=>Bw
 |_::_,[],_,_,_,h,_=>Bw
 |_::_,_::_,[],_,_,h,_=>Bw
def axB(hX:X.Ok)(hl:laidOutB X.P=true){f:FuncId}{fn:Func}{s:ChangeSpec}{ts:tu}{tb:TypeId}(hts:fn.params.toList=ts)(zg:fn.resultTypes= #[tb]) (htb:X.P.underlying tb=some .bool)
  (hS:mP X S=true) (oP:(ts.all S.contains)=true) (hrr:(ts.all λt=>X.P.readableRec t&&Nat.blt t X.P.types.size)=true) (hv:s.vars=[])  
 (hs:∀ds:List (DataW H),ds.length=ts.length->s.fn H ds={results:=[.lit (.bool true)],args:=ds})
 (W:World) (hg:∀g,a8 X.K [] (there W) W (X.kz g) (.pointer (some ⟨g,0,none⟩))) (hta:Gn X (there W) W) (base:Nat) (args:Array Value) (ds gs:List (DataW H)) (before:List MemPlace) (J8:∀(j:Nat) t v,fn.params[j]?=some t->args[j]?=some v->Value.okWide X.P W .any base t v)
 (hW:DataW.Whole enc X.P fn.params.toList s.vars false W args.toList ds gs before)
 (aKR:∀xs,Tg X ts xs->NX xs<=vB ds->∃m M',yF X f m xs [] (.bool true) M'):
 Calls X.P f args W λe W'=>∃v,e= .returned v/\s.post enc X.P fn false true false false W args v W':=by
 have hW':=hW;obtain⟨p,q,hA,hV,hpq,KR,ES⟩:=hW;rw [hv]at hV;obtain⟨rfl,rfl⟩:=trodVars_none hV;rw [rV]at hpq;have aKJ:p=before:=hpq.symm;subst aKJ;have Vu:=hA;rw [hts]at hA;have hlen:ds.length=ts.length:=by
  have:∀(ts:tu) (vs:gz) (ds:List (DataW H)) (ps:List MemPlace),DataW.TrodAll enc X.P W 0 (λ_=>true) true ts vs ds ps->ds.length=ts.length:=by
   intro ts
   induction ts with
   |nil=>intro vs ds ps h;cases vs<;>cases ds<;>simp_all [DataW.TrodAll]
   |cons t ts ih=>
    intro vs ds ps h;cases vs with
    |nil=>cases ds<;>simp [DataW.TrodAll]at h
    |cons v vs=>
     cases ds with
     |nil=>exact Bw
     |cons d ds=>obtain⟨_,_,_,h2,_⟩:=h;simp [ih _ _ _ h2]
  exact this _ _ _ _ hA
 obtain⟨xs,⟨AK,Vf⟩,nm⟩:=afR hX hS (ρ:=[]) oP hA (λj t v ht hv=>J8 j t v (by rw [<-hts]at ht;simpa using ht) (by simpa using hv));obtain⟨m,M',Bz⟩:=aKR xs AK Vf;have:=Bz (azN hX W hg hta) nm;refine this.mono ?_;rintro e W' ⟨v,ρ',F',rfl,hI,_,hr⟩;refine⟨v,rfl,?_⟩;cases hr;have hb:=ayy hI;have cH:∀x∈p,x.block<W.heap.size:=λx hx=>by simpa using hW'.lt x hx
 have Pa:s.fn H (ds++[])={results:=[.lit (.bool true)],args:=ds}:=by rw [rV];exact hs ds hlen
 refine⟨ds,[],p,[],p,[],hW',?_,?_,?_,axC hb _,λh=>aD⟩
 ·rw [Pa,zg];exact trodAll_mk1 (shut_bool htb true)
 ·rw [Pa];rw [hts];exact afH hl hb hrr hA cH
 ·rw [Pa,hv];exact rfl
end
end Go.aj

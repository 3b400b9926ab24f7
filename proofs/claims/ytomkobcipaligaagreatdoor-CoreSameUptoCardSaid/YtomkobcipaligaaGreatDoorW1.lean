/-
  The engine, part N: lists of operations; what is known of a frame.
-/
import Derived.RangeFuncRecord
import Derived.WalkKit
import Derived.Below
import Derived.DataElems
import Derived.ChangeKeysEq
import Derived.Laws.StructEq
import Derived.WalkSpells
import Derived.MapKept
import Derived.Lib.UnsafeStr
import Derived.Lib.Builder
import Derived.Laws.Externs
import Derived.OrdersIn
set_option linter.all false
set_option linter.deprecated false
set_option maxHeartbeats 4000000
namespace Go.aj
def gU{p:Prop}(h:p:=by simp at h):p:=h
def uo{p:Prop}(h:p:=by simpa using hl):p:=h
def S2{p:Prop}(h:p:=by have:=(fK.1 hx).1;omega):p:=h
def FP{p:Prop}(h:p:=by simp [cZ]at h):p:=h
def aa2{p:Prop}(h:p:=by have:=(fK.1 hy).1;omega):p:=h
def M4{p:Prop}(h:p:=by simpa using hk):p:=h
def MZ{p:Prop}(h:p:=by simpa using hx):p:=h
def MX{p:Prop}(h:p:=by simp at h;subst h;simp):p:=h
end Go.aj
namespace Go.aj
def fK:=@List.getElem?_eq_some_iff
def dy:=@List.getElem?_eq_getElem
def bw:=@Bool.and_eq_true
def ei:=@List.getElem_mem
def ZM:=@List.eq_of_mem_replicate
def zG:=@List.mem_flatMap
end Go.aj
namespace Go.aj
open Go
variable{F:Addr->Prop}{v:Value}{w:World}
inductive Kind where
 |int(k:IntKind)
 |bool
 |str
 |slice(t:TypeId)
 |raw
 |any
 deriving DecidableEq,Inhabited
variable{k:Kind}{ks:List Kind}
inductive AV where
 |top
 |int(k:IntKind)(n:Int)
 |bool(b:Bool)
 |str(s:ByteArray)
 |agg(cs:List AV)
 |eV(vs:List AV)
 |jh
 |kj(t:TypeId)(row:List AV)(off:Nat)
 |ptr(id i off:Nat)
 |ae(t:TypeId)(xs:List (List AV))
 |au(id:Nat)
 |jI
 |eJ(f:FuncId)(first gV:List AV)
 |nw
 |jz(id:Nat)
 |mp(id:Nat)
 |pI
 |oy(id n:Nat)
 |vw(id lo n:Nat)
 |mS
 deriving Inhabited
variable{x:AV}
abbrev Row:=List AV
variable{row:Row}
def AV.toI:AV->Int| .int _ n=>n|_=>0
def AV.toB:AV->Bool| .bool b=>b|_=>false
def AV.toS:AV->ByteArray| .str s=>s|_=>ByteArray.empty
def AV.rows:AV->List Row| .ae _ xs=>xs|_=>[]
def AV.cells:AV->List AV| .agg cs=>cs|x=>[x]
def AV.pure:AV->Bool| .int _ _| .bool _| .str _| .jh | .kj _ _ _| .ae _ _| .jI | .nw | .pI | .mS | .eJ _ [] []=>true|_=>false
def AV.vlo:AV->Nat| .vw _ lo _=>lo|_=>0
def AV.vn:AV->Nat| .vw _ _ n=>n|_=>0
def AV.plain:AV->Bool| .top | .eV _=>false|_=>true
def AV.leaf:AV->Bool| .agg _| .eV _| .top =>false|_=>true
def AV.shape:Bool->AV->Bool|true,.agg _=>true|false,x=>x.leaf|_,_=>false
def kF:Kind->AV->Bool
 | .int k,.int k' _=>k==k'
 | .bool,.bool _=>true
 | .str,.str _=>true
 | .slice t,.ae t' _=>t==t'
 | .raw,x=>x.leaf&&x.pure
 | .any,x=>x.leaf
 |_,_=>false
def ld:Kind->AV->AV
 | .int k,x=> .int k x.toI
 | .bool,x=> .bool x.toB
 | .str,x=> .str x.toS
 | .slice t,x=> .ae t x.rows
 | .raw,x=>x
 | .any,x=>x
def IC(h:kF k x=true):ld k x=x:=by
 cases k<;>cases x<;>simp_all [kF,ld,AV.toI,AV.toB,AV.toS,AV.rows]
def agC(h:kF k x=true):x.leaf=true:=by
 cases k<;>cases x<;>simp_all [kF,AV.leaf]
def cZ:List Kind->Row->Bool
 | [],[]=>true
 |k::ks,x::xs=>kF k x&&cZ ks xs
 |_,_=>false
def L8(hk:k≠ .any)(h:kF k x=true):x.pure=true:=by
 cases k<;>cases x<;>simp_all [kF,AV.leaf,AV.pure]
def kS:∀{ks:List Kind} {row:Row},cZ ks row=true->row.length=ks.length
 | [],[],_=>rfl
 | [],_::_,h=>FP
 |_::_,[],h=>FP
 |k::ks,x::xs,h=>by
  simp only [cZ,bw]at h;simp [kS h.2]
def xD:∀{ks:List Kind} {row:Row},cZ ks row=true->∀{j:Nat} {k:Kind} {x:AV},ks[j]?=some k->row[j]?=some x->kF k x=true
 | [],[],_,j,k,x,h,_=>gU
 | [],_::_,h,_,_,_,_,_=>FP
 |_::_,[],h,_,_,_,_,_=>FP
 |k::ks,x::xs,h,j,k',x',hk,hx=>by
  simp only [cZ,bw]at h;cases j with
  |zero=>simp at hk hx;subst hk;subst hx;exact h.1
  |succ j=>simp at hk hx;exact xD h.2 hk hx
def YV(h:cZ ks row=true){j:Nat}(hx:row[j]?=some x):x.leaf=true:=by
 have hl:=kS h;have hj:j<ks.length:=S2;exact agC (xD h (dy hj) hx)
def ZW(hl:row.length=ks.length)(h:∀(j:Nat) (k:Kind) (x:AV),ks[j]?=some k->row[j]?=some x->kF k x=true):cZ ks row=true:=by
 induction ks generalizing row with
 |nil=>cases row with|nil=>rfl|cons x xs=>simp at hl
 |cons k ks ih=>
  cases row with
  |nil=>simp at hl
  |cons x xs=>
   simp only [cZ,bw];exact⟨h 0 k x rfl rfl,ih (uo) λj k' x' hk hx=>h (j+1) k' x' (M4) (MZ)⟩
structure Hd where
 v:Value
 sz:Nat
variable{ρ ρ':List Hd}
def Value.fj:Value->Option Nat
 | .slice (some a) _ _=>some a.block
 | .map (some g)=>some g
 | .pointer (some a)=>some a.block
 |_=>none
def Hd.fj(h:Hd):Option Nat:=Value.fj h.v
inductive a8(K:TypeId->List Kind)(ρ:List Hd)(F:Addr->Prop)(w:World):AV->Value->Prop
 |top(v:Value):a8 K ρ F w .top v
 |int(k:IntKind)(n:Int):a8 K ρ F w (.int k n) (.int k n)
 |bool(b:Bool):a8 K ρ F w (.bool b) (.bool b)
 |str(s:ByteArray):a8 K ρ F w (.str s) (.string s)
 |agg(cs:List AV)(vs:List Value)(hl:vs.length=cs.length)(h:∀(j:Nat) x v,cs[j]?=some x->vs[j]?=some v->a8 K ρ F w x v):a8 K ρ F w (.agg cs) (.agg vs.toArray)
 |eV(cs:List AV)(vs:List Value)(hl:vs.length=cs.length)(h:∀(j:Nat) x v,cs[j]?=some x->vs[j]?=some v->a8 K ρ F w x v):a8 K ρ F w (.eV cs) (.tuple vs.toArray)
 |jh:a8 K ρ F w .jh (.pointer none)
 |kj(t:TypeId)(row:Row)(off:Nat)(a:Addr)(vs:List Value)(hk:cZ (K t) row=true)(hl:vs.length=row.length)
   (hc:∀(j:Nat) v,vs[j]?=some v->w.cell? (a.add j)=some v/\F (a.add j))
   (h:∀(j:Nat) x v,row[j]?=some x->vs[j]?=some v->a8 K ρ F w x v):a8 K ρ F w (.kj t row off) (.pointer (some (a.add off)))
 |ptr(id i off:Nat)(hd:Hd)(g o n c:Nat)(hid:ρ[id]?=some hd)(hv:hd.v= .slice (some ⟨g,o,none⟩) n c):a8 K ρ F w (.ptr id i off) (.pointer (some ⟨g,o+i*hd.sz+off,none⟩))
 |ng(t:TypeId):a8 K ρ F w (.ae t []) (.slice none 0 0)
 |ae(t:TypeId)(xs:List Row)(a:Addr)(cap:Nat)(vss:List (List Value))(hl:vss.length=xs.length)(nA:xs.length<=cap)(mB:cap<=maxLen)
   (hk:∀(i:Nat) row,xs[i]?=some row->cZ (K t) row=true)
   (hc:∀(i:Nat) vs,vss[i]?=some vs->vs.length=(K t).length /\∀(j:Nat) v,vs[j]?=some v->w.cell? (a.add (i*(K t).length +j))=some v/\F (a.add (i*(K t).length +j)))
   (h:∀(i:Nat) row vs,xs[i]?=some row->vss[i]?=some vs->∀(j:Nat) x v,row[j]?=some x->vs[j]?=some v->a8 K ρ F w x v):
   a8 K ρ F w (.ae t xs) (.slice (some a) xs.length cap)
 |au(id:Nat)(hd:Hd)(hid:ρ[id]?=some hd):a8 K ρ F w (.au id) hd.v
 |jI:a8 K ρ F w .jI (.slice none 0 0)
 |eJ(f:FuncId)(first gV:List AV)(vf vc:List Value)(hf:vf.length=first.length)(hc:vc.length=gV.length)
   (U:∀(j:Nat) x v,first[j]?=some x->vf[j]?=some v->a8 K ρ F w x v) (h2:∀(j:Nat) x v,gV[j]?=some x->vc[j]?=some v->a8 K ρ F w x v):
   a8 K ρ F w (.eJ f first gV) (.func (.func f) vf.toArray vc.toArray)
 |nw:a8 K ρ F w .nw .nilFunc
 |jz(id:Nat)(hd:Hd)(g:Nat)(hid:ρ[id]?=some hd)(hv:hd.v= .pointer (some ⟨g,0,none⟩)):a8 K ρ F w (.jz id) (.func (.yield g) #[] #[])
 |mp(id:Nat)(hd:Hd)(hid:ρ[id]?=some hd):a8 K ρ F w (.mp id) hd.v
 |pI:a8 K ρ F w .pI (.map none)
 |oy(id m:Nat)(hd:Hd)(g o n c cap:Nat)(hid:ρ[id]?=some hd)(hv:hd.v= .slice (some ⟨g,o,none⟩) n c):a8 K ρ F w (.oy id m) (.slice (some ⟨g,o,none⟩) m cap)
 |vw(id lo m:Nat)(hd:Hd)(g o n c cap:Nat)(hid:ρ[id]?=some hd)(hv:hd.v= .slice (some ⟨g,o,none⟩) n c)(nA:m<=cap/\cap<=maxLen)(hb:lo+m<=n):a8 K ρ F w (.vw id lo m) (.slice (some ⟨g,o+lo*hd.sz,none⟩) m cap)
 |yb(id lo:Nat):a8 K ρ F w (.vw id lo 0) (.slice none 0 0)
 |ya(id lo:Nat)(a:Addr)(cap:Nat):a8 K ρ F w (.vw id lo 0) (.slice (some a) 0 cap)
 |mS(a:Addr)(cap:Nat):a8 K ρ F w .mS (.slice (some a) 0 cap)
variable {K:TypeId->List Kind}
def a8.mono{F':Addr->Prop}{w':World}(jD:∀(id:Nat) hd,ρ[id]?=some hd->ρ'[id]?=some hd)(hF:∀a,F a->F' a)
 (hw:∀a v,F a->w.cell? a=some v->w'.cell? a=some v)   (h:a8 K ρ F w x v):a8 K ρ' F' w' x v:=by
 induction h with
 |top v=>exact .top v
 |int k n=>exact .int k n
 |bool b=>exact .bool b
 |str s=>exact .str s
 |agg cs vs hl _ ih=>exact .agg cs vs hl ih
 |eV cs vs hl _ ih=>exact .eV cs vs hl ih
 |jh=>exact .jh
 |kj t row off a vs hk hl hc _ ih=>exact .kj t row off a vs hk hl (λj v hv=>⟨hw _ _ (hc j v hv).2 (hc j v hv).1,hF _ (hc j v hv).2⟩) ih
 |ptr id i off hd g o n c hid hv=>exact .ptr id i off hd g o n c (jD _ _ hid) hv
 |ng t=>exact .ng t
 |ae t xs a cap vss hl nA mB hk hc _ ih=>
  exact .ae t xs a cap vss hl nA mB hk (λi vs gj=>⟨(hc i vs gj).1,λj v hv=>⟨hw _ _ ((hc i vs gj).2 j v hv).2 ((hc i vs gj).2 j v hv).1,hF _ ((hc i vs gj).2 j v hv).2⟩⟩) ih
 |au id hd hid=>exact .au id hd (jD _ _ hid)
 |jI=>exact .jI
 |eJ f first gV vf vc hf hc _ _ nG mu=>exact .eJ f first gV vf vc hf hc nG mu
 |nw=>exact .nw
 |jz id hd g hid hv=>exact .jz id hd g (jD _ _ hid) hv
 |mp id hd hid=>exact .mp id hd (jD _ _ hid)
 |pI=>exact .pI
 |oy id m hd g o n c cap hid hv=>exact .oy id m hd g o n c cap (jD _ _ hid) hv
 |vw id lo m hd g o n c cap hid hv hc hb=>exact .vw id lo m hd g o n c cap (jD _ _ hid) hv hc hb
 |yb id lo=>exact .yb id lo
 |ya id lo a cap=>exact .ya id lo a cap
 |mS a cap=>exact .mS a cap
def a8.pure{ρ ρ':List Hd}{F:Addr->Prop}{w:World}(hK:∀t,∀k∈K t,k≠ .any){x:AV}{v:Value}(h:a8 K ρ F w x v):x.pure=true->a8 K ρ' F w x v:=by
 have cell:∀{t:TypeId} {row:Row},cZ (K t) row=true->∀{j:Nat} {y:AV},row[j]?=some y->y.pure=true:=by
  intro t row hk j y hy;have hl:=kS hk;have hj:j<(K t).length :=aa2;exact L8 (hK t _ (ei hj)) (xD hk (dy hj) hy)
 induction h with
 |int k n=>exact λ_=> .int k n
 |bool b=>exact λ_=> .bool b
 |str s=>exact λ_=> .str s
 |jh=>exact λ_=> .jh
 |kj t row off a vs hk hl hc _ ih=>exact λ_=> .kj t row off a vs hk hl hc (λj y v hy hv=>ih j y v hy hv (cell hk hy))
 |ng t=>exact λ_=> .ng t
 |ae t xs a cap vss hl nA mB hk hc _ ih=>exact λ_=> .ae t xs a cap vss hl nA mB hk hc (λi row vs hi hv j y v hy ig=>ih i row vs hi hv j y v hy ig (cell (hk i row hi) hy))
 |jI=>exact λ_=> .jI
 |eJ f first gV vf vc hf hc _ _ _ _=>
  intro hp;cases first with
  |cons a b=>simp [AV.pure]at hp
  |nil=>
   cases gV with
   |cons a b=>simp [AV.pure]at hp
   |nil=>exact .eJ f [] [] vf vc hf hc (λj y v hy _=>by simp at hy) (λj y v hy _=>by simp at hy)
 |nw=>exact λ_=> .nw
 |pI=>exact λ_=> .pI
 |mS a cap=>exact λ_=> .mS a cap
 |_=>intro hp;simp [AV.pure]at hp
def a8.az9(hK:∀t,∀k∈K t,k≠ .any)(h:a8 K ρ F w x v)(hp:x= .top ∨x.pure=true):a8 K ρ' F w x v:=by
 rcases hp with rfl|hp
 ·exact .top v
 ·exact h.pure hK hp
def dm(K:TypeId->List Kind)(ρ:List Hd)(F:Addr->Prop)(w:World)(xs:List AV)(vs:List Value):Prop:=
 vs.length=xs.length/\∀(j:Nat) x v,xs[j]?=some x->vs[j]?=some v->a8 K ρ F w x v
inductive Ex where
 |normal
 |exit(id:Nat)
 |ret
 deriving DecidableEq,Inhabited
inductive eE where
 |var(ks:List Kind)(cs:List AV)
 |row(t:TypeId)(xs:List Row)
 |map(k:Kind)(ag:Bool)(ks:List Kind)(es:List (AV×AV))
 |loop(site:Nat)(env:List (Nat×AV))(busy:Bool)(BK:Option Ex)
 |Vz
 |fP(t:TypeId)(xs:List Row)
 |dead
 deriving Inhabited
inductive zt where
 |int(k:IntKind)
 |bool
 |str
 |slice(e:TypeId)
 |array(n:Nat)(e:TypeId)
 |struct(fs:List (Nat×TypeId))
 |ptr(e:TypeId)
 |map(k e:TypeId)
 |other
 deriving Inhabited
structure TI where
 ok:Bool
 u:zt
 size:Nat
 bytes:Nat
 zero:List AV
 ks:List Kind
 deriving Inhabited
def zt.agg:zt->Bool| .struct _| .array _ _=>true|_=>false
def Dq:Value->AV
 | .bool b=> .bool b
 | .int k n=> .int k n
 | .string s=> .str s
 | .pointer none=> .jh
 | .slice none 0 0=> .jI
 | .map none=> .pI
 | .nilFunc => .nw
 |_=> .top
def aae:Value->AV
 | .agg cs=> .agg (cs.toList.map Dq)
 | .tuple cs=>match cs.toList with| []=> .eV []|_=> .top
 |v=>Dq v
def FL(P:Program):Nat->TypeId->List Kind
 |0,_=>[.raw]
 |n+1,t=>
  match P.underlying t with
  |some (.int k)=>[.int k]
  |some .bool =>[.bool]
  |some .string =>[.str]
  |some (.slice e)=>[.slice e]
  |some (.struct fs)=>fs.toList.flatMap λf=>FL P n f.type
  |some (.array m e)=>(List.replicate m (FL P n e)).flatten
  |_=>[.raw]
def Ym(P:Program):∀(n:Nat) (t:TypeId),∀k∈FL P n t,k≠ .any
 |0,t,k,h=>by simp [FL]at h;subst h;simp
 |n+1,t,k,h=>by
  unfold FL at h;split at h
  ·exact MX
  ·exact MX
  ·exact MX
  ·exact MX
  ·obtain⟨f,_,hf⟩:=zG.1 h;exact Ym P n _ k hf
  ·obtain⟨l,hl,hk⟩:=List.mem_flatten.1 h;rw [ZM hl]at hk;exact Ym P n _ k hk
  ·exact MX
def ph:TypeDesc->zt
 | .int k=> .int k
 | .bool => .bool
 | .string => .str
 | .slice e=> .slice e
 | .array n e=> .array n e
 | .struct fs=> .struct (fs.toList.map λf=>(f.offset,f.type))
 | .pointer e=> .ptr e
 | .map k e=> .map k e
 |_=> .other
def UQ:Value->Bool| .agg _=>true|_=>false
def DQ(P:Program)(t:TypeId):TI:=
 match P.info? t,P.underlying t with
 |some i,some d=>
  match i.zero with
  |some z=>⟨z.cells.size==i.size&&(FL P 12 t).length ==i.size&&(UQ z==(ph d).agg),ph d,i.size,i.bytes,z.cells.toList.map Dq,FL P 12 t⟩
  |none=>⟨false,.other,0,0,[],[]⟩
 |_,_=>⟨false,.other,0,0,[],[]⟩
end Go.aj
namespace Go.aj
open Go
abbrev ak:Type:=List AV
abbrev aY:Type:=List Row
abbrev aF:Type:=List eE
abbrev dx:Type:=List Nat
abbrev bL:Type:=List (Nat×AV)
abbrev bJ:Type:=List Hd
abbrev bD:=Addr->Prop
abbrev bQ:Type:=List Int
abbrev er:Type:=List Kind
abbrev gz:Type:=List Value
abbrev tu:Type:=List TypeId
end Go.aj
namespace Go.aj
def qZ{p:Prop}(h:p:=by simp [Hd.fj,Value.fj,hv]):p:=h
def Tw{p:Prop}(h:p:=by subst hi;rw [uf cH]at hc;injection hc with hc;subst hc;simp [eE.kU]at uU):p:=h
def amJ{p:Prop}(h:p:=by
 subst hid;have cH:=(fK.1 hb).1;rw [uf cH]at hc;injection hc with hc;subst hc;rw [hh]at eC;injection eC with eC;subst eC;exact nm):p:=h
def ajM{p:Prop}(h:p:=by rw [mF (fK.1 h).1];exact h):p:=h
def aaE{p:Prop}(h:p:=by simpa using hI.len):p:=h
end Go.aj
namespace Go.aj
def mF:=@List.getElem?_append_left
def nM:=@List.getElem?_append_right
def iZ:=@Nat.le_refl
def Be:=@List.getElem?_of_mem
def rU:=@List.mem_of_getElem?
def uf:=@List.getElem?_set_self
def mW:=@List.getElem?_set_ne
def RM:=@List.any_eq_true
def qR:=@Nat.le_trans
def mE:=@List.mem_append
def dX:=@Nat.eq_of_beq_eq_true
def IJ:=@Bool.false_or
def vg:=@Nat.lt_of_lt_of_le
end Go.aj
namespace Go.aj
open Go
noncomputable section
variable{x:AV}{b:eE}{hd:Hd}{row:Option Nat}{v:Value}{cs:ak}{F':bD}{M':aF}{ids U8:dx}{ρ':bJ}
structure Site where
 nt:Nat
 params:Array Tmp
 assign:Code
 body:Code
structure Ub where
 ks:er
 e:TypeId
 bt:TypeId
 pt:TypeId
 up:TypeId
 ne:FuncId
structure Cx where
 P:Program
 ti:TypeId->TI
 site:Nat->Site
 kz:Nat->AV
 eqs:TypeId->Bool
 pk:Bool
 vw:Nat->TypeId->Bool
 ub:Option Ub
 dV:Option (Nat×Array Value)
def AV.ap4:AV->Bool| .eJ _ _ _=>true|_=>false
def tF(cs:ak):Bool:=cs.any AV.ap4
def Cx.yc(X:Cx)(ks:er)(e:TypeId):Bool:=match X.ub with|none=>true|some u=>match decide (ks=u.ks)with|true=>Nat.beq e u.e|false=>true
def Cx.vK(X:Cx)(ks:er)(cs AQ:ak):Bool:=match X.ub with|none=>true|some u=>match decide (ks=u.ks)with|true=> !tF cs||tF AQ|false=>true
def Cx.aCj{X:Cx}{ks:er}{AQ:ak}{e:TypeId}(h:X.vK ks cs AQ=true)(hy:(X.yc ks e||tF cs)=true):(X.yc ks e||tF AQ)=true:=by
 unfold Cx.vK at h;unfold Cx.yc at hy⊢;generalize X.ub=q at h hy⊢;cases q with
 |none=>rfl
 |some u=>
  simp only at h hy⊢;generalize decide (ks=u.ks)=d at h hy⊢;cases d with
  |false=>rfl
  |true=>
   simp only at h hy⊢;cases hb:Nat.beq e u.e with
   |true=>rfl
   |false=>
    rw [hb]at hy;simp only [IJ]at hy⊢;rw [hy]at h;exact h
def ai9{b:Bool}{c:Nat}(hx:cs[c]?=some x)(hn:x.ap4=false)(y:AV)(h:(b||tF cs)=true):(b||tF (cs.set c y))=true:=by
 cases b with
 |true=>rfl
 |false=>
  simp only [IJ]at h⊢;unfold tF at h⊢;obtain⟨z,hz,hp⟩:=RM.1 h;obtain⟨j,hj⟩:=Be hz;refine RM.2 ⟨z,?_,hp⟩;have eY:c≠j:=λe=>by
   subst e;rw [hx]at hj;injection hj with hj;subst hj;rw [hn]at hp;cases hp
  exact rU (i:=j) (by rw [mW eY];exact hj)
def Cx.K(X:Cx)(t:TypeId):er:=(X.ti t).ks
def look(env:bL)(u:Nat):AV:=List.rec (motive:=λ_=>AV) .top (λp _ ih=>Bool.rec (motive:=λ_=>AV) ih p.2 (Nat.beq u p.1)) env
def look_nil(u:Nat):look [] u= .top :=rfl
def sy(t:Nat)(x:AV)(env:bL)(u:Nat):look ((t,x)::env) u=if u==t then x else look env u:=by
 show Bool.rec (motive:=λ_=>AV) (look env u) x (Nat.beq u t)=_;cases hb:Nat.beq u t with
 |true=>
  have:=dX hb;subst this;show x=_;simp
 |false=>
  have:u≠t:=Nat.ne_of_beq_eq_false hb;show look env u=_;simp [this]
def gm(M:aF)(i:Nat):Option eE:=List.rec (motive:=λ_=>Nat->Option eE) (λ_=>none) (λb _ ih n=>Nat.rec (motive:=λ_=>Option eE) (some b) (λm _=>ih m) n) M i
def fR:∀(M:aF) (i:Nat),gm M i=M[i]?
 | [],_=>rfl
 |_::_,0=>rfl
 |b::M,n+1=>by
  show gm M n=_;rw [fR M n];rfl
def Ex.code:Ex->Option Code
 | .normal =>none
 | .exit id=>some (.exit id)
 | .ret =>some .ret
def eE.kU:eE->Bool| .dead | .fP _ _=>true|_=>false
variable {X:Cx}
def k8(X:Cx)(ρ:bJ)(F:bD)(w:World)(env:bL)(tmps:Array Value):Prop:=
 ∀t,a8 X.K ρ F w (look env t) (tmps.getD t undef)
def n6(X:Cx)(ρ:bJ)(F:bD)(w:World)(hd:Hd):eE->Prop
 | .var ks cs=>cZ ks cs=true/\hd.sz=cs.length/\∃g cur e,hd.v= .slice (some ⟨g,0,none⟩) 1 1/\w.heap[g]?=some (.cells cur e (0,0))/\dm X.K ρ F w cs cur.toList/\(X.yc ks e||tF cs)=true
 | .row t xs=>hd.sz=(X.K t).length /\(∀(i:Nat) row,xs[i]?=some row->cZ (X.K t) row=true)/\
    ((hd.v= .slice none 0 0/\xs=[])∨∃g o c cur,hd.v= .slice (some ⟨g,o,none⟩) xs.length c/\w.heap[g]?=some (.cells cur t (0,0))/\xs.length<=c/\c<=maxLen/\o+c*hd.sz<=cur.size/\
      ∀(i:Nat) row,xs[i]?=some row->∀(j:Nat) x,row[j]?=some x->∃v,cur[o+i*hd.sz+j]?=some v/\a8 X.K ρ F w x v)
 | .map kd ag ks es=>kd≠ .any /\∃g mes clock,hd.v= .map (some g)/\w.heap[g]?=some (.map mes clock)/\mes.size=es.length/\
    ∀(i:Nat) e me,es[i]?=some e->mes[i]?=some me->(kF kd e.1=true/\cZ ks e.2.cells=true/\e.2.shape ag=true)/\a8 X.K ρ F w e.1 me.key/\a8 X.K ρ F w e.2 me.val
 | .loop s env busy BK=>∃g lp,hd.v= .pointer (some ⟨g,0,none⟩)/\w.heap[g]?=some (.loop lp)/\lp.params=(X.site s).params /\lp.assign=(X.site s).assign /\lp.body=(X.site s).body /\
    lp.tmps.size=(X.site s).nt /\k8 X ρ F w env lp.tmps/\(busy=true->lp.state= .busy)/\(busy=false->BK=none->lp.state= .ready)/\(busy=false->BK≠none->lp.state= .done)/\
    lp.pending=BK.bind Ex.code/\BK≠some .normal
 | .Vz =>∃g,hd.v= .pointer (some ⟨g,0,none⟩)/\w.heap[g]?=some (.deferred (some []))
 | .fP t xs=>a8 X.K ρ F w (.ae t xs) hd.v
 | .dead =>True
structure Sc where
 S:Nat->Prop
 F0:bD
instance:CoeFun Sc (λ_=>Nat->Prop):=⟨Sc.S⟩
def Gn(X:Cx)(F:bD)(w:World):Prop:=∀g cs,X.dV=some (g,cs)->(∃t z,w.heap[g]?=some (.cells cs t z))/\F ⟨g,0,none⟩/\0<cs.size
def Gn.mono{F:bD}{w w':World}(h:Gn X F w)(hF:∀a,F a->F' a)(hb:∀a,F a->w'.heap[a.block]?=w.heap[a.block]?):Gn X F' w':=λg cs hc=>by
 obtain⟨⟨t,z,U⟩,h2,h3⟩:=h g cs hc;exact⟨⟨t,z,(hb ⟨g,0,none⟩ h2).trans U⟩,hF _ h2,h3⟩
structure Inv(X:Cx)(w0:World)(S:Sc)(F:bD)(ρ:bJ)(M:aF)(w:World):Prop where
 os:w.os=w0.os
 tape:w.tape=w0.tape
 output:w.output=w0.output
 size:w0.heap.size<=w.heap.size
 frame:∀g,g<w0.heap.size->¬S g->w.heap[g]?=w0.heap[g]?
 len:ρ.length=M.length
 rep:∀(id:Nat) b hd,M[id]?=some b->ρ[id]?=some hd->n6 X ρ F w hd b
 sep:∀(id:Nat) b hd g,M[id]?=some b->b.kU=false->ρ[id]?=some hd->hd.fj=some g->g<w.heap.size/\(S g∨w0.heap.size<=g)/\∀a,F a->a.block≠g
 mC:∀(id id':Nat) b b' hd dS g,id≠id'->M[id]?=some b->M[id']?=some b'->b.kU=false->b'.kU=false->ρ[id]?=some hd->ρ[id']?=some dS->
  hd.fj=some g->dS.fj≠some g
 fz:∀a,F a->a.block<w.heap.size
 kz:∀g,a8 X.K ρ F w (X.kz g) (.pointer (some ⟨g,0,none⟩))
 one:∀(id:Nat) hd,ρ[id]?=some hd->hd.v.oneCell'=true
 jS:∀a,F a->S.F0 a∨S a.block∨w0.heap.size<=a.block
 fin:∀a,S.F0 a->F a
 dV:Gn X F w
def k8.mono{ρ ρ':bJ}{F F':bD}{w w':World}(jD:∀(id:Nat) hd,ρ[id]?=some hd->ρ'[id]?=some hd)(hF:∀a,F a->F' a)
 (hw:∀a v,F a->w.cell? a=some v->w'.cell? a=some v) {env:bL} {tmps:Array Value} (h:k8 X ρ F w env tmps):k8 X ρ' F' w' env tmps:=
 λt=>(h t).mono jD hF hw
def n6.mono{ρ ρ':bJ}{F F':bD}{w w':World}(jD:∀(id:Nat) hd,ρ[id]?=some hd->ρ'[id]?=some hd)(hF:∀a,F a->F' a)
 (hw:∀a v,F a->w.cell? a=some v->w'.cell? a=some v) {hd:Hd} {b:eE} (hg:∀g,hd.fj=some g->w'.heap[g]?=w.heap[g]?) (h:n6 X ρ F w hd b):n6 X ρ' F' w' hd b:=by
 cases b with
 |var ks cs=>
  obtain⟨U,h2,g,cur,e,hv,hh,hr,hy⟩:=h;exact⟨U,h2,g,cur,e,hv,by rw [hg g (qZ)];exact hh,⟨hr.1,λj x v hx hv=>(hr.2 j x v hx hv).mono jD hF hw⟩,hy⟩
 |row t xs=>
  obtain⟨U,h2,h3⟩:=h;refine⟨U,h2,?_⟩;rcases h3 with h3|⟨g,o,c,cur,hv,hh,h4,h5,h6,h7⟩
  ·exact .inl h3
  ·refine .inr ⟨g,o,c,cur,hv,by rw [hg g (qZ)];exact hh,h4,h5,h6,λi row hi j x hx=> ?_⟩;obtain⟨v,mD,hr⟩:=h7 i row hi j x hx;exact⟨v,mD,hr.mono jD hF hw⟩
 |map kd ag ks es=>
  obtain⟨qL,g,mes,clock,hv,hh,eX,yj⟩:=h;exact⟨qL,g,mes,clock,hv,by rw [hg g (qZ)];exact hh,eX,λi e me he hm=>let⟨a,r1,r2⟩:=yj i e me he hm;⟨a,r1.mono jD hF hw,r2.mono jD hF hw⟩⟩
 |loop s env busy BK=>
  obtain⟨g,lp,hv,hh,U,h2,h3,h4,h5,h6⟩:=h;exact⟨g,lp,hv,by rw [hg g (qZ)];exact hh,U,h2,h3,h4,h5.mono jD hF hw,h6⟩
 |Vz=>
  obtain⟨g,hv,hh⟩:=h;exact⟨g,hv,by rw [hg g (qZ)];exact hh⟩
 |fP t xs=>exact a8.mono jD hF hw h
 |dead=>trivial
def n6.YS{ρ:bJ}{F:bD}{w w':World}(jD:∀(id:Nat) hd,ρ[id]?=some hd->ρ'[id]?=some hd)(hF:∀a,F a->F' a)
 (hw:∀a v,F a->w.cell? a=some v->w'.cell? a=some v)   (hb:b.kU=true) (h:n6 X ρ F w hd b):n6 X ρ' F' w' hd b:=by
 cases b with
 |fP t xs=>exact a8.mono jD hF hw h
 |dead=>trivial
 |_=>simp [eE.kU]at hb
section
variable {w0 w w':World} {S:Sc} {F:bD} {ρ:bJ} {M:aF}
def Inv.cells(hI:Inv X w0 S F ρ M w)(hg:w.grownBy w' row)(jx:∀k,row=some k->∀a,F a->a.block≠k):
 ∀a v,F a->w.cell? a=some v->w'.cell? a=some v:=by
 intro a v hF hc;refine hg.cell hc ?_;intro e;exact jx _ e.symm a hF rfl
def qu{α:Type}{l:List α}{x y:α}{i:Nat}(h:l[i]?=some y):(l++[x])[i]?=some y:=ajM
def Inv.grown(hI:Inv X w0 S F ρ M w)(hg:w.grownBy w' none):Inv X w0 S F ρ M w' where
 os:=hg.os.trans hI.os
 tape:=hg.tape.trans hI.tape
 output:=hg.output.trans hI.output
 size:=qR hI.size hg.size
 frame:=λg U h2=>(hg.block g (vg U hI.size) (by simp)).trans (hI.frame g U h2)
 len:=hI.len
 rep:=λid b hd hb hh=>by
  by_cases dS:b.kU=true
  ·exact(hI.rep id b hd hb hh).YS (λ_ _ h=>h) (λ_ h=>h) (hI.cells hg (by simp)) dS
  ·refine(hI.rep id b hd hb hh).mono (λ_ _ h=>h) (λ_ h=>h) (hI.cells hg (by simp)) ?_;intro g dQ;exact hg.block g (hI.sep id b hd g hb (by simpa using dS) hh dQ).1 (by simp)
 sep:=λid b hd g hb fw hh dQ=>let⟨a1,a2,a3⟩:=hI.sep id b hd g hb fw hh dQ;⟨vg a1 hg.size,a2,a3⟩
 mC:=hI.mC
 fz:=λa ha=>vg (hI.fz a ha) hg.size
 kz:=λg=>(hI.kz g).mono (λ_ _ h=>h) (λ_ h=>h) (hI.cells hg (by simp))
 dV:=hI.dV.mono (λ_ h=>h) λa ha=>hg.block a.block (hI.fz a ha) (by simp)
 one:=hI.one
 jS:=hI.jS
 fin:=hI.fin
def Inv.write(hI:Inv X w0 S F ρ M w){id:Nat}{b b':eE}{hd:Hd}{g:Nat}(hb:M[id]?=some b)(ot:b.kU=false)(hh:ρ[id]?=some hd)(dQ:hd.fj=some g)
 (hg:w.grownBy w' (some g)) (nm:n6 X ρ F w' hd b'):Inv X w0 S F ρ (M.set id b') w' where
 os:=hg.os.trans hI.os
 tape:=hg.tape.trans hI.tape
 output:=hg.output.trans hI.output
 size:=qR hI.size hg.size
 frame:=λk U h2=>by
  have hs:=hI.sep id b hd g hb ot hh dQ;refine(hg.block k (vg U hI.size) ?_).trans (hI.frame k U h2);intro e;injection e with e;subst e;rcases hs.2.1 with h|h
  ·exact h2 h
  ·omega
 len:=aaE
 rep:=λid' c dS hc eC=>by
  by_cases hid:id'=id
  ·subst hid;rw [hh]at eC;injection eC with eC;subst eC;have cH:=(fK.1 hb).1;rw [uf cH]at hc;injection hc with hc;subst hc;exact nm
  ·rw [mW (Ne.symm hid)]at hc;have hs:=hI.sep id b hd g hb ot hh dQ
   by_cases oR:c.kU=true
   ·exact(hI.rep id' c dS hc eC).YS (λ_ _ h=>h) (λ_ h=>h) (hI.cells hg (λk hk a hF=>by injection hk with hk;subst hk;exact hs.2.2 a hF)) oR
   ·refine(hI.rep id' c dS hc eC).mono (λ_ _ h=>h) (λ_ h=>h) (hI.cells hg ?_) ?_
    ·intro k hk a hF;injection hk with hk;subst hk;exact hs.2.2 a hF
    ·intro g' lQ;refine hg.block g' (hI.sep id' c dS g' hc (by simpa using oR) eC lQ).1 ?_;intro e;injection e with e;subst e;exact hI.mC id' id c b dS hd g' hid hc hb (by simpa using oR) ot eC hh lQ dQ
 sep:=λid' c dS g' hc oR eC lQ=>by
  by_cases hid:id'=id
  ·subst hid;rw [hh]at eC;injection eC with eC;subst eC;obtain⟨a1,a2,a3⟩:=hI.sep id' b hd g' hb ot hh lQ;exact⟨vg a1 hg.size,a2,a3⟩
  ·rw [mW (Ne.symm hid)]at hc;obtain⟨a1,a2,a3⟩:=hI.sep id' c dS g' hc oR eC lQ;exact⟨vg a1 hg.size,a2,a3⟩
 mC:=λi j c d hc dS k tW U h2 h3 h4 h5 h6 h7=>by
  have key:∀(i:Nat) c,(M.set id b')[i]?=some c->c.kU=false->∃c0,M[i]?=some c0/\c0.kU=false:=by
   intro i c hc uU
   by_cases hid:i=id
   ·subst hid;exact⟨b,hb,ot⟩
   ·rw [mW (Ne.symm hid)]at hc;exact⟨c,hc,uU⟩
  obtain⟨c0,a1,a2⟩:=key i c U h3;obtain⟨d0,b1,b2⟩:=key j d h2 h4;exact hI.mC i j c0 d0 hc dS k tW a1 b1 a2 b2 h5 h6 h7
 fz:=λa ha=>vg (hI.fz a ha) hg.size
 kz:=λk=>(hI.kz k).mono (λ_ _ h=>h) (λ_ h=>h) (hI.cells hg (λj hj a hF=>by injection hj with hj;subst hj;exact(hI.sep id b hd g hb ot hh dQ).2.2 a hF))
 dV:=hI.dV.mono (λ_ h=>h) λa ha=>hg.block a.block (hI.fz a ha) λe=>(hI.sep id b hd g hb ot hh dQ).2.2 a ha (Option.some.inj e)
 one:=hI.one
 jS:=hI.jS
 fin:=hI.fin
def Inv.F8(hI:Inv X w0 S F ρ M w)(BR:∀g,hd.fj=some g->g<w.heap.size/\(S g∨w0.heap.size<=g)/\(∀a,F a->a.block≠g)/\
 ∀(id:Nat) b' dS,M[id]?=some b'->b'.kU=false->ρ[id]?=some dS->dS.fj≠some g)
 (U:hd.v.oneCell'=true) (nm:n6 X (ρ++[hd]) F w hd b):Inv X w0 S F (ρ++[hd]) (M++[b]) w:=by
 have hlen:=hI.len;have split:∀(i:Nat) c,(M++[b])[i]?=some c->(i<M.length/\M[i]?=some c)∨(i=M.length/\c=b):=by
  intro i c hc
  by_cases hi:i<M.length
  ·rw [mF hi]at hc;exact .inl ⟨hi,hc⟩
  ·rw [nM (by omega)]at hc;have:i- M.length=0:=by
    have:=(fK.1 hc).1;simp at this;omega
   rw [this]at hc;simp at hc;exact .inr ⟨by omega,hc.symm⟩
 have yA:∀(i:Nat) h,(ρ++[hd])[i]?=some h->(i<M.length/\ρ[i]?=some h)∨(i=M.length/\h=hd):=by
  intro i h hh
  by_cases hi:i<ρ.length
  ·rw [mF hi]at hh;exact .inl ⟨by omega,hh⟩
  ·rw [nM (by omega)]at hh;have:i- ρ.length=0:=by
    have:=(fK.1 hh).1;simp at this;omega
   rw [this]at hh;simp at hh;exact .inr ⟨by omega,hh.symm⟩
 refine⟨hI.os,hI.tape,hI.output,hI.size,hI.frame,by simp [hlen],?_,?_,?_,hI.fz,λg=>(hI.kz g).mono (λ_ _ h=>qu h) (λ_ h=>h) (λ_ _ _ h=>h),λid h hh=>by
  rcases yA id h hh with⟨_,hh⟩|⟨_,rfl⟩
  ·exact hI.one id h hh
  ·exact U,hI.jS,hI.fin,hI.dV⟩
 ·intro id c h hc hh;rcases split id c hc with⟨hi,hc⟩|⟨hi,rfl⟩
  ·rcases yA id h hh with⟨_,hh⟩|⟨h2,_⟩
   ·exact(hI.rep id c h hc hh).mono (λ_ _ h=>qu h) (λ_ h=>h) (λ_ _ _ h=>h) (λ_ _=>rfl)
   ·omega
  ·rcases yA id h hh with⟨h2,_⟩|⟨_,rfl⟩
   ·omega
   ·exact nm
 ·intro id c h g hc fw hh dQ;rcases split id c hc with⟨hi,hc⟩|⟨hi,rfl⟩
  ·rcases yA id h hh with⟨_,hh⟩|⟨h2,_⟩
   ·exact hI.sep id c h g hc fw hh dQ
   ·omega
  ·rcases yA id h hh with⟨h2,_⟩|⟨_,rfl⟩
   ·omega
   ·obtain⟨a1,a2,a3,_⟩:=BR g dQ;exact⟨a1,a2,a3⟩
 ·intro i j c d hc dS k tW U h2 h3 h4 h5 h6 h7 h8;rcases split i c U with⟨hi,m1⟩|⟨hi,e1⟩<;>rcases split j d h2 with⟨hj,m2⟩|⟨hj,e2⟩
  ·rcases yA i hc h5 with⟨_,m5⟩|⟨_,_⟩
   ·rcases yA j dS h6 with⟨_,m6⟩|⟨_,_⟩
    ·exact hI.mC i j c d hc dS k tW m1 m2 h3 h4 m5 m6 h7 h8
    ·omega
   ·omega
  ·rcases yA i hc h5 with⟨_,m5⟩|⟨_,_⟩
   ·rcases yA j dS h6 with⟨_,_⟩|⟨_,e6⟩
    ·omega
    ·exact(BR k (e6▸h8)).2.2.2 i c hc m1 h3 m5 h7
   ·omega
  ·rcases yA i hc h5 with⟨_,_⟩|⟨_,e5⟩
   ·omega
   ·rcases yA j dS h6 with⟨_,m6⟩|⟨_,_⟩
    ·exact(BR k (e5▸h7)).2.2.2 j d dS m2 h4 m6 h8
    ·omega
  ·omega
def Inv.push(hI:Inv X w0 S F ρ M w)(hg:w.grownBy w' none)(BR:∀g,hd.fj=some g->w.heap.size<=g/\g<w'.heap.size)
 (U:hd.v.oneCell'=true) (nm:n6 X (ρ++[hd]) F w' hd b):Inv X w0 S F (ρ++[hd]) (M++[b]) w':=by
 refine(hI.grown hg).F8 (λg dQ=> ?_) U nm;obtain⟨h2,h3⟩:=BR g dQ;refine⟨h3,.inr (qR hI.size h2),λa ha e=> ?_,λid b' dS pz fw hh nX=> ?_⟩
 ·have:=hI.fz a ha;omega
 ·have:=(hI.sep id b' dS g pz fw hh nX).1;omega
def Inv.move(hI:Inv X w0 S F ρ M w){id:Nat}{b':eE}{dS:Hd}(hb:M[id]?=some b)(ot:b.kU=false)(hh:ρ[id]?=some hd)
 (hg:w.grownBy w' row) (jx:row=none∨row=hd.fj) (BR:∀g,dS.fj=some g->g<w'.heap.size/\(hd.fj=some g∨w.heap.size<=g))
 (U:dS.v.oneCell'=true) (nm:n6 X (ρ++[dS]) F w' dS b'):Inv X w0 S F (ρ++[dS]) (M.set id .dead ++[b']) w':=by
 have cH:=(fK.1 hb).1;have KT:Inv X w0 S F ρ (M.set id .dead) w':=by
  cases dQ:hd.fj with
  |none=>
   have oe:w.grownBy w' none:=by
    rcases jx with h|h
    ·rw [h]at hg;exact hg
    ·rw [h,dQ]at hg;exact hg
   have qO:=hI.grown oe;refine⟨qO.os,qO.tape,qO.output,qO.size,qO.frame,by simpa using qO.len,?_,?_,?_,qO.fz,qO.kz,qO.one,qO.jS,qO.fin,qO.dV⟩
   ·intro i c h hc eC
    by_cases hi:i=id
    ·subst hi;rw [uf cH]at hc;injection hc with hc;subst hc;trivial
    ·rw [mW (Ne.symm hi)]at hc;exact qO.rep i c h hc eC
   ·intro i c h g hc uU eC nX
    by_cases hi:i=id
    ·exact Tw
    ·rw [mW (Ne.symm hi)]at hc;exact qO.sep i c h g hc uU eC nX
   ·intro i j c d h h' g tW hc oR uU fw eC aKV nX;have key:∀(i:Nat) c,(M.set id .dead)[i]?=some c->c.kU=false->M[i]?=some c:=by
     intro i c hc uU
     by_cases hi:i=id
     ·exact Tw
     ·rw [mW (Ne.symm hi)]at hc;exact hc
    exact qO.mC i j c d h h' g tW (key i c hc uU) (key j d oR fw) uU fw eC aKV nX
  |some g=>
   have zl:w.grownBy w' (some g):=by
    rcases jx with h|h
    ·rw [h]at hg;exact⟨hg.os,hg.tape,hg.output,hg.size,λk hk _=>hg.block k hk (by simp)⟩
    ·rw [h,dQ]at hg;exact hg
   exact hI.write hb ot hh dQ zl (b':= .dead) trivial
 refine KT.F8 (λg dQ=> ?_) U nm;obtain⟨h2,h3⟩:=BR g dQ;rcases h3 with h3|h3
 ·obtain⟨s1,s2,s3⟩:=hI.sep id b hd g hb ot hh h3;refine⟨h2,s2,s3,λi c h hc uU eC nX=> ?_⟩
  by_cases hi:i=id
  ·exact Tw
  ·rw [mW (Ne.symm hi)]at hc;exact hI.mC i id c b h hd g hi hc hb uU ot eC hh nX h3
 ·refine⟨h2,.inr (qR hI.size h3),λa ha e=> ?_,λi c h hc uU eC nX=> ?_⟩
  ·have:=hI.fz a ha;omega
  ·by_cases hi:i=id
   ·exact Tw
   ·rw [mW (Ne.symm hi)]at hc;have:=(hI.sep i c h g hc uU eC nX).1;omega
def Inv.freeze(hI:Inv X w0 S F ρ M w){id:Nat}{b:eE}{hd:Hd}{g:Nat}(hb:M[id]?=some b)(ot:b.kU=false)(hh:ρ[id]?=some hd)(dQ:hd.fj=some g)
 {b':eE} (dS:b'.kU=true) (nm:n6 X ρ (λa=>F a∨a.block=g) w hd b'):Inv X w0 S (λa=>F a∨a.block=g) ρ (M.set id b') w where
 os:=hI.os
 tape:=hI.tape
 output:=hI.output
 size:=hI.size
 frame:=hI.frame
 len:=aaE
 rep:=λid' c h' hc eC=>by
  by_cases hid:id'=id
  ·exact amJ
  ·rw [mW (Ne.symm hid)]at hc;exact(hI.rep id' c h' hc eC).mono (λ_ _ h=>h) (λ_ h=> .inl h) (λ_ _ _ h=>h) (λ_ _=>rfl)
 sep:=λid' c h' g' hc oR eC lQ=>by
  by_cases hid:id'=id
  ·subst hid;have cH:=(fK.1 hb).1;rw [uf cH]at hc;injection hc with hc;subst hc;rw [dS]at oR;cases oR
  ·rw [mW (Ne.symm hid)]at hc;obtain⟨a1,a2,a3⟩:=hI.sep id' c h' g' hc oR eC lQ;refine⟨a1,a2,λa ha e=> ?_⟩;rcases ha with ha|ha
   ·exact a3 a ha e
   ·have:g'=g:=by omega
    subst this;exact hI.mC id' id c b h' hd g' hid hc hb oR ot eC hh lQ dQ
 mC:=λi j c d hc h' k tW U h2 h3 h4 h5 h6 h7=>by
  have key:∀(i:Nat) c,(M.set id b')[i]?=some c->c.kU=false->M[i]?=some c:=by
   intro i c hc uU
   by_cases hid:i=id
   ·subst hid;have cH:=(fK.1 hb).1;rw [uf cH]at hc;injection hc with hc;subst hc;rw [dS]at uU;cases uU
   ·rw [mW (Ne.symm hid)]at hc;exact hc
  exact hI.mC i j c d hc h' k tW (key i c U h3) (key j d h2 h4) h3 h4 h5 h6 h7
 fz:=λa ha=>by
  rcases ha with ha|ha
  ·exact hI.fz a ha
  ·have:=(hI.sep id b hd g hb ot hh dQ).1;omega
 kz:=λk=>(hI.kz k).mono (λ_ _ h=>h) (λ_ h=> .inl h) (λ_ _ _ h=>h)
 one:=hI.one
 fin:=λa ha=> .inl (hI.fin a ha)
 dV:=hI.dV.mono (λ_ h=> .inl h) λ_ _=>rfl
 jS:=λa ha=>by
  rcases ha with ha|ha
  ·exact hI.jS a ha
  ·rcases(hI.sep id b hd g hb ot hh dQ).2.1 with h|h
   ·exact .inr (.inl (by rw [ha];exact h))
   ·exact .inr (.inr (by rw [ha];exact h))
end
def dc(ids:dx)(M M':aF):Prop:=M.length<=M'.length/\∀id,id<M.length->id∉ids->M'[id]?=M[id]?
def dc.refl(ids:dx)(M:aF):dc ids M M:=⟨iZ _,λ_ _ _=>rfl⟩
def dc.push(ids:dx)(M:aF)(b:eE):dc ids M (M++[b]):=⟨by simp,λid h _=>mF h⟩
def dc.set(M:aF)(id:Nat)(b:eE):dc [id] M (M.set id b):=⟨by simp,λi _ h=>mW (λe=>h (by simp [e]))⟩
def dc.trans{M v8:aF}(h:dc ids M M')(k:dc U8 M' v8):dc (ids++U8) M v8:=
 ⟨qR h.1 k.1,λi hi hn=>by
   rw [mE,not_or]at hn;rw [k.2 i (vg hi h.1) hn.2,h.2 i hi hn.1]⟩
def dc.mono{M:aF}(h:dc ids M M')(hs:∀i∈ids,i∈U8):dc U8 M M':=⟨h.1,λi hi hn=>h.2 i hi λe=>hn (hs i e)⟩
structure Grow(F F':bD)(ρ ρ':bJ)(w w':World):Prop where
 hF:∀a,F a->F' a
 jD:∀(id:Nat) hd,ρ[id]?=some hd->ρ'[id]?=some hd
 hb:∀a,F a->w'.heap[a.block]?=w.heap[a.block]?
def agP{w w':World}{a:Addr}(h:w'.heap[a.block]?=w.heap[a.block]?)(hc:w.cell? a=some v):w'.cell? a=some v:=by
 unfold World.cell? at hc⊢;rw [h];exact hc
def Grow.hw{F:bD}{ρ:bJ}{w w':World}(h:Grow F F' ρ ρ' w w'):∀a v,F a->w.cell? a=some v->w'.cell? a=some v:=λa _ ha hc=>agP (h.hb a ha) hc
def Inv.Ap{w0 w w':World}{S:Sc}{F:bD}{ρ:bJ}{M:aF}(hI:Inv X w0 S F ρ M w)(hg:w.grownBy w' row)(jx:∀k,row=some k->∀a,F a->a.block≠k):∀a,F a->w'.heap[a.block]?=w.heap[a.block]?:=
 λa ha=>hg.block a.block (hI.fz a ha) λe=>jx _ e.symm a ha rfl
def Grow.refl(F:bD)(ρ:bJ)(w:World):Grow F F ρ ρ w w:=⟨λ_ h=>h,λ_ _ h=>h,λ_ _=>rfl⟩
def Grow.trans{F F' xv:bD}{ρ ρ' wN:bJ}{w w' tI:World}(h:Grow F F' ρ ρ' w w')(k:Grow F' xv ρ' wN w' tI):Grow F xv ρ wN w tI:=
 ⟨λa ha=>k.hF a (h.hF a ha),λid hd hh=>k.jD id hd (h.jD id hd hh),λa ha=>(k.hb a (h.hF a ha)).trans (h.hb a ha)⟩
def a8.grow{K:TypeId->er}{F:bD}{ρ:bJ}{w w':World}(h:a8 K ρ F w x v)(g:Grow F F' ρ ρ' w w'):a8 K ρ' F' w' x v:=h.mono g.jD g.hF g.hw
def k8.grow{F F':bD}{ρ ρ':bJ}{w w':World}{env:bL}{tmps:Array Value}(h:k8 X ρ F w env tmps)(g:Grow F F' ρ ρ' w w'):k8 X ρ' F' w' env tmps:=λt=>(h t).grow g
def dm.grow{K:TypeId->er}{F F':bD}{ρ ρ':bJ}{w w':World}{xs:ak}{vs:gz}(h:dm K ρ F w xs vs)(g:Grow F F' ρ ρ' w w'):dm K ρ' F' w' xs vs:=⟨h.1,λj x v hx hv=>(h.2 j x v hx hv).grow g⟩
end
end Go.aj
namespace Go.aj
def sI{p:Prop}(h:p:=by simpa using this):p:=h
def ak7{p:Prop}(h:p:=by have:=f.u;rw [h]at this;cases d<;>simp [ph]at this;subst this;exact f.mi):p:=h
def Jc{p:Prop}(h:p:=by simp at hx):p:=h
end Go.aj
namespace Go.aj
def gh:=@Go.Sem.run_bind
def kG:=@List.getElem?_map
def xF:=@Array.ext'
def k7:=@Go.run_underlying
def iV:=@Go.Result.andThen_ok
def iU:=@beq_iff_eq
end Go.aj
namespace Go.aj
open Go
noncomputable section
variable{t:TypeId}
def Kf(P:Program)(t:TypeId):Bool:=
 match P.underlying t with
 |some (.struct fs)=>(fs.toList.all fun f=>f.name != "_")&& !P.stoodInHeld t&& !P.eqGuardType P.depth t
 |_=>false
structure pF(X:Cx)(t:TypeId)(i:TypeInfo)(d:TypeDesc)(z:Value):Prop where
 info:X.P.info? t=some i
 mi:X.P.underlying t=some d
 zero:i.zero=some z
 u:(X.ti t).u =ph d
 size:(X.ti t).size =i.size
 bytes:(X.ti t).bytes =i.bytes
 zc:(X.ti t).zero =z.cells.toList.map Dq
 zs:z.cells.size=i.size
 ks:(X.ti t).ks.length =i.size
 zag:UQ z=(X.ti t).u.agg
structure aqb(P:Program)(u:Ub):Prop where
 pt:P.underlying u.pt=some (.pointer u.bt)
 up:P.underlying u.up=some .unsafePointer
 bt:∃j,P.info? u.bt=some j/\j.size≠0
 aKk:liesAt P P.depth u.e (u.ks.length/P.cellsOf u.e) 0 u.bt 1=true
 ks:0<u.ks.length
 ne:∃fn,P.funcs[u.ne]?=some fn/\(fn.name== "runtime.NumGoroutine")=false/\fn.body.isNone=true/\Extern.findNext fn=none/\Extern.find fn=some Extern.AbiNoEscape.same
structure Cx.Okb(X:Cx):Prop where
 facts:∀{t},(X.ti t).ok =true->∃i d z,pF X t i d z
 mixed:X.P.follows .mixedOrders =true
 bad:∀t,(X.ti t).ok =false->(X.ti t).ks =[]
 kz:∀g,X.kz g= .top ∨(X.kz g).pure =true
 eqs:∀t,X.eqs t=true->Kf X.P t=true
 alG:X.pk=true->∀t,∀k∈X.K t,k≠ .any
 ub:∀u,X.ub=some u->aqb X.P u
structure Cx.Ok(X:Cx):Prop extends Cx.Okb X where
 pkt:X.pk=true
variable {X:Cx} {R:Type}
def Cx.Ok.kinds(hX:X.Ok)(t:TypeId):∀k∈X.K t,k≠ .any :=hX.toOkb.alG hX.pkt t
def Cx.Okb.ok(hX:X.Okb)(h:X.pk=true):X.Ok:=⟨hX,h⟩
instance aLL:Coe X.Ok X.Okb:=⟨Cx.Ok.toOkb⟩
def ayF(ht:∀t,(X.ti t).ok =true->X.ti t=DQ X.P t)(hb:∀t,(X.ti t).ok =false->(X.ti t).ks =[])(t:TypeId):∀k∈X.K t,k≠ .any :=by
 intro k hk;cases h:(X.ti t).ok with
 |false=>
  have:=hb t h;simp [Cx.K,this]at hk
 |true=>
  have e:=ht t h;unfold Cx.K at hk;rw [e]at hk;unfold DQ at hk;split at hk
  ·split at hk
   ·exact Ym _ _ _ k hk
   ·simp at hk
  ·simp at hk
def TI.alike(a b:TI):Prop:=a.ok=b.ok/\a.u=b.u/\a.size=b.size/\a.bytes=b.bytes/\a.zero=b.zero/\a.ks.length=b.ks.length
def ayG(e:TI.alike (X.ti t) (DQ X.P t))(h:(X.ti t).ok =true):∃i d z,pF X t i d z:=by
 obtain⟨e1,e2,e3,e4,e5,e6⟩:=e;unfold DQ at e1 e2 e3 e4 e5 e6;cases hi:X.P.info? t with
 |none=>simp only [hi]at e1;rw [e1]at h;simp at h
 |some i=>
  cases hd:X.P.underlying t with
  |none=>simp only [hi,hd]at e1;rw [e1]at h;simp at h
  |some d=>
   cases hz:i.zero with
   |none=>simp only [hi,hd,hz]at e1;rw [e1]at h;simp at h
   |some z=>
    simp only [hi,hd,hz]at e1 e2 e3 e4 e5 e6;rw [e1]at h;simp only [bw,iU]at h;exact⟨i,d,z,⟨hi,hd,hz,e2,e3,e4,e5,h.1.1,by rw [e6];exact h.1.2,by rw [e2];exact h.2⟩⟩
def pF.isAgg{t:TypeId}{i:TypeInfo}{d:TypeDesc}{z:Value}(f:pF X t i d z)(w:World):(isAgg t).run X.P w= .ok (X.ti t).u.agg w:=by
 rw [f.u];unfold Go.isAgg;simp only [gh,k7 f.mi,iV];cases d<;>rfl
def pF.sizeOf{t:TypeId}{i:TypeInfo}{d:TypeDesc}{z:Value}(f:pF X t i d z)(w:World):(sizeOf t).run X.P w= .ok (X.ti t).size w:=by
 rw [f.size];unfold Go.sizeOf typeInfo;simp [f.info]
def pF.zeroValue{t:TypeId}{i:TypeInfo}{d:TypeDesc}{z:Value}(f:pF X t i d z)(w:World):(zeroValue t).run X.P w= .ok z w:=by
 unfold Go.zeroValue typeInfo;simp [f.info,f.zero]
def pF.typeInfo{t:TypeId}{i:TypeInfo}{d:TypeDesc}{z:Value}(f:pF X t i d z)(w:World):(typeInfo t).run X.P w= .ok i w:=by
 unfold Go.typeInfo;simp [f.info]
def pF.slice{t e:TypeId}{i:TypeInfo}{d:TypeDesc}{z:Value}(f:pF X t i d z)(h:(X.ti t).u = .slice e):X.P.underlying t=some (.slice e):=ak7
def pF.array{t e:TypeId}{n:Nat}{i:TypeInfo}{d:TypeDesc}{z:Value}(f:pF X t i d z)(h:(X.ti t).u = .array n e):X.P.underlying t=some (.array n e):=by
 have:=f.u;rw [h]at this;cases d<;>simp [ph]at this;obtain⟨rfl,rfl⟩:=this;exact f.mi
def pF.api{k:IntKind}{i:TypeInfo}{d:TypeDesc}{z:Value}(f:pF X t i d z)(h:(X.ti t).u = .int k):X.P.underlying t=some (.int k):=ak7
def pF.struct{t:TypeId}{fs:List (Nat×TypeId)}{i:TypeInfo}{d:TypeDesc}{z:Value}(f:pF X t i d z)(h:(X.ti t).u = .struct fs):
 ∃gs:Array Field,X.P.underlying t=some (.struct gs)/\fs=gs.toList.map λf=>(f.offset,f.type):=by
 have:=f.u;rw [h]at this;cases d<;>simp [ph]at this;exact⟨_,f.mi,this⟩
def Yx(K:TypeId->er)(ρ:bJ)(F:bD)(w:World)(v:Value):a8 K ρ F w (Dq v) v:=by
 unfold Dq;split<;>constructor
def ayA(K:TypeId->er)(ρ:bJ)(F:bD)(w:World)(v:Value):a8 K ρ F w (aae v) v:=by
 unfold aae;split
 ·rename_i cs;have:=a8.agg (K:=K) (ρ:=ρ) (F:=F) (w:=w) (cs.toList.map Dq) cs.toList (by simp) (λj x v hx hv=>by
   rw [kG,hv]at hx;simp at hx;subst hx;exact Yx K ρ F w v)
  exact sI
 ·rename_i cs;split
  ·rename_i h;have qn:cs= #[]:=by apply xF;simpa using h
   subst qn;exact a8.eV [] [] rfl (λj x v hx _=>Jc)
  ·exact .top _
 ·exact Yx K ρ F w v
def azI(K:TypeId->er)(ρ:bJ)(F:bD)(w:World)(vs:gz):dm K ρ F w (vs.map Dq) vs:=
 ⟨by simp,λj x v hx hv=>by
   rw [kG,hv]at hx;simp at hx;subst hx;exact Yx K ρ F w v⟩
def LK{K:TypeId->er}{ρ:bJ}{F:bD}{w:World}{x:AV}{v:Value}(h:a8 K ρ F w x v)(hx:x.leaf=true)(jD:∀(id:Nat) hd,ρ[id]?=some hd->hd.v.oneCell'=true):v.oneCell'=true:=by
 cases h<;>simp_all [AV.leaf,Value.oneCell']<;>(apply jD;assumption)
def a8.cells{K:TypeId->er}{ρ:bJ}{F:bD}{w:World}{x:AV}{v:Value}(h:a8 K ρ F w x v)(hx:x.leaf=true∨∃cs,x= .agg cs)
 (jD:∀(id:Nat) hd,ρ[id]?=some hd->hd.v.oneCell'=true):dm K ρ F w x.cells v.cells.toList:=by
 rcases hx with hx|⟨cs,rfl⟩
 ·have U:=LK h hx jD;have e1:x.cells=[x]:=by cases x<;>simp_all [AV.cells,AV.leaf]
  have e2:v.cells= #[v]:=by cases v<;>simp_all [Value.cells,Value.oneCell']
  rw [e1,e2];refine⟨rfl,λj y u hy hu=> ?_⟩;cases j with
  |zero=>simp at hy hu;subst hy;subst hu;exact h
  |succ j=>simp at hy
 ·cases h with
  |agg _ vs hl h=>exact⟨by simpa [Value.cells,AV.cells]using hl,by simpa [Value.cells,AV.cells]using h⟩
end
end Go.aj
namespace Go.aj
def fB{p:Prop}(h:p:=by simp;omega):p:=h
def aD{p:Prop}(h:p:=by cases h):p:=h
def qc{p:Prop}(h:p:=by simpa using h):p:=h
def akN{p:Prop}(h:p:=by rw [EL]at hu;cases d<;>simp [ph]at hu;exact f.mi):p:=h
def akI{p:Prop}(h:p:=by
 cases hac:a==c with
 |false=>simp [ke]
 |true=>simpa using ih):p:=h
def aaS{p:Prop}(h:p:=by rw [Mt];exact hu):p:=h
end Go.aj
namespace Go.aj
def nP:=@Bool.false_eq_true
def lI:=@if_false
def yy:=@of_decide_eq_true
def mz:=@List.all_eq_true
def jG:=@List.map_cons
def fk:=@List.length_cons
def fV:=@List.mem_cons
def jF:=@Bool.not_eq_true'
def ke:=@Go.Sem.run_pure
def wA:=@List.getD_eq_getElem?_getD
def uh:=@Option.getD_some
def lG:=@if_true
def ZF:=@List.drop_eq_getElem_cons
def IM:=@List.take_succ_cons
def FC:=@Array.getElem?_eq_getElem
def A8:=@Bool.or_eq_true
def RL:=@List.map_nil
def qQ:=@Array.length_toList
def Mt:=@Array.getElem?_toList
end Go.aj
namespace Go.aj
open Go
noncomputable section
variable {X:Cx} {R:Type}
variable{x:AV}{off:Nat}{r:R}{t:TypeId}{xs:ak}{ks:er}
def bf(b:Bool)(x:Option R):Option R:=match b with|true=>x|false=>none
def cO{b:Bool}{x:Option R}(h:bf b x=some r):b=true/\x=some r:=by
 cases b<;>simp_all [bf]
def Ce(ks:er)(row:Row)(off:Nat):Nat->ak
 |0=>[]
 |n+1=>ld (ks.getD off .raw) (row.getD off .top)::Ce ks row (off+1) n
def abm{ks:er}{row:Row}(h:cZ ks row=true):∀(n off:Nat),off+n<=ks.length->Ce ks row off n=(row.drop off).take n
 |0,off,_=>by simp [Ce]
 |n+1,off,hb=>by
  have hl:=kS h;have U:off<row.length:=by omega
  have h2:off<ks.length:=by omega
  simp only [Ce,List.getD,dy U,dy h2,uh];rw [IC (xD h (dy h2) (dy U)),abm h n (off+1) (by omega)];rw [ZF U,IM]
def Kind.v:Kind->Kind| .slice _=> .any | .raw => .any |k=>k
def kAt(ks:er)(off:Nat)(k:Kind):Bool:=(ks.all (·==k))||(ks.getD off .raw ==k)
def aBI{k:Kind}(h:kAt ks off k=true)(ho:off<ks.length):ks[off]?=some k:=by
 unfold kAt at h;rw [A8]at h;rcases h with h|h
 ·rw [mz]at h;rw [dy ho];have:=h _ (ei ho);simp at this;rw [this]
 ·rw [iU,List.getD,dy ho]at h;rw [dy ho];exact qc
def setAt:ak->Nat->ak->ak
 |cs,_,[]=>cs
 |cs,off,x::xs=>setAt (cs.set off x) (off+1) xs
def LY:∀(xs cs:ak) (off:Nat),(setAt cs off xs).length =cs.length
 | [],_,_=>rfl
 |x::xs,cs,off=>by simp [setAt,LY xs]
def Ml:∀(xs cs:ak) (off:Nat),off+xs.length<=cs.length->∀(j:Nat),(setAt cs off xs)[j]?=if off<=j/\j<off+xs.length then xs[j- off]? else cs[j]?
 | [],cs,off,_,j=>by simp [setAt];omega
 |x::xs,cs,off,h,j=>by
  simp only [fk]at h;rw [setAt,Ml xs (cs.set off x) (off+1) (fB) j]
  by_cases U:j=off
  ·subst U;rw [if_neg (by omega),if_pos (by simp),uf (by omega)];simp
  ·by_cases h2:off+1<=j/\j<off+1+xs.length
   ·rw [if_pos h2,if_pos (fB)];rw [show j- off=(j-(off+1))+1 by omega];simp
   ·rw [if_neg h2,if_neg (fB),mW (Ne.symm U)]
def Uq:er->Nat->ak->Bool
 |_,_,[]=>true
 |ks,off,x::xs=>kF (ks.getD off .raw) x&&Uq ks (off+1) xs
def BN(ks:er)(off:Nat)(xs:ak):Bool:=
 (match ks with|k::r=>(r.all (·==k))&&xs.all (kF k)| []=>false)||Uq ks off xs
def ah4:∀{xs:ak} {ks:er} {off:Nat},Uq ks off xs=true->∀{j:Nat} {x:AV},xs[j]?=some x->kF (ks.getD (off+j) .raw) x=true
 | [],_,_,_,j,x,hx=>Jc
 |y::ys,ks,off,h,j,x,hx=>by
  simp only [Uq,bw]at h;cases j with
  |zero=>simp at hx;subst hx;exact h.1
  |succ j=>
   have:=ah4 h.2 (j:=j) (x:=x) (MZ)
   rwa [show off+(j+1)=off+1+j by omega]
def ah5(h:BN ks off xs=true)(hb:off+xs.length<=ks.length){j:Nat}(hx:xs[j]?=some x):kF (ks.getD (off+j) .raw) x=true:=by
 unfold BN at h;rw [A8]at h;rcases h with h|h
 ·cases ks with
  |nil=>exact gU
  |cons k r=>
   simp only [bw,mz]at h;have hj:j<xs.length:=(fK.1 hx).1;have cH:off+j<(k::r).length :=by omega
   have hk:(k::r).getD (off+j) .raw =k:=by
    simp only [List.getD,dy cH,uh];have hm:=ei cH;rcases fV.1 hm with e|e
    ·exact e
    ·simpa using h.1 _ e
   rw [hk];exact h.2 x (rU hx)
 ·exact ah4 h hx
def ag5{cs:ak}(hk:cZ ks cs=true)(h:BN ks off xs=true)(hb:off+xs.length<=ks.length):cZ ks (setAt cs off xs)=true:=by
 have hl:=kS hk;refine ZW (by rw [LY];exact hl) λj k x hkj hx=> ?_;rw [Ml xs cs off (by omega) j]at hx
 by_cases hj:off<=j/\j<off+xs.length
 ·rw [if_pos hj]at hx;have:=ah5 h hb hx;rw [show off+(j- off)=j by omega]at this;simpa [List.getD,hkj]using this
 ·rw [if_neg hj]at hx;exact xD hk hkj hx
def acV(ks:er)(off:Nat):Kind:=
 match ks with
 | []=> .raw
 |k::r=>match r.all (·==k)with|true=>k|false=>(k::r).getD off .raw
def aBH(h:off<ks.length):acV ks off=ks[off]:=by
 unfold acV;split
 ·exact gU
 ·rename_i k r;split
  ·rename_i ha;cases off with
   |zero=>rfl
   |succ o=>
    have:=mz.1 ha (r[o]'(qc)) (ei _);simpa using(eq_of_beq this).symm
  ·rw [wA,dy h];rfl
def yE(X:Cx)(t:TypeId)(p:AV)(M:aF)(k:AV->Option R):Option R:=
 match p with
 | .kj t' row off=>
   bf ((X.ti t).ok &&decide (off+(X.ti t).size <=(X.K t').length))
    (match(X.ti t).u.agg with
     |true=>k (.agg (Ce (X.K t') row off (X.ti t).size))
     |false=>bf ((X.ti t).size ==1) (k (ld (acV (X.K t') off) (row.getD off .top))))
 | .ptr id i off=>
   match gm M id with
   |some (.var ks cs)=>
    bf ((X.ti t).ok &&i==0&&decide (off+(X.ti t).size <=ks.length))
     (match(X.ti t).u.agg with
      |true=>k (.agg (Ce ks cs off (X.ti t).size))
      |false=>bf ((X.ti t).size ==1&&kAt ks off ((X.ti t).ks.headD .raw).v) (k (ld ((X.ti t).ks.headD .raw).v (cs.getD off .top))))
   |some (.row t' xs)=>
    bf ((X.ti t).ok &&decide (off+(X.ti t).size <=(X.K t').length)&&decide (i<xs.length))
     (match(X.ti t).u.agg with
      |true=>k (.agg (Ce (X.K t') (xs.getD i []) off (X.ti t).size))
      |false=>bf ((X.ti t).size ==1) (k (ld ((X.K t').getD off .raw) ((xs.getD i []).getD off .top))))
   |_=>none
 |_=>none
def Pl(X:Cx):List (Nat×TypeId)->ak->ak->Option Bool
 | [],_,_=>some true
 |f::fs,xs,ys=>
  match Pl X fs xs ys with
  |none=>none
  |some r=>
   match(X.ti f.2).ok,(X.ti f.2).u,xs[f.1]?,ys[f.1]? with
   |true,.int _,some (.int ka a),some (.int kb b)=>(match ka==kb with|true=>some (a==b&&r)|false=>none)
   |true,.bool,some (.bool a),some (.bool b)=>some (a==b&&r)
   |_,_,_,_=>none
def DH(x:AV)(k:Bool->Option R):Option R:=
 match x with
 | .jI =>k true
 | .mS =>k false
 | .ae _ xs=>match xs.isEmpty with|true=>none|false=>k false
 |_=>none
def agK{k:Bool->Option R}(h:DH x k=some r):
 ∃b,k b=some r/\∀{K:TypeId->er} {ρ:bJ} {F:bD} {w:World} {v:Value},a8 K ρ F w x v->∃a n c,v= .slice a n c/\a.isNone=b:=by
 unfold DH at h;split at h
 ·exact⟨_,h,λ{K ρ F w v} hr=>by cases hr;exact⟨none,0,0,rfl,rfl⟩⟩
 ·exact⟨_,h,λ{K ρ F w v} hr=>by cases hr;exact⟨some _,0,_,rfl,rfl⟩⟩
 ·rename_i t xs;split at h
  ·exact aD
  ·rename_i he;refine⟨_,h,λ{K ρ F w v} hr=> ?_⟩;cases hr with
   |ng t=>simp at he
   |ae t xs a cap vss hl nA mB hk hc hx=>exact⟨some _,_,_,rfl,rfl⟩
 ·cases h
def NF(X:Cx)(op:BinOp)(t:TypeId)(x y:AV)(k:AV->Option R):Option R:=
 match x,y with
 | .int kx a,.int ky b=>
   match op with
   | .shl =>bf (decide (0<=b)) (k (.int kx (kx.wrap (a*2^(min b.toNat kx.bits)))))
   | .shr =>bf (decide (0<=b)) (k (.int kx (a.fdiv (2^(min b.toNat kx.bits)))))
   |_=>
    bf (kx==ky) (match op with
     | .add =>k (.int kx (kx.wrap (a+b)))
     | .sub =>k (.int kx (kx.wrap (a- b)))
     | .mul =>k (.int kx (kx.wrap (a*b)))
     | .quo =>bf (!(b==0)) (k (.int kx (kx.wrap (a.tdiv b))))
     | .rem =>bf (!(b==0)) (k (.int kx (a.tmod b)))
     | .and =>k (.int kx (kx.wrap (BitVec.ofInt kx.bits a&&&BitVec.ofInt kx.bits b).toNat))
     | .or =>k (.int kx (kx.wrap (BitVec.ofInt kx.bits a|||BitVec.ofInt kx.bits b).toNat))
     | .xor =>k (.int kx (kx.wrap (BitVec.ofInt kx.bits a^^^BitVec.ofInt kx.bits b).toNat))
     | .andNot =>k (.int kx (kx.wrap (BitVec.ofInt kx.bits a&&& ~~~ BitVec.ofInt kx.bits b).toNat))
     | .eql =>k (.bool (a==b))
     | .neq =>k (.bool (a != b))
     | .lss =>k (.bool (decide (a<b)))
     | .leq =>k (.bool (decide (a<=b)))
     | .gtr =>k (.bool (decide (b<a)))
     | .geq =>k (.bool (decide (b<=a)))
     |_=>none)
 | .bool a,.bool b=>
   match(X.ti t).ok,(X.ti t).u,op with
   |true,.bool,.eql =>k (.bool (a==b))
   |true,.bool,.neq =>k (.bool (!(a==b)))
   |_,_,_=>none
 | .agg xs,.agg ys=>
   match X.eqs t,(X.ti t).ok,(X.ti t).u with
   |true,true,.struct fs=>
    match Pl X fs xs ys with
    |none=>none
    |some b=>match op with| .eql =>k (.bool b)| .neq =>k (.bool (!b))|_=>none
   |_,_,_=>none
 |x,.jI =>
  match(X.ti t).ok,(X.ti t).u,op with
  |true,.slice _,.eql =>DH x λb=>k (.bool b)
  |true,.slice _,.neq =>DH x λb=>k (.bool (!b))
  |_,_,_=>none
 |_,_=>none
def awh(P:Program)(w:World)(op:BinOp)(t:TypeId)(x y:Operand)(ka kb:IntKind)(a b:Int):(eqGuard op t x y (.int ka a) (.int kb b)).run P w= .ok () w:=by
 unfold eqGuard;cases op<;>rfl
def afj(P:Program)(w:World)(op:BinOp)(t:TypeId)(x y:Operand)(a b:Bool):(eqGuard op t x y (.bool a) (.bool b)).run P w= .ok () w:=by
 unfold eqGuard;cases op<;>rfl
def QD{i:TypeInfo}{d:TypeDesc}{z:Value}(f:pF X t i d z)(ha:(X.ti t).u.agg =false){vs:Array Value}{v:Value}(hv:vs[off]?=some v)(w:World):(part t vs off).run X.P w= .ok v w:=by
 simp only [part,gh,f.isAgg,ha,iV,hv,ke,nP,lI]
def agl(hX:X.Okb){ρ:bJ}{F:bD}{w:World}{xs ys:ak}{vs us:Array Value}(U:dm X.K ρ F w xs vs.toList)(h2:dm X.K ρ F w ys us.toList)(d:Nat):∀(gs:List Field) (b:Bool),(∀g∈gs,g.name≠ "_")→
 Pl X (gs.map λf=>(f.offset,f.type)) xs ys=some b->(Op.eqFields (d+1) vs us gs).run X.P w= .ok b w
 | [],b,_,h=>by
   simp only [RL,Pl,Option.some.injEq]at h;subst h;rfl
 |g::gs,b,hn,h=>by
  simp only [jG,Pl]at h;split at h
  ·exact aD
  rename_i r hr;have ih:=agl hX U h2 d gs r (fun g hg=>hn g (by simp [hg])) hr;have anf:g.name≠ "_" :=hn g (by simp)
  have cell:∀{zs:ak} {ws:Array Value} {x:AV},dm X.K ρ F w zs ws.toList->zs[g.offset]?=some x->∃v,ws[g.offset]?=some v/\a8 X.K ρ F w x v:=by
   intro zs ws x hz hx;have cH:g.offset<zs.length:=(fK.1 hx).1;have hl:=hz.1;simp only [qQ]at hl;obtain⟨u,hu⟩:∃u,ws[g.offset]?=some u:=⟨ws[g.offset]'(by omega),FC (by omega)⟩;exact⟨u,hu,hz.2 g.offset _ _ hx (aaS)⟩
  split at h
  ·rename_i kt ka a kb c bB hu KG hyb;cases hk:ka==kb with
   |false=>rw [hk]at h;cases h
   |true=>
    rw [hk]at h;have hk:=eq_of_beq hk;subst hk;simp only [Option.some.injEq]at h;subst h;obtain⟨i,dd,z,f⟩:=hX.facts bB;have dN:X.P.underlying g.type=some (.int kt):=by
     have nn:=f.u;rw [hu]at nn;have hf:=f.mi;cases dd<;>simp [ph]at nn
     subst nn;exact hf
    have ha:(X.ti g.type).u.agg =false:=by rw [hu];rfl
    obtain⟨v,hv,mv⟩:=cell U KG;obtain⟨u,qm,nn⟩:=cell h2 hyb;cases mv;cases nn;simp only [Op.eqFields,ne_eq,anf,not_false_eq_true,lG,gh,QD f ha hv,QD f ha qm,iV,run_equalIn_int (P:=X.P) w d g.type ka kt a c dN];exact akI
  ·rename_i a c bB hu KG hyb;simp only [Option.some.injEq]at h;subst h;obtain⟨i,dd,z,f⟩:=hX.facts bB;have dN:X.P.underlying g.type=some .bool :=by
    have nn:=f.u;rw [hu]at nn;have hf:=f.mi;cases dd<;>simp [ph]at nn
    exact hf
   have ha:(X.ti g.type).u.agg =false:=by rw [hu];rfl
   obtain⟨v,hv,mv⟩:=cell U KG;obtain⟨u,qm,nn⟩:=cell h2 hyb;cases mv;cases nn;simp only [Op.eqFields,ne_eq,anf,not_false_eq_true,lG,gh,QD f ha hv,QD f ha qm,iV,run_equalIn_bool' (P:=X.P) w d g.type a c dN];exact akI
  ·exact aD
def ayN(hX:X.Okb){op:BinOp}{u:TypeId}{y:AV}{a b:Operand}{k:AV->Option R}(h:NF X op t x y k=some r):
 ∃z,k z=some r/\∀(ρ:bJ) (F:bD) (w:World) (va vb:Value),a8 X.K ρ F w x va->a8 X.K ρ F w y vb->
  ∃v,(do eqGuard op t a b va vb;binOp op t va vb:Sem Value).run X.P w= .ok v w/\a8 X.K ρ F w z v:=by
 unfold NF at h;split at h
 ·rename_i kx a' ky b';have key:∀(z:AV) (v:Value),(∀(ρ:bJ) (F:bD) (w:World),a8 X.K ρ F w z v)->(∀w,(binOp op t (.int kx a') (.int ky b')).run X.P w= .ok v w)->∀(ρ:bJ) (F:bD) (w:World) (va vb:Value),a8 X.K ρ F w (.int kx a') va->a8 X.K ρ F w (.int ky b') vb->
   ∃v,(do eqGuard op t a b va vb;binOp op t va vb:Sem Value).run X.P w= .ok v w/\a8 X.K ρ F w z v:=by
   intro z v hz du ρ F w va vb U h2;cases U;cases h2;refine⟨v,?_,hz ρ F w⟩;rw [gh,awh];exact du w
  cases op<;>simp only at h<;>first
   |(replace h:=cO h
     obtain⟨e,h⟩:=h
     first
      |(have e':=yy e
        refine⟨_,h,key _ _ (λ_ _ _=> .int _ _) λw=> ?_⟩;unfold binOp Op.shift;simp [show¬b'<0 by omega]
        done)
      |(rw [iU]at e
        subst e
        first
         |(refine⟨_,h,key _ _ (λ_ _ _=> .int _ _) λw=> ?_⟩
           first
            |(simp [binOp,Op.intArith];done)
            |(simp [binOp,Op.intBits];done))
         |(refine⟨_,h,key _ _ (λ_ _ _=> .bool _) λw=> ?_⟩
           simp [binOp,Op.intCmp];done)
         |(replace h:=cO h
           obtain⟨e2,h⟩:=h;refine⟨_,h,key _ _ (λ_ _ _=> .int _ _) λw=> ?_⟩;have hb:b'≠0:=by simpa using e2
           simp [binOp,Op.intDiv,hb];done)))
   |cases h
 ·rename_i a' b';cases bB:(X.ti t).ok with
  |false=>simp [bB]at h
  |true=>
   obtain⟨i,d,z,f⟩:=hX.facts bB;have hu:=f.u;simp only [bB]at h;split at h
   ·rename_i EL;have dN:X.P.underlying t=some .bool :=akN;refine⟨_,h,λρ F w va vb U h2=> ?_⟩;cases U;cases h2;refine⟨_,?_,.bool _⟩;rw [gh,afj];exact run_eql_bool (P:=X.P) (w:=w) t a' b' dN
   ·rename_i EL;have dN:X.P.underlying t=some .bool :=akN;refine⟨_,h,λρ F w va vb U h2=> ?_⟩;cases U;cases h2;refine⟨_,?_,.bool _⟩;rw [gh,afj];exact run_neq_bool (P:=X.P) (w:=w) t a' b' dN
   ·exact aD
 ·rename_i xs ys;split at h
  ·rename_i fs heq bB hu;split at h
   ·exact aD
   ·rename_i bb Vp;obtain⟨i,d,z,f⟩:=hX.facts bB;have BP:=hX.eqs t heq;have nn:=f.u;rw [hu]at nn;have dN:=f.mi;cases d<;>simp only [ph]at nn<;>try cases nn
    rename_i gs;unfold Kf at BP;rw [dN]at BP;simp only [bw,jF,mz,bne_iff_ne]at BP;obtain⟨⟨hn,eR⟩,hg⟩:=BP;have qM:X.P.fieldsOf t=gs:=by simp [Program.fieldsOf,dN]
    have run:∀(ρ:bJ) (F:bD) (w:World) (va vb:Array Value),dm X.K ρ F w xs va.toList->dm X.K ρ F w ys vb.toList->(Op.equalIn 10000 t (.agg va) (.agg vb)).run X.P w= .ok bb w:=by
     intro ρ F w va vb U h2;rw [run_equalIn_struct w 9999 t va vb (by rw [qM];exact dN) eR,qM];exact agl hX U h2 9998 gs.toList bb hn Vp
    split at h
    ·refine⟨_,h,λρ F w va vb U h2=> ?_⟩;cases U with
     |agg _ v1 gY qo=>
      cases h2 with
      |agg _ v2 ko sq=>
       refine⟨.bool bb,?_,.bool _⟩;rw [gh,run_eqGuard_agg (P:=X.P) w .eql t a b _ _ hg,iV,run_eql_struct,run ρ F w _ _ ⟨gY,qo⟩ ⟨ko,sq⟩];rfl
    ·refine⟨_,h,λρ F w va vb U h2=> ?_⟩;cases U with
     |agg _ v1 gY qo=>
      cases h2 with
      |agg _ v2 ko sq=>
       refine⟨.bool (!bb),?_,.bool _⟩;rw [gh,run_eqGuard_agg (P:=X.P) w .neq t a b _ _ hg,iV,run_neq_struct,run ρ F w _ _ ⟨gY,qo⟩ ⟨ko,sq⟩];rfl
    ·exact aD
  ·exact aD
 ·split at h
  ·rename_i e heq bB hu;obtain⟨i,d,z',f⟩:=hX.facts bB;have dN:=f.slice hu;obtain⟨bb,h,hv⟩:=agK h;refine⟨_,h,λρ F w va vb U h2=> ?_⟩;obtain⟨a',n,c,rfl,rfl⟩:=hv U;cases h2;refine⟨.bool a'.isNone,?_,.bool _⟩;rw [eqGuard_at_slice,gh,ke,iV];exact Lib.run_eql_slice_nil w t _ a' n c 0 0 dN
  ·rename_i e heq bB hu;obtain⟨i,d,z',f⟩:=hX.facts bB;have dN:=f.slice hu;obtain⟨bb,h,hv⟩:=agK h;refine⟨_,h,λρ F w va vb U h2=> ?_⟩;obtain⟨a',n,c,rfl,rfl⟩:=hv U;cases h2;refine⟨.bool (!a'.isNone),?_,.bool _⟩;rw [eqGuard_at_slice,gh,ke,iV];exact run_neq_slice_nil_any w t _ a' n c 0 0 dN
  ·exact aD
 ·cases h
end
end Go.aj
namespace Go.aj
def uq{p:Prop}(h:p:=by simpa using h2):p:=h
def amB{p:Prop}(h:p:=by
 rename_i ha;refine⟨_,h,λ{w0 S F ρ w vp} hI hp=> ?_⟩;obtain⟨hk,a,vs,rfl,hr,hc⟩:=core hI hp;exact(Mp hX bB hk hr hc uV).1 ha):p:=h
end Go.aj
namespace Go.aj
def sG:=@Array.getD_eq_getD_getElem?
def gG:=@decide_eq_true_eq
def nN:=@Option.map_some
def th:=@List.getElem?_take
def ug:=@List.getElem?_drop
def Df:=@Go.Addr.add_add
def sC:=@Go.Addr.add_lit
def MB:=@Nat.zero_add
def wz:=@List.getElem?_range
def R7:=@List.take_zero
end Go.aj
namespace Go.aj
open Go
noncomputable section
variable {X:Cx} {R:Type}
variable {w0 w:World} {S:Sc} {F:bD} {ρ:bJ} {M:aF}
def um(w:World)(a:Addr)(vs:gz):Prop:=∀(j:Nat) v,vs[j]?=some v->w.cell? (a.add j)=some v
def aza(hX:X.Okb){t:TypeId}(bB:(X.ti t).ok =true){a:Addr}{vs:gz}(hl:vs.length=(X.ti t).size)(hc:um w a vs):
 ((X.ti t).u.agg =true->(Instr.loadAt t (.pointer (some a))).run X.P w= .ok (.agg vs.toArray) w)/\
 ((X.ti t).u.agg =false->∀v,vs=[v]->(Instr.loadAt t (.pointer (some a))).run X.P w= .ok v w):=by
 obtain⟨i,d,z,f⟩:=hX.facts bB;constructor
 ·intro ha;unfold Instr.loadAt Instr.sureAddr loadVar;simp only [gh,ke,iV,f.isAgg,ha,lG,f.sizeOf,<-hl,run_loadCells_list w a vs hc]
 ·intro ha v hv;have h0:=hc 0 v (by simp [hv]);simp only [Addr.add,lG]at h0;unfold Instr.loadAt Instr.sureAddr loadVar;simp [f.isAgg,ha,run_load,h0]
def dm.drop_take{K:TypeId->er}{xs:ak}{vs:gz}(h:dm K ρ F w xs vs)(off n:Nat):dm K ρ F w ((xs.drop off).take n) ((vs.drop off).take n):=by
 refine⟨by simp [h.1],λj x v hx hv=> ?_⟩;rw [th]at hx hv;split at hx
 ·rename_i hj;rw [if_pos hj]at hv;rw [ug]at hx hv;exact h.2 _ x v hx hv
 ·cases hx
def um.drop_take{a:Addr}{vs:gz}(h:um w a vs)(off n:Nat):um w (a.add off) ((vs.drop off).take n):=by
 intro j v hv;rw [th]at hv;split at hv
 ·rw [ug]at hv;rw [Df];exact h _ v hv
 ·cases hv
def Inv.YL(hI:Inv X w0 S F ρ M w){id:Nat}{ks:er}{cs:ak}(hb:M[id]?=some (.var ks cs)){hd:Hd}(hh:ρ[id]?=some hd):
 cZ ks cs=true/\∃g cur e,hd.v= .slice (some ⟨g,0,none⟩) 1 1/\hd.sz=cs.length/\w.heap[g]?=some (.cells cur e (0,0))/\dm X.K ρ F w cs cur.toList/\um w ⟨g,0,none⟩ cur.toList/\(X.yc ks e||tF cs)=true:=by
 obtain⟨U,h2,g,cur,e,hv,hg,hr,hy⟩:=hI.rep id _ hd hb hh;refine⟨U,g,cur,e,hv,h2,hg,hr,λj v hj=> ?_,hy⟩;rw [sC,MB,cell_of_row w g j cur e (0,0) hg];simpa using hj
def Inv.Mm(hI:Inv X w0 S F ρ M w){id:Nat}{t:TypeId}{xs:aY}(hb:M[id]?=some (.row t xs)){hd:Hd}(hh:ρ[id]?=some hd){i:Nat}{row:Row}(hi:xs[i]?=some row):
 cZ (X.K t) row=true/\hd.sz=(X.K t).length /\∃g o c cur vs,hd.v= .slice (some ⟨g,o,none⟩) xs.length c/\w.heap[g]?=some (.cells cur t (0,0))/\xs.length<=c/\c<=maxLen/\o+c*hd.sz<=cur.size/\
  dm X.K ρ F w row vs/\um w ⟨g,o+i*hd.sz,none⟩ vs/\(∀(j:Nat) v,vs[j]?=some v->cur[o+i*hd.sz+j]?=some v):=by
 obtain⟨U,h2,h3⟩:=hI.rep id _ hd hb hh;have hk:=h2 i row hi;refine⟨hk,U,?_⟩;rcases h3 with⟨_,he⟩|⟨g,o,c,cur,hv,hg,h4,h5,h6,h7⟩
 ·subst he;simp at hi
 ·have hlen:=kS hk;have gj:∃vs:gz,vs.length=row.length/\∀(j:Nat) x v,row[j]?=some x->vs[j]?=some v->cur[o+i*hd.sz+j]?=some v/\a8 X.K ρ F w x v:=by
   refine⟨(List.range row.length).map λj=>cur.getD (o+i*hd.sz+j) undef,by simp,λj x v hx hv=> ?_⟩;obtain⟨u,hu,hr⟩:=h7 i row hi j x hx;have hj:=(fK.1 hx).1;rw [kG,wz hj]at hv;simp only [nN,Option.some.injEq]at hv;have:cur.getD (o+i*hd.sz+j) undef=u:=by rw [sG,hu];rfl
   rw [this]at hv;subst hv;exact⟨hu,hr⟩
  obtain⟨vs,hl,gj⟩:=gj;have N6:∀(j:Nat) v,vs[j]?=some v->cur[o+i*hd.sz+j]?=some v:=by
   intro j v hj;have AN:=(fK.1 hj).1;exact(gj j (row[j]'(by omega)) v (dy (by omega)) hj).1
  refine⟨g,o,c,cur,vs,hv,hg,h4,h5,h6,⟨hl,λj x v hx hv=>(gj j x v hx hv).2⟩,λj v hj=> ?_,N6⟩;rw [sC,cell_of_row w g _ cur t (0,0) hg];exact N6 j v hj
def u7{α:Type}{xs:List α}{i:Nat}{d:α}(h:i<xs.length):xs[i]?=some (xs.getD i d):=by
 simp [List.getD,dy h]
def dm.one{K:TypeId->er}{x:AV}{vs:gz}(h:dm K ρ F w [x] vs):∃v,vs=[v]/\a8 K ρ F w x v:=by
 obtain⟨U,h2⟩:=h
 match vs,U with
 | [v],_=>exact⟨v,rfl,h2 0 x v rfl rfl⟩
def Mp(hX:X.Okb){t:TypeId}(bB:(X.ti t).ok =true){ks:er}{row:Row}(hk:cZ ks row=true){a:Addr}{vs:gz}(hr:dm X.K ρ F w row vs)(hc:um w a vs){off:Nat}
 (hb:off+(X.ti t).size <=ks.length):
 ((X.ti t).u.agg =true->∃v,(Instr.loadAt t (.pointer (some (a.add off)))).run X.P w= .ok v w/\a8 X.K ρ F w (.agg (Ce ks row off (X.ti t).size)) v)/\
 ((X.ti t).u.agg =false->(X.ti t).size =1->∃v,(Instr.loadAt t (.pointer (some (a.add off)))).run X.P w= .ok v w/\a8 X.K ρ F w (row.getD off .top) v):=by
 have hl:=kS hk;have EK:=hr.1;have vP:=hr.drop_take off (X.ti t).size;have Co:=hc.drop_take off (X.ti t).size;have hlen:((vs.drop off).take (X.ti t).size).length =(X.ti t).size :=fB;obtain⟨l1,l2⟩:=aza (w:=w) hX bB hlen Co;constructor
 ·intro ha;refine⟨_,l1 ha,?_⟩;rw [abm hk _ _ hb];exact .agg _ _ vP.1 vP.2
 ·intro ha U;have cH:off<row.length:=by omega
  have e:(row.drop off).take (X.ti t).size =[row.getD off .top]:=by
   rw [U,ZF cH,IM,R7];simp only [List.getD,dy cH,uh]
  rw [e]at vP;obtain⟨v,hv,nm⟩:=vP.one;exact⟨v,l2 ha v hv,nm⟩
def agk(hX:X.Okb){t:TypeId}{p:AV}{k:AV->Option R}{r:R}(h:yE X t p M k=some r):
 ∃z,k z=some r/\∀{w0:World} {S:Sc} {F:bD} {ρ:bJ} {w:World} {vp:Value},Inv X w0 S F ρ M w->a8 X.K ρ F w p vp->∃v,(Instr.loadAt t vp).run X.P w= .ok v w/\a8 X.K ρ F w z v:=by
 unfold yE at h;simp only [fR]at h;split at h
 ·rename_i t' row off;replace h:=cO h;obtain⟨U,h⟩:=h;simp only [bw,gG]at U;split at h
  ·rename_i ha;refine⟨_,h,λ{w0 S F ρ w vp} hI hp=> ?_⟩;cases hp with
   |kj _ _ _ a vs hk hl hc hr=>exact(Mp hX U.1 hk ⟨hl,hr⟩ (λj v hv=>(hc j v hv).1) U.2).1 ha
  ·rename_i ha;replace h:=cO h;obtain⟨h2,h⟩:=h;refine⟨_,h,λ{w0 S F ρ w vp} hI hp=> ?_⟩;cases hp with
   |kj _ _ _ a vs hk hl hc hr=>
    obtain⟨v,ze,mv⟩:=(Mp hX U.1 hk ⟨hl,hr⟩ (λj v hv=>(hc j v hv).1) U.2).2 ha (uq);refine⟨v,ze,?_⟩;have hs:(X.ti t).size =1:=uq;have BQ:off<(X.K t').length :=by omega
    rw [aBH BQ,IC]
    ·exact mv
    ·have cH:off<row.length:=by rw [kS hk];exact BQ
     exact xD hk (dy BQ) (u7 cH)
 ·rename_i id i off;split at h
  ·rename_i ks cs hb;replace h:=cO h;obtain⟨U,h⟩:=h;simp only [bw,gG,iU]at U;obtain⟨⟨bB,HA⟩,uV⟩:=U;subst HA;have core:∀{w0:World} {S:Sc} {F:bD} {ρ:bJ} {w:World} {vp:Value},Inv X w0 S F ρ M w->a8 X.K ρ F w (.ptr id 0 off) vp->
    cZ ks cs=true/\∃a vs,vp= .pointer (some (Addr.add a off))/\dm X.K ρ F w cs vs/\um w a vs:=by
    intro w0 S F ρ w vp hI hp;cases hp with
    |ptr _ _ _ hd g o n c hid hv=>
     obtain⟨hk,g',cur,e,ig,eX,hg,hr,hc,_⟩:=hI.YL hb hid;rw [hv]at ig;injection ig with U h2 h3;injection U with U;injection U with U h4 h5;subst U;subst h4;refine⟨hk,⟨g,0,none⟩,cur.toList,?_,hr,hc⟩;simp [sC]
   split at h
   ·exact amB
   ·rename_i ha;replace h:=cO h;obtain⟨h2,h⟩:=h;simp only [bw,iU]at h2;refine⟨_,h,λ{w0 S F ρ w vp} hI hp=> ?_⟩;obtain⟨hk,a,vs,rfl,hr,hc⟩:=core hI hp;obtain⟨v,ze,mv⟩:=(Mp hX bB hk hr hc uV).2 ha h2.1;refine⟨v,ze,?_⟩;have cH:off<cs.length:=by have:=kS hk;omega
    rw [IC (xD hk (aBI h2.2 (by omega)) (u7 cH))];exact mv
  ·rename_i t' xs hb;replace h:=cO h;obtain⟨U,h⟩:=h;simp only [bw,gG]at U;obtain⟨⟨bB,uV⟩,hi⟩:=U;have core:∀{w0:World} {S:Sc} {F:bD} {ρ:bJ} {w:World} {vp:Value},Inv X w0 S F ρ M w->a8 X.K ρ F w (.ptr id i off) vp->
    cZ (X.K t') (xs.getD i [])=true/\∃a vs,vp= .pointer (some (Addr.add a off))/\dm X.K ρ F w (xs.getD i []) vs/\um w a vs:=by
    intro w0 S F ρ w vp hI hp;cases hp with
    |ptr _ _ _ hd g o n c hid hv=>
     obtain⟨hk,eX,g',o',c',cur,vs,ig,hg,_,_,_,hr,hc,_⟩:=hI.Mm hb hid (u7 (d:=[]) hi);rw [hv]at ig;injection ig with U h2 h3;injection U with U;injection U with U h4 h5;subst U;subst h4;refine⟨hk,_,vs,?_,hr,hc⟩;simp [sC]
   split at h
   ·exact amB
   ·rename_i ha;replace h:=cO h;obtain⟨h2,h⟩:=h;refine⟨_,h,λ{w0 S F ρ w vp} hI hp=> ?_⟩;obtain⟨hk,a,vs,rfl,hr,hc⟩:=core hI hp;have hs:(X.ti t).size =1:=uq;obtain⟨v,ze,mv⟩:=(Mp hX bB hk hr hc uV).2 ha hs;refine⟨v,ze,?_⟩;have BQ:off<(X.K t').length :=by omega
    have cH:off<(xs.getD i []).length :=by rw [kS hk];exact BQ
    rw [show(X.K t').getD off .raw =(X.K t')[off]by simp [List.getD,dy BQ],IC (xD hk (dy BQ) (u7 cH))];exact mv
  ·exact aD
 ·cases h
end
end Go.aj
namespace Go.aj
def Nz{p:Prop}(h:p:=by injection hk with hk;subst hk;exact Pb a ha):p:=h
def Nc{p:Prop}(h:p:=by
 rw [mw,Zm]at this;omega):p:=h
def alB{p:Prop}(h:p:=by
 simp only [uB]at h;exact⟨_,_,h,rfl,dc.refl _ _,λ{w0 S F ρ w} hI=>⟨F,hI,Grow.refl _ _ _,λ_ hv=>hv⟩⟩):p:=h
def aly{p:Prop}(h:p:=by
 intro y hy;obtain⟨j,hj⟩:=Be hy;exact agC (ah5 lN (by omega) hj)):p:=h
def alh{p:Prop}(h:p:=by
 injection e1 with e1;injection e1 with e1 e4 e5;subst e1;subst e4;exact⟨vs,hr,hc⟩):p:=h
def FQ{p:Prop}(h:p:=by simpa using hu):p:=h
def Ji{p:Prop}(h:p:=by simpa using hy):p:=h
def akQ{p:Prop}(h:p:=by
 simp only [MF,cw,sB,Fz,qQ];omega):p:=h
def akw{p:Prop}(h:p:=by exact LK (xj.2 j _ u hy hj) (anh _ (rU hy)) hI.one):p:=h
end Go.aj
namespace Go.aj
def MF:=@List.size_toArray
def fy:=@List.append_assoc
def cw:=@List.length_append
def ZN:=@List.getElem?_toArray
def A9:=@Nat.add_zero
def Mz:=@List.length_set
def sB:=@List.length_take
def zF:=@List.flatMap_cons
def RB:=@Go.run_storeCells_at
def RA:=@Go.setRow_heap
def Fz:=@List.length_drop
def wv:=@Nat.mul_le_mul_right
def mw:=@Nat.add_mul
def Zm:=@Nat.one_mul
end Go.aj
namespace Go.aj
open Go
noncomputable section
variable {X:Cx} {R:Type}
variable {w0 w:World} {S:Sc} {F:bD} {ρ:bJ} {M:aF}
variable{x:AV}{r:R}{t:TypeId}
def zN:AV->List Nat| .ptr id _ _=>[id]|_=>[]
def lJ:AV->List Nat| .au id=>[id]|_=>[]
def pb:AV->List Nat| .au id=>[id]| .vw id _ _=>[id]|_=>[]
def kZ(k:Kind)(x:AV)(M:aF)(c:AV->aF->Option R):Option R:=
 match k,x with
 | .slice t,.jI =>c (.ae t []) M
 | .slice t,.au id=>
   match gm M id with
   |some (.row t' xs)=>bf (t==t') (c (.ae t' xs) (M.set id (.fP t' xs)))
   |some (.fP t' xs)=>bf (t==t') (c (.ae t' xs) M)
   |_=>none
 |_,x=>c x M
def uB:er->ak->aF->(ak->aF->Option R)->Option R
 |k::ks,x::xs,M,c=>kZ k x M λx' M'=>uB ks xs M' λjN v8=>c (x'::jN) v8
 |_,xs,M,c=>c xs M
def awi(hI:Inv X w0 S F ρ M w){id:Nat}{xs:aY}(hb:M[id]?=some (.row t xs)){hd:Hd}(hh:ρ[id]?=some hd):
 (hd.fj=none/\xs=[]/\hd.v= .slice none 0 0)∨∃g,hd.fj=some g/\∀(F':bD),(∀a,F a->F' a)->(∀a,a.block=g->F' a)->a8 X.K ρ F' w (.ae t xs) hd.v:=by
 have nm:=hI.rep id _ hd hb hh;obtain⟨U,h2,h3⟩:=nm;rcases h3 with⟨h3,h4⟩|⟨g,o,c,cur,hv,hg,h4,h5,h6,h7⟩
 ·exact .inl ⟨by simp [Hd.fj,Value.fj,h3],h4,h3⟩
 ·refine .inr ⟨g,qZ,λF' hF hF'=> ?_⟩;rw [hv];have jx:∀i:Nat,i<xs.length->∃vs,dm X.K ρ F w (xs.getD i []) vs/\um w ⟨g,o+i*hd.sz,none⟩ vs:=by
   intro i hi;obtain⟨_,_,g',o',c',aLn,vs,ig,_,_,_,_,hr,hc,_⟩:=hI.Mm hb hh (u7 (d:=[]) hi);rw [hv]at ig;injection ig with e1 e2 e3;exact alh
  let vss:List gz:=(List.range xs.length).map λi=>if h:i<xs.length then(jx i h).choose else []
  have apk:∀(i:Nat) vs,vss[i]?=some vs->∃h:i<xs.length,vs=(jx i h).choose :=by
   intro i vs gj;have hi:i<xs.length:=by
    have:=(fK.1 gj).1;simpa [vss]using this
   refine⟨hi,?_⟩;simp only [vss,kG,wz hi,nN,Option.some.injEq,dif_pos hi]at gj;exact gj.symm
  refine .ae t xs ⟨g,o,none⟩ c vss (by simp [vss]) h4 h5 h2 ?_ ?_
  ·intro i vs gj;obtain⟨hi,rfl⟩:=apk i vs gj;obtain⟨hr,hc⟩:=(jx i hi).choose_spec;refine⟨by rw [hr.1,kS (h2 i _ (u7 hi))],λj v hj=> ?_⟩;have:=hc j v hj;rw [sC]at this⊢;rw [<-U];rw [show o+(i*hd.sz+j)=o+i*hd.sz+j by omega];exact⟨this,hF' _ rfl⟩
  ·intro i row vs aEq gj j x v hx ig;obtain⟨hi,rfl⟩:=apk i vs gj;obtain⟨hr,_⟩:=(jx i hi).choose_spec;have e:row=xs.getD i []:=by
    have:=u7 (d:=([]:Row)) hi;rw [aEq]at this;injection this
   subst e;exact(hr.2 j x v hx ig).mono (λ_ _ h=>h) hF (λ_ _ _ h=>h)
def Inv.ams(hI:Inv X w0 S F ρ M w){id:Nat}{b b':eE}{hd:Hd}(hb:M[id]?=some b)(hh:ρ[id]?=some hd)(dQ:hd.fj=none)(nm:n6 X ρ F w hd b'):Inv X w0 S F ρ (M.set id b') w where
 os:=hI.os
 tape:=hI.tape
 output:=hI.output
 size:=hI.size
 frame:=hI.frame
 len:=aaE
 rep:=λid' c h' hc eC=>by
  by_cases hid:id'=id
  ·exact amJ
  ·rw [mW (Ne.symm hid)]at hc;exact hI.rep id' c h' hc eC
 sep:=λid' c h' g' hc oR eC lQ=>by
  by_cases hid:id'=id
  ·subst hid;rw [hh]at eC;injection eC with eC;subst eC;rw [dQ]at lQ;cases lQ
  ·rw [mW (Ne.symm hid)]at hc;exact hI.sep id' c h' g' hc oR eC lQ
 mC:=λi j c d hc h' k tW U h2 h3 h4 h5 h6 h7=>by
  by_cases hi:i=id
  ·subst hi;rw [hh]at h5;injection h5 with h5;subst h5;rw [dQ]at h7;cases h7
  ·by_cases hj:j=id
   ·subst hj;rw [hh]at h6;injection h6 with h6;subst h6;rw [dQ];simp
   ·rw [mW (Ne.symm hi)]at U;rw [mW (Ne.symm hj)]at h2;exact hI.mC i j c d hc h' k tW U h2 h3 h4 h5 h6 h7
 fz:=hI.fz
 kz:=hI.kz
 dV:=hI.dV
 one:=hI.one
 jS:=hI.jS
 fin:=hI.fin
def ID{k:Kind}{c:AV->aF->Option R}(h:kZ k x M c=some r):
 ∃x' M',c x' M'=some r/\M'.length=M.length/\dc (lJ x) M M'/\∀{w0:World} {S:Sc} {F:bD} {ρ:bJ} {w:World},Inv X w0 S F ρ M w->∃F',Inv X w0 S F' ρ M' w/\Grow F F' ρ ρ w w/\∀v,a8 X.K ρ F w x v->a8 X.K ρ F' w x' v:=by
 unfold kZ at h;simp only [fR]at h;split at h
 ·exact⟨_,_,h,rfl,dc.refl _ _,λ{w0 S F ρ w} hI=>⟨F,hI,Grow.refl _ _ _,λv hv=>by cases hv;exact .ng _⟩⟩
 ·rename_i t id;split at h
  ·rename_i t' xs hb;replace h:=cO h;obtain⟨_,h⟩:=h;refine⟨_,_,h,by simp,dc.set _ _ _,λ{w0 S F ρ w} hI=> ?_⟩;have cH:id<ρ.length:=by have:=(fK.1 hb).1;have:=hI.len;omega
   have hh:ρ[id]?=some ρ[id]:=dy cH;rcases awi hI hb hh with⟨U,h2,h3⟩|⟨g,U,h2⟩
   ·refine⟨F,hI.ams hb hh U ?_,Grow.refl _ _ _,λv hv=> ?_⟩
    ·subst h2;show a8 _ _ _ _ _ _;rw [h3];exact .ng _
    ·cases hv with
     |au _ hd hid=>
      rw [hh]at hid;injection hid with hid;subst hid;subst h2;rw [h3];exact .ng _
   ·have hr:=h2 (λa=>F a∨a.block=g) (λ_ h=> .inl h) (λ_ h=> .inr h);refine⟨_,hI.freeze hb rfl hh U (b':= .fP t' xs) rfl hr,⟨λ_ h=> .inl h,λ_ _ h=>h,λ_ _=>rfl⟩,λv hv=> ?_⟩;cases hv with
    |au _ hd hid=>
     rw [hh]at hid;injection hid with hid;subst hid;exact hr
  ·rename_i t' xs hb;replace h:=cO h;obtain⟨_,h⟩:=h;refine⟨_,_,h,rfl,dc.refl _ _,λ{w0 S F ρ w} hI=>⟨F,hI,Grow.refl _ _ _,λv hv=> ?_⟩⟩;cases hv with
   |au _ hd hid=>exact hI.rep id _ hd hb hid
  ·exact aD
 ·exact⟨_,_,h,rfl,dc.refl _ _,λ{w0 S F ρ w} hI=>⟨F,hI,Grow.refl _ _ _,λ_ hv=>hv⟩⟩
def Re:∀(ks:er) (xs:ak) (M:aF) {c:ak->aF->Option R} {r:R},uB ks xs M c=some r->
 ∃jN M',c jN M'=some r/\M'.length=M.length/\dc (xs.flatMap lJ) M M'/\∀{w0:World} {S:Sc} {F:bD} {ρ:bJ} {w:World},Inv X w0 S F ρ M w->∃F',Inv X w0 S F' ρ M' w/\Grow F F' ρ ρ w w/\∀vs,dm X.K ρ F w xs vs->dm X.K ρ F' w jN vs
 | [],xs,M,c,r,h=>alB
 |k::ks,[],M,c,r,h=>alB
 |k::ks,x::xs,M,c,r,h=>by
  simp only [uB]at h;obtain⟨x',M1,h,gY,HD,U⟩:=ID (X:=X) h;obtain⟨jN,M2,h,ko,ha2,h2⟩:=Re ks xs M1 h;refine⟨_,_,h,by omega,by rw [zF];exact HD.trans ha2,λ{w0 S F ρ w} hI=> ?_⟩;obtain⟨F1,i1,g1,r1⟩:=U hI;obtain⟨F2,i2,g2,r2⟩:=h2 i1;refine⟨F2,i2,g1.trans g2,λvs gj=> ?_⟩
  match vs,gj.1 with
  |v::vs',hl=>
   have hx:a8 X.K ρ F w x v:=gj.2 0 x v rfl rfl;have hr:=r2 vs' ⟨uo,λj y u hy hu=>(gj.2 (j+1) y u (Ji) (FQ)).grow g1⟩;refine⟨by simp [hr.1],λj y u hy hu=> ?_⟩;cases j with
   |zero=>simp at hy hu;subst hy;subst hu;exact(r1 v hx).grow g2
   |succ j=>exact hr.2 j y u (Ji) (FQ)
def Ra(cur:Array Value)(vs:gz)(o:Nat)(hb:o+vs.length<=cur.size)(j:Nat):
 (cur.toList.take o++vs++cur.toList.drop (o+vs.length)).toArray[j]?=if o<=j/\j<o+vs.length then vs[j- o]? else cur[j]?:=by
 simp only [ZN,fy]
 by_cases U:j<o
 ·rw [mF (fB),if_neg (by omega),th,if_pos U];simp
 ·rw [nM (fB)];have e:(List.take o cur.toList).length =o:=fB;rw [e]
  by_cases h2:j<o+vs.length
  ·rw [if_pos ⟨by omega,h2⟩,mF (by omega)]
  ·rw [if_neg (by omega),nM (by omega),ug];rw [show o+vs.length+(j- o- vs.length)=j by omega];simp
def agu(hX:X.Okb)(bB:(X.ti t).ok =true){g o:Nat}{cur:Array Value}{e:TypeId}(hg:w.heap[g]?=some (.cells cur e (0,0))){v:Value}(hs:v.cells.size=(X.ti t).size)
 (hb:o+v.cells.size<=cur.size) (U:∀u∈v.cells.toList,u.oneCell'=true):
 (Instr.storeAt t (.pointer (some ⟨g,o,none⟩)) v).run X.P w= .ok () (w.setRow g (cur.toList.take o++v.cells.toList++cur.toList.drop (o+v.cells.toList.length)).toArray):=by
 obtain⟨i,d,z,f⟩:=hX.facts bB;have eR:=RB X.P g o e v.cells.toList 0 cur w hg (by simpa using hb) U;simp only [A9]at eR;unfold Instr.storeAt Instr.sureAddr storeVar;simp only [gh,ke,iV,f.sizeOf,hs,ne_eq,not_true_eq_false,lI,eR]
def Qw(w:World)(g:Nat)(cs:Array Value):w.grownBy (w.setRow g cs) (some g):=
 ⟨rfl,rfl,rfl,by simp,λk _ hk=>setRow_other w g k cs (λe=>hk (by rw [e]))⟩
def Q0(h:x.plain=true):x.leaf=true∨∃cs,x= .agg cs:=by
 cases x<;>simp_all [AV.plain,AV.leaf]
def I7(X:Cx)(t:TypeId)(p x:AV)(M:aF)(k:aF->Option R):Option R:=
 match p with
 | .ptr id i off=>
   match gm M id with
   |some (.var ks cs)=>
    bf (x.plain&&(X.ti t).ok &&i==0&&x.cells.length==(X.ti t).size &&decide (off+(X.ti t).size <=ks.length)&&BN ks off x.cells&&X.vK ks cs (setAt cs off x.cells)) (k (M.set id (.var ks (setAt cs off x.cells))))
   |some (.row _ _)=>
    bf x.plain (uB (X.ti t).ks x.cells M λxc M1=>
     match gm M1 id with
     |some (.row t' xs)=>
      bf ((X.ti t).ok &&xc.length==(X.ti t).size &&decide (off+(X.ti t).size <=(X.K t').length)&&BN (X.K t') off xc&&decide (i<xs.length)) (k (M1.set id (.row t' (xs.set i (setAt (xs.getD i []) off xc)))))
     |_=>none)
   |_=>none
 |_=>none
def axF(hX:X.Okb){p:AV}{k:aF->Option R}(h:I7 X t p x M k=some r):
 ∃M',k M'=some r/\dc (zN p++x.cells.flatMap lJ) M M'/\∀{w0:World} {S:Sc} {F:bD} {ρ:bJ} {w:World} {vp vx:Value},Inv X w0 S F ρ M w->a8 X.K ρ F w p vp->a8 X.K ρ F w x vx->
  ∃w' F',(Instr.storeAt t vp vx).run X.P w= .ok () w'/\Inv X w0 S F' ρ M' w'/\Grow F F' ρ ρ w w':=by
 unfold I7 at h;simp only [fR]at h;split at h
 ·rename_i id i off;split at h
  ·rename_i ks cs hb;replace h:=cO h;obtain⟨U,h⟩:=h;simp only [bw,gG,iU]at U;obtain⟨⟨⟨⟨⟨⟨uN,bB⟩,HA⟩,hlen⟩,uV⟩,lN⟩,eR⟩:=U;subst HA;refine⟨_,h,(dc.set _ _ _).mono (by simp [zN]),λ{w0 S F ρ w vp vx} hI hp hx=> ?_⟩;cases hp with
   |ptr _ _ _ hd g o n c hid hv=>
    obtain⟨hk,g',cur,e,ig,eX,hg,hr,hc,hy⟩:=hI.YL hb hid;have mv:=ig;rw [hv]at ig;injection ig with e1 e2 e3;injection e1 with e1;injection e1 with e1 e4 e5;subst e1;subst e4;have anh:∀y∈x.cells,y.leaf=true:=aly;have xj:=hx.cells (Q0 uN) hI.one;have gj:vx.cells.size=(X.ti t).size :=by have:=xj.1;simp at this;omega
    have tV:=kS hk;have fh:=hr.1;simp only [qQ]at fh;have rr:∀u∈vx.cells.toList,u.oneCell'=true:=by
     intro u hu;obtain⟨j,hj⟩:=Be hu;have AN:=(fK.1 hj).1;have hl:=xj.1;have hy:x.cells[j]?=some (x.cells[j]'(by omega)):=dy (by omega);exact akw
    have du:=agu (w:=w) hX bB (o:=off) hg gj (by omega) rr;have e0:(0+0*hd.sz+off:Nat)=off:=by omega
    rw [e0];have lP:=Qw w g (cur.toList.take off++vx.cells.toList++cur.toList.drop (off+vx.cells.toList.length)).toArray;have Pb:∀a,F a->a.block≠g:=(hI.sep id _ hd g hb rfl hid (qZ)).2.2;have nT:Grow F F ρ ρ w (w.setRow g (cur.toList.take off++vx.cells.toList++cur.toList.drop (off+vx.cells.toList.length)).toArray):=
     ⟨λ_ h=>h,λ_ _ h=>h,hI.Ap lP (λk hk a ha=>Nz)⟩
    refine⟨_,F,du,hI.write hb rfl hid (qZ) lP ?_,nT⟩;refine⟨ag5 hk lN (by omega),by rw [LY];exact eX,g,_,e,mv,RA w g cur _ e _ hg,⟨?_,λj y u hy hu=> ?_⟩,Cx.aCj eR hy⟩
    ·rw [LY];simp only [cw,sB,Fz,qQ];omega
    ·rw [Ml x.cells cs off (by omega) j]at hy;have qm:(cur.toList.take off++vx.cells.toList++cur.toList.drop (off+vx.cells.toList.length)).toArray[j]?=some u:=FQ;rw [Ra cur vx.cells.toList off (fB) j]at qm;have el:vx.cells.toList.length=x.cells.length:=xj.1;rw [el]at qm
     by_cases hj:off<=j/\j<off+x.cells.length
     ·rw [if_pos hj]at hy qm;exact(xj.2 _ y u hy qm).grow nT
     ·rw [if_neg hj]at hy qm;exact(hr.2 j y u hy (by simpa using qm)).grow nT
  ·rename_i t0 xs0 Pf;replace h:=cO h;obtain⟨uN,h⟩:=h;obtain⟨xc,M1,h,gY,gZ,KR⟩:=Re (X:=X) _ _ _ h;split at h
   ·rename_i t' xs hb;replace h:=cO h;obtain⟨U,h⟩:=h;simp only [bw,gG,iU]at U;obtain⟨⟨⟨⟨bB,hlen⟩,uV⟩,lN⟩,hi⟩:=U;refine⟨_,h,(gZ.trans (dc.set _ _ _)).mono (by intro i hi;rw [mE]at hi⊢;rcases hi with h|h;exact .inr h;exact .inl (by simpa [zN]using h)),λ{w0 S F0 ρ w vp vx} qO hp hx=> ?_⟩;obtain⟨F,hI,oe,rH⟩:=KR qO;cases hp with
    |ptr _ _ _ hd g o n c hid hv=>
     obtain⟨hk,eX,g',o',c',cur,vs,ig,hg,qo,sq,hc3,hr,hc,N6⟩:=hI.Mm hb hid (u7 (d:=[]) hi);have hv3:=ig;rw [hv]at ig;injection ig with e1 e2 e3;injection e1 with e1;injection e1 with e1 e4 e5;subst e1;subst e4;subst e3;have anh:∀y∈xc,y.leaf=true:=aly;have tV:=kS hk;have xj:dm X.K ρ F w xc vx.cells.toList:=rH _ (hx.cells (Q0 uN) qO.one);have gj:vx.cells.size=(X.ti t).size :=by have:=xj.1;simp at this;omega
     have rr:∀u∈vx.cells.toList,u.oneCell'=true:=by
      intro u hu;obtain⟨j,hj⟩:=Be hu;have AN:=(fK.1 hj).1;have hl:=xj.1;have hy:xc[j]?=some (xc[j]'(by omega)):=dy (by omega);exact akw
     have aLM:o+i*hd.sz+hd.sz<=cur.size:=by
      have:(i+1)*hd.sz<=c*hd.sz:=wv _ (by omega);exact Nc
     have du:=agu (w:=w) hX bB (o:=o+i*hd.sz+off) hg gj (by omega) rr;have lP:=Qw w g (cur.toList.take (o+i*hd.sz+off)++vx.cells.toList++cur.toList.drop (o+i*hd.sz+off+vx.cells.toList.length)).toArray;have Pb:∀a,F a->a.block≠g:=(hI.sep id _ hd g hb rfl hid (qZ)).2.2;have nT:Grow F F ρ ρ w (w.setRow g (cur.toList.take (o+i*hd.sz+off)++vx.cells.toList++cur.toList.drop (o+i*hd.sz+off+vx.cells.toList.length)).toArray):=
      ⟨λ_ h=>h,λ_ _ h=>h,hI.Ap lP (λk hk a ha=>Nz)⟩
     obtain⟨q1,q2,q3⟩:=hI.rep id _ hd hb hid;have q4:∀(i:Nat) row,xs[i]?=some row->∀(j:Nat) x,row[j]?=some x->∃v,cur[o+i*hd.sz+j]?=some v/\a8 X.K ρ F w x v:=by
      rcases q3 with⟨q5,_⟩|⟨g2,o2,c2,aLX,mv,oB,_,_,_,q7⟩
      ·rw [hv]at q5;cases q5
      ·rw [hv]at mv;injection mv with e1 e2 e3;injection e1 with e1;injection e1 with e1 e4 e5;subst e1;subst e4;rw [hg]at oB;injection oB with oB;injection oB with oB;subst oB;exact q7
     have Ch:xs[i]?=some (xs.getD i []):=u7 hi;refine⟨_,F,du,hI.write hb rfl hid (qZ) lP ?_,oe.trans nT⟩;refine⟨eX,λi' J0 ca=> ?_,.inr ⟨g,o,c,_,by rw [Mz];exact hv3,RA w g cur _ t' _ hg,by rw [Mz];exact qo,sq,?_,λi' J0 ca j y hy=> ?_⟩⟩
     ·by_cases KN:i'=i
      ·subst KN;rw [uf hi]at ca;injection ca with ca;subst ca;exact ag5 hk lN (by omega)
      ·rw [mW (Ne.symm KN)]at ca;exact q2 i' J0 ca
     ·exact akQ
     ·have el:vx.cells.toList.length=xc.length:=xj.1;rw [Ra cur vx.cells.toList _ (fB) _];have uM:∀(i:Nat) row,xs[i]?=some row->row.length=hd.sz:=λi row h=>by rw [kS (q2 i row h),eX]
      by_cases KN:i'=i
      ·subst KN;rw [uf hi]at ca;injection ca with ca;subst ca;rw [Ml xc _ off (by omega) j]at hy
       by_cases hj:off<=j/\j<off+xc.length
       ·rw [if_pos hj]at hy;rw [if_pos (by omega)];have O7:j- off<xc.length:=by omega
        have hu:vx.cells.toList[j- off]?=some (vx.cells.toList[j- off]'(by omega)):=dy (by omega);refine⟨_,by rw [show o+i'*hd.sz+j-(o+i'*hd.sz+off)=j- off by omega];exact hu,(xj.2 _ y _ hy hu).grow nT⟩
       ·rw [if_neg hj]at hy;rw [if_neg (by omega)];obtain⟨u,hu,hru⟩:=q4 i' _ Ch j y hy;exact⟨u,hu,hru.grow nT⟩
      ·rw [mW (Ne.symm KN)]at ca;have EW:j<hd.sz:=by rw [<-uM i' J0 ca];exact(fK.1 hy).1
       have eY:¬(o+i*hd.sz+off<=o+i'*hd.sz+j/\o+i'*hd.sz+j<o+i*hd.sz+off+vx.cells.toList.length):=by
        rcases Nat.lt_or_gt_of_ne KN with cH|hgt
        ·have:(i'+1)*hd.sz<=i*hd.sz:=wv _ (by omega);exact Nc
        ·have:(i+1)*hd.sz<=i'*hd.sz:=wv _ (by omega);exact Nc
       rw [if_neg eY];obtain⟨u,hu,hru⟩:=q4 i' J0 ca j y hy;exact⟨u,hu,hru.grow nT⟩
   ·exact aD
  ·exact aD
 ·cases h
end
end Go.aj
namespace Go.aj
def amQ{p:Prop}(h:p:=by
 rw [fT,kG]at EZ;cases hgs:gs.toList[fi]? with
 |none=>rw [hgs]at EZ;cases EZ
 |some vU=>
  rw [hgs]at EZ;simp at EZ;exact⟨vU,by simpa using hgs,EZ.1,EZ.2⟩):p:=h
def JB{p:Prop}(h:p:=by rw [f.zc];exact azI _ _ _ _ _):p:=h
def Dx{p:Prop}(h:p:=by rw [f2.size];exact f2.ks):p:=h
def alC{p:Prop}(h:p:=by
 cases hv with
 |kj _ _ _ a vs hk hl hc hr=>
  refine⟨_,du _ _,?_⟩;rw [Df];exact .kj _ _ _ a vs hk hl hc hr):p:=h
def ak6{p:Prop}(h:p:=by
 refine⟨_,run_indexAt_slice hX bB hu he h0 U w,?_⟩;rw [<-eX];exact hp):p:=h
def Dm{p:Prop}(h:p:=by simp at hi):p:=h
end Go.aj
namespace Go.aj
def IQ:=@Go.run_newObj
def IN:=@Go.World.alloc_eq
def C8:=@beq_eq_false_iff_ne
def Ry:=@Go.heap_alloc_new
def II:=@Go.World.grownBy_alloc
end Go.aj
namespace Go.aj
open Go
noncomputable section
variable {X:Cx} {R:Type}
variable {w0 w:World} {S:Sc} {F:bD} {ρ:bJ} {M:aF}
variable{i x:AV}{k:AV->Option R}{fi:Nat}{r:R}{t:TypeId}{cs:ak}
def Eb(X:Cx)(M:aF)(x:AV)(M':aF)(hyp:bJ->bD->World->Prop)(s:Sem Value):Prop:=
 ∀{w0:World} {S:Sc} {F:bD} {ρ:bJ} {w:World},Inv X w0 S F ρ M w->hyp ρ F w->
  ∃v w' ρ' F',s.run X.P w= .ok v w'/\Inv X w0 S F' ρ' M' w'/\Grow F F' ρ ρ' w w'/\a8 X.K ρ' F' w' x v
def awg{w:World}{o:Obj}:∀a v,w.cell? a=some v->(w.alloc o).cell? a=some v:=by
 intro a v h;rw [World.cell?_alloc_lt _ _ _ (block_lt_of_cell h)];exact h
def Inv.newVar(hI:Inv X w0 S F ρ M w){ks:er}(hk:cZ ks cs=true){cur:Array Value}(hr:dm X.K ρ F w cs cur.toList)(e:TypeId)(hy:(X.yc ks e||tF cs)=true):
 Inv X w0 S F (ρ++[⟨.slice (some ⟨w.heap.size,0,none⟩) 1 1,cs.length⟩]) (M++[.var ks cs]) (w.alloc (.cells cur e))/\
 Grow F F ρ (ρ++[⟨.slice (some ⟨w.heap.size,0,none⟩) 1 1,cs.length⟩]) w (w.alloc (.cells cur e)):=by
 have nT:Grow F F ρ (ρ++[⟨.slice (some ⟨w.heap.size,0,none⟩) 1 1,cs.length⟩]) w (w.alloc (.cells cur e)):=
  ⟨λ_ h=>h,λ_ _ h=>qu h,hI.Ap (II w _ none) (by simp)⟩
 refine⟨hI.push (II w _ none) (hd:=⟨.slice (some ⟨w.heap.size,0,none⟩) 1 1,cs.length⟩) ?_ rfl ?_,nT⟩
 ·intro g hg;simp [Hd.fj,Value.fj]at hg;subst hg;simp
 ·exact⟨hk,rfl,_,_,_,rfl,Ry w _,hr.grow nT,hy⟩
def Zx{hd:Hd}{g o n c:Nat}(hl:ρ.length=M.length)(hv:hd.v= .slice (some ⟨g,o,none⟩) n c)(i off:Nat):
 a8 X.K (ρ++[hd]) F w (.ptr M.length i off) (.pointer (some ⟨g,o+i*hd.sz+off,none⟩)):=
 .ptr _ _ _ hd g o n c (by rw [<-hl];simp) hv
def qH(X:Cx)(t:TypeId):er:=(X.ti t).ks.map Kind.v
def Z6(X:Cx)(t:TypeId)(M:aF)(k:AV->aF->Option R):Option R:=
 bf (((X.ti t).ok &&X.yc (qH X t) t)&&cZ (qH X t) (X.ti t).zero) (k (.ptr M.length 0 0) (M++[.var (qH X t) (X.ti t).zero]))
def axL(hX:X.Okb){k:AV->aF->Option R}(h:Z6 X t M k=some r):
 ∃x M',k x M'=some r/\dc [] M M'/\Eb X M x M' (λ_ _ _=>True) (Instr.alloc t true (.tuple #[])):=by
 unfold Z6 at h;replace h:=cO h;obtain⟨U,h⟩:=h;simp only [bw]at U;obtain⟨i,d,z,f⟩:=hX.facts U.1.1;refine⟨_,_,h,dc.push _ _ _,λ{w0 S F ρ w} hI _=> ?_⟩;have hr:dm X.K ρ F w (X.ti t).zero z.cells.toList:=JB;obtain⟨eZ,hg⟩:=hI.newVar U.2 hr t (by rw [U.1.2];rfl);refine⟨.pointer (some ⟨w.heap.size,0,none⟩),_,_,_,?_,eZ,hg,?_⟩
 ·simp only [Instr.alloc,gh,f.zeroValue,iV,newVar,newRow,IQ,ke,IN]
 ·have:=Zx (X:=X) (F:=F) (w:=w.alloc (.cells z.cells t)) (hd:=⟨.slice (some ⟨w.heap.size,0,none⟩) 1 1,(X.ti t).zero.length⟩) hI.len rfl 0 0;exact sI
def ab9(X:Cx)(t:TypeId)(x:AV)(M:aF)(k:AV->aF->Option R):Option R:=
 bf ((x.plain&&X.yc (qH X t) t)&&cZ (qH X t) x.cells) (k (.ptr M.length 0 0) (M++[.var (qH X t) x.cells]))
def ayM{k:AV->aF->Option R}(h:ab9 X t x M k=some r):
 ∃y M',k y M'=some r/\dc [] M M'/\∀v,Eb X M y M' (λρ F w=>a8 X.K ρ F w x v) (Instr.box t v):=by
 unfold ab9 at h;replace h:=cO h;obtain⟨U,h⟩:=h;simp only [bw]at U;refine⟨_,_,h,dc.push _ _ _,λv {w0 S F ρ w} hI hx=> ?_⟩;have hr:=hx.cells (Q0 U.1.1) hI.one;obtain⟨eZ,hg⟩:=hI.newVar U.2 hr t (by rw [U.1.2];rfl);refine⟨.pointer (some ⟨w.heap.size,0,none⟩),_,_,_,?_,eZ,hg,?_⟩
 ·simp only [Instr.box,gh,newVar,newRow,IQ,ke,iV,IN]
 ·have:=Zx (X:=X) (F:=F) (w:=w.alloc (.cells v.cells t)) (hd:=⟨.slice (some ⟨w.heap.size,0,none⟩) 1 1,x.cells.length⟩) hI.len rfl 0 0;exact sI
def Mb(X:Cx)(t:TypeId)(x:AV)(fi:Nat)(k:AV->Option R):Option R:=
 match(X.ti t).ok,(X.ti t).u with
 |true,.struct fs=>
  match fs[fi]? with
  |some (off,ft)=>
   bf ((X.ti ft).ok && !((X.ti ft).size ==0)) (match x with
    | .ptr id i o=>k (.ptr id i (o+off))
    | .kj t' row o=>k (.kj t' row (o+off))
    |_=>none)
  |none=>none
 |_,_=>none
def avd(hX:X.Okb)(h:Mb X t x fi k=some r):
 ∃y,k y=some r/\∀{ρ:bJ} {F:bD} {w:World} {v:Value},a8 X.K ρ F w x v->∃u,(Instr.fieldAt t v fi).run X.P w= .ok u w/\a8 X.K ρ F w y u:=by
 unfold Mb at h;split at h
 ·rename_i fs bB hu;obtain⟨i,d,z,f⟩:=hX.facts bB;obtain⟨gs,dN,fT⟩:=f.struct hu;split at h
  ·rename_i off ft EZ;replace h:=cO h;obtain⟨U,h⟩:=h;simp only [bw,jF,C8]at U;obtain⟨i2,d2,z2,f2⟩:=hX.facts U.1;have hg:∃vU,gs[fi]?=some vU/\vU.offset=off/\vU.type=ft:=amQ;obtain⟨vU,ac7,rfl,rfl⟩:=hg;have du:∀(w:World) (a:Addr),(Instr.fieldAt t (.pointer (some a)) fi).run X.P w= .ok (.pointer (some (a.add vU.offset))) w:=by
    intro w a;simp only [Instr.fieldAt,gh,k7 dN,iV,ac7,Instr.sureAddr,ke,fieldPlace,f2.sizeOf,U.2,lI]
   split at h
   ·rename_i id i0 o;refine⟨_,h,λ{ρ F w v} hv=> ?_⟩;cases hv with
    |ptr _ _ _ hd g o' n c hid hv=>
     refine⟨_,du _ _,?_⟩;rw [sC,show o'+i0*hd.sz+o+vU.offset=o'+i0*hd.sz+(o+vU.offset)by omega];exact .ptr _ _ _ hd g o' n c hid hv
   ·rename_i t' row o;refine⟨_,h,λ{ρ F w v} hv=> ?_⟩;exact alC
   ·exact aD
  ·exact aD
 ·cases h
def A1(X:Cx)(t:TypeId)(x i:AV)(M:aF)(k:AV->Option R):Option R:=
 match i with
 | .int _ n=>
   match(X.ti t).ok,(X.ti t).u with
   |true,.slice e=>
    bf ((X.ti e).ok) (match x with
     | .ae t' xs=>bf (e==t'&&(decide (0<=n)&&decide (n<(xs.length:Int)))) (k (.kj t' (xs.getD n.toNat []) 0))
     | .au id=>
       match gm M id with
       |some (.row t' xs)=>bf (e==t'&&(decide (0<=n)&&decide (n<(xs.length:Int)))) (k (.ptr id n.toNat 0))
       |some (.fP t' xs)=>bf (e==t'&&(decide (0<=n)&&decide (n<(xs.length:Int)))) (k (.kj t' (xs.getD n.toNat []) 0))
       |_=>none
     | .oy id m=>bf (decide (0<=n)&&decide (n<(m:Int))) (k (.ptr id 0 (n.toNat*(X.ti e).size)))
     | .vw id lo m=>
       match gm M id with
       |some (.row t' _)=>bf (e==t'&&(decide (0<=n)&&decide (n<(m:Int)))) (k (.ptr id (lo+n.toNat) 0))
       |_=>none
     |_=>none)
   |true,.array len e=>
    bf ((X.ti e).ok &&(decide (0<=n)&&decide (n<(len:Int)))) (match x with
     | .ptr id j off=>k (.ptr id j (off+n.toNat*(X.ti e).size))
     | .kj t' row off=>k (.kj t' row (off+n.toNat*(X.ti e).size))
     |_=>none)
   |_,_=>none
 |_=>none
def run_indexAt_slice(hX:X.Okb){e:TypeId}(bB:(X.ti t).ok =true)(hu:(X.ti t).u = .slice e)(he:(X.ti e).ok =true){a:Addr}{len cap:Nat}{kk:IntKind}{n:Int}(h0:0<=n)(U:n<(len:Int))(w:World):
 (Instr.indexAt t (.slice (some a) len cap) (.int kk n)).run X.P w= .ok (.pointer (some (a.add (n.toNat*(X.ti e).size)))) w:=by
 obtain⟨i,d,z,f⟩:=hX.facts bB;obtain⟨i2,d2,z2,f2⟩:=hX.facts he;have dN:=f.slice hu;simp [Instr.indexAt,asIntOf,k7 dN,h0,U,f2.sizeOf]
def agm{xs:aY}{v:Value}(hv:a8 X.K ρ F w (.ae t xs) v){i:Nat}(hi:i<xs.length):
 ∃a cap,v= .slice (some a) xs.length cap/\a8 X.K ρ F w (.kj t (xs.getD i []) 0) (.pointer (some (a.add (i*(X.K t).length)))):=by
 cases hv with
 |ng=>exact Dm
 |ae _ _ a cap vss hl nA mB hk hc hr=>
  have nI:vss[i]?=some (vss[i]'(by omega)):=dy (by omega);have Ho:=u7 (d:=([]:Row)) hi;obtain⟨c1,c2⟩:=hc i _ nI;have nm:a8 X.K ρ F w (.kj t (xs.getD i []) 0) (.pointer (some ((a.add (i*(X.K t).length)).add 0))):=by
   refine .kj t _ 0 (a.add (i*(X.K t).length)) (vss[i]'(by omega)) (hk i _ Ho) ?_ ?_ ?_
   ·rw [c1,kS (hk i _ Ho)]
   ·intro j v hj;rw [Df];exact c2 j v hj
   ·exact hr i _ _ Ho nI
  exact⟨a,cap,rfl,by simpa [Addr.add]using nm⟩
def avc(hX:X.Okb)(h:A1 X t x i M k=some r):
 ∃y,k y=some r/\∀{w0:World} {S:Sc} {F:bD} {ρ:bJ} {w:World} {v vi:Value},Inv X w0 S F ρ M w->a8 X.K ρ F w x v->a8 X.K ρ F w i vi->
  ∃u,(Instr.indexAt t v vi).run X.P w= .ok u w/\a8 X.K ρ F w y u:=by
 unfold A1 at h;simp only [fR]at h;split at h
 ·rename_i kk n;split at h
  ·rename_i e bB hu;replace h:=cO h;obtain⟨he,h⟩:=h;obtain⟨i2,d2,z2,f2⟩:=hX.facts he;have eX:(X.K e).length =(X.ti e).size :=Dx;split at h
   ·rename_i t' xs;replace h:=cO h;obtain⟨U,h⟩:=h;simp only [bw,gG,iU]at U;obtain⟨rfl,h0,U⟩:=U;refine⟨_,h,λ{w0 S F ρ w v vi} hI hv hi=> ?_⟩;cases hi;obtain⟨a,cap,rfl,hp⟩:=agm hv (i:=n.toNat) (by omega);exact ak6
   ·rename_i id;split at h
    ·rename_i t' xs hb;replace h:=cO h;obtain⟨U,h⟩:=h;simp only [bw,gG,iU]at U;obtain⟨rfl,h0,U⟩:=U;refine⟨_,h,λ{w0 S F ρ w v vi} hI hv hi=> ?_⟩;cases hi;cases hv with
     |au _ hd hid=>
      have uP:n.toNat<xs.length:=by omega
      obtain⟨hk,hs,g,o,c,cur,vs,hv,hg,_⟩:=hI.Mm hb hid (u7 (d:=[]) uP);rw [hv];refine⟨_,run_indexAt_slice hX bB hu he h0 U w,?_⟩;rw [sC];have:=a8.ptr (K:=X.K) (ρ:=ρ) (F:=F) (w:=w) id n.toNat 0 hd g o xs.length c hid hv;rw [hs,eX]at this;exact sI
    ·rename_i t' xs hb;replace h:=cO h;obtain⟨U,h⟩:=h;simp only [bw,gG,iU]at U;obtain⟨rfl,h0,U⟩:=U;refine⟨_,h,λ{w0 S F ρ w v vi} hI hv hi=> ?_⟩;cases hi;cases hv with
     |au _ hd hid=>
      have hl:a8 X.K ρ F w (.ae e xs) hd.v:=hI.rep id _ hd hb hid;obtain⟨a,cap,hv,hp⟩:=agm hl (i:=n.toNat) (by omega);rw [hv];exact ak6
    ·exact aD
   ·rename_i id m;replace h:=cO h;obtain⟨U,h⟩:=h;simp only [bw,gG]at U;refine⟨_,h,λ{w0 S F ρ w v vi} hI hv hi=> ?_⟩;cases hi;cases hv with
    |oy _ _ hd g o n' c cap hid hv=>
     refine⟨_,run_indexAt_slice hX bB hu he U.1 U.2 w,?_⟩;rw [sC];have:=a8.ptr (K:=X.K) (ρ:=ρ) (F:=F) (w:=w) id 0 (n.toNat*(X.ti e).size) hd g o n' c hid hv;exact sI
   ·rename_i id lo m;split at h
    ·rename_i t' xs hb;replace h:=cO h;obtain⟨U,h⟩:=h;simp only [bw,gG,iU]at U;obtain⟨rfl,h0,U⟩:=U;refine⟨_,h,λ{w0 S F ρ w v vi} hI hv hi=> ?_⟩;cases hi;cases hv with
     |vw _ _ _ hd g o n' c cap hid hv hc uV=>
      obtain⟨q1,_⟩:=hI.rep _ _ hd hb hid;refine⟨_,run_indexAt_slice hX bB hu he h0 U w,?_⟩;rw [sC];have:=a8.ptr (K:=X.K) (ρ:=ρ) (F:=F) (w:=w) id (lo+n.toNat) 0 hd g o n' c hid hv;rw [q1,eX]at this⊢;rw [show o+lo*(X.ti e).size +n.toNat*(X.ti e).size =o+(lo+n.toNat)*(X.ti e).size +0 by rw [mw];omega];exact this
     |yb=>simp at U;omega
     |ya=>simp at U;omega
    ·exact aD
   ·exact aD
  ·rename_i len e bB hu;replace h:=cO h;obtain⟨U,h⟩:=h;simp only [bw,gG]at U;obtain⟨he,h0,U⟩:=U;obtain⟨i1,d1,z1,f1⟩:=hX.facts bB;obtain⟨i2,d2,z2,f2⟩:=hX.facts he;have dN:=f1.array hu;have du:∀(w:World) (a:Addr),(Instr.indexAt t (.pointer (some a)) (.int kk n)).run X.P w= .ok (.pointer (some (a.add (n.toNat*(X.ti e).size)))) w:=by
    intro w a;simp [Instr.indexAt,asIntOf,k7 dN,Instr.sureAddr,h0,U,f2.sizeOf]
   split at h
   ·rename_i id j off;refine⟨_,h,λ{w0 S F ρ w v vi} hI hv hi=> ?_⟩;cases hi;cases hv with
    |ptr _ _ _ hd g o' n' c hid hv=>
     refine⟨_,du _ _,?_⟩;rw [sC,show o'+j*hd.sz+off+n.toNat*(X.ti e).size =o'+j*hd.sz+(off+n.toNat*(X.ti e).size)by omega];exact .ptr _ _ _ hd g o' n' c hid hv
   ·rename_i t' row off;refine⟨_,h,λ{w0 S F ρ w v vi} hI hv hi=> ?_⟩;cases hi;exact alC
   ·exact aD
  ·exact aD
 ·cases h
def Jp(X:Cx)(t:TypeId)(cs:ak)(off:Nat)(k:AV->Option R):Option R:=
 bf ((X.ti t).ok &&decide (off+(X.ti t).size <=cs.length)) (match(X.ti t).u.agg with
  |true=>k (.agg ((cs.drop off).take (X.ti t).size))
  |false=>bf ((X.ti t).size ==1) (k (cs.getD off .top)))
def agj(hX:X.Okb){off:Nat}(h:Jp X t cs off k=some r):
 ∃y,k y=some r/\∀{ρ:bJ} {F:bD} {w:World} {vs:Array Value},dm X.K ρ F w cs vs.toList->∃u,(part t vs off).run X.P w= .ok u w/\a8 X.K ρ F w y u:=by
 unfold Jp at h;replace h:=cO h;obtain⟨U,h⟩:=h;simp only [bw,gG]at U;obtain⟨i,d,z,f⟩:=hX.facts U.1;split at h
 ·rename_i ha;refine⟨_,h,λ{ρ F w vs} hr=> ?_⟩;refine⟨.agg (vs.extract off (off+(X.ti t).size)),by simp [part,f.isAgg,ha,f.sizeOf],?_⟩;have h2:=hr.drop_take off (X.ti t).size;have e:vs.extract off (off+(X.ti t).size)=((vs.toList.drop off).take (X.ti t).size).toArray :=by
   apply xF;simp [List.extract_eq_take_drop]
  rw [e];exact .agg _ _ h2.1 h2.2
 ·rename_i ha;replace h:=cO h;obtain⟨h2,h⟩:=h;have hs:(X.ti t).size =1:=uq;refine⟨_,h,λ{ρ F w vs} hr=> ?_⟩;have cH:off<cs.length:=by omega
  have hl:=hr.1;simp only [qQ]at hl;obtain⟨u,hu⟩:∃u,vs[off]?=some u:=⟨vs[off]'(by omega),FC (by omega)⟩;refine⟨u,?_,hr.2 off _ _ (u7 cH) (aaS)⟩;simp only [part,gh,f.isAgg,ha,iV,hu,ke,nP,lI]
def MJ(X:Cx)(t:TypeId)(x:AV)(fi:Nat)(k:AV->Option R):Option R:=
 match(X.ti t).ok,(X.ti t).u,x with
 |true,.struct fs,.agg cs=>
  match fs[fi]? with
  |some (off,ft)=>Jp X ft cs off k
  |none=>none
 |_,_,_=>none
def axI(hX:X.Okb)(h:MJ X t x fi k=some r):
 ∃y,k y=some r/\∀{ρ:bJ} {F:bD} {w:World} {v:Value},a8 X.K ρ F w x v->∃u,(Instr.field t v fi).run X.P w= .ok u w/\a8 X.K ρ F w y u:=by
 unfold MJ at h;split at h
 ·rename_i fs cs bB hu;obtain⟨i,d,z,f⟩:=hX.facts bB;obtain⟨gs,dN,fT⟩:=f.struct hu;split at h
  ·rename_i off ft EZ;have hg:∃vU,gs[fi]?=some vU/\vU.offset=off/\vU.type=ft:=amQ;obtain⟨vU,ac7,rfl,rfl⟩:=hg;obtain⟨y,hy,du⟩:=agj hX h;refine⟨y,hy,λ{ρ F w v} hv=> ?_⟩;cases hv with
   |agg _ vs hl hr=>
    obtain⟨u,U,h2⟩:=du (vs:=vs.toArray) ⟨uo,by simpa using hr⟩;refine⟨u,?_,h2⟩;simp only [Instr.field,gh,k7 dN,iV,ac7,asAgg,ke,U]
  ·exact aD
 ·cases h
def MI(X:Cx)(t:TypeId)(x i:AV)(k:AV->Option R):Option R:=
 match(X.ti t).ok,(X.ti t).u,x,i with
 |true,.array len e,.agg cs,.int _ n=>bf ((X.ti e).ok &&(decide (0<=n)&&decide (n<(len:Int)))) (Jp X e cs (n.toNat*(X.ti e).size) k)
 |true,.str,.str s,.int _ n=>bf (decide (0<=n)) (match s[n.toNat]? with|none=>none|some b=>k (.int .u8 b.toNat))
 |_,_,_,_=>none
def axH(hX:X.Okb)(h:MI X t x i k=some r):
 ∃y,k y=some r/\∀{ρ:bJ} {F:bD} {w:World} {v vi:Value},a8 X.K ρ F w x v->a8 X.K ρ F w i vi->∃u,(Instr.index t v vi).run X.P w= .ok u w/\a8 X.K ρ F w y u:=by
 unfold MI at h;split at h
 ·rename_i len e cs kk n bB hu;replace h:=cO h;obtain⟨U,h⟩:=h;simp only [bw,gG]at U;obtain⟨he,h0,U⟩:=U;obtain⟨i1,d1,z1,f1⟩:=hX.facts bB;obtain⟨i2,d2,z2,f2⟩:=hX.facts he;have dN:=f1.array hu;obtain⟨y,hy,du⟩:=agj hX h;refine⟨y,hy,λ{ρ F w v vi} hv hi=> ?_⟩;cases hi;cases hv with
  |agg _ vs hl hr=>
   obtain⟨u,h3,h4⟩:=du (vs:=vs.toArray) ⟨uo,by simpa using hr⟩;refine⟨u,?_,h4⟩;simp only [Instr.index,asIntOf,gh,ke,k7 dN,iV,h0,U,and_self,lG,f2.sizeOf,h3]
 ·rename_i s kk n bB hu;replace h:=cO h;obtain⟨h0,h⟩:=h;have h0:=yy h0;obtain⟨i1,d1,z1,f1⟩:=hX.facts bB;have dN:X.P.underlying t=some .string :=by
   have:=f1.u;rw [hu]at this;cases d1<;>simp [ph]at this;exact f1.mi
  split at h
  ·exact aD
  ·rename_i b hb;refine⟨_,h,λ{ρ F w v vi} hv hi=> ?_⟩;cases hi;cases hv;refine⟨.int .u8 b.toNat,?_,.int _ _⟩;simp only [Instr.index,asIntOf,gh,ke,k7 dN,iV,h0,lG,hb]
 ·cases h
end
end Go.aj
namespace Go.aj
def S5{p:Prop}(h:p:=by
 unfold Builtin.len_;simp [k7 dN,goInt]):p:=h
def alk{p:Prop}(h:p:=by
 simp only [GR,Option.some.injEq]at h;subst h
 match vs,hr.1 with
 | [],_=>rfl):p:=h
def akK{p:Prop}(h:p:=by
 injection h with h;injection h with _ h;subst h;cases hv;exact⟨_,_,rfl⟩):p:=h
def akb{p:Prop}(h:p:=by rw [sB,Fz,show min m (jN.length- lo)=m by omega]):p:=h
def Ja{p:Prop}(h:p:=by exact⟨_,_,rfl⟩):p:=h
end Go.aj
namespace Go.aj
def RN:=@Array.getElem?_setIfInBounds_ne
def Zk:=@Array.foldl_toList
def Zg:=@List.foldl_cons
end Go.aj
namespace Go.aj
open Go
noncomputable section
variable {X:Cx} {R:Type}
variable {w0 w w':World} {S:Sc} {F:bD} {ρ:bJ} {M:aF}
variable{x:AV}{k:AV->Option R}{P:Program}{r:R}{t:TypeId}{K:TypeId->er}{v:Value}{xs:aY}
def rowsOf(M:aF):AV->Option (Option TypeId×aY)
 | .ae t xs=>some (some t,xs)
 | .jI =>some (none,[])
 | .au id=>match gm M id with|some (.row t xs)=>some (some t,xs)|some (.fP t xs)=>some (some t,xs)|_=>none
 | .vw id lo m=>match gm M id with|some (.row t xs)=>some (some t,(xs.drop lo).take m)|_=>none
 | .mS =>some (none,[])
 |_=>none
def Yw(hI:Inv X w0 S F ρ M w){o:Option TypeId}(h:rowsOf M x=some (o,xs))(hv:a8 X.K ρ F w x v):∃a c,v= .slice a xs.length c:=by
 unfold rowsOf at h;simp only [fR]at h;split at h
 ·injection h with h;injection h with _ h;subst h;cases hv with
  |ng=>exact Ja
  |ae=>exact Ja
 ·exact akK
 ·split at h
  ·rename_i hb;injection h with h;injection h with _ h;subst h;cases hv with
   |au _ hd hid=>
    rcases(hI.rep _ _ hd hb hid).2.2 with⟨U,h2⟩|⟨g,o,c,cur,U,_⟩
    ·subst h2;exact⟨_,_,U⟩
    ·exact⟨_,_,U⟩
  ·rename_i t jN hb;injection h with h;injection h with _ h;subst h;cases hv with
   |au _ hd hid=>
    have hr:a8 X.K ρ F w (.ae t jN) hd.v:=hI.rep _ _ hd hb hid;generalize hd.v=v at hr;cases hr with
    |ng=>exact Ja
    |ae=>exact Ja
  ·exact aD
 ·split at h
  ·rename_i id lo m ob t jN hb;injection h with h;injection h with _ h;subst h;cases hv with
   |vw _ _ _ hd g o n c cap hid hv hc uV=>
    have hlen:n=jN.length:=by
     rcases(hI.rep _ _ hd hb hid).2.2 with⟨U,h2⟩|⟨g',o',c',cur,U,_⟩
     ·rw [hv]at U;cases U
     ·rw [hv]at U;injection U
    refine⟨some ⟨g,o+lo*hd.sz,none⟩,cap,?_⟩;exact akb
   |yb=>exact Ja
   |ya=>exact Ja
  ·exact aD
 ·exact akK
 ·exact aD
def afV(hI:Inv X w0 S F ρ M w)(h:rowsOf M x=some (some t,xs))(hx:∀id lo m,x≠ .vw id lo m)(hv:a8 X.K ρ F w x v):
 (∀(i:Nat) row,xs[i]?=some row->cZ (X.K t) row=true)/\
 ((v= .slice none 0 0/\xs=[])∨∃a c,v= .slice (some a) xs.length c/\∃vss:List gz,vss.length=xs.length/\
   ∀(i:Nat) row vs,xs[i]?=some row->vss[i]?=some vs->dm X.K ρ F w row vs/\um w (a.add (i*(X.K t).length)) vs):=by
 have core:∀{v:Value} {t:TypeId} {xs:aY},a8 X.K ρ F w (.ae t xs) v->(∀(i:Nat) row,xs[i]?=some row->cZ (X.K t) row=true)/\
  ((v= .slice none 0 0/\xs=[])∨∃a c,v= .slice (some a) xs.length c/\∃vss:List gz,vss.length=xs.length/\
    ∀(i:Nat) row vs,xs[i]?=some row->vss[i]?=some vs->dm X.K ρ F w row vs/\um w (a.add (i*(X.K t).length)) vs):=by
  intro v t xs hv;cases hv with
  |ng=>exact⟨λi row h=>gU,.inl ⟨rfl,rfl⟩⟩
  |ae _ _ a cap vss hl nA mB hk hc hr=>
   refine⟨hk,.inr ⟨a,cap,rfl,vss,hl,λi row vs hi gj=>⟨⟨?_,hr i row vs hi gj⟩,λj u hj=> ?_⟩⟩⟩
   ·rw [(hc i vs gj).1,kS (hk i row hi)]
   ·rw [Df];exact((hc i vs gj).2 j u hj).1
 unfold rowsOf at h;simp only [fR]at h;split at h
 ·injection h with h;injection h with U h2;injection U with U;subst U;subst h2;exact core hv
 ·injection h with h;injection h with U h2;cases U
 ·split at h
  ·rename_i id t' jN hb;injection h with h;injection h with U h2;injection U with U;subst U;subst h2;cases hv with
   |au _ hd hid=>
    obtain⟨U,h2,h3⟩:=hI.rep _ _ hd hb hid;refine⟨h2,?_⟩;rcases h3 with h3|⟨g,o,c,cur,ig,hg,h4,h5,h6,h7⟩
    ·exact .inl h3
    ·have hex:∀i:Nat,i<jN.length->∃vs,dm X.K ρ F w (jN.getD i []) vs/\um w ⟨g,o+i*hd.sz,none⟩ vs:=by
      intro i hi;obtain⟨_,_,g',o',c',aLn,vs,mv,_,_,_,_,hr,hc,_⟩:=hI.Mm hb hid (u7 (d:=[]) hi);rw [ig]at mv;injection mv with e1 e2 e3;exact alh
     refine .inr ⟨_,c,ig,(List.range jN.length).map λi=>if h:i<jN.length then(hex i h).choose else [],by simp,λi row vs hi gj=> ?_⟩;have uS:=(fK.1 hi).1;simp only [kG,wz uS,nN,Option.some.injEq,dif_pos uS]at gj;subst gj;have e:row=jN.getD i []:=by
      have:=u7 (d:=([]:Row)) uS;rw [hi]at this;injection this
     subst e;obtain⟨hr,hc⟩:=(hex i uS).choose_spec;refine⟨hr,?_⟩;rw [sC,<-U];exact hc
  ·rename_i id t' jN hb;injection h with h;injection h with U h2;injection U with U;subst U;subst h2;cases hv with
   |au _ hd hid=>exact core (hI.rep _ _ hd hb hid)
  ·exact aD
 ·exact absurd rfl (hx _ _ _)
 ·injection h with h;injection h with U h2;cases U
 ·cases h
def agc(hI:Inv X w0 S F ρ M w)(h:rowsOf M x=some (some t,xs))(hv:a8 X.K ρ F w x v):
 (∀(i:Nat) row,xs[i]?=some row->cZ (X.K t) row=true)/\
 ((v= .slice none 0 0/\xs=[])∨∃a c,v= .slice (some a) xs.length c/\∃vss:List gz,vss.length=xs.length/\
   ∀(i:Nat) row vs,xs[i]?=some row->vss[i]?=some vs->dm X.K ρ F w row vs/\um w (a.add (i*(X.K t).length)) vs):=by
 by_cases hx:∃id lo m,x= .vw id lo m
 ·obtain⟨id,lo,m,rfl⟩:=hx;unfold rowsOf at h;simp only [fR]at h;split at h
  ·rename_i t' jN hb;injection h with h;injection h with U h2;injection U with U;subst U;subst h2;cases hv with
   |vw _ _ _ hd g o n c cap hid hv hc uV=>
    obtain⟨q1,q2,q3⟩:=hI.rep _ _ hd hb hid;have si:rowsOf M (.au id)=some (some t',jN):=by simp [fR,rowsOf,hb]
    obtain⟨hk,qn⟩:=afV hI si (λ_ _ _ e=>by cases e) (.au id hd hid);have J9:∀(i:Nat) row,((jN.drop lo).take m)[i]?=some row->i<m/\jN[lo+i]?=some row:=by
     intro i row hi;rw [th]at hi;split at hi
     ·rename_i Hz;rw [ug]at hi;exact⟨Hz,hi⟩
     ·cases hi
    refine⟨λi row hi=>hk _ row (J9 i row hi).2,?_⟩;rcases qn with⟨U,_⟩|⟨a,c2,U,vss,hl,gj⟩
    ·rw [hv]at U;cases U
    ·rw [hv]at U;injection U with e1 e2 e3;injection e1 with e1;refine .inr ⟨⟨g,o+lo*hd.sz,none⟩,cap,?_,(vss.drop lo).take m,?_,λi row vs hi nI=> ?_⟩
     ·exact akb
     ·rw [sB,Fz,sB,Fz,hl]
     ·obtain⟨Hz,hr⟩:=J9 i row hi;have aKB:vss[lo+i]?=some vs:=by
       rw [th,if_pos Hz,ug]at nI;exact nI
      obtain⟨r1,r2⟩:=gj _ _ _ hr aKB;refine⟨r1,?_⟩;rw [<-e1,sC]at r2;rw [sC,q1,show o+lo*(X.K t').length +i*(X.K t').length =o+(lo+i)*(X.K t').length by rw [mw];omega];exact r2
   |yb=>exact⟨λi row hi=>Dm,.inl ⟨rfl,by simp⟩⟩
   |ya _ _ a cap=>exact⟨λi row hi=>Dm,.inr ⟨a,cap,by simp,[],by simp,λi row vs hi _=>Dm⟩⟩
  ·exact aD
 ·exact afV hI h (λid lo m e=>hx ⟨id,lo,m,e⟩) hv
def Ac(X:Cx)(t:TypeId)(x:AV)(M:aF)(k:AV->Option R):Option R:=
 match(X.ti t).ok,(X.ti t).u,x with
 |true,.array n _,_=>k (.int .i64 n)
 |true,.str,.str s=>k (.int .i64 s.size)
 |true,.slice _,.oy _ m=>k (.int .i64 m)
 |true,.slice _,.vw _ _ m=>k (.int .i64 m)
 |true,.slice _,x=>match rowsOf M x with|some (_,xs)=>k (.int .i64 xs.length)|none=>none
 |_,_,_=>none
def ayK(hX:X.Okb){ty:TypeId}(h:Ac X t x M k=some r):
 ∃y,k y=some r/\∀{w0:World} {S:Sc} {F:bD} {ρ:bJ} {w:World} {v:Value},Inv X w0 S F ρ M w->a8 X.K ρ F w x v->∃u,(Builtin.len_ #[t] ty #[v]).run X.P w= .ok u w/\a8 X.K ρ F w y u:=by
 unfold Ac at h;split at h
 ·rename_i n e bB hu;obtain⟨i,d,z,f⟩:=hX.facts bB;have dN:=f.array hu;refine⟨_,h,λ{w0 S F ρ w v} hI hv=>⟨.int .i64 n,?_,.int _ _⟩⟩;exact S5
 ·rename_i s bB hu;obtain⟨i,d,z,f⟩:=hX.facts bB;have dN:X.P.underlying t=some .string :=by
   have:=f.u;rw [hu]at this;cases d<;>simp [ph]at this;exact f.mi
  refine⟨_,h,λ{w0 S F ρ w v} hI hv=>⟨.int .i64 s.size,?_,.int _ _⟩⟩;cases hv;exact S5
 ·rename_i e id m bB hu;obtain⟨i,d,z,f⟩:=hX.facts bB;have dN:=f.slice hu;refine⟨_,h,λ{w0 S F ρ w v} hI hv=>⟨.int .i64 m,?_,.int _ _⟩⟩;cases hv;exact S5
 ·rename_i e id lo m bB hu;obtain⟨i,d,z,f⟩:=hX.facts bB;have dN:=f.slice hu;refine⟨_,h,λ{w0 S F ρ w v} hI hv=>⟨.int .i64 m,?_,.int _ _⟩⟩;cases hv<;>(unfold Builtin.len_;simp [k7 dN,goInt])
 ·rename_i e bB hu _ _;obtain⟨i,d,z,f⟩:=hX.facts bB;have dN:=f.slice hu;split at h
  ·rename_i o xs jx;refine⟨_,h,λ{w0 S F ρ w v} hI hv=>⟨.int .i64 xs.length,?_,.int _ _⟩⟩;obtain⟨a,c,rfl⟩:=Yw hI jx hv;exact S5
  ·exact aD
 ·cases h
def yS(x y:Int):Int:=if y<x then y else x
def imax(x y:Int):Int:=if y>x then y else x
def GR(f:Int->Int->Int)(k:IntKind):Int->ak->Option Int
 |a,[]=>some a
 |a,.int k' b::rest=>match k==k' with|true=>GR f k (f a b) rest|false=>none
 |_,_=>none
def DI(f:Int->Int->Int)(xs:ak)(k:AV->Option R):Option R:=
 match xs with
 | .int kd a::rest=>match GR f kd a rest with|some n=>k (.int kd n)|none=>none
 |_=>none
def aif{P:Program}{K:TypeId->er}:∀(xs:ak) (kd:IntKind) (a n:Int) (vs:gz),GR yS kd a xs=some n->dm K ρ F w xs vs->(vs.foldlM Builtin.min2 (.int kd a)).run P w= .ok (.int kd n) w
 | [],kd,a,n,vs,h,hr=>alk
 |x::xs,kd,a,n,vs,h,hr=>by
  cases x<;>simp only [GR]at h<;>try cases h
  rename_i k' b;split at h
  ·match vs,hr.1 with
   |v::vs,hl=>
    have hv:=hr.2 0 _ v rfl rfl;cases hv;rw [List.foldlM_cons,gh];simp only [Builtin.min2,ke,iV];exact aif xs kd _ n vs h ⟨uo,λj y u hy hu=>hr.2 (j+1) y u (Ji) (FQ)⟩
  ·exact aD
def aih{P:Program}{K:TypeId->er}:∀(xs:ak) (kd:IntKind) (a n:Int) (vs:gz),GR imax kd a xs=some n->dm K ρ F w xs vs->(vs.foldlM Builtin.max2 (.int kd a)).run P w= .ok (.int kd n) w
 | [],kd,a,n,vs,h,hr=>alk
 |x::xs,kd,a,n,vs,h,hr=>by
  cases x<;>simp only [GR]at h<;>try cases h
  rename_i k' b;split at h
  ·match vs,hr.1 with
   |v::vs,hl=>
    have hv:=hr.2 0 _ v rfl rfl;cases hv;rw [List.foldlM_cons,gh];simp only [Builtin.max2,ke,iV];exact aih xs kd _ n vs h ⟨uo,λj y u hy hu=>hr.2 (j+1) y u (Ji) (FQ)⟩
  ·exact aD
def azQ{xs:ak}(h:DI yS xs k=some r):
 ∃y,k y=some r/\∀{ρ:bJ} {F:bD} {w:World} {vs:gz} (ts:Array TypeId) (ty:TypeId),dm K ρ F w xs vs->∃u,(Builtin.min_ ts ty vs.toArray).run P w= .ok u w/\a8 K ρ F w y u:=by
 unfold DI at h;split at h
 ·rename_i kd a rest;split at h
  ·rename_i n hn;refine⟨_,h,λ{ρ F w vs} ts ty hr=> ?_⟩
   match vs,hr.1 with
   |v::vs,hl=>
    have hv:=hr.2 0 _ v rfl rfl;cases hv;exact⟨_,by simpa [Builtin.min_]using aif (P:=P) rest kd a n vs hn ⟨uo,λj y u hy hu=>hr.2 (j+1) y u (Ji) (FQ)⟩,.int _ _⟩
  ·exact aD
 ·cases h
def azR{xs:ak}(h:DI imax xs k=some r):
 ∃y,k y=some r/\∀{ρ:bJ} {F:bD} {w:World} {vs:gz} (ts:Array TypeId) (ty:TypeId),dm K ρ F w xs vs->∃u,(Builtin.max_ ts ty vs.toArray).run P w= .ok u w/\a8 K ρ F w y u:=by
 unfold DI at h;split at h
 ·rename_i kd a rest;split at h
  ·rename_i n hn;refine⟨_,h,λ{ρ F w vs} ts ty hr=> ?_⟩
   match vs,hr.1 with
   |v::vs,hl=>
    have hv:=hr.2 0 _ v rfl rfl;cases hv;exact⟨_,by simpa [Builtin.max_]using aih (P:=P) rest kd a n vs hn ⟨uo,λj y u hy hu=>hr.2 (j+1) y u (Ji) (FQ)⟩,.int _ _⟩
  ·exact aD
 ·cases h
def Aa(place:Nat->Option (Nat×Nat)):ak->bL->Option ak
 |cells,[]=>some cells
 |cells,(i,x)::rest=>
  match place i with
  |none=>none
  |some (off,size)=>
   match x.plain&&x.cells.length==size&&decide (off+size<=cells.length)with
   |true=>Aa place (setAt cells off x.cells) rest
   |false=>none
def XL(off:Nat):∀(vs:List (Value×Nat)) (cs:Array Value),(vs.foldl (λcs (x:Value×Nat)=>cs.setIfInBounds (off+x.2) x.1) cs).size =cs.size
 | [],cs=>rfl
 |x::vs,cs=>by simp [XL off vs]
def af0(off:Nat):∀(vs:gz) (n:Nat) (cs:Array Value),off+n+vs.length<=cs.size->∀j:Nat,
 ((vs.zipIdx n).foldl (λcs (x:Value×Nat)=>cs.setIfInBounds (off+x.2) x.1) cs)[j]?=if off+n<=j/\j<off+n+vs.length then vs[j-(off+n)]? else cs[j]?
 | [],n,cs,_,j=>fB
 |v::vs,n,cs,h,j=>by
  simp only [fk]at h;rw [List.zipIdx_cons,Zg,af0 off vs (n+1) _ (fB) j]
  by_cases U:j=off+n
  ·subst U;rw [if_neg (by omega),if_pos (by simp)];have cH:off+n<cs.size:=by omega
   simp [cH]
  ·by_cases h2:off+(n+1)<=j/\j<off+(n+1)+vs.length
   ·rw [if_pos h2,if_pos (fB),show j-(off+n)=(j-(off+(n+1)))+1 by omega];simp
   ·rw [if_neg h2,if_neg (fB),RN (by omega)]
def Iv(rr:∀(id:Nat) hd,ρ[id]?=some hd->hd.v.oneCell'=true){K:TypeId->er}{place:Nat->Option (Nat×Nat)}:∀(ps:bL) (cs out:ak) (vs:Array Value) (pv:List (Nat×Value)),Aa place cs ps=some out->dm K ρ F w cs vs.toList->
 pv.length=ps.length->(∀(j:Nat) p q,ps[j]?=some p->pv[j]?=some q->p.1=q.1/\a8 K ρ F w p.2 q.2)->∃us,Instr.fill place vs pv=some us/\dm K ρ F w out us.toList
 | [],cs,out,vs,pv,h,hr,hl,_=>by
   simp only [Aa,Option.some.injEq]at h;subst h
   match pv,hl with
   | [],_=>exact⟨vs,rfl,hr⟩
 |(i,x)::ps,cs,out,vs,pv,h,hr,hl,hp=>by
  match pv,hl with
  |(i',v)::pv,hl=>
   obtain⟨e,hx⟩:=hp 0 _ _ rfl rfl;simp only at e hx;subst e;simp only [Aa]at h;split at h
   ·exact aD
   ·rename_i off size uN;split at h
    ·rename_i anj;simp only [bw,iU,gG]at anj;obtain⟨⟨aC1,hlen⟩,hb⟩:=anj;have xj:=hx.cells (Q0 aC1) rr;have EK:=xj.1;have fh:=hr.1;simp only [qQ]at EK fh;have eX:v.cells.size=size:=by omega
     have zj:dm K ρ F w (setAt cs off x.cells) (v.cells.zipIdx.foldl (λcs (x:Value×Nat)=>cs.setIfInBounds (off+x.2) x.1) vs).toList :=by
      rw [<-Zk,Array.toList_zipIdx];refine⟨by rw [qQ,XL,LY];exact fh,λj y u hy hu=> ?_⟩;rw [Mt,af0 off v.cells.toList 0 vs (fB) j]at hu;rw [Ml x.cells cs off (by omega) j]at hy;simp only [A9,qQ]at hu;rw [eX]at hu;rw [hlen]at hy
      by_cases hj:off<=j/\j<off+size
      ·rw [if_pos hj]at hy hu;exact xj.2 _ y u hy hu
      ·rw [if_neg hj]at hy hu;exact hr.2 j y u hy (aaS)
     obtain⟨us,U,h2⟩:=Iv rr ps _ out _ pv h zj (uo) (λj p q ER hq=>hp (j+1) p q (by simpa using ER) (by simpa using hq));refine⟨us,?_,h2⟩;have gj:vs.size=cs.length:=fh;have lx:¬(v.cells.size≠size∨off+v.cells.size>vs.size):=by omega
     simp only [Instr.fill,uN];rw [if_neg (by simpa using lx)];exact U
    ·exact aD
end
end Go.aj
namespace Go.aj
def xO{p:Prop}(h:p:=by simpa using U):p:=h
def alc{p:Prop}(h:p:=by have:=a8.agg (K:=X.K) (ρ:=ρ) (F:=F) (w:=w) cs us.toList hr.1 hr.2;simpa using this):p:=h
end Go.aj
namespace Go.aj
def fY:=@List.length_map
def xA:=@List.mem_map
def Zi:=@List.drop_drop
def ahI:=@Go.RowKit.Below.heap_alloc
def ahE:=@List.getElem?_cons_succ
end Go.aj
namespace Go.aj
open Go
noncomputable section
variable {X:Cx} {R:Type}
variable {w0 w w':World} {S:Sc} {F:bD} {ρ:bJ} {M:aF}
variable{t:TypeId}
def QY(X:Cx)(fs:List (Nat×TypeId))(i:Nat):Option (Nat×Nat):=(fs[i]?).map λp=>(p.1,(X.ti p.2).size)
def MK(X:Cx)(t:TypeId)(ps:bL)(k:AV->Option R):Option R:=
 match(X.ti t).ok,(X.ti t).u with
 |true,.struct fs=>bf (fs.all λp=>(X.ti p.2).ok) (match Aa (QY X fs) (X.ti t).zero ps with|some cs=>k (.agg cs)|none=>none)
 |true,.array _ e=>bf ((X.ti e).ok) (match Aa (λi=>some (i*(X.ti e).size,(X.ti e).size)) (X.ti t).zero ps with|some cs=>k (.agg cs)|none=>none)
 |_,_=>none
def aft(hX:X.Okb):∀(fs:List Field),(∀f∈fs,(X.ti f.type).ok =true)->∀w,(fs.mapM λf=>do pure (f.offset,<-sizeOf f.type):Sem (List (Nat×Nat))).run X.P w= .ok (fs.map λf=>(f.offset,(X.ti f.type).size)) w
 | [],_,w=>rfl
 |f::fs,h,w=>by
  obtain⟨i,d,z,ff⟩:=hX.facts (h f (by simp));rw [List.mapM_cons];simp only [gh,ff.sizeOf,iV,ke,aft hX fs (λg hg=>h g (by simp [hg])) w,jG]
def axK(hX:X.Okb){ps:bL}{k:AV->Option R}{r:R}(h:MK X t ps k=some r):
 ∃y,k y=some r/\∀{w0:World} {S:Sc} {F:bD} {ρ:bJ} {w:World} (pv:List (Nat×Value)),Inv X w0 S F ρ M w->pv.length=ps.length->
  (∀(j:Nat) p q,ps[j]?=some p->pv[j]?=some q->p.1=q.1/\a8 X.K ρ F w p.2 q.2)->∃u,(Instr.build t pv.toArray).run X.P w= .ok u w/\a8 X.K ρ F w y u:=by
 unfold MK at h;split at h
 ·rename_i fs bB hu;replace h:=cO h;obtain⟨U,h⟩:=h;obtain⟨i,d,z,f⟩:=hX.facts bB;obtain⟨gs,dN,fT⟩:=f.struct hu;split at h
  ·rename_i cs xP;refine⟨_,h,λ{w0 S F ρ w} pv hI hl hp=> ?_⟩;have hz:dm X.K ρ F w (X.ti t).zero z.cells.toList:=JB;obtain⟨us,hf,hr⟩:=Iv hI.one ps _ cs z.cells pv xP hz hl hp;refine⟨.agg us,?_,alc⟩;have jP:∀g∈gs.toList,(X.ti g.type).ok =true:=by
    intro g hg;rw [mz]at U;exact U (g.offset,g.type) (by rw [fT];exact xA.2 ⟨g,hg,rfl⟩)
   have uN:(gs.mapM λf=>do pure (f.offset,<-sizeOf f.type):Sem (Array (Nat×Nat))).run X.P w= .ok (gs.toList.map λf=>(f.offset,(X.ti f.type).size)).toArray w:=by
    rw [Array.mapM_eq_mapM_toList,Sem.run_map,aft hX gs.toList jP w];rfl
   have FY:(λi=>(gs.toList.map λf=>(f.offset,(X.ti f.type).size)).toArray[i]?)=QY X fs:=by
    funext i
    rw [fT];simp [QY];cases gs[i]?<;>rfl
   unfold Instr.build;simp only [gh,f.zeroValue,iV,k7 dN,uN];rw [show(λx=>(gs.toList.map λf=>(f.offset,(X.ti f.type).size)).toArray[x]?)=QY X fs from FY,hf];rfl
  ·exact aD
 ·rename_i n e bB hu;replace h:=cO h;obtain⟨U,h⟩:=h;obtain⟨i,d,z,f⟩:=hX.facts bB;obtain⟨i2,d2,z2,f2⟩:=hX.facts U;have dN:=f.array hu;split at h
  ·rename_i cs xP;refine⟨_,h,λ{w0 S F ρ w} pv hI hl hp=> ?_⟩;have hz:dm X.K ρ F w (X.ti t).zero z.cells.toList:=JB;obtain⟨us,hf,hr⟩:=Iv hI.one ps _ cs z.cells pv xP hz hl hp;refine⟨.agg us,?_,alc⟩;unfold Instr.build;simp only [gh,f.zeroValue,iV,k7 dN,f2.sizeOf];rw [hf];rfl
  ·exact aD
 ·cases h
def chunk(sz:Nat):Nat->ak->aY
 |0,_=>[]
 |n+1,l=>l.take sz::chunk sz n (l.drop sz)
def Fl(sz:Nat):∀(n:Nat) (l:ak),(chunk sz n l).length =n
 |0,_=>rfl
 |n+1,l=>by simp [chunk,Fl sz n]
def ahw(sz:Nat):∀(n:Nat) (l:ak) (i:Nat),i<n->(chunk sz n l)[i]?=some ((l.drop (i*sz)).take sz)
 |0,_,_,h=>by omega
 |n+1,l,0,_=>by simp [chunk]
 |n+1,l,i+1,h=>by
  simp only [chunk,ahE];rw [ahw sz n _ i (by omega),Zi]
  congr 3
  rw [mw];omega
def zc:Kind->AV->AV| .slice t,.jI => .ae t []|_,x=>x
def pg(X:Cx)(t:TypeId):Row:=List.zipWith zc (X.ti t).ks (X.ti t).zero
def aCv{k:Kind}{K:TypeId->er}{x:AV}{v:Value}(h:a8 K ρ F w x v):a8 K ρ F w (zc k x) v:=by
 unfold zc;split
 ·cases h;exact .ng _
 ·exact h
def YP{i:TypeInfo}{d:TypeDesc}{z:Value}(f:pF X t i d z):dm X.K ρ F w (pg X t) z.cells.toList:=by
 have hz:dm X.K ρ F w (X.ti t).zero z.cells.toList:=JB;have hl:(X.ti t).zero.length =(X.ti t).ks.length :=by rw [f.ks,f.zc,fY,qQ,f.zs]
 refine⟨by rw [hz.1];simp [pg,hl],λj x v hx hv=> ?_⟩;unfold pg at hx;rw [List.getElem?_zipWith]at hx;cases hk:(X.ti t).ks[j]? with
 |none=>simp [hk]at hx
 |some k=>
  cases KF:(X.ti t).zero[j]? with
  |none=>simp [hk,KF]at hx
  |some y=>
   simp only [hk,KF,Option.some.injEq]at hx;subst hx;exact aCv (hz.2 j y v KF hv)
def Inv.newRow(hI:Inv X w0 S F ρ M w){xs:aY}{cur:Array Value}{c:Nat}(hk:∀(i:Nat) row,xs[i]?=some row->cZ (X.K t) row=true)(qo:xs.length<=c)(sq:c<=maxLen)
 (N6:c*(X.K t).length <=cur.size) (hr:∀(i:Nat) row,xs[i]?=some row->∀(j:Nat) x,row[j]?=some x->∃v,cur[i*(X.K t).length +j]?=some v/\a8 X.K ρ F w x v) (hg:w.grownBy w' none) (eX:w'.heap.size=w.heap.size):
 Inv X w0 S F (ρ++[⟨.slice (some ⟨w.heap.size,0,none⟩) xs.length c,(X.K t).length⟩]) (M++[.row t xs]) (w'.alloc (.cells cur t))/\
 Grow F F ρ (ρ++[⟨.slice (some ⟨w.heap.size,0,none⟩) xs.length c,(X.K t).length⟩]) w (w'.alloc (.cells cur t)):=by
 have lP:w.grownBy (w'.alloc (.cells cur t)) none:=⟨hg.os,hg.tape,hg.output,fB,λk hk _=>(ahI w' _ k (by omega)).trans (hg.block k hk (by simp))⟩;have nT:Grow F F ρ (ρ++[⟨.slice (some ⟨w.heap.size,0,none⟩) xs.length c,(X.K t).length⟩]) w (w'.alloc (.cells cur t)):=
  ⟨λ_ h=>h,λ_ _ h=>qu h,hI.Ap lP (by simp)⟩
 refine⟨hI.push lP (hd:=⟨.slice (some ⟨w.heap.size,0,none⟩) xs.length c,(X.K t).length⟩) ?_ rfl ?_,nT⟩
 ·intro g lQ;simp [Hd.fj,Value.fj]at lQ;subst lQ;exact fB
 ·refine⟨rfl,hk,.inr ⟨w.heap.size,0,c,cur,rfl,by rw [<-eX];exact Ry w' _,qo,sq,by simpa using N6,λi row hi j x hx=> ?_⟩⟩;obtain⟨v,U,h2⟩:=hr i row hi j x hx;exact⟨v,xO,h2.grow nT⟩
def Dd{hd:Hd}(hl:ρ.length=M.length):a8 X.K (ρ++[hd]) F w (.au M.length) hd.v:= .au _ _ (by rw [<-hl];simp)
def BU(X:Cx)(e:TypeId):bL->aF->(bL->aF->Option R)->Option R
 | [],M,c=>c [] M
 |(i,x)::ps,M,c=>
  match(X.ti e).u.agg,x with
  |true,.agg cs=>uB (X.ti e).ks cs M λAQ M'=>BU X e ps M' λrF v8=>c ((i,.agg AQ)::rF) v8
  |false,x=>kZ ((X.ti e).ks.headD .raw) x M λx' M'=>BU X e ps M' λrF v8=>c ((i,x')::rF) v8
  |_,_=>none
def ayc(y:AV)(j:Nat)(hj:j∈lJ y):j∈y.cells.flatMap lJ:=by
 cases y with
 |au id=>simpa [AV.cells]using hj
 |_=>exact absurd hj (by simp [lJ])
def ag7{e:TypeId}:∀(ps:bL) (M:aF) {c:bL->aF->Option R} {r:R},BU X e ps M c=some r->
 ∃rF M',c rF M'=some r/\M'.length=M.length/\rF.length=ps.length/\dc (ps.flatMap λp=>p.2.cells.flatMap lJ) M M'/\∀{w0:World} {S:Sc} {F:bD} {ρ:bJ} {w:World},Inv X w0 S F ρ M w->∃F',Inv X w0 S F' ρ M' w/\Grow F F' ρ ρ w w/\
  ∀pv:List (Nat×Value),pv.length=ps.length->(∀(j:Nat) p q,ps[j]?=some p->pv[j]?=some q->p.1=q.1/\a8 X.K ρ F w p.2 q.2)->(∀(j:Nat) p q,rF[j]?=some p->pv[j]?=some q->p.1=q.1/\a8 X.K ρ F' w p.2 q.2)
 | [],M,c,r,h=>⟨[],M,h,rfl,rfl,dc.refl _ _,λ{w0 S F ρ w} hI=>⟨F,hI,Grow.refl _ _ _,λ_ _ h=>h⟩⟩
 |(i,x)::ps,M,c,r,h=>by
  simp only [BU]at h;have fin:∀(x':AV) (M1:aF),M1.length=M.length->dc (x.cells.flatMap lJ) M M1->(∀{w0:World} {S:Sc} {F:bD} {ρ:bJ} {w:World},Inv X w0 S F ρ M w->∃F',Inv X w0 S F' ρ M1 w/\Grow F F' ρ ρ w w/\∀v,a8 X.K ρ F w x v->a8 X.K ρ F' w x' v)->
   BU X e ps M1 (λrF v8=>c ((i,x')::rF) v8)=some r->∃rF M',c rF M'=some r/\M'.length=M.length/\rF.length=((i,x)::ps).length /\dc (((i,x)::ps).flatMap λp=>p.2.cells.flatMap lJ) M M'/\∀{w0:World} {S:Sc} {F:bD} {ρ:bJ} {w:World},Inv X w0 S F ρ M w->∃F',Inv X w0 S F' ρ M' w/\Grow F F' ρ ρ w w/\
   ∀pv:List (Nat×Value),pv.length=((i,x)::ps).length ->(∀(j:Nat) p q,((i,x)::ps)[j]?=some p->pv[j]?=some q->p.1=q.1/\a8 X.K ρ F w p.2 q.2)->(∀(j:Nat) p q,rF[j]?=some p->pv[j]?=some q->p.1=q.1/\a8 X.K ρ F' w p.2 q.2):=by
   intro x' M1 gY HD U h;obtain⟨rF,M2,h,ko,EU,ha2,h2⟩:=ag7 ps M1 h;refine⟨_,_,h,by omega,by simp [EU],by rw [zF];exact HD.trans ha2,λ{w0 S F ρ w} hI=> ?_⟩;obtain⟨F1,i1,g1,r1⟩:=U hI;obtain⟨F2,i2,g2,r2⟩:=h2 i1;refine⟨F2,i2,g1.trans g2,λpv hl hp=> ?_⟩
   match pv,hl with
   |q0::pv,hl=>
    obtain⟨e0,Hp⟩:=hp 0 _ _ rfl rfl;have aEr:=r2 pv (uo) (λj p q O0 OY=>by
     obtain⟨a,b⟩:=hp (j+1) p q (by simpa using O0) (by simpa using OY);exact⟨a,b.grow g1⟩)
    intro j p q O0 OY;cases j with
    |zero=>simp at O0 OY;subst O0;subst OY;exact⟨e0,(r1 _ Hp).grow g2⟩
    |succ j=>exact aEr j p q (by simpa using O0) (by simpa using OY)
  split at h
  ·rename_i cs ha;obtain⟨AQ,M1,h,gY,HD,U⟩:=Re (X:=X) _ _ _ h;refine fin (.agg AQ) M1 gY HD (λ{w0 S F ρ w} hI=> ?_) h;obtain⟨F1,i1,g1,r1⟩:=U hI;refine⟨F1,i1,g1,λv hv=> ?_⟩;cases hv with
   |agg _ vs hl hr=>
    have:=r1 vs ⟨hl,hr⟩;exact .agg _ _ this.1 this.2
  ·obtain⟨x',M1,h,gY,HD,U⟩:=ID (X:=X) h;refine fin x' M1 gY (HD.mono λi hi=> ?_) U h;exact ayc _ _ hi
  ·exact aD
def L3(X:Cx)(t:TypeId)(len:Nat)(ps:bL)(M:aF)(k:AV->aF->Option R):Option R:=
 match(X.ti t).ok,(X.ti t).u with
 |true,.slice e=>
  bf ((X.ti e).ok &&decide (0<(X.ti e).size)&&decide (len*(X.ti e).size <=16777216))
   (BU X e ps M λrF M1=>
     match Aa (λi=>some (i*(X.ti e).size,(X.ti e).size)) ((List.replicate len (pg X e)).flatten) rF with
     |some cs=>
      bf ((chunk (X.ti e).size len cs).all λrow=>cZ (X.K e) row) (k (.au M1.length) (M1++[.row e (chunk (X.ti e).size len cs)]))
     |none=>none)
 |_,_=>none
end
end Go.aj
namespace Go.aj
def bM{p:Prop}(h:p:=by decide):p:=h
def ao7{p:Prop}(h:p:=by
 have U:us.size=len*z2.cells.size:=by
  have aux:∀(pv:List (Nat×Value)) (place:Nat->Option (Nat×Nat)) (a b:Array Value),Instr.fill place a pv=some b->b.size=a.size:=by
   intro pv
   induction pv with
   |nil=>intro place a b h;simp only [Instr.fill,Option.some.injEq]at h;rw [h]
   |cons p pv ih=>
    obtain⟨ix,v⟩:=p;intro place a b h;simp only [Instr.fill]at h;split at h
    ·cases h
    ·split at h
     ·cases h
     ·have:=ih place _ b h;rw [this,<-Zk];exact XL _ _ _
  have:=aux pv _ _ us hf;simpa using this
 have:=hr.1;simp only [qQ]at this;rw [<-this,U,tS]):p:=h
def ao5{p:Prop}(h:p:=by
 unfold Instr.buildSlice;simp only [gh,k7 dN,iV,f2.sizeOf];rw [if_neg (by omega)]
 by_cases h0:len*(X.ti e).size =0
 ·have e0:(Array.range (len*z2.cells.size)).map (z2.cells[· %z2.cells.size]!)= #[]:=by rw [tS,h0];simp
  rw [e0]at hf;rw [if_pos h0];simp only [gh,ke,iV];have e1:(Array.range (len*(X.ti e).size)).map (λx=>(#[]:Array Value)[x %(#[]:Array Value).size]!)= #[]:=by rw [h0];simp
  rw [e1,hf];simp only [newRow,gh,IQ,iV,ke,IN]
 ·rw [if_neg h0];simp only [gh,ke,iV,f2.zeroValue];rw [tS]at hf;rw [tS,hf];simp only [newRow,gh,IQ,iV,ke,IN]):p:=h
def abK{p:Prop}(h:p:=by
 rw [ahM z2.cells (by omega)];exact afI (YP f2) len):p:=h
def S8{p:Prop}(h:p:=by have:=(fK.1 hi).1;simpa using this):p:=h
def ak4{p:Prop}(h:p:=by
 rw [mF hj]at hx;rw [mF (by rw [h.1];exact hj)]at hv;exact h.2 j x v hx hv):p:=h
def SU{p:Prop}(h:p:=by rw [f2.size];exact f2.zs):p:=h
def akv{p:Prop}(h:p:=by simp [IntKind.wrap,IntKind.bits,IntKind.signed];omega):p:=h
end Go.aj
namespace Go.aj
def mY:=@List.flatten_cons
def rV:=@List.append_nil
def wB:=@List.flatten_nil
def R8:=@List.ext_getElem?
def FH:=@List.getElem?_eq_none
def ZI:=@Nat.mod_eq_of_lt
def R6:=@getElem!_pos
def C9:=@List.flatten_append
def Rx:=@Nat.le_mul_of_pos_right
def C7:=@Int.eq_ofNat_of_zero_le
def C6:=@List.getElem?_replicate
def Rv:=@List.replicate_succ
def ahJ:=@Nat.add_mul_mod_self_right
end Go.aj
namespace Go.aj
open Go
noncomputable section
variable {X:Cx} {R:Type}
variable {w0 w w':World} {S:Sc} {F:bD} {ρ:bJ} {M:aF}
def Rj{n:Nat}(h:n<=140737488355328):n<=maxLen:=qR h (bM)
def afI{K:TypeId->er}{row:Row}{vs:gz}(h:dm K ρ F w row vs):∀n,dm K ρ F w (List.replicate n row).flatten (List.replicate n vs).flatten
 |0=>⟨rfl,λj x v hx _=>Jc⟩
 |n+1=>by
  have ih:=afI h n;rw [Rv,Rv,mY,mY];refine⟨by rw [cw,cw,h.1,ih.1],λj x v hx hv=> ?_⟩
  by_cases hj:j<row.length
  ·exact ak4
  ·rw [nM (by omega)]at hx;rw [nM (by rw [h.1];omega),h.1]at hv;exact ih.2 _ x v hx hv
def ahM(vs:Array Value)(hs:0<vs.size):∀n,((Array.range (n*vs.size)).map (vs[· %vs.size]!)).toList =(List.replicate n vs.toList).flatten :=by
 intro n
 induction n with
 |zero=>simp
 |succ n ih=>
  rw [List.replicate_succ',C9,<-ih];apply R8;intro j;simp only [Array.toList_map,Array.toList_range,kG,mY,wB,rV];have e:(n+1)*vs.size=n*vs.size+vs.size:=by rw [mw,Zm]
  by_cases U:j<n*vs.size
  ·rw [mF (xO),wz (by omega),kG,wz U]
  ·by_cases h2:j<(n+1)*vs.size
   ·rw [nM (fB),wz h2];simp only [fY,List.length_range,nN];have h3:j %vs.size=j- n*vs.size:=by
     rw [show j=(j- n*vs.size)+n*vs.size by omega,ahJ,ZI (by omega)];omega
    have h4:j- n*vs.size<vs.size:=by omega
    rw [h3,Mt,FC h4,R6 vs _ h4]
   ·rw [nM (fB),FH (fB),FH (fB)];rfl
def ahv{K:TypeId->er}{cs:ak}{us:gz}(h:dm K ρ F w cs us){sz n:Nat}{i:Nat}{row:Row}(hi:(chunk sz n cs)[i]?=some row){j:Nat}{x:AV}(hx:row[j]?=some x):
 ∃v,us[i*sz+j]?=some v/\a8 K ρ F w x v:=by
 have uS:i<n:=by have:=(fK.1 hi).1;rwa [Fl]at this
 rw [ahw sz n cs i uS]at hi;injection hi with hi;subst hi;rw [th]at hx;split at hx
 ·rw [ug]at hx;have cH:=(fK.1 hx).1;have hl:=h.1;have hu:us[i*sz+j]?=some (us[i*sz+j]'(by omega)):=dy (by omega);exact⟨_,hu,h.2 _ x _ hx hu⟩
 ·cases hx
def aeU(hX:X.Okb){t:TypeId}{len:Nat}{ps:bL}{k:AV->aF->Option R}{r:R}(h:L3 X t len ps M k=some r):
 ∃y M',k y M'=some r/\dc (ps.flatMap λp=>p.2.cells.flatMap lJ) M M'/\∀{w0:World} {S:Sc} {F:bD} {ρ:bJ} {w:World} (pv:List (Nat×Value)),Inv X w0 S F ρ M w->pv.length=ps.length->
  (∀(j:Nat) p q,ps[j]?=some p->pv[j]?=some q->p.1=q.1/\a8 X.K ρ F w p.2 q.2)->
  ∃v w' ρ' F',(Instr.buildSlice t len pv.toArray).run X.P w= .ok v w'/\Inv X w0 S F' ρ' M' w'/\Grow F F' ρ ρ' w w'/\a8 X.K ρ' F' w' y v/\∀g,g<w.heap.size->w'.heap[g]?=w.heap[g]?:=by
 unfold L3 at h;split at h
 ·rename_i e bB hu;replace h:=cO h;obtain⟨U,h⟩:=h;simp only [bw,gG]at U;obtain⟨⟨he,rm⟩,mB⟩:=U;obtain⟨i,d,z,f⟩:=hX.facts bB;obtain⟨i2,d2,z2,f2⟩:=hX.facts he;have dN:=f.slice hu;obtain⟨rF,M1,h,gY,ko,gZ,KR⟩:=ag7 _ _ h;split at h
  ·rename_i cs xP;replace h:=cO h;obtain⟨lN,h⟩:=h;refine⟨_,_,h,(gZ.trans (dc.push [] _ _)).mono (by simp),λ{w0 S F0 ρ w} pv qO hl hp=> ?_⟩;obtain⟨F,hI,oe,Vd⟩:=KR qO;have ER:=Vd pv hl hp;have tS:z2.cells.size=(X.ti e).size :=SU;have pO:(X.K e).length =(X.ti e).size :=Dx;have hz:dm X.K ρ F w (List.replicate len (pg X e)).flatten ((Array.range (len*z2.cells.size)).map (z2.cells[· %z2.cells.size]!)).toList :=abK;obtain⟨us,hf,hr⟩:=Iv hI.one rF _ cs _ pv xP hz (by omega) ER;have aKY:cs.length=len*(X.ti e).size :=ao7;have NC:=hI.newRow (t:=e) (xs:=chunk (X.ti e).size len cs) (cur:=us) (c:=len) (λi row hi=>by
    rw [mz]at lN;exact lN row (rU hi)) (by rw [Fl];exact iZ _)
    (by
      have:len<=len*(X.ti e).size :=Rx _ rm;exact Rj (by omega))
    (by have:=hr.1;simp only [qQ]at this;rw [pO];omega)
    (λi row hi j x hx=>by
      obtain⟨v,U,h2⟩:=ahv hr hi hx;rw [pO];exact⟨v,by rw [Mt]at U;exact U,h2⟩)
    (w':=w) ⟨rfl,rfl,rfl,iZ _,λ_ _ _=>rfl⟩ rfl
   refine⟨.slice (some ⟨w.heap.size,0,none⟩) len len,_,_,F,?_,NC.1,oe.trans NC.2,?_,λg hg=>ahI w _ g hg⟩
   ·exact ao5
   ·have:=Dd (X:=X) (F:=F) (w:=w.alloc (.cells us e)) (hd:=⟨.slice (some ⟨w.heap.size,0,none⟩) (chunk (X.ti e).size len cs).length len,(X.K e).length⟩) hI.len;simpa [Fl]using this
  ·exact aD
 ·cases h
def Yp(X:Cx)(t:TypeId)(l c:AV)(M:aF)(k:AV->aF->Option R):Option R:=
 match(X.ti t).ok,(X.ti t).u,l,c with
 |true,.slice e,.int _ l,.int _ c=>
  bf ((X.ti e).ok &&decide (0<(X.ti e).size)&&decide (0<(X.ti e).bytes)&&cZ (X.K e) (pg X e)&&(decide (0<=l)&&decide (l<=c)&&decide (c*(X.ti e).bytes <=140737488355328)))
   (k (.au M.length) (M++[.row e (List.replicate l.toNat (pg X e))]))
 |_,_,_,_=>none
def avb(hX:X.Okb){t:TypeId}{l c:AV}{k:AV->aF->Option R}{r:R}(h:Yp X t l c M k=some r):
 ∃y M',k y M'=some r/\dc [] M M'/\∀{vl vc:Value},Eb X M y M' (λρ F w=>a8 X.K ρ F w l vl/\a8 X.K ρ F w c vc) (Instr.makeSlice t vl vc):=by
 unfold Yp at h;split at h
 ·rename_i e k1 l k2 c bB hu;replace h:=cO h;obtain⟨U,h⟩:=h;simp only [bw,gG]at U;obtain⟨⟨⟨⟨he,rm⟩,Vo⟩,EV⟩,⟨Vh,nJ⟩,yk⟩:=U;obtain⟨i,d,z,f⟩:=hX.facts bB;obtain⟨i2,d2,z2,f2⟩:=hX.facts he;have dN:=f.slice hu;have tS:z2.cells.size=(X.ti e).size :=SU;have pO:(X.K e).length =(X.ti e).size :=Dx;obtain⟨cn,rfl⟩:=C7 (show 0<=c by omega);obtain⟨ln,rfl⟩:=C7 Vh;have Vn:cn<=140737488355328:=by
   have h2:cn<=cn*(X.ti e).bytes :=Rx _ Vo;have h3:((cn*(X.ti e).bytes :Nat):Int)<=140737488355328:=by rw [Int.natCast_mul];exact yk
   generalize cn*(X.ti e).bytes =m at*;omega
  have od:ln<=cn:=by omega
  refine⟨_,_,h,dc.push _ _ _,λ{vl vc w0 S F ρ w} hI hv=> ?_⟩;obtain⟨U,h2⟩:=hv;cases U;cases h2;have NC:=hI.newRow (t:=e) (xs:=List.replicate ln (pg X e)) (cur:=(Array.range (cn*(X.ti e).size)).map (z2.cells[· %z2.cells.size]!)) (c:=cn) (λi row hi=>by
   have:=rU hi;rw [List.mem_replicate]at this;rw [this.2];exact EV) (by simpa using od) (Rj Vn) (by simp [pO])
   (λi row hi j x hx=>by
     have uS:i<ln:=S8;rw [C6,if_pos uS]at hi;injection hi with hi;subst hi;have OX:=YP (X:=X) (ρ:=ρ) (F:=F) (w:=w) f2;have hj:=(fK.1 hx).1;have ko:=OX.1;simp only [qQ]at ko;have O7:j<z2.cells.size:=by omega
     have aKS:i*(X.K e).length +j<cn*(X.ti e).size :=by
      rw [pO];have:(i+1)*(X.ti e).size <=cn*(X.ti e).size :=wv _ (by omega);exact Nc
     have hm:(i*(X.K e).length +j) %z2.cells.size=j:=by
      rw [pO,tS,Nat.add_comm,ahJ,ZI (by omega)]
     refine⟨z2.cells[j],?_,OX.2 j x _ hx (by simp [O7])⟩;rw [Array.getElem?_map,Array.getElem?_range,if_pos aKS];simp only [nN,hm];rw [R6 z2.cells j O7])
   (w':=w) ⟨rfl,rfl,rfl,iZ _,λ_ _ _=>rfl⟩ rfl
  refine⟨.slice (some ⟨w.heap.size,0,none⟩) ln cn,_,_,F,?_,NC.1,NC.2,?_⟩
  ·have OT:IntKind.i64.wrap (ln:Int)=ln:=by simp [IntKind.wrap,IntKind.bits,IntKind.signed];omega
   have hwc:IntKind.i64.wrap (cn:Int)=cn:=akv;have vS:(i2.bytes:Int)*(cn:Int)<=140737488355328:=by rw [<-f2.bytes,Int.mul_comm];exact yk
   have hbl:(i2.bytes:Int)*(ln:Int)<=140737488355328:=by
    have:(i2.bytes:Int)*(ln:Int)<=(i2.bytes:Int)*(cn:Int):=Int.mul_le_mul_of_nonneg_left (by omega) (by omega);omega
   have lx:¬((((cn:Int)<0∨(281474976710656:Int)<(i2.bytes:Int)*(cn:Int))∨(ln:Int)<0)∨(cn:Int)<(ln:Int)):=by omega
   unfold Instr.makeSlice;simp only [gh,k7 dN,iV,asInt,asIntOf,ke,f2.typeInfo,OT,hwc];rw [if_neg (by simpa using lx)]
   by_cases h0:cn*(X.ti e).size =0
   ·have:cn=0:=by rcases Nat.mul_eq_zero.1 h0 with h|h;exact h;omega
    subst this;have e9:∀g:Nat->Value,(Array.range 0).map g= #[]:=by intro g;simp
    simp [f2.sizeOf,newRow,e9]
   ·simp [f2.sizeOf,newRow,f2.zeroValue,h0]
  ·have:=Dd (X:=X) (F:=F) (w:=w.alloc (.cells ((Array.range (cn*(X.ti e).size)).map (z2.cells[· %z2.cells.size]!)) e)) (hd:=⟨.slice (some ⟨w.heap.size,0,none⟩) (List.replicate ln (pg X e)).length cn,(X.K e).length⟩) hI.len;exact sI
 ·cases h
end
end Go.aj
namespace Go.aj
def Jk{p:Prop}(h:p:=by rw [<-hI.len];simp):p:=h
def ajH{p:Prop}(h:p:=by rw [mF (fK.1 hb).1];exact hb):p:=h
def ajG{p:Prop}(h:p:=by rw [mF (fK.1 hh).1];exact hh):p:=h
end Go.aj
namespace Go.aj
def Dg:=@List.all_cons
def FI:=@Nat.sub_self
end Go.aj
namespace Go.aj
open Go
noncomputable section
variable {X:Cx} {R:Type} {M:aF}
variable{len:Nat}{r:R}{t:TypeId}{ps:bL}
def Inv.aFe{w0 w w':World}{S:Sc}{F F':bD}{ρ:bJ}{hd:Hd}{b:eE}(hI:Inv X w0 S F ρ M w)(hN:Inv X w0 S F' (ρ++[hd]) (M++[b]) w')(hF:∀a,F a->F' a)(hp:∀g,g<w.heap.size->w'.heap[g]?=w.heap[g]?)(hw:∀a v,F a->w.cell? a=some v->w'.cell? a=some v):
 Inv X w0 S F' ρ M w' where
 os:=hN.os
 tape:=hN.tape
 output:=hN.output
 size:=hN.size
 frame:=hN.frame
 len:=hI.len
 rep:=λid b' dS hb hh=>by
  cases ot:b'.kU with
  |false=>exact(hI.rep id b' dS hb hh).mono (λ_ _ h=>h) hF hw (λg hg=>hp g (hI.sep id b' dS g hb ot hh hg).1)
  |true=>
   have U:(M++[b])[id]?=some b':=ajH;have h2:(ρ++[hd])[id]?=some dS:=ajG;have hr:=hI.rep id b' dS hb hh;cases b' with
   |dead=>trivial
   |fP t xs=>exact a8.mono (λ_ _ h=>h) hF hw hr
   |_=>simp [eE.kU]at ot
 sep:=λid b' dS g hb ot hh hg=>by
  have U:(M++[b])[id]?=some b':=ajH;have h2:(ρ++[hd])[id]?=some dS:=ajG;exact hN.sep id b' dS g U ot h2 hg
 mC:=hI.mC
 fz:=hN.fz
 kz:=λg=>(hI.kz g).mono (λ_ _ h=>h) hF hw
 one:=hI.one
 jS:=hN.jS
 fin:=hN.fin
 dV:=hN.dV
def Gh:AV->Bool| .int _ _| .bool _| .str _| .ae _ _=>true|_=>false
def TB:Bool->AV->Bool|true,.agg cs=>cs.all Gh|false,x=>Gh x|_,_=>false
def aEg:AV->Bool| .agg cs=>cs.all Gh|x=>Gh x
def aib{kd:Kind}{x:AV}{c:AV->aF->Option R}(h:Gh x=true):kZ kd x M c=c x M:=by
 cases x<;>simp [Gh]at h<;>cases kd<;>rfl
def ahs:∀(ks:er) (xs:ak) {M:aF} {c:ak->aF->Option R},xs.all Gh=true->uB ks xs M c=c xs M
 | [],xs,M,c,_=>by cases xs<;>rfl
 |_::_,[],M,c,_=>rfl
 |kd::ks,x::xs,M,c,h=>by
  rw [Dg,bw]at h;simp only [uB];rw [aib h.1,ahs ks xs h.2]
def YZ{e:TypeId}:∀(ps:bL) {M:aF} {c:bL->aF->Option R},(ps.all λp=>TB (X.ti e).u.agg p.2)=true->BU X e ps M c=c ps M
 | [],M,c,_=>rfl
 |(i,x)::ps,M,c,h=>by
  rw [Dg,bw]at h;obtain⟨U,h2⟩:=h;cases ha:(X.ti e).u.agg with
  |true=>
   rw [ha]at U;cases x<;>simp only [TB,nP]at U
   simp only [BU,ha];rw [ahs _ _ U,YZ ps h2]
  |false=>
   rw [ha]at U;simp only [BU,ha];rw [aib (by simpa [TB]using U),YZ ps h2]
def Fp(X:Cx)(t:TypeId)(len:Nat)(ps:bL)(k:AV->Option R):Option R:=
 match(X.ti t).ok,(X.ti t).u with
 |true,.slice e=>
  bf ((((X.ti e).ok &&decide (0<(X.ti e).size)&&decide (len*(X.ti e).size <=16777216))&&(ps.all λp=>TB (X.ti e).u.agg p.2))&&X.pk)
   (match Aa (λi=>some (i*(X.ti e).size,(X.ti e).size)) ((List.replicate len (pg X e)).flatten) ps with
     |some cs=>bf ((chunk (X.ti e).size len cs).all λrow=>cZ (X.K e) row) (k (.ae e (chunk (X.ti e).size len cs)))
     |none=>none)
 |_,_=>none
def ave(hX:X.Okb){k:AV->Option R}(h:Fp X t len ps k=some r):
 ∃y,k y=some r/\(∀(R':Type) (k':AV->Option R'),Fp X t len ps k'=k' y)/\∀{M:aF} {w0:World} {S:Sc} {F:bD} {ρ:bJ} {w:World} (pv:List (Nat×Value)),Inv X w0 S F ρ M w->pv.length=ps.length->
  (∀(j:Nat) p q,ps[j]?=some p->pv[j]?=some q->p.1=q.1/\a8 X.K ρ F w p.2 q.2)->
  ∃v w' ρ' F',(Instr.buildSlice t len pv.toArray).run X.P w= .ok v w'/\Inv X w0 S F' ρ' M w'/\Grow F F' ρ ρ' w w'/\a8 X.K ρ' F' w' y v:=by
 unfold Fp at h;split at h
 ·rename_i e bB hu;replace h:=cO h;obtain⟨U,h⟩:=h;split at h
  ·rename_i cs xP;replace h:=cO h;obtain⟨lN,h⟩:=h;refine⟨_,h,λR' k'=>by unfold Fp;simp only [bB,hu,U,xP,lN,bf],λ{M w0 S F ρ w} pv hI hl hp=> ?_⟩;obtain⟨U,hpk⟩:=Bool.and_eq_true_iff.1 U;obtain⟨U,h3⟩:=Bool.and_eq_true_iff.1 U;have hb:L3 X t len ps M (λy M'=>some (y,M'))=some (.au M.length,M++[.row e (chunk (X.ti e).size len cs)]):=by
    unfold L3;simp only [bB,hu,U,bf];rw [YZ ps h3];simp only [xP,lN,bf]
   obtain⟨y1,M1,he,_,hd⟩:=aeU hX hb;injection he with he;injection he with Pd he2;subst Pd;subst he2;obtain⟨v,w',ρ',F1,du,KT,zl,xp,mM⟩:=hd pv hI hl hp;have jD:∃hd,ρ'=ρ++[hd]:=by
    have gY:=KT.len;have ko:=hI.len;rw [cw,List.length_singleton]at gY;have cH:ρ.length<ρ'.length:=by omega
    refine⟨ρ'[ρ.length],R8 λj=> ?_⟩
    by_cases hj:j<ρ.length
    ·rw [mF hj,dy hj];exact zl.jD j _ (dy hj)
    ·by_cases O7:j=ρ.length
     ·subst O7;rw [nM (iZ _),FI,dy cH];rfl
     ·rw [FH (by omega),FH (fB)]
   obtain⟨oR,rfl⟩:=jD;have hz:kZ (.slice e) (.au M.length) (M++[.row e (chunk (X.ti e).size len cs)]) (λx M=>some (x,M))=some (.ae e (chunk (X.ti e).size len cs),M++[.fP e (chunk (X.ti e).size len cs)]):=by
    simp [fR,kZ,bf]
   obtain⟨x',M2,he,_,_,KR⟩:=ID (X:=X) hz;injection he with he;injection he with Pd he2;subst Pd;subst he2;obtain⟨F2,yl,oB,hv⟩:=KR KT;have hg:=zl.trans oB;exact⟨v,w',ρ,F2,du,hI.aFe yl hg.hF mM (λa v ha hc=>hg.hw a v ha hc),⟨hg.hF,λ_ _ h=>h,hg.hb⟩,(hv v xp).pure (hX.ok hpk).kinds rfl⟩
  ·exact aD
 ·cases h
def aKx:AV->Bool| .eJ _ [] []=>false| .eJ _ _ _=>true|_=>false
def aEm(ps:bL):Bool:=ps.any λp=>p.2.cells.any aKx
def YI(X:Cx)(t:TypeId)(len:Nat)(ps:bL)(M:aF)(k:AV->aF->Option R):Option R:=
 match(X.ti t).ok,(X.ti t).u with
 |true,.slice e=>
  bf ((X.ti e).ok &&decide (0<(X.ti e).size)&&decide (len*(X.ti e).size <=16777216))
   (match Aa (λi=>some (i*(X.ti e).size,(X.ti e).size)) ((List.replicate len (pg X e)).flatten) ps with
     |some cs=>bf (cZ (List.replicate cs.length .any) cs&&(X.yc (List.replicate cs.length .any) e||tF cs)) (k (.oy M.length len) (M++[.var (List.replicate cs.length .any) cs]))
     |none=>none)
 |_,_=>none
def avS(hX:X.Okb){k:AV->aF->Option R}(h:YI X t len ps M k=some r):
 ∃y M',k y M'=some r/\dc [] M M'/\∀{w0:World} {S:Sc} {F:bD} {ρ:bJ} {w:World} (pv:List (Nat×Value)),Inv X w0 S F ρ M w->pv.length=ps.length->
  (∀(j:Nat) p q,ps[j]?=some p->pv[j]?=some q->p.1=q.1/\a8 X.K ρ F w p.2 q.2)->
  ∃v w' ρ' F',(Instr.buildSlice t len pv.toArray).run X.P w= .ok v w'/\Inv X w0 S F' ρ' M' w'/\Grow F F' ρ ρ' w w'/\a8 X.K ρ' F' w' y v:=by
 unfold YI at h;split at h
 ·rename_i e bB hu;replace h:=cO h;obtain⟨U,h⟩:=h;simp only [bw,gG]at U;obtain⟨⟨he,rm⟩,mB⟩:=U;obtain⟨i,d,z,f⟩:=hX.facts bB;obtain⟨i2,d2,z2,f2⟩:=hX.facts he;have dN:=f.slice hu;split at h
  ·rename_i cs xP;replace h:=cO h;obtain⟨lN,h⟩:=h;rw [bw]at lN;obtain⟨lN,hyy⟩:=lN;refine⟨_,_,h,dc.push _ _ _,λ{w0 S F ρ w} pv hI hl hp=> ?_⟩;have tS:z2.cells.size=(X.ti e).size :=SU;have hz:dm X.K ρ F w (List.replicate len (pg X e)).flatten ((Array.range (len*z2.cells.size)).map (z2.cells[· %z2.cells.size]!)).toList :=abK;obtain⟨us,hf,hr⟩:=Iv hI.one ps _ cs _ pv xP hz hl hp;obtain⟨eZ,hg⟩:=hI.newVar lN hr e hyy;refine⟨.slice (some ⟨w.heap.size,0,none⟩) len len,_,_,F,?_,eZ,hg,?_⟩
   ·exact ao5
   ·exact .oy _ _ ⟨.slice (some ⟨w.heap.size,0,none⟩) 1 1,cs.length⟩ _ _ 1 1 _ (Jk) rfl
  ·exact aD
 ·cases h
end
end Go.aj
namespace Go.aj
def am0{p:Prop}(h:p:=by
 intro o v d n hr hb;cases o with
 |none=>cases v with
  |none=>simp only [oS,Option.some.injEq]at hb;exact .inl ⟨rfl,rfl,hb⟩
  |some _=>exact hr.elim
 |some x=>cases v with
  |none=>exact hr.elim
  |some v=>
   cases x<;>simp only [oS]at hb<;>try cases hb
   cases hr;exact .inr ⟨_,rfl,rfl⟩):p:=h
def ak0{p:Prop}(h:p:=by simp [Instr.sliceAt,Instr.slice,hu,Instr.sliceBounds,hs,Instr.sliceBound,asIntOf,U,h2]):p:=h
end Go.aj
namespace Go.aj
def qy:=@Nat.zero_le
def gD:=@List.length_nil
def A6:=@Int.le_refl
end Go.aj
namespace Go.aj
open Go
noncomputable section
variable {X:Cx} {R:Type}
variable {w0 w w':World} {S:Sc} {F:bD} {ρ:bJ} {M:aF}
variable{x:AV}{h l:Int}{hi lo mx:Option AV}{r:R}{t:TypeId}{xs:aY}
def oS(d:Int):Option AV->Option Int
 |none=>some d
 |some (.int _ n)=>some n
 |_=>none
def tG(K:TypeId->er)(ρ:bJ)(F:bD)(w:World):Option AV->Option Value->Prop
 |none,none=>True
 |some x,some v=>a8 K ρ F w x v
 |_,_=>False
def yz(xs:aY)(lo hi:Option AV):aY:=
 match lo,hi with
 |none,none=>xs
 |none,some h=>xs.take h.toI.toNat
 |some l,none=>xs.drop l.toI.toNat
 |some l,some h=>(xs.take h.toI.toNat).drop l.toI.toNat
def Dj(X:Cx)(t:TypeId)(x:AV)(lo hi mx:Option AV)(M:aF)(k:AV->aF->Option R):Option R:=
 match(X.ti t).ok,(X.ti t).u with
 |true,.slice e=>
  match rowsOf M x with
  |some (_,xs)=>
   match oS 0 lo,oS xs.length hi,oS xs.length mx with
   |some l,some h,some m=>
    bf ((X.ti e).ok && !(mx.isSome&&hi.isNone)&&(decide (0<=l)&&decide (l<=h)&&decide (h<=m)&&decide (m<=(xs.length:Int))))
     (match x with
      | .ae t' xs=>bf (e==t') (k (.ae t' (yz xs lo hi)) M)
      | .jI =>k .jI M
      | .au id=>
        match gm M id with
        |some (.row t' xs)=>bf (e==t') (k (.au M.length) (M.set id .dead ++[.row t' (yz xs lo hi)]))
        |some (.fP t' xs)=>bf (e==t') (k (.ae t' (yz xs lo hi)) M)
        |_=>none
      |_=>none)
   |_,_,_=>none
  |none=>none
 |_,_=>none
def L7{P:Program}{e:TypeId}{size:Nat}(dN:P.underlying t=some (.slice e))(hs:∀w,(sizeOf e).run P w= .ok size w){a:Option Addr}{len cap:Nat}{vl vh vm:Option Value}{K:TypeId->er}
 (U:tG K ρ F w lo vl) (h2:tG K ρ F w hi vh) (h3:tG K ρ F w mx vm) {m:Int} (e1:oS 0 lo=some l) (e2:oS len hi=some h) (e3:oS len mx=some m) (tc:¬(mx.isSome=true/\hi.isNone=true)) (b1:0<=l) (b2:l<=h) (b3:h<=m) (b4:m<=len) (b5:len<=cap):
 ∃mm:Nat,h.toNat<=mm/\mm<=cap/\(Instr.sliceAt t (.slice a len cap) vl vh vm).run P w= .ok (.slice (if mm=l.toNat then a else a.map (·.add (l.toNat*size))) (h.toNat- l.toNat) (mm- l.toNat)) w:=by
 obtain⟨ln,rfl⟩:=C7 b1;obtain⟨hn,rfl⟩:=C7 (show 0<=h by omega);obtain⟨mn,rfl⟩:=C7 (show 0<=m by omega);have bound:∀(o:Option AV) (v:Option Value) (d:Int) (n:Nat),tG K ρ F w o v->oS d o=some (n:Int)->(o=none/\v=none/\d=n)∨∃kd,v=some (.int kd n)/\o.isSome=true:=am0;have hu:∀w,(underlying t).run P w= .ok (.slice e) w:=λw=>k7 dN w;rcases bound lo vl 0 ln U e1 with⟨o1,rfl,d1⟩|⟨k1,rfl,s1⟩<;>rcases bound hi vh len hn h2 e2 with⟨o2,rfl,d2⟩|⟨k2,rfl,s2⟩<;>rcases bound mx vm len mn h3 e3 with⟨o3,rfl,d3⟩|⟨k3,rfl,s3⟩
 ·refine⟨cap,by omega,iZ _,?_⟩;have e0:ln=0:=by omega
  have HM:hn=len:=by omega
  subst e0;subst HM;simp [Instr.sliceAt,Instr.slice,hu,Instr.sliceBounds,hs]
 ·exact absurd ⟨s3,by rw [o2];rfl⟩ tc
 ·refine⟨cap,by omega,iZ _,?_⟩;have e0:ln=0:=by omega
  subst e0;have:hn<=cap:=by omega
  simp [Instr.sliceAt,Instr.slice,hu,Instr.sliceBounds,hs,Instr.sliceBound,asIntOf,this]
 ·refine⟨mn,by omega,by omega,?_⟩;have e0:ln=0:=by omega
  subst e0;have U:hn<=mn:=by omega
  have h2:mn<=cap:=by omega
  exact ak0
 ·refine⟨cap,by omega,iZ _,?_⟩;have HM:hn=len:=by omega
  subst HM;have U:ln<=hn:=by omega
  simp [Instr.sliceAt,Instr.slice,hu,Instr.sliceBounds,hs,Instr.sliceBound,asIntOf,U]
 ·exact absurd ⟨s3,by rw [o2];rfl⟩ tc
 ·refine⟨cap,by omega,iZ _,?_⟩;have U:ln<=hn:=by omega
  have h2:hn<=cap:=by omega
  exact ak0
 ·refine⟨mn,by omega,by omega,?_⟩;have U:ln<=hn:=by omega
  have h2:hn<=mn:=by omega
  have h3:mn<=cap:=by omega
  simp [Instr.sliceAt,Instr.slice,hu,Instr.sliceBounds,hs,Instr.sliceBound,asIntOf,U,h2,h3]
def Mf(e1:oS 0 lo=some l)(e2:oS xs.length hi=some h):yz xs lo hi=(xs.take h.toNat).drop l.toNat:=by
 cases lo with
 |none=>
  simp only [oS,Option.some.injEq]at e1;subst e1;cases hi with
  |none=>simp only [oS,Option.some.injEq]at e2;subst e2;simp [yz]
  |some x=>cases x<;>simp only [oS]at e2<;>try cases e2
           simp [yz,AV.toI]
 |some y=>
  cases y<;>simp only [oS]at e1<;>try cases e1
  cases hi with
  |none=>simp only [oS,Option.some.injEq]at e2;subst e2;simp [yz,AV.toI]
  |some x=>cases x<;>simp only [oS]at e2<;>try cases e2
           simp [yz,AV.toI]
def aBg{v:Value}(hv:a8 X.K ρ F w (.ae t xs) v){l h m:Nat}(b2:l<=h)(b3:h<=xs.length):
 ∀{a:Option Addr} {cap:Nat},v= .slice a xs.length cap->h<=m->m<=cap->a8 X.K ρ F w (.ae t ((xs.take h).drop l)) (.slice (if m=l then a else a.map (·.add (l*(X.K t).length))) (h- l) (m- l)):=by
 intro a cap tU ET hm2;cases hv with
 |ng=>
  injection tU with e1 e2 e3;subst e1;subst e3;have h0:h=0:=by simpa using b3
  have l0:l=0:=by omega
  have m0:m=0:=by omega
  subst h0;subst l0;subst m0;exact .ng t
 |ae _ _ a' aLY vss hl nA mB hk hc hr=>
  injection tU with e1 e2 e3;subst e1;subst e3;have e:(if m=l then some a' else(some a').map (·.add (l*(X.K t).length)))=some (if m=l then a' else a'.add (l*(X.K t).length)):=by split<;>rfl
  rw [e];have hlen:((xs.take h).drop l).length =h- l:=fB;have:=a8.ae (K:=X.K) (ρ:=ρ) (F:=F) (w:=w) t ((xs.take h).drop l) (if m=l then a' else a'.add (l*(X.K t).length)) (m- l) ((vss.take h).drop l) (by simp [hl]) (by rw [hlen];omega) (by omega) ?_ ?_ ?_
  ·rw [hlen]at this;exact this
  ·intro i row hi;rw [ug,th]at hi;split at hi
   ·exact hk _ row hi
   ·cases hi
  ·intro i vs hi;rw [ug,th]at hi;split at hi
   ·rename_i cH;obtain⟨c1,c2⟩:=hc _ vs hi;refine⟨c1,λj u hj=> ?_⟩;rw [if_neg (by omega),Df];have:=c2 j u hj;rw [show l*(X.K t).length +(i*(X.K t).length +j)=(l+i)*(X.K t).length +j by rw [mw];omega];exact this
   ·cases hi
  ·intro i row vs hi gj;rw [ug,th]at hi gj;split at hi
   ·rename_i cH;rw [if_pos cH]at gj;exact hr _ row vs hi gj
   ·cases hi
def axG(hX:X.Okb){k:AV->aF->Option R}(h:Dj X t x lo hi mx M k=some r):
 ∃y M',k y M'=some r/\dc (lJ x) M M'/\∀{v:Value} {vl vh vm:Option Value},Eb X M y M' (λρ F w=>a8 X.K ρ F w x v/\tG X.K ρ F w lo vl/\tG X.K ρ F w hi vh/\tG X.K ρ F w mx vm) (Instr.sliceAt t v vl vh vm):=by
 unfold Dj at h;simp only [fR]at h;split at h
 ·rename_i e bB hu;obtain⟨i,d,z,f⟩:=hX.facts bB;have dN:=f.slice hu;split at h
  ·rename_i o xs jx;split at h
   ·rename_i l h' m e1 e2 e3;replace h:=cO h;obtain⟨U,h⟩:=h;simp only [bw,jF,Bool.and_eq_false_iff,gG]at U;obtain⟨⟨he,tc⟩,⟨⟨b1,b2⟩,b3⟩,b4⟩:=U;have ac3:¬(mx.isSome=true/\hi.isNone=true):=by
     rintro⟨p,q⟩;rcases tc with hh|hh
     ·rw [p]at hh;cases hh
     ·rw [q]at hh;cases hh
    obtain⟨i2,d2,z2,f2⟩:=hX.facts he;have eX:(X.K e).length =(X.ti e).size :=Dx;have eb:(h':Int)<=xs.length:=by omega
    have core:∀{ρ:bJ} {F:bD} {w:World} {v:Value} {vl vh vm:Option Value},a8 X.K ρ F w (.ae e xs) v->tG X.K ρ F w lo vl->tG X.K ρ F w hi vh->tG X.K ρ F w mx vm->
     ∃u,(Instr.sliceAt t v vl vh vm).run X.P w= .ok u w/\a8 X.K ρ F w (.ae e (yz xs lo hi)) u:=by
     intro ρ F w v vl vh vm hv r1 r2 r3;have tU:∃a cap,v= .slice a xs.length cap/\xs.length<=cap:=by
      cases hv with
      |ng=>exact⟨_,_,rfl,by simp⟩
      |ae _ _ a cap _ _ nA=>exact⟨_,_,rfl,nA⟩
     obtain⟨a,cap,tU,nA⟩:=tU;obtain⟨mm,m1,m2,du⟩:=L7 (P:=X.P) (size:=(X.ti e).size) dN f2.sizeOf (a:=a) (len:=xs.length) (cap:=cap) r1 r2 r3 e1 e2 e3 ac3 b1 b2 b3 b4 nA;rw [tU];refine⟨_,du,?_⟩;rw [Mf e1 e2,<-eX];exact aBg hv (by omega) (by omega) tU m1 m2
    split at h
    ·rename_i t' jN;replace h:=cO h;obtain⟨h2,h⟩:=h;rw [iU]at h2;subst h2;simp only [fR,rowsOf,Option.some.injEq,Prod.mk.injEq]at jx;obtain⟨_,rfl⟩:=jx;refine⟨_,_,h,dc.refl _ _,λ{v vl vh vm w0 S F ρ w} hI hh=> ?_⟩;obtain⟨hv,r1,r2,r3⟩:=hh;obtain⟨u,h3,h4⟩:=core hv r1 r2 r3;exact⟨u,w,ρ,F,h3,hI,Grow.refl _ _ _,h4⟩
    ·simp only [fR,rowsOf,Option.some.injEq,Prod.mk.injEq]at jx;obtain⟨_,rfl⟩:=jx;refine⟨_,_,h,dc.refl _ _,λ{v vl vh vm w0 S F ρ w} hI hh=> ?_⟩;obtain⟨hv,r1,r2,r3⟩:=hh;cases hv;simp only [gD]at eb e2 e3 b4;obtain⟨mm,m1,m2,du⟩:=L7 (P:=X.P) (size:=(X.ti e).size) dN f2.sizeOf (a:=none) (len:=0) (cap:=0) r1 r2 r3 e1 e2 e3 ac3 b1 b2 b3 b4 (iZ _);refine⟨_,w,ρ,F,du,hI,Grow.refl _ _ _,?_⟩;have l0:l.toNat=0:=by omega
     have h0:h'.toNat=0:=by omega
     have m0:mm=0:=by omega
     rw [l0,h0,m0];exact .jI
    ·rename_i id;split at h
     ·rename_i t' jN hb;replace h:=cO h;obtain⟨h2,h⟩:=h;rw [iU]at h2;subst h2;simp only [fR,rowsOf,hb,Option.some.injEq,Prod.mk.injEq]at jx;obtain⟨_,rfl⟩:=jx;refine⟨_,_,h,((dc.set _ _ _).trans (dc.push [] _ _)).mono (by simp [lJ]),λ{v vl vh vm w0 S F ρ w} hI hh=> ?_⟩;obtain⟨hv,r1,r2,r3⟩:=hh;cases hv with
      |au _ hd hid=>
       obtain⟨q1,q2,q3⟩:=hI.rep id _ hd hb hid;have tU:∃a cap,hd.v= .slice a jN.length cap/\jN.length<=cap:=by
        rcases q3 with⟨q3,q4⟩|⟨g,o,c,cur,q3,_,q4,_⟩
        ·subst q4;exact⟨_,_,q3,iZ _⟩
        ·exact⟨_,_,q3,q4⟩
       obtain⟨a,cap,tU,nA⟩:=tU;obtain⟨mm,m1,m2,du⟩:=L7 (P:=X.P) (size:=(X.ti e).size) dN f2.sizeOf (a:=a) (len:=jN.length) (cap:=cap) r1 r2 r3 e1 e2 e3 ac3 b1 b2 b3 b4 nA;rw [tU];have hlen:(yz jN lo hi).length =h'.toNat- l.toNat:=by rw [Mf e1 e2];simp;omega
       have GN:∀dS:Hd,dS.v= .slice (if mm=l.toNat then a else a.map (·.add (l.toNat*(X.ti e).size))) (h'.toNat- l.toNat) (mm- l.toNat)->dS.sz=(X.K e).length ->
        Inv X w0 S F (ρ++[dS]) (M.set id .dead ++[.row e (yz jN lo hi)]) w:=by
        intro dS ig c7;have BS:∀g,dS.fj=some g->hd.fj=some g:=by
         intro g hg;simp only [Hd.fj,ig,tU]at hg⊢;cases a with
         |none=>split at hg<;>simp [Value.fj]at hg
         |some a=>
          split at hg
          ·exact hg
          ·simp only [nN,Value.fj,Option.some.injEq]at hg⊢;rw [<-hg];unfold Addr.add;split<;>rfl
        refine hI.move hb rfl hid (w':=w) (row:=none) ⟨rfl,rfl,rfl,iZ _,λ_ _ _=>rfl⟩ (.inl rfl) (λg hg=>⟨(hI.sep id _ hd g hb rfl hid (BS g hg)).1,.inl (BS g hg)⟩) (by rw [ig];rfl) ?_;refine⟨c7,λi row ca=> ?_,?_⟩
        ·rw [Mf e1 e2,ug,th]at ca;split at ca
         ·exact q2 _ row ca
         ·cases ca
        ·rcases q3 with⟨q3,q4⟩|⟨g,o,c,cur,q3,hg,q4,q5,q6,q7⟩
         ·subst q4;rw [q3]at tU;injection tU with a1 a2 a3;subst a1;subst a3;simp only [gD]at b4 eb;have l0:l.toNat=0:=by omega
          have h0:h'.toNat=0:=by omega
          have m0:mm=0:=by omega
          refine .inl ⟨?_,by rw [Mf e1 e2];simp⟩;rw [ig,l0,h0,m0];rfl
         ·rw [q3]at tU;injection tU with a1 a2 a3;subst a1;subst a3;refine .inr ⟨g,if mm=l.toNat then o else o+l.toNat*(X.ti e).size,mm- l.toNat,cur,?_,hg,by rw [hlen];omega,by omega,?_,λi row ca j y hy=> ?_⟩
          ·rw [ig,hlen];split
           ·rfl
           ·rw [nN,sC]
          ·rw [c7,eX];rw [q1,eX]at q6;split
           ·rename_i heq;rw [heq,FI,Nat.zero_mul];have:=qy (c*(X.ti e).size);omega
           ·have k1:l.toNat+(mm- l.toNat)<=c:=by omega
            have k2:=wv (X.ti e).size k1;rw [mw]at k2;omega
          ·have uS:=(fK.1 ca).1;rw [hlen]at uS;rw [Mf e1 e2,ug,th]at ca;split at ca
           ·obtain⟨u,xk,nn⟩:=q7 _ row ca j y hy;refine⟨u,?_,nn.mono (λ_ _ h=>qu h) (λ_ h=>h) (λ_ _ _ h=>h)⟩;rw [if_neg (by omega),c7,eX];rw [q1,eX]at xk;rw [show o+l.toNat*(X.ti e).size +i*(X.ti e).size +j=o+(l.toNat+i)*(X.ti e).size +j by rw [mw];omega];exact xk
           ·cases ca
       refine⟨_,w,_,F,du,GN ⟨_,(X.K e).length⟩ rfl rfl,⟨λ_ h=>h,λ_ _ h=>qu h,λ_ _=>rfl⟩,?_⟩;exact Dd (M:=M) (hd:=⟨_,(X.K e).length⟩) hI.len
     ·rename_i t' jN hb;replace h:=cO h;obtain⟨h2,h⟩:=h;rw [iU]at h2;subst h2;simp only [fR,rowsOf,hb,Option.some.injEq,Prod.mk.injEq]at jx;obtain⟨_,rfl⟩:=jx;refine⟨_,_,h,dc.refl _ _,λ{v vl vh vm w0 S F ρ w} hI hh=> ?_⟩;obtain⟨hv,r1,r2,r3⟩:=hh;cases hv with
      |au _ hd hid=>
       obtain⟨u,h3,h4⟩:=core (hI.rep id _ hd hb hid) r1 r2 r3;exact⟨u,w,ρ,F,h3,hI,Grow.refl _ _ _,h4⟩
     ·exact aD
    ·exact aD
   ·exact aD
  ·exact aD
 ·cases h
def F5(X:Cx)(t:TypeId)(x:AV)(lo hi:Option AV)(M:aF)(k:AV->Option R):Option R:=
 match x with
 | .au id=>
   match(X.ti t).ok,(X.ti t).u with
   |true,.slice e=>
    match gm M id with
    |some (.row t' xs)=>
     match oS 0 lo,oS xs.length hi with
     |some l,some h=>bf (((X.ti e).ok &&e==t')&&(decide (0<=l)&&decide (l<=h)&&decide (h<=(xs.length:Int)))) (k (.vw id l.toNat (h.toNat- l.toNat)))
     |_,_=>none
    |_=>none
   |_,_=>none
 |_=>none
def ayg(hX:X.Okb){k:AV->Option R}(h:F5 X t x lo hi M k=some r):
 ∃y,k y=some r/\∀{w0:World} {S:Sc} {F:bD} {ρ:bJ} {w:World} {v:Value} {vl vh:Option Value},Inv X w0 S F ρ M w->a8 X.K ρ F w x v->tG X.K ρ F w lo vl->tG X.K ρ F w hi vh->
  ∃u,(Instr.sliceAt t v vl vh none).run X.P w= .ok u w/\a8 X.K ρ F w y u:=by
 unfold F5 at h;simp only [fR]at h;split at h
 ·rename_i id;split at h
  ·rename_i e bB hu;obtain⟨i,d,z,f⟩:=hX.facts bB;have dN:=f.slice hu;split at h
   ·rename_i t' xs hb;split at h
    ·rename_i l h' e1 e2;replace h:=cO h;obtain⟨U,h⟩:=h;simp only [bw,gG,iU]at U;obtain⟨⟨he,rfl⟩,⟨b1,b2⟩,b3⟩:=U;obtain⟨i2,d2,z2,f2⟩:=hX.facts he;have eX:(X.K e).length =(X.ti e).size :=Dx;refine⟨_,h,λ{w0 S F ρ w v vl vh} hI hv r1 r2=> ?_⟩;cases hv with
     |au _ hd hid=>
      obtain⟨q1,q2,q3⟩:=hI.rep id _ hd hb hid;rcases q3 with⟨q3,q4⟩|⟨g,o,c,cur,q3,_,q4,_⟩
      ·subst q4;simp only [gD]at b3 e2;obtain⟨mm,m1,m2,du⟩:=L7 (P:=X.P) (K:=X.K) (ρ:=ρ) (F:=F) (w:=w) (mx:=none) (vm:=none) (size:=(X.ti e).size) dN f2.sizeOf (a:=none) (len:=0) (cap:=0) r1 r2 trivial e1 e2 rfl (by simp) b1 b2 b3 (A6 _) (iZ _);rw [q3];refine⟨_,du,?_⟩;have l0:l.toNat=0:=by omega
       have h0:h'.toNat=0:=by omega
       have m0:mm=0:=by omega
       rw [l0,h0,m0];exact .yb id 0
      ·obtain⟨mm,m1,m2,du⟩:=L7 (P:=X.P) (K:=X.K) (ρ:=ρ) (F:=F) (w:=w) (mx:=none) (vm:=none) (size:=(X.ti e).size) dN f2.sizeOf (a:=some ⟨g,o,none⟩) (len:=xs.length) (cap:=c) r1 r2 trivial e1 e2 rfl (by simp) b1 b2 b3 (A6 _) q4;rw [q3];refine⟨_,du,?_⟩
       by_cases hm:mm=l.toNat
       ·rw [if_pos hm,show h'.toNat- l.toNat=0 by omega];exact .ya id _ _ _
       ·rw [if_neg hm,nN,sC,<-eX,<-q1];exact .vw id l.toNat _ hd g o xs.length c _ hid q3 (by omega) (by omega)
    ·exact aD
   ·exact aD
  ·exact aD
 ·cases h
end
end Go.aj
namespace Go.aj
def ao4{p:Prop}(h:p:=by
 intro k u KL;have tV:=(fK.1 KL).1;rw [xr]at tV;have hi:k/(X.K e).length <vss.length:=Nat.div_lt_of_lt_mul (by rw [ahD];exact tV);have hj:k %(X.K e).length <(X.K e).length :=Nat.mod_lt _ rm;have oQ:k=k/(X.K e).length *(X.K e).length +k %(X.K e).length :=by rw [ahD];exact(Nat.div_add_mod k _).symm
 have nI:vss[k/(X.K e).length]?=some (vss[k/(X.K e).length]'hi):=dy hi;have hyi:ys[k/(X.K e).length]?=some (ys[k/(X.K e).length]'(by omega)):=dy (by omega);have hg:=RZ vss hlen _ (k %(X.K e).length) _ nI hj;rw [<-oQ]at hg;rw [KL]at hg;have uM:=kS (hk _ _ hyi);exact⟨_,_,_,_,_,oQ,hyi,nI,dy (by rw [uM];exact hj),hg.symm⟩):p:=h
def am1{p:Prop}(h:p:=by
 have nI:vss[i]?=some (vss[i]'(by omega)):=dy (by omega);have hj:=(fK.1 hy).1;have uM:=kS (hk i row hi);obtain⟨⟨r1,r2⟩,_⟩:=gj i row _ hi nI;have hu:(vss[i]'(by omega))[j]?=some ((vss[i]'(by omega))[j]'(by omega)):=dy (by omega);exact⟨_,by rw [RZ vss hlen i j _ nI (by omega)];exact hu,r2 j y _ hy hu⟩):p:=h
def amM{p:Prop}(h:p:=by
 intro i vs hi;have uS:=(fK.1 hi).1;obtain⟨⟨r1,_⟩,_⟩:=gj i (ys[i]'(by omega)) vs (dy (by omega)) hi;rw [r1,kS (hk i _ (dy (by omega)))]):p:=h
def amG{p:Prop}(h:p:=by
 simp only [gD,MB,nO]at rH du;refine⟨_,_,_,F,du,rH.1,rH.2,?_⟩;exact Dd (M:=M) (hd:=⟨_,(X.K e).length⟩) hI.len):p:=h
def amz{p:Prop}(h:p:=by
 cases o with
 |none=>exact .inr ⟨rfl,by simpa using Ve⟩
 |some e'=>left;simp only [iU]at Ve;rw [Ve]):p:=h
def abe{p:Prop}(h:p:=by cases a<;>simp [Builtin.firstCells,loadCells,loadCellsFrom]):p:=h
def S0{p:Prop}(h:p:=by simp [Hd.fj,Value.fj]at hg):p:=h
def ak9{p:Prop}(h:p:=by
 have:xs.length*(X.K e).length <=i*(X.K e).length :=wv _ (by omega);omega):p:=h
def SW{p:Prop}(h:p:=by simp [Builtin.firstCells]):p:=h
def SQ{p:Prop}(h:p:=by exact⟨u,xk,nn.grow nT⟩):p:=h
def aa0{p:Prop}(h:p:=by simp [Hd.fj,Value.fj,q3]):p:=h
def aku{p:Prop}(h:p:=by exact Dd (M:=M) (hd:=⟨.slice none 0 0,(X.K e).length⟩) hI.len):p:=h
end Go.aj
namespace Go.aj
def IU:=@Array.getElem?_append_left
def wE:=@List.eq_nil_of_length_eq_zero
def nO:=@List.nil_append
def Ms:=@List.getElem?_cons_zero
def ahD:=@Nat.mul_comm
end Go.aj
namespace Go.aj
open Go
noncomputable section
variable {X:Cx} {R:Type}
variable {w0 w w':World} {S:Sc} {F:bD} {ρ:bJ} {M:aF}
variable{x:AV}{c m n:Nat}{P:Program}{e t ty u:TypeId}{i:TypeInfo}{v:Value}{ys:aY}{news:gz}
def RZ{α:Type}{sz:Nat}:∀(vss:List (List α)),(∀(i:Nat) vs,vss[i]?=some vs->vs.length=sz)->∀(i j:Nat) vs,vss[i]?=some vs->j<sz->vss.flatten[i*sz+j]?=vs[j]?
 | [],_,i,j,vs,h,_=>gU
 |v::vss,hl,0,j,vs,h,hj=>by
  simp at h;subst h;have:=hl 0 v rfl;rw [mY,mF (by omega)];simp
 |v::vss,hl,i+1,j,vs,h,hj=>by
  have h0:=hl 0 v rfl;rw [mY,nM (by rw [h0,mw];omega),h0];rw [show(i+1)*sz+j- sz=i*sz+j by rw [mw];omega];exact RZ vss (λi vs h=>hl (i+1) vs (qc)) i j vs (qc) hj
def Q5{α:Type}{sz:Nat}:∀(vss:List (List α)),(∀(i:Nat) vs,vss[i]?=some vs->vs.length=sz)->vss.flatten.length=vss.length*sz
 | [],_=>by simp
 |v::vss,hl=>by
  rw [mY,cw,hl 0 v rfl,Q5 vss (λi vs h=>hl (i+1) vs (qc)),fk,mw];omega
def agR(hI:Inv X w0 S F ρ M w){o:Option TypeId}(h:rowsOf M x=some (o,ys))(ho:o=some e∨(o=none/\ys=[]))(hv:a8 X.K ρ F w x v)(rm:0<(X.K e).length):
 (∀(i:Nat) row,ys[i]?=some row->cZ (X.K e) row=true)/\
 ∃a c,v= .slice a ys.length c/\∃news:gz,news.length=ys.length*(X.K e).length /\(∀u∈news,u.oneCell'=true)/\
  (∀w2:World,w2.heap=w.heap->(Builtin.firstCells (X.K e).length ys.length v).run X.P w2= .ok news.toArray w2)/\
  ∀(i:Nat) row,ys[i]?=some row->∀(j:Nat) y,row[j]?=some y->∃u,news[i*(X.K e).length +j]?=some u/\a8 X.K ρ F w y u:=by
 rcases ho with rfl|⟨rfl,rfl⟩
 ·obtain⟨hk,hc⟩:=agc hI h hv;refine⟨hk,?_⟩;rcases hc with⟨rfl,rfl⟩|⟨a,c,rfl,vss,hl,gj⟩
  ·exact⟨none,0,rfl,[],by simp,by simp,λw2 _=>SW,λi row h=>gU⟩
  ·have hlen:∀(i:Nat) vs,vss[i]?=some vs->vs.length=(X.K e).length :=amM;have xr:=Q5 vss hlen;have FY:∀(k:Nat) u,vss.flatten[k]?=some u->∃i j,∃(row:Row) (vs:gz) (y:AV),k=i*(X.K e).length +j/\ys[i]?=some row/\vss[i]?=some vs/\row[j]?=some y/\vs[j]?=some u:=ao4;refine⟨some a,c,rfl,vss.flatten,by rw [xr,hl],λu hu=> ?_,λw2 hw2=> ?_,λi row hi j y hy=> ?_⟩
   ·obtain⟨k,sj⟩:=Be hu;obtain⟨i,j,row,vs,y,_,U,h2,h3,h4⟩:=FY k u sj;exact LK ((gj i row vs U h2).1.2 j y u h3 h4) (YV (hk i row U) h3) hI.one
   ·have:=run_firstCells_some (P:=X.P) w2 (X.K e).length ys.length a ys.length c vss.flatten (by rw [xr,hl]) (λk u KL=>by
     obtain⟨i,j,row,vs,y,oQ,U,h2,h3,h4⟩:=FY k u KL;have hc:=(gj i row vs U h2).2 j u h4;rw [Df,<-oQ]at hc;unfold World.cell? at hc⊢;rw [hw2];exact hc)
    exact this
   ·have uS:=(fK.1 hi).1;exact am1
 ·obtain⟨a,c,rfl⟩:=Yw hI h hv;refine⟨λi row h=>gU,a,c,rfl,[],by simp,by simp,λw2 _=> ?_,λi row h=>gU⟩;simp only [gD];exact abe
def Jr(s:ByteArray):aY:=s.data.toList.map λb=>[.int .u8 b.toNat]
def Tj:zt->AV->Bool
 | .str,.str _=>true
 | .slice _,.str _=>false
 | .slice _,_=>true
 |_,_=>false
def Tk(X:Cx)(M:aF)(e:TypeId)(x:AV):Option aY:=
 match x with
 | .str s=>(match X.K e with| [.int .u8]=>some (Jr s)|_=>none)
 |x=>match rowsOf M x with
  |some (o,ys)=>(match(match o with|some e'=>e==e'|none=>ys.isEmpty)with|true=>some ys|false=>none)
  |none=>none
def ahR{t:zt}(h:Tj t x=true):t= .str ∨∃e,t= .slice e:=by
 unfold Tj at h;split at h
 ·exact .inl rfl
 ·exact aD
 ·exact .inr ⟨_,rfl⟩
 ·exact aD
def aiQ{d:TypeDesc}(h:ph d= .str ∨∃e,ph d= .slice e):d= .string ∨∃e,d= .slice e:=by
 cases d<;>first
  |exact .inl rfl
  |exact .inr ⟨_,rfl⟩
  |(rcases h with h|⟨e,h⟩<;>cases h)
structure aLD(X:Cx)(ρ:bJ)(F:bD)(w:World)(e u:TypeId)(ys:aY)(v:Value):Prop where
 len:Builtin.lenOf v=pure ys.length
 ty:∃d,X.P.underlying u=some d/\(d= .string ∨∃e,d= .slice e)
 ks:∀(i:Nat) row,ys[i]?=some row->cZ (X.K e) row=true
 news:∃news:gz,news.length=ys.length*(X.K e).length /\(∀u∈news,u.oneCell'=true)/\
  (∀w2:World,w2.heap=w.heap->(Builtin.firstCells (X.K e).length ys.length v).run X.P w2= .ok news.toArray w2)/\
  ∀(i:Nat) row,ys[i]?=some row->∀(j:Nat) y,row[j]?=some y->∃u,news[i*(X.K e).length +j]?=some u/\a8 X.K ρ F w y u
def ahQ(hX:X.Okb)(hI:Inv X w0 S F ρ M w)(hu:(X.ti u).ok =true)(hs:Tj (X.ti u).u x=true)(h:Tk X M e x=some ys)(hv:a8 X.K ρ F w x v)(rm:0<(X.K e).length):aLD X ρ F w e u ys v:=by
 obtain⟨i1,d1,z1,f1⟩:=hX.facts hu;have OV:=f1.mi;have Hq:=f1.u
 by_cases apm:∃s,x= .str s
 ·obtain⟨s,rfl⟩:=apm;cases hv;simp only [Tk]at h;split at h
  ·rename_i hK;injection h with h;subst h;have hl:(Jr s).length =s.size:=by rw [Jr,fY,qQ];rfl
   have hg:∀(i:Nat) row,(Jr s)[i]?=some row->∃b,s.data.toList[i]?=some b/\row=[.int .u8 b.toNat]:=by
    intro i row hi;unfold Jr at hi;rw [kG]at hi;cases hb:s.data.toList[i]? with
    |none=>rw [hb]at hi;cases hi
    |some b=>rw [hb]at hi;injection hi with hi;exact⟨b,rfl,hi.symm⟩
   refine⟨by rw [hl];rfl,⟨d1,OV,?_⟩,λi row hi=> ?_,s.data.toList.map λb=> .int .u8 b.toNat,by rw [hl,hK,fY,qQ];exact(Nat.mul_one _).symm,λu hu=> ?_,λw2 _=> ?_,λi row hi j y hy=> ?_⟩
   ·exact aiQ (Hq▸ahR hs)
   ·obtain⟨b,_,rfl⟩:=hg i row hi;rw [hK];rfl
   ·obtain⟨b,_,rfl⟩:=xA.1 hu;rfl
   ·rw [hl];show(pure ((s.extract 0 s.size).data.map λb=>Value.int .u8 b.toNat):Sem (Array Value)).run X.P w2=_;rw [ByteArray.extract_zero_size,ke]
    congr 1
    apply xF;simp
   ·obtain⟨b,hb,rfl⟩:=hg i row hi;cases j with
    |zero=>
     simp only [Ms,Option.some.injEq]at hy;subst hy;exact⟨.int .u8 b.toNat,by rw [hK];simp [hb],.int _ _⟩
    |succ j=>simp at hy
  ·exact aD
 ·have hx:Tk X M e x=(match rowsOf M x with|some (o,ys)=>(match(match o with|some e'=>e==e'|none=>ys.isEmpty)with|true=>some ys|false=>none)|none=>none):=by
   cases x<;>first
    |rfl
    |exact absurd ⟨_,rfl⟩ apm
  rw [hx]at h;split at h
  ·rename_i o ys' jx;split at h
   ·rename_i Ve;injection h with h;subst h;have ho:o=some e∨(o=none/\ys'=[]):=amz;obtain⟨hk,a,c,rfl,news,U,h2,h3,h4⟩:=agR hI jx ho hv rm;refine⟨rfl,⟨d1,OV,?_⟩,hk,news,U,h2,h3,h4⟩;exact aiQ (Hq▸ahR hs)
   ·exact aD
  ·exact aD
def ZC(X:Cx)(ts:tu)(s x:AV)(M:aF)(k:AV->aF->Option R):Option R:=
 match ts with
 | [t,u]=>
   match(X.ti t).ok,(X.ti t).u,(X.ti u).ok,Tj (X.ti u).u x with
   |true,.slice e,true,true=>
    match Tk X M e x with
    |some ys=>
     bf ((X.ti e).ok &&decide (0<(X.ti e).size)&&decide (0<(X.ti e).bytes))
      (match s with
       | .jI =>bf (decide (ys.length*(X.ti e).bytes <=140737488355328)) (k (.au M.length) (M++[.row e ys]))
       | .au id=>
         match gm M id with
         |some (.row e' xs)=>bf (e==e'&&decide ((xs.length+ys.length)*(X.ti e).bytes <=140737488355328)) (k (.au M.length) (M.set id .dead ++[.row e (xs++ys)]))
         |_=>none
       |_=>none)
    |none=>none
   |_,_,_,_=>none
 |_=>none
def axr(ht:P.underlying t=some (.slice e))(hu:∃d,P.underlying u=some d/\(d= .string ∨∃e,d= .slice e))(hi:P.info? e=some i)
 {g o:Nat} {cur:Array Value} (hg:w.heap[g]?=some (.cells cur e (0,0)))   (hlen:Builtin.lenOf v=pure m)  (hl:news.length=m*i.size)
 (hf:(Builtin.firstCells i.size m v).run P w= .ok news.toArray w) (U:∀u∈news,u.oneCell'=true) (JG:n+m<=c) (tD:o+n*i.size+news.length<=cur.size):
 (Builtin.append_ #[t,u] ty #[.slice (some ⟨g,o,none⟩) n c,v]).run P w=
   .ok (.slice (some ⟨g,o,none⟩) (n+m) c) (w.setRow g (cur.toList.take (o+n*i.size)++news++cur.toList.drop (o+n*i.size+news.length)).toArray):=by
 have eR:=RB P g (o+n*i.size) e news 0 cur w hg (by simpa using tD) U;simp only [A9]at eR;obtain⟨d,hd,rfl|⟨e2,rfl⟩⟩:=hu<;>simp [Builtin.append_,k7 ht,k7 hd,sizeOf,typeInfo,hi,hlen,JG,hf,sC,eR]
def aeT(ht:P.underlying t=some (.slice e))(hu:∃d,P.underlying u=some d/\(d= .string ∨∃e,d= .slice e))(hi:P.info? e=some i)(hlen:Builtin.lenOf v=pure 0)
 (hf:(Builtin.firstCells i.size 0 v).run P w= .ok #[] w):
 (Builtin.append_ #[t,u] ty #[.slice none 0 0,v]).run P w= .ok (.slice none 0 0) w:=by
 obtain⟨d,hd,rfl|⟨e2,rfl⟩⟩:=hu<;>simp [Builtin.append_,k7 ht,k7 hd,sizeOf,typeInfo,hi,hlen,hf]
def XI{z:Value}(ht:P.underlying t=some (.slice e))(hu:∃d,P.underlying u=some d/\(d= .string ∨∃e,d= .slice e))(hi:P.info? e=some i)(hz:i.zero=some z)
 {b:Option Addr}  {olds:gz} (qM:(Builtin.firstCells i.size n (.slice b n c)).run P w.drew= .ok olds.toArray w.drew)
   (hlen:Builtin.lenOf v=pure m)  (hf:(Builtin.firstCells i.size m v).run P w.drew= .ok news.toArray w.drew) (hn:¬n+m<=c) (h63:n+m<=maxLen)
 (tD:Builtin.nextslicecap (n+m) c*i.bytes<=281474976710656):
 (Builtin.append_ #[t,u] ty #[.slice b n c,v]).run P w=
   .ok (.slice (some ⟨w.heap.size,0,none⟩) (n+m) (grownCap w (n+m) c e))
    (w.drew.alloc (.cells (olds.toArray++news.toArray++Builtin.zeroCells z.cells (grownCap w (n+m) c e-(n+m))) e)):=by
 have adg:¬(9223372036854775807<((n:Int)+(m:Int))):=by simp only [maxLen]at h63;omega
 have aK4:¬(281474976710656<Builtin.nextslicecap (n+m) c*i.bytes):=by omega
 obtain⟨d,hd,rfl|⟨e2,rfl⟩⟩:=hu<;>(
  simp [Builtin.append_,k7 ht,k7 hd,sizeOf,typeInfo,zeroValue,hi,hz,hlen,hn,adg,aK4,Question.forced,hf,qM,newRow,grownCap]
  congr 2
  apply xF;simp [fy])
def aw8(hX:X.Okb){ts:tu}{s:AV}{k:AV->aF->Option R}{r:R}(h:ZC X ts s x M k=some r):
 ∃y M',k y M'=some r/\dc (lJ s) M M'/\∀{vs vx:Value},Eb X M y M' (λρ F w=>a8 X.K ρ F w s vs/\a8 X.K ρ F w x vx) (Builtin.append_ ts.toArray ty #[vs,vx]):=by
 unfold ZC at h;simp only [fR]at h;split at h
 ·rename_i t u;split at h
  ·rename_i e bB hu BP hsk;split at h
   ·rename_i ys jx;replace h:=cO h;obtain⟨U,h⟩:=h;simp only [bw,gG]at U;obtain⟨⟨he,rm⟩,Vo⟩:=U;obtain⟨i,d,z,f⟩:=hX.facts bB;obtain⟨i2,d2,z2,f2⟩:=hX.facts he;have ht:=f.slice hu;have pO:(X.K e).length =i2.size:=f2.ks;have abW:0<(X.K e).length :=by rw [pO,<-f2.size];exact rm
    have aLV:0<i2.bytes:=by rw [<-f2.bytes];exact Vo
    have tS:z2.cells.size=i2.size:=f2.zs;have bound:∀n:Nat,n*(X.ti e).bytes <=140737488355328->n<=maxLen:=by
     intro n hn;refine Rj (qR ?_ hn);exact Rx _ Vo
    have fresh:∀{w0:World} {S:Sc} {F:bD} {ρ:bJ} {w:World} {M2:aF} (xs:aY) (olds news:gz) (c:Nat),Inv X w0 S F ρ M2 w->
     (∀(i:Nat) row,(xs++ys)[i]?=some row->cZ (X.K e) row=true)->olds.length=xs.length*(X.K e).length ->news.length=ys.length*(X.K e).length ->
     (∀(i:Nat) row,xs[i]?=some row->∀(j:Nat) y,row[j]?=some y->∃u,olds[i*(X.K e).length +j]?=some u/\a8 X.K ρ F w y u)->
     (∀(i:Nat) row,ys[i]?=some row->∀(j:Nat) y,row[j]?=some y->∃u,news[i*(X.K e).length +j]?=some u/\a8 X.K ρ F w y u)->xs.length+ys.length<=maxLen->
     Inv X w0 S F (ρ++[⟨.slice (some ⟨w.heap.size,0,none⟩) (xs.length+ys.length) (grownCap w (xs.length+ys.length) c e),(X.K e).length⟩]) (M2++[.row e (xs++ys)])
      (w.drew.alloc (.cells (olds.toArray++news.toArray++Builtin.zeroCells z2.cells (grownCap w (xs.length+ys.length) c e-(xs.length+ys.length))) e))/\
     Grow F F ρ (ρ++[⟨.slice (some ⟨w.heap.size,0,none⟩) (xs.length+ys.length) (grownCap w (xs.length+ys.length) c e),(X.K e).length⟩]) w
      (w.drew.alloc (.cells (olds.toArray++news.toArray++Builtin.zeroCells z2.cells (grownCap w (xs.length+ys.length) c e-(xs.length+ys.length))) e)):=by
     intro w0 S F ρ w M2 xs olds news c hI hk O6 od si zh mB;have nA:=grownCap_ge w (xs.length+ys.length) c e;have:=hI.newRow (t:=e) (xs:=xs++ys) (cur:=olds.toArray++news.toArray++Builtin.zeroCells z2.cells (grownCap w (xs.length+ys.length) c e-(xs.length+ys.length))) (c:=grownCap w (xs.length+ys.length) c e)
      hk (by rw [cw];exact nA) (grownCap_le_maxLen w _ c e mB)
      (by
        simp only [Array.size_append,MF,size_zeroCells,O6,od,tS,<-pO,<-mw];rw [show xs.length+ys.length+(grownCap w (xs.length+ys.length) c e-(xs.length+ys.length))=grownCap w (xs.length+ys.length) c e by omega];exact iZ _)
      (λi row hi j y hy=>by
        have hj:=(fK.1 hy).1;have uM:=kS (hk i row hi)
        by_cases O8:i<xs.length
        ·rw [mF O8]at hi;obtain⟨u,U,h2⟩:=si i row hi j y hy;have cH:=(fK.1 U).1;refine⟨u,?_,h2⟩;rw [Array.append_assoc,IU (by simpa using cH)];exact xO
        ·rw [nM (by omega)]at hi;obtain⟨u,U,h2⟩:=zh (i- xs.length) row hi j y hy;have cH:=(fK.1 U).1;refine⟨u,?_,h2⟩;have e0:i*(X.K e).length +j- olds.length=(i- xs.length)*(X.K e).length +j:=by
          rw [O6,Nat.sub_mul];exact ak9
         have KP:olds.length<=i*(X.K e).length +j:=by
          rw [O6];exact ak9
         rw [Array.append_assoc,Array.getElem?_append_right (by simpa using KP)];simp only [MF];rw [e0,IU (by simpa using cH)];simpa using U)
      (w':=w.drew) ⟨rfl,rfl,rfl,iZ _,λ_ _ _=>rfl⟩ rfl
     rw [cw]at this;exact this
    split at h
    ·replace h:=cO h;obtain⟨hb,h⟩:=h;simp only [gG]at hb;refine⟨_,_,h,dc.push _ _ _,λ{vs vx w0 S F ρ w} hI hh=> ?_⟩;obtain⟨hs,hx⟩:=hh;cases hs;obtain⟨hlen,qm,hk,news,uP,rr,HB,zh⟩:=ahQ hX hI BP hsk jx hx abW
     by_cases hm:ys.length=0
     ·have hys:ys=[]:=wE hm;subst hys;have KK:news=[]:=wE (by simpa using uP);subst KK;have qN:=HB w rfl;rw [pO]at qN;have du:=aeT (w:=w) (ty:=ty) ht qm f2.info hlen qN;refine⟨_,w,ρ++[⟨.slice none 0 0,(X.K e).length⟩],F,du,hI.F8 (λg hg=>S0) rfl ⟨rfl,λi row h=>gU,.inl ⟨rfl,rfl⟩⟩,⟨λ_ h=>h,λ_ _ h=>qu h,λ_ _=>rfl⟩,?_⟩;exact aku
     ·have mB:=bound _ hb;have qN:=HB w.drew rfl;rw [pO]at qN;have du:=XI (w:=w) (ty:=ty) ht qm f2.info f2.zero (b:=none) (n:=0) (c:=0) (olds:=[]) (SW) hlen qN (by omega) (by omega) (by rw [MB,nextslicecap_zero (by omega),<-f2.bytes];omega);have rH:=fresh [] [] news 0 hI (M4) (by simp) uP (λi row h=>gU) zh (by simpa using mB);exact amG
    ·rename_i id;split at h
     ·rename_i e' xs hb;replace h:=cO h;obtain⟨h2,h⟩:=h;simp only [bw,iU,gG]at h2;obtain⟨rfl,uV⟩:=h2;refine⟨_,_,h,((dc.set _ _ _).trans (dc.push [] _ _)).mono (by simp [lJ]),λ{vs vx w0 S F ρ w} hI hh=> ?_⟩;obtain⟨hs,hx⟩:=hh;cases hs with
      |au _ hd hid=>
       obtain⟨hlen,qm,hk,news,uP,rr,HB,zh⟩:=ahQ hX hI BP hsk jx hx abW;obtain⟨q1,q2,q3⟩:=hI.rep id _ hd hb hid;have oQ:∀(i:Nat) row,(xs++ys)[i]?=some row->cZ (X.K e) row=true:=by
        intro i row hi
        by_cases O8:i<xs.length
        ·rw [mF O8]at hi;exact q2 i row hi
        ·rw [nM (by omega)]at hi;exact hk _ row hi
       have mB:=bound _ uV;have dead:∀{w:World},Inv X w0 S F ρ M w->Inv X w0 S F ρ (M.set id .dead) w:=by
        intro w hI;cases dQ:hd.fj with
        |none=>exact hI.ams hb hid dQ trivial
        |some g=>exact hI.write hb rfl hid dQ ⟨rfl,rfl,rfl,iZ _,λ_ _ _=>rfl⟩ trivial
       rcases q3 with⟨q3,q4⟩|⟨g,o',c,cur,q3,hg,q4,q5,q6,q7⟩
       ·subst q4;rw [q3]
        by_cases hm:ys.length=0
        ·have hys:ys=[]:=wE hm;subst hys;have KK:news=[]:=wE (by simpa using uP);subst KK;have qN:=HB w rfl;rw [pO]at qN;have du:=aeT (w:=w) (ty:=ty) ht qm f2.info hlen qN;refine⟨_,w,ρ++[⟨.slice none 0 0,(X.K e).length⟩],F,du,(dead hI).F8 (λg hg=>S0) rfl ⟨rfl,λi row h=>gU,.inl ⟨rfl,rfl⟩⟩,⟨λ_ h=>h,λ_ _ h=>qu h,λ_ _=>rfl⟩,?_⟩;exact aku
        ·have qN:=HB w.drew rfl;rw [pO]at qN;have du:=XI (w:=w) (ty:=ty) ht qm f2.info f2.zero (b:=none) (n:=0) (c:=0) (olds:=[]) (SW) hlen qN (by omega) (by simpa using mB) (by rw [MB,nextslicecap_zero (by omega),<-f2.bytes];simp at uV;omega);have rH:=fresh [] [] news 0 (dead hI) (M4) (by simp) uP (λi row h=>gU) zh (by simpa using mB);exact amG
       ·rw [q3]
        by_cases JG:xs.length+ys.length<=c
        ·have tD:o'+xs.length*i2.size+news.length<=cur.size:=by
          rw [uP,pO];rw [q1,pO]at q6;have:=wv i2.size JG;rw [mw]at this;omega
         have qN:=HB w rfl;rw [pO]at qN;have du:=axr (w:=w) (ty:=ty) ht qm f2.info hg hlen (by rw [uP,pO]) qN rr JG tD;have lP:=Qw w g (cur.toList.take (o'+xs.length*i2.size)++news++cur.toList.drop (o'+xs.length*i2.size+news.length)).toArray;have dQ:hd.fj=some g:=aa0;have Pb:∀a,F a->a.block≠g:=(hI.sep id _ hd g hb rfl hid dQ).2.2;have nT:Grow F F ρ (ρ++[⟨.slice (some ⟨g,o',none⟩) (xs.length+ys.length) c,(X.K e).length⟩]) w (w.setRow g (cur.toList.take (o'+xs.length*i2.size)++news++cur.toList.drop (o'+xs.length*i2.size+news.length)).toArray):=
          ⟨λ_ h=>h,λ_ _ h=>qu h,hI.Ap lP (λk hk a ha=>Nz)⟩
         refine⟨_,_,ρ++[⟨.slice (some ⟨g,o',none⟩) (xs.length+ys.length) c,(X.K e).length⟩],F,du,hI.move hb rfl hid (row:=some g) lP (.inr dQ.symm) (λg' lQ=> ?_) rfl ?_,nT,Dd (M:=M) (hd:=⟨_,(X.K e).length⟩) hI.len⟩
         ·simp [Hd.fj,Value.fj]at lQ;subst lQ;exact⟨by rw [size_setRow];exact(hI.sep id _ hd g hb rfl hid dQ).1,.inl dQ⟩
         ·refine⟨rfl,oQ,.inr ⟨g,o',c,_,by rw [cw],RA w g cur _ e _ hg,by rw [cw];exact JG,q5,?_,λi row hi j y hy=> ?_⟩⟩
          ·rw [q1]at q6;exact akQ
          ·have hj:=(fK.1 hy).1;have uM:=kS (oQ i row hi);rw [Ra cur news _ tD];simp only [pO]at*
           by_cases O8:i<xs.length
           ·rw [mF O8]at hi;obtain⟨u,xk,nn⟩:=q7 i row hi j y hy;rw [q1]at xk;have:(i+1)*i2.size<=xs.length*i2.size:=wv _ (by omega);rw [mw,Zm]at this;rw [if_neg (by omega)];exact SQ
           ·rw [nM (by omega)]at hi;obtain⟨u,xk,nn⟩:=zh (i- xs.length) row hi j y hy;have cH:=(fK.1 xk).1;have e0:(i- xs.length)*i2.size=i*i2.size- xs.length*i2.size:=Nat.sub_mul _ _ _;have KP:xs.length*i2.size<=i*i2.size:=wv _ (by omega);rw [if_pos (by omega)];rw [show o'+i*i2.size+j-(o'+xs.length*i2.size)=(i- xs.length)*i2.size+j by omega];exact SQ
        ·have si:∃olds:gz,olds.length=xs.length*(X.K e).length /\(∀w2:World,w2.heap=w.heap->(Builtin.firstCells (X.K e).length xs.length hd.v).run X.P w2= .ok olds.toArray w2)/\
          ∀(i:Nat) row,xs[i]?=some row->∀(j:Nat) y,row[j]?=some y->∃u,olds[i*(X.K e).length +j]?=some u/\a8 X.K ρ F w y u:=by
          obtain⟨_,a',c',ig,olds,U,_,h3,h4⟩:=agR (e:=e) hI (x:= .au id) (o:=some e) (ys:=xs) (by simp [fR,rowsOf,hb]) (.inl rfl) (.au _ hd hid) abW;exact⟨olds,U,h3,h4⟩
         obtain⟨olds,O6,qM,si⟩:=si;have qN:=HB w.drew rfl;have hf1:=qM w.drew rfl;rw [q3]at hf1;rw [pO]at qN hf1;have du:=XI (w:=w) (ty:=ty) ht qm f2.info f2.zero hf1 hlen qN JG (by omega) (growslice_fits (by omega) (by rw [<-f2.bytes];exact uV));have rH:=fresh xs olds news c (dead hI) oQ O6 uP si zh mB;refine⟨_,_,_,F,du,rH.1,rH.2,?_⟩;have:=Dd (X:=X) (M:=M) (F:=F) (w:=w.drew.alloc (.cells (olds.toArray++news.toArray++Builtin.zeroCells z2.cells (grownCap w (xs.length+ys.length) c e-(xs.length+ys.length))) e))
          (hd:=⟨.slice (some ⟨w.heap.size,0,none⟩) (xs.length+ys.length) (grownCap w (xs.length+ys.length) c e),(X.K e).length⟩) hI.len
         exact this
     ·exact aD
    ·exact aD
   ·exact aD
  ·exact aD
 ·cases h
end
end Go.aj
namespace Go.aj
def Bn{p:Prop}(h:p:=by simpa using he):p:=h
def M5{p:Prop}(h:p:=by simpa using eX):p:=h
def M3{p:Prop}(h:p:=by simpa using hm):p:=h
end Go.aj
namespace Go.aj
def uk:=@Go.World.putObj_heap_other
def il:=@List.drop_zero
def FE:=@List.take_of_length_le
def R5:=@Array.getElem?_modify
def zH:=@Array.getElem?_eq_some_iff
def C5:=@List.getElem?_set
def Zf:=@Go.World.putObj_heap_same
def Rr:=@Go.MapKept.run_getObj_map
def ahB:=@Go.MapKept.run_setObj_map
end Go.aj
namespace Go.aj
open Go Go.MapKept
noncomputable section
variable {X:Cx} {R:Type}
variable {w0 w w':World} {S:Sc} {F:bD} {ρ:bJ} {M:aF}
variable{i x:AV}{k:AV->Option R}{ok:Bool}{kd:Kind}{r:R}{t:TypeId}
def xh:AV->AV->Bool
 | .int _ a,.int _ b=>a==b
 | .bool a,.bool b=>a==b
 | .str a,.str b=>a==b
 |_,_=>false
def dF:List (AV×AV)->AV->Option AV
 | [],_=>none
 |e::es,x=>match xh x e.1 with|true=>some e.2|false=>dF es x
def kX:List (AV×AV)->AV->AV->List (AV×AV)
 | [],x,y=>[(x,y)]
 |e::es,x,y=>match xh x e.1 with|true=>(x,y)::es|false=>e::kX es x y
def D2:zt->Option Kind
 | .int k=>some (.int k)
 | .bool =>some .bool
 | .str =>some .str
 |_=>none
def pF.map{t k e:TypeId}{i:TypeInfo}{d:TypeDesc}{z:Value}(f:pF X t i d z)(h:(X.ti t).u = .map k e):X.P.underlying t=some (.map k e):=by
 have U:=f.mi;have h2:=f.u;rw [h]at h2;cases d<;>simp_all [ph]
structure aqe(X:Cx)(kt:TypeId)(kd:Kind)(d:TypeDesc):Prop where
 mi:X.P.underlying kt=some d
 ne:kd≠ .any
 key:∀{ρ:bJ} {F:bD} {w:World} {x:AV} {v:Value},kF kd x=true->a8 X.K ρ F w x v->IsKey d v
 same:∀{ρ:bJ} {F:bD} {w:World} {x y:AV} {v u:Value},kF kd x=true->kF kd y=true->a8 X.K ρ F w x v->a8 X.K ρ F w y u->Instr.sameNow d v u=some (xh x y)/\(xh x y=true->u=v)
def apg(hX:X.Okb){kt:TypeId}(bB:(X.ti kt).ok =true)(h:D2 (X.ti kt).u =some kd):∃d,aqe X kt kd d:=by
 obtain⟨i,d,z,f⟩:=hX.facts bB;refine⟨d,f.mi,?_,?_,?_⟩
 all_goals rw [f.u]at h
 ·rintro rfl;cases d<;>simp [ph,D2]at h
 ·intro ρ F w x v hx hr;cases d<;>simp [ph,D2]at h<;>subst h<;>cases x<;>simp [kF]at hx<;>cases hr<;>simp [IsKey,hx]
 ·intro ρ F w x y v u hx hy hr hs;cases d<;>simp [ph,D2]at h<;>subst h<;>cases x<;>simp [kF]at hx<;>cases y<;>simp [kF]at hy<;>cases hr<;>cases hs<;>simp_all [Instr.sameNow,xh]
  all_goals (intro hb;exact((bytes_beq _ _).1 hb).symm)
def Ki(X:Cx)(ρ:bJ)(F:bD)(w:World)(kd:Kind)(ag:Bool)(ks:er)(es:List (AV×AV))(mes:List MapEntry):Prop:=
 mes.length=es.length/\∀(i:Nat) e me,es[i]?=some e->mes[i]?=some me->(kF kd e.1=true/\cZ ks e.2.cells=true/\e.2.shape ag=true)/\a8 X.K ρ F w e.1 me.key/\a8 X.K ρ F w e.2 me.val
def Ki.tail{ag:Bool}{ks:er}{e:AV×AV}{es:List (AV×AV)}{me:MapEntry}{mes:List MapEntry}(h:Ki X ρ F w kd ag ks (e::es) (me::mes)):Ki X ρ F w kd ag ks es mes:=
 ⟨by simpa using h.1,λi e' ON he hm=>h.2 (i+1) e' ON (Bn) (M3)⟩
def find_spec{kt:TypeId}{kd:Kind}{d:TypeDesc}(hk:aqe X kt kd d){ag:Bool}{ks:er}{x:AV}{v:Value}(hx:kF kd x=true)(hr:a8 X.K ρ F w x v):∀(es:List (AV×AV)) (mes:List MapEntry) (n:Nat),Ki X ρ F w kd ag ks es mes->
 (dF es x=none/\Instr.findNow d v mes n=some none/\(∀y,kX es x y=es++[(x,y)]))∨
 ∃i e me,es[i]?=some e/\mes[i]?=some me/\dF es x=some e.2/\Instr.findNow d v mes n=some (some (n+i,me.val))/\me.key=v/\∀y,kX es x y=es.set i (x,y)
 | [],[],n,_=> .inl ⟨rfl,rfl,λ_=>rfl⟩
 | [],_::_,n,h=>by have:=h.1;simp at this
 |_::_,[],n,h=>by have:=h.1;simp at this
 |e::es,me::mes,n,h=>by
  obtain⟨⟨a1,a2,a3⟩,r1,r2⟩:=h.2 0 e me rfl rfl;obtain⟨s1,s2⟩:=hk.same hx a1 hr r1;cases hq:xh x e.1 with
  |true=>
   refine .inr ⟨0,e,me,rfl,rfl,by simp [dF,hq],?_,s2 hq,λy=>by simp [kX,hq]⟩;rw [hq]at s1;simp [Instr.findNow,s1]
  |false=>
   rw [hq]at s1;rcases find_spec hk hx hr es mes (n+1) h.tail with⟨U,h2,h3⟩|⟨i,e',ON,U,h2,h3,h4,h5,h6⟩
   ·exact .inl ⟨by simp [dF,hq,U],by simp [Instr.findNow,s1,h2],λy=>by simp [kX,hq,h3]⟩
   ·exact .inr ⟨i+1,e',ON,xO,uq,by simp [dF,hq,h3],by simp [Instr.findNow,s1,h4];omega,h5,λy=>by simp [kX,hq,h6]⟩
def Y2(X:Cx)(t:TypeId)(M:aF)(k:AV->aF->Option R):Option R:=
 match(X.ti t).ok,(X.ti t).u with
 |true,.map kt et=>match D2 (X.ti kt).u with|some kd=>k (.mp M.length) (M++[.map kd (X.ti et).u.agg (qH X et) []])|none=>none
 |_,_=>none
def awC(hX:X.Okb){k:AV->aF->Option R}(h:Y2 X t M k=some r):
 ∃y M',k y M'=some r/\dc [] M M'/\Eb X M y M' (λ_ _ _=>True) (Instr.makeMap t none):=by
 unfold Y2 at h;split at h
 case h_2=>cases h
 rename_i kt et _ _;split at h
 case h_2=>cases h
 rename_i kd qL;have eY:kd≠ .any :=by rintro rfl;cases hu:(X.ti kt).u <;>simp [hu,D2]at qL
 refine⟨_,_,h,dc.push _ _ _,λ{w0 S F ρ w} hI _=> ?_⟩;have lP:w.grownBy (w.alloc (.map #[] 0)) none:=II w _ none;have cH:w.heap.size<(w.alloc (.map #[] 0)).heap.size :=by simp
 refine⟨.map (some w.heap.size),w.alloc (.map #[] 0),ρ++[⟨.map (some w.heap.size),0⟩],F,rfl,?_,⟨λ_ h=>h,λ_ _ h=>qu h,λa ha=>lP.block _ (hI.fz a ha) (by simp)⟩,?_⟩
 ·refine hI.push (hd:=⟨.map (some w.heap.size),0⟩) lP (λg hg=> ?_) rfl ⟨eY,w.heap.size,#[],0,rfl,(MapKept.heap_alloc w _).1,rfl,λi e me he _=>by simp at he⟩;simp only [Hd.fj,Value.fj,Option.some.injEq]at hg;subst hg;exact⟨iZ _,cH⟩
 ·exact a8.mp (K:=X.K) _ ⟨.map (some w.heap.size),0⟩ (Jk)
def J4(X:Cx)(t:TypeId)(x:AV):AV:=
 match(X.ti t).u.agg with
 |true=> .agg (Ce (qH X t) x.cells 0 (X.ti t).size)
 |false=>ld ((qH X t).headD .raw) x
def NJ(X:Cx)(t:TypeId):AV:=
 match(X.ti t).u.agg with
 |true=> .agg (X.ti t).zero
 |false=>(X.ti t).zero.headD .top
def zW(X:Cx)(et:TypeId)(ok:Bool)(k:AV->Option R)(o:Option AV):Option R:=
 match o with
 |some x=>(match ok with|true=>k (.eV [J4 X et x,.bool true])|false=>k (J4 X et x))
 |none=>(match ok with|true=>k (.eV [NJ X et,.bool false])|false=>k (NJ X et))
def am8(X:Cx)(et:TypeId)(o:Option AV):AV:=match o with|some x=>J4 X et x|none=>NJ X et
def aEe(ok:Bool)(x:AV)(b:Bool):AV:=match ok with|true=> .eV [x,.bool b]|false=>x
def Tc:List (AV×AV)->AV->(Option AV->Option R)->Option R
 | [],_,k=>k none
 |e::es,x,k=>match xh x e.1 with|true=>k (some e.2)|false=>Tc es x k
def Rl:∀(es:List (AV×AV)) (x:AV) (k:Option AV->Option R),Tc es x k=k (dF es x)
 | [],_,_=>rfl
 |e::es,x,k=>by
  simp only [Tc,dF];cases xh x e.1 with
  |true=>rfl
  |false=>exact Rl es x k
def aDi(ks:er):Bool:=ks.all λk=>match k with| .any =>false|_=>true
def Bd(X:Cx)(t:TypeId)(x i:AV)(ok:Bool)(M:aF)(k:AV->Option R):Option R:=
 match(X.ti t).ok,(X.ti t).u with
 |true,.map kt et=>
  match D2 (X.ti kt).u with
  |some kd=>
   bf ((X.ti kt).ok &&(X.ti et).ok &&kF kd i)
    (match x with
     | .pI =>zW X et ok k none
     | .mp id=>
       match gm M id with
       |some (.map y9 ag ks es)=>
        bf (y9==kd&&ag==(X.ti et).u.agg &&ks==qH X et) (match aDi ks with
         |true=>(match dF es i with|some y=>zW X et ok k (some y)|none=>zW X et ok k none)
         |false=>Tc es i (zW X et ok k))
       |_=>none
     |_=>none)
  |none=>none
 |_,_=>none
def ay8(hX:X.Okb)(bB:(X.ti t).ok =true):(qH X t).length =(X.ti t).size :=by
 obtain⟨i,d,z,f⟩:=hX.facts bB;simp [qH,f.ks,f.size]
def aBx(hX:X.Okb)(bB:(X.ti t).ok =true)(hk:cZ (qH X t) x.cells=true)(hp:x.shape (X.ti t).u.agg =true):J4 X t x=x:=by
 have hl:=ay8 hX bB;unfold J4;cases ha:(X.ti t).u.agg with
 |true=>
  rw [ha]at hp;cases x<;>simp [AV.shape]at hp
  rename_i cs;simp only [AV.cells]at hk⊢;rw [abm hk _ _ (by omega)];have:=kS hk;rw [il,FE (by omega)]
 |false=>
  rw [ha]at hp;have hc:x.cells=[x]:=by cases x<;>simp_all [AV.shape,AV.leaf,AV.cells]
  rw [hc]at hk;cases hv:qH X t with
  |nil=>rw [hv]at hk;simp [cZ]at hk
  |cons q qs=>
   rw [hv]at hk;simp only [cZ,bw]at hk;exact IC hk.1
def az5(hX:X.Okb)(bB:(X.ti t).ok =true):∃z,(∀w,(zeroValue t).run X.P w= .ok z w)/\∀{ρ:bJ} {F:bD} {w:World},a8 X.K ρ F w (NJ X t) z:=by
 obtain⟨i,d,z,f⟩:=hX.facts bB;refine⟨z,f.zeroValue,λ{ρ F w}=> ?_⟩;have hz:dm X.K ρ F w (X.ti t).zero z.cells.toList:=JB;have gZ:=f.zag;unfold NJ;cases ha:(X.ti t).u.agg with
 |true=>
  rw [ha]at gZ;cases z<;>simp [UQ]at gZ
  rename_i cs;have:=a8.agg (K:=X.K) (ρ:=ρ) (F:=F) (w:=w) _ _ hz.1 hz.2;simpa [Value.cells]using this
 |false=>
  rw [ha]at gZ;have U:z.cells.toList=[z]:=by cases z<;>simp_all [UQ,Value.cells]
  rw [U]at hz;have hl:=hz.1;cases KF:(X.ti t).zero with
  |nil=>rw [KF]at hl;simp at hl
  |cons y ys=>exact hz.2 0 y z (by rw [KF];rfl) rfl
def ag3{et:TypeId}{o:Option AV}(h:zW X et ok k o=some r):k (aEe ok (am8 X et o) o.isSome)=some r:=by
 unfold zW at h;cases o<;>cases ok<;>exact h
def aw7(hX:X.Okb)(h:Bd X t x i ok M k=some r):
 ∃y,k y=some r/\∀{w0:World} {S:Sc} {F:bD} {ρ:bJ} {w:World} {v vi:Value},Inv X w0 S F ρ M w->a8 X.K ρ F w x v->a8 X.K ρ F w i vi->
  ∃u,(Instr.lookup t v vi ok).run X.P w= .ok u w/\a8 X.K ρ F w y u:=by
 unfold Bd at h;simp only [fR]at h;split at h
 case h_2=>cases h
 rename_i kt et AL EM;split at h
 case h_2=>cases h
 rename_i kd qL;replace h:=cO h;obtain⟨hc,h⟩:=h;simp only [bw]at hc;obtain⟨⟨ac6,apy⟩,hi⟩:=hc;obtain⟨ti,td,tz,tf⟩:=hX.facts AL;have dN:=tf.map EM;obtain⟨d,ru⟩:=apg hX ac6 qL;obtain⟨z,hz,hzr⟩:=az5 hX apy;have out:∀{o:Option AV} {r:R},zW X et ok k o=some r->∃y,k y=some r/\∀{ρ:bJ} {F:bD} {w:World} {vo:Option Value} {mes:List MapEntry} {v vi:Value},(match o,vo with|some a,some b=>a8 X.K ρ F w (J4 X et a) b|none,none=>True|_,_=>False)->
  (∀w1:World,(Instr.lookup t v vi ok).run X.P w= .ok (match ok with|true=> .tuple #[vo.getD z,.bool vo.isSome]|false=>vo.getD z) w)->∃u,(Instr.lookup t v vi ok).run X.P w= .ok u w/\a8 X.K ρ F w y u:=by
  intro o r h;refine⟨_,ag3 h,λ{ρ F w vo mes v vi} hm du=>⟨_,du w,?_⟩⟩;have J8:a8 X.K ρ F w (am8 X et o) (vo.getD z):=by
   cases o with
   |none=>cases vo with|none=>exact hzr|some b=>exact hm.elim
   |some a=>cases vo with|none=>exact hm.elim|some b=>exact hm
  have hs:o.isSome=vo.isSome:=by
   cases o with
   |none=>cases vo with|none=>rfl|some b=>exact hm.elim
   |some a=>cases vo with|none=>exact hm.elim|some b=>rfl
  cases ok with
  |false=>exact J8
  |true=>
   refine .eV _ [_,_] rfl λj y u hy hu=> ?_
   match j with
   |0=>simp at hy hu;subst hy;subst hu;exact J8
   |1=>simp at hy hu;subst hy;subst hu;rw [hs];exact .bool _
   |j+2=>simp at hy
 cases x<;>simp only at h<;>try (cases h;done)
 case pI=>
  obtain⟨y,h,hd⟩:=out h;refine⟨y,h,λ{w0 S F ρ w v vi} hI hv nI=> ?_⟩;cases hv;refine hd (vo:=none) (mes:=[]) trivial λ_=> ?_;have hf:Instr.findNow d vi [] 0=some none:=rfl;cases ok<;>simp [Instr.lookup,k7 dN,Result.andThen,run_checkKey ru.mi (ru.key hi nI),run_findKey ru.mi hf,hz]
 case mp id=>
  split at h
  case h_2=>cases h
  rename_i y9 ag ks es hb;replace h:=cO h;obtain⟨hc,h⟩:=h;simp only [bw,iU]at hc;obtain⟨⟨rfl,rfl⟩,rfl⟩:=hc;have h':zW X et ok k (dF es i)=some r:=by
   split at h
   ·split at h
    ·rename_i y hy;rw [hy];exact h
    ·rename_i hy;rw [hy];exact h
   ·rw [Rl]at h;exact h
  obtain⟨y,h,hd⟩:=out h';refine⟨y,h,λ{w0 S F ρ w v vi} hI hv nI=> ?_⟩;cases hv with
  |mp _ dS hid=>
  obtain⟨_,g,mes,clock,hv,hh,eX,yj⟩:=hI.rep _ _ _ hb hid;rw [hv];have TD:Ki X ρ F w y9 (X.ti et).u.agg (qH X et) es mes.toList:=⟨M5,λj e me he hm=>yj j e me he (M3)⟩;rcases find_spec ru hi nI es mes.toList 0 TD with⟨f1,f2,_⟩|⟨j,e,me,e1,e2,f1,f2,_,_⟩
  ·refine hd (vo:=none) (mes:=[]) (by rw [f1];trivial) λ_=> ?_;cases ok<;>simp [Instr.lookup,k7 dN,Rr hh,Result.andThen,run_checkKey ru.mi (ru.key hi nI),run_findKey ru.mi f2,hz]
  ·obtain⟨⟨a1,a2,a3⟩,r1,r2⟩:=TD.2 j e me e1 e2;refine hd (vo:=some me.val) (mes:=[]) (by rw [f1];show a8 _ _ _ _ _ _;rw [aBx hX apy a2 a3];exact r2) λ_=> ?_;cases ok<;>simp [Instr.lookup,k7 dN,Rr hh,Result.andThen,run_checkKey ru.mi (ru.key hi nI),run_findKey ru.mi f2]
def Gb:AV->List Nat| .mp id=>[id]|_=>[]
def Q6(X:Cx)(t:TypeId)(m i x:AV)(M:aF)(k:aF->Option R):Option R:=
 match(X.ti t).ok,(X.ti t).u,m with
 |true,.map kt et,.mp id=>
  match D2 (X.ti kt).u with
  |some kd=>
   match gm M id with
   |some (.map y9 ag ks es)=>
    bf ((X.ti kt).ok &&kF kd i&&y9==kd&&x.shape ag&&cZ ks x.cells) (k (M.set id (.map y9 ag ks (kX es i x))))
   |_=>none
  |none=>none
 |_,_,_=>none
def ae9(hX:X.Okb){m:AV}{k:aF->Option R}(h:Q6 X t m i x M k=some r):
 ∃M',k M'=some r/\dc (Gb m) M M'/\∀{w0:World} {S:Sc} {F:bD} {ρ:bJ} {w:World} {vm vi vx:Value},Inv X w0 S F ρ M w->a8 X.K ρ F w m vm->a8 X.K ρ F w i vi->a8 X.K ρ F w x vx->
  ∃w' F',(Instr.mapUpdate t vm vi vx).run X.P w= .ok () w'/\Inv X w0 S F' ρ M' w'/\Grow F F' ρ ρ w w':=by
 unfold Q6 at h;simp only [fR]at h;split at h
 case h_2=>cases h
 rename_i kt et id AL EM;split at h
 case h_2=>cases h
 rename_i kd qL;split at h
 case h_2=>cases h
 rename_i y9 ag ks es hb;replace h:=cO h;obtain⟨hc,h⟩:=h;simp only [bw,iU]at hc;obtain⟨⟨⟨⟨ac6,hi⟩,rfl⟩,Cj⟩,lN⟩:=hc;obtain⟨ti,td,tz,tf⟩:=hX.facts AL;have dN:=tf.map EM;obtain⟨d,ru⟩:=apg hX ac6 qL;refine⟨_,h,dc.set _ _ _,λ{w0 S F ρ w vm vi vx} hI hm nI KH=> ?_⟩;cases hm with
 |mp _ hd hid=>
 obtain⟨eY,g,mes,clock,hv,hh,eX,yj⟩:=hI.rep _ _ _ hb hid;have BS:hd.fj=some g:=qZ;have cH:g<w.heap.size:=(zH.1 hh).1;have N0:=hI.sep _ _ _ _ hb rfl hid BS;rw [hv];have TD:Ki X ρ F w y9 ag ks es mes.toList:=⟨M5,λj e me he hm=>yj j e me he (M3)⟩;have nT:∀o:Obj,w.grownBy (w.putObj g o) (some g):=λo=>⟨rfl,rfl,rfl,by simp,λq hq eY=>uk (λe=>eY (by rw [e]))⟩;have hG:∀o:Obj,Grow F F ρ ρ w (w.putObj g o):=λo=>⟨λ_ h=>h,λ_ _ h=>h,λa ha=>uk (N0.2.2 a ha)⟩;have done:∀(NY:Array MapEntry) (abx:Nat),NY.size=(kX es i x).length ->(∀(j:Nat) e me,(kX es i x)[j]?=some e->NY[j]?=some me->(kF y9 e.1=true/\cZ ks e.2.cells=true/\e.2.shape ag=true)/\a8 X.K ρ F w e.1 me.key/\a8 X.K ρ F w e.2 me.val)->
  Inv X w0 S F ρ (M.set id (.map y9 ag ks (kX es i x))) (w.putObj g (.map NY abx)):=λNY abx U h2=>
  hI.write hb rfl hid BS (nT _) ⟨eY,g,NY,abx,hv,Zf cH,U,λj e me he uR=>let⟨a,r1,r2⟩:=h2 j e me he uR;⟨a,r1.grow (hG _),r2.grow (hG _)⟩⟩
 rcases find_spec ru hi nI es mes.toList 0 TD with⟨f1,f2,f3⟩|⟨j,e,me,e1,e2,f1,f2,f4,f3⟩
 ·refine⟨w.putObj g (.map (mes.push {key:=vi,val:=vx,born:=clock}) (clock+1)),F,?_,done _ _ (by rw [f3];simp [eX]) λq e me he uR=> ?_,hG _⟩
  ·simp [Instr.mapUpdate,k7 dN,Rr hh,run_checkKey ru.mi (ru.key hi nI),run_findKey ru.mi f2,ahB _ hh,Result.andThen,World.putObj]
  ·rw [f3]at he
   by_cases hq:q<es.length
   ·rw [mF hq]at he;rw [Array.getElem?_push,if_neg (by omega)]at uR;exact yj q e me he uR
   ·have hq':q=es.length:=by have:=(fK.1 he).1;simp at this;omega
    subst hq';rw [nM (iZ _)]at he;simp at he;rw [<-eX,Array.getElem?_push,if_pos rfl]at uR;injection uR with uR;subst he;subst uR;exact⟨⟨hi,lN,Cj⟩,nI,KH⟩
 ·have yf:mes[j]?=some me:=by simpa using e2
  have aLU:j<mes.size:=(zH.1 yf).1;refine⟨w.putObj g (.map (mes.modify j λe=>{e with key:=vi,val:=vx}) clock),F,?_,done _ _ (by rw [f3];simp [eX]) λq e' ON he uR=> ?_,hG _⟩
  ·have oQ:me.key=vi:=f4;simp [Instr.mapUpdate,k7 dN,Rr hh,run_checkKey ru.mi (ru.key hi nI),run_findKey ru.mi f2,yf,oQ,run_keyThatStays (ru.key hi nI),ahB _ hh,Result.andThen,World.putObj]
  ·rw [f3,C5]at he;rw [R5]at uR;split at he
   ·rename_i ej;subst ej;split at he
    ·injection he with he;subst he;rw [if_pos rfl,yf]at uR;simp at uR;subst uR;exact⟨⟨hi,lN,Cj⟩,nI,KH⟩
    ·cases he
   ·rename_i ej;rw [if_neg ej]at uR;exact yj q e' ON he uR
end
end Go.aj
namespace Go.aj
def am5{p:Prop}(h:p:=by
 refine(dc.set M id _).mono (λj hj=> ?_);simp only [my]at hj;subst hj;unfold OA at vN;split at vN
 ·split at vN
  ·simp only [Option.some.injEq,Prod.mk.injEq]at vN;simp [pb,vN.1]
  ·cases vN
 ·split at vN
  ·simp only [Option.some.injEq,Prod.mk.injEq]at vN;simp [pb,vN.1]
  ·cases vN
 ·cases vN):p:=h
def amI{p:Prop}(h:p:=by
 refine R8 λj=> ?_;rw [C5];split
 ·rename_i hj;subst hj;have:=(fK.1 hb).1;rw [if_pos this,hb]
 ·rfl):p:=h
def SR{p:Prop}(h:p:=by rw [sB];omega):p:=h
end Go.aj
namespace Go.aj
def my:=@List.mem_singleton
end Go.aj
namespace Go.aj
open Go
noncomputable section
variable {X:Cx} {R:Type}
variable {w0 w w':World} {S:Sc} {F:bD} {ρ:bJ} {M:aF}
variable{x:AV}{k:AV->aF->Option R}{cur:Array Value}{c c2 cap g id l lo m p size:Nat}{a:Option Addr}{P:Program}{r:R}{e e0 t ty u:TypeId}{ts:tu}{xs zs:aY}{news:gz}
def azK{ys:aY}{vss:List gz}{a:Addr}{len:Nat}(hk:∀(i:Nat) row,ys[i]?=some row->cZ (X.K e) row=true)(hl:vss.length=ys.length)
 (gj:∀(i:Nat) row vs,ys[i]?=some row->vss[i]?=some vs->dm X.K ρ F w row vs/\um w (a.add (i*(X.K e).length)) vs) (rr:∀(id:Nat) hd,ρ[id]?=some hd->hd.v.oneCell'=true) (rm:0<(X.K e).length):
 ∃news:gz,news.length=ys.length*(X.K e).length /\(∀u∈news,u.oneCell'=true)/\
  (∀w2:World,w2.heap=w.heap->(Builtin.firstCells (X.K e).length ys.length (.slice (some a) len c)).run X.P w2= .ok news.toArray w2)/\
  ∀(i:Nat) row,ys[i]?=some row->∀(j:Nat) y,row[j]?=some y->∃u,news[i*(X.K e).length +j]?=some u/\a8 X.K ρ F w y u:=by
 have hlen:∀(i:Nat) vs,vss[i]?=some vs->vs.length=(X.K e).length :=amM;have xr:=Q5 vss hlen;have FY:∀(k:Nat) u,vss.flatten[k]?=some u->∃i j,∃(row:Row) (vs:gz) (y:AV),k=i*(X.K e).length +j/\ys[i]?=some row/\vss[i]?=some vs/\row[j]?=some y/\vs[j]?=some u:=ao4;refine⟨vss.flatten,by rw [xr,hl],λu hu=> ?_,λw2 hw2=> ?_,λi row hi j y hy=> ?_⟩
 ·obtain⟨k,sj⟩:=Be hu;obtain⟨i,j,row,vs,y,_,U,h2,h3,h4⟩:=FY k u sj;exact LK ((gj i row vs U h2).1.2 j y u h3 h4) (YV (hk i row U) h3) rr
 ·have:=run_firstCells_some (P:=X.P) w2 (X.K e).length ys.length a len c vss.flatten (by rw [xr,hl]) (λk u KL=>by
   obtain⟨i,j,row,vs,y,oQ,U,h2,h3,h4⟩:=FY k u KL;have hc:=(gj i row vs U h2).2 j u h4;rw [Df,<-oQ]at hc;unfold World.cell? at hc⊢;rw [hw2];exact hc)
  exact this
 ·have uS:=(fK.1 hi).1;exact am1
def w5(xs:aY)(lo:Nat)(zs:aY):aY:=xs.take lo++zs++xs.drop (lo+zs.length)
def agT(h:lo+zs.length<=xs.length):(w5 xs lo zs).length =xs.length:=by
 simp [w5];omega
def aiy(h:lo+zs.length<=xs.length){i:Nat}{row:Row}(hi:(w5 xs lo zs)[i]?=some row):
 (lo<=i/\i<lo+zs.length/\zs[i- lo]?=some row)∨((i<lo∨lo+zs.length<=i)/\xs[i]?=some row):=by
 unfold w5 at hi
 by_cases U:i<lo
 ·rw [fy,mF (fB),th,if_pos U]at hi;exact .inr ⟨.inl U,hi⟩
 ·by_cases h2:i<lo+zs.length
  ·rw [fy,nM (fB),mF (fB)]at hi;simp only [sB]at hi;rw [show i- min lo xs.length=i- lo by omega]at hi;exact .inl ⟨by omega,h2,hi⟩
  ·rw [nM (fB)]at hi;simp only [cw,sB,ug]at hi;rw [show lo+zs.length+(i-(min lo xs.length+zs.length))=i by omega]at hi;exact .inr ⟨.inr (by omega),hi⟩
def agW(hI:Inv X w0 S F ρ M w)(hb:M[id]?=some (.row e xs)){hd:Hd}(hid:ρ[id]?=some hd){o:Nat}(hv:hd.v= .slice (some ⟨g,o,none⟩) xs.length c)(hg:w.heap[g]?=some (.cells cur e (0,0)))
 (qo:xs.length<=c) (sq:c<=maxLen) (qn:o+c*hd.sz<=cur.size) (Nh:∀(i:Nat) row,xs[i]?=some row->∀(j:Nat) x,row[j]?=some x->∃v,cur[o+i*hd.sz+j]?=some v/\a8 X.K ρ F w x v)
    (hq:lo+zs.length<=xs.length) (EV:∀(i:Nat) row,zs[i]?=some row->cZ (X.K e) row=true) (uP:news.length=zs.length*(X.K e).length)
 (zh:∀(i:Nat) row,zs[i]?=some row->∀(j:Nat) y,row[j]?=some y->∃u,news[i*(X.K e).length +j]?=some u/\a8 X.K ρ F w y u):
 o+lo*hd.sz+news.length<=cur.size/\
 Inv X w0 S F ρ (M.set id (.row e (w5 xs lo zs))) (w.setRow g (cur.toList.take (o+lo*hd.sz)++news++cur.toList.drop (o+lo*hd.sz+news.length)).toArray)/\
 Grow F F ρ ρ w (w.setRow g (cur.toList.take (o+lo*hd.sz)++news++cur.toList.drop (o+lo*hd.sz+news.length)).toArray):=by
 obtain⟨q1,q2,_⟩:=hI.rep id _ hd hb hid;have dQ:hd.fj=some g:=qZ;have Pb:∀a,F a->a.block≠g:=(hI.sep id _ hd g hb rfl hid dQ).2.2;have lP:=Qw w g (cur.toList.take (o+lo*hd.sz)++news++cur.toList.drop (o+lo*hd.sz+news.length)).toArray;have nT:Grow F F ρ ρ w (w.setRow g (cur.toList.take (o+lo*hd.sz)++news++cur.toList.drop (o+lo*hd.sz+news.length)).toArray):=
  ⟨λ_ h=>h,λ_ _ h=>h,hI.Ap lP (λk hk a ha=>Nz)⟩
 have tD:o+lo*hd.sz+news.length<=cur.size:=by
  rw [uP,<-q1];have U:(lo+zs.length)*hd.sz<=c*hd.sz:=wv _ (by omega);rw [mw]at U;omega
 refine⟨tD,hI.write hb rfl hid dQ lP ?_,nT⟩;have oQ:∀(i:Nat) row,(w5 xs lo zs)[i]?=some row->cZ (X.K e) row=true:=by
  intro i row hi;rcases aiy hq hi with⟨_,_,h⟩|⟨_,h⟩
  ·exact EV _ row h
  ·exact q2 _ row h
 refine⟨q1,oQ,.inr ⟨g,o,c,_,by rw [agT hq];exact hv,RA w g cur _ e _ hg,by rw [agT hq];exact qo,sq,?_,λi row hi j y hy=> ?_⟩⟩
 ·simp only [MF,cw,sB,Fz,qQ];omega
 ·have hj:=(fK.1 hy).1;have uM:=kS (oQ i row hi);rw [<-q1]at uM;rw [Ra cur news _ tD];rcases aiy hq hi with⟨U,h2,h⟩|⟨U,h⟩
  ·obtain⟨u,xk,nn⟩:=zh _ row h j y hy;have cH:=(fK.1 xk).1;rw [<-q1]at xk cH;have e0:(i- lo)*hd.sz=i*hd.sz- lo*hd.sz:=Nat.sub_mul _ _ _;have KP:lo*hd.sz<=i*hd.sz:=wv _ U;rw [if_pos (by omega),show o+i*hd.sz+j-(o+lo*hd.sz)=(i- lo)*hd.sz+j by omega];exact SQ
  ·obtain⟨u,xk,nn⟩:=Nh i row h j y hy;rw [if_neg]
   ·exact SQ
   ·rintro⟨g1,g2⟩;rw [uP,<-q1]at g2;rcases U with U|U
    ·have:(i+1)*hd.sz<=lo*hd.sz:=wv _ (by omega);exact Nc
    ·have:(lo+zs.length)*hd.sz<=i*hd.sz:=wv _ U;rw [mw]at this;omega
def xu(xs:aY)(lo nd:Nat)(ys:aY):aY:=w5 xs lo (ys.take nd)
def te(z:Row)(xs:aY)(lo n:Nat):aY:=w5 xs lo (List.replicate n z)
def aA0(xs:aY)(lo:Nat)(ys:aY):xu xs lo 0 ys=xs:=by simp [xu,w5]
def aA2(z:Row)(xs:aY)(lo:Nat):te z xs lo 0=xs:=by simp [te,w5]
def OA(M:aF):AV->Option (Nat×Nat×Nat×TypeId×aY)
 | .au id=>match gm M id with|some (.row t xs)=>some (id,0,xs.length,t,xs)|_=>none
 | .vw id lo m=>match gm M id with|some (.row t xs)=>some (id,lo,m,t,xs)|_=>none
 |_=>none
def ahO(hI:Inv X w0 S F ρ M w)(h:OA M x=some (id,lo,m,t,xs)){v:Value}(hv:a8 X.K ρ F w x v):
 M[id]?=some (.row t xs)/\pb x=[id]/\((m=0/\((∃c,v= .slice none 0 c)∨∃a c,v= .slice (some a) 0 c))∨
  ∃hd g o c cur cap,ρ[id]?=some hd/\lo+m<=xs.length/\v= .slice (some ⟨g,o+lo*hd.sz,none⟩) m cap/\hd.v= .slice (some ⟨g,o,none⟩) xs.length c/\w.heap[g]?=some (.cells cur t (0,0))/\xs.length<=c/\c<=maxLen/\o+c*hd.sz<=cur.size/\
   ∀(i:Nat) row,xs[i]?=some row->∀(j:Nat) x,row[j]?=some x->∃v,cur[o+i*hd.sz+j]?=some v/\a8 X.K ρ F w x v):=by
 unfold OA at h;simp only [fR]at h;split at h
 ·split at h
  ·rename_i hb;simp only [Option.some.injEq,Prod.mk.injEq]at h;obtain⟨rfl,rfl,rfl,rfl,rfl⟩:=h;cases hv with
   |au _ hd hid=>
    refine⟨hb,rfl,?_⟩;rcases(hI.rep _ _ hd hb hid).2.2 with⟨U,h2⟩|⟨g,o,c,cur,U,h2,h3,h4,h5,h6⟩
    ·subst h2;exact .inl ⟨rfl,.inl ⟨_,U⟩⟩
    ·exact .inr ⟨hd,g,o,c,cur,c,hid,by omega,xO,U,h2,h3,h4,h5,h6⟩
  ·exact aD
 ·split at h
  ·rename_i hb;simp only [Option.some.injEq,Prod.mk.injEq]at h;obtain⟨rfl,rfl,rfl,rfl,rfl⟩:=h;refine⟨hb,rfl,?_⟩;cases hv with
   |vw _ _ _ hd g o n c cap hid hv hc uV=>
    rcases(hI.rep _ _ hd hb hid).2.2 with⟨U,h2⟩|⟨g',o',c',cur,U,h2,h3,h4,h5,h6⟩
    ·rw [hv]at U;cases U
    ·have uX:=U;rw [hv]at U;injection U with e1 e2 e3;injection e1 with e1;injection e1 with e1 e4 e5;subst e1;subst e4;subst e2;exact .inr ⟨hd,_,_,_,cur,cap,hid,uV,rfl,uX,h2,h3,h4,h5,h6⟩
   |yb=>exact .inl ⟨rfl,.inl ⟨_,rfl⟩⟩
   |ya _ _ a cap=>exact .inl ⟨rfl,.inr ⟨a,cap,rfl⟩⟩
  ·exact aD
 ·cases h
def abv(X:Cx)(ts:tu)(x y:AV)(M:aF)(k:AV->aF->Option R):Option R:=
 match ts with
 | [t,_]=>
   match(X.ti t).ok,(X.ti t).u with
   |true,.slice e=>
    match rowsOf M y with
    |some (o,ys)=>
     match OA M x with
     |some (id,lo,m,t',xs)=>
      bf ((X.ti e).ok &&decide (0<(X.ti e).size)&&(match o with|some e'=>e==e'|none=>ys.isEmpty)&&(e==t')) (k (.int .i64 ((min ys.length m:Nat):Int)) (M.set id (.row t' (xu xs lo m ys))))
     |none=>none
    |none=>none
   |_,_=>none
 |_=>none
def aAk(ht:P.underlying t=some (.slice e))(hs:∀w,(sizeOf e).run P w= .ok size w)
 (hg:w.heap[g]?=some (.cells cur e0 (0,0))) (hf:(Builtin.firstCells size (min l m) (.slice a l c2)).run P w= .ok news.toArray w) (U:∀u∈news,u.oneCell'=true) (tD:p+news.length<=cur.size):
 (Builtin.copy_ #[t,u] ty #[.slice (some ⟨g,p,none⟩) m cap,.slice a l c2]).run P w= .ok (.int .i64 ((min l m:Nat):Int)) (w.setRow g (cur.toList.take p++news++cur.toList.drop (p+news.length)).toArray):=by
 have eR:=RB P g p e0 news 0 cur w hg (by simpa using tD) U;simp only [A9]at eR;have hf':(Builtin.firstCells size (Nat.min l m) (.slice a l c2)).run P w= .ok news.toArray w:=hf;simp [Builtin.copy_,k7 ht,Builtin.lenOf,hs,hf',eR,goInt]
def run_copy_none(ht:P.underlying t=some (.slice e))(hs:∀w,(sizeOf e).run P w= .ok size w){b:Option Addr}:
 (Builtin.copy_ #[t,u] ty #[.slice b 0 cap,.slice a l c2]).run P w= .ok (.int .i64 0) w:=by
 have hf:(Builtin.firstCells size 0 (.slice a l c2)).run P w= .ok #[] w:=abe;have hz:Nat.min l 0=0:=Nat.min_zero l;cases b<;>simp [Builtin.copy_,k7 ht,Builtin.lenOf,hs,hz,hf,goInt,storeCells]
def ayh(hX:X.Okb){y:AV}(h:abv X ts x y M k=some r):
 ∃z M',k z M'=some r/\dc (pb x) M M'/\∀{vx vy:Value},Eb X M z M' (λρ F w=>a8 X.K ρ F w x vx/\a8 X.K ρ F w y vy) (Builtin.copy_ ts.toArray ty #[vx,vy]):=by
 unfold abv at h;split at h
 ·rename_i t u;split at h
  ·rename_i e bB hu;split at h
   ·rename_i o ys jx;split at h
    ·rename_i id lo m t' xs vN;replace h:=cO h;obtain⟨U,h⟩:=h;simp only [bw,gG,iU]at U;obtain⟨⟨⟨he,rm⟩,Ve⟩,rfl⟩:=U;obtain⟨i,d,z,f⟩:=hX.facts bB;obtain⟨i2,d2,z2,f2⟩:=hX.facts he;have ht:=f.slice hu;have eX:(X.K e).length =(X.ti e).size :=Dx;have ho:o=some e∨(o=none/\ys=[]):=amz;have gZ:dc (pb x) M (M.set id (.row e (xu xs lo m ys))):=am5;refine⟨_,_,h,gZ,λ{vx vy w0 S F ρ w} hI hh=> ?_⟩;obtain⟨KH,hvy⟩:=hh;obtain⟨hb,_,TE⟩:=ahO hI vN KH;have Gj:xu xs lo m ys=xs->M.set id (.row e (xu xs lo m ys))=M:=by
      intro e1;rw [e1];exact amI
     have hls:∃a c2,vy= .slice a ys.length c2:=Yw hI jx hvy;obtain⟨a,c2,rfl⟩:=hls;rcases TE with⟨rfl,hv⟩|⟨hd,g,o',c,cur,cap,hid,hlm,rfl,hdv,hg,h3,h4,h5,h6⟩
     ·have e1:=aA0 xs lo ys;rw [Gj e1];refine⟨.int .i64 0,w,ρ,F,?_,hI,Grow.refl _ _ _,by simpa using a8.int .i64 0⟩;rcases hv with⟨c,rfl⟩|⟨a',c,rfl⟩
      ·exact run_copy_none ht f2.sizeOf
      ·exact run_copy_none ht f2.sizeOf
     ·
      have aEs:∃news:gz,news.length=(ys.take m).length *(X.K e).length /\(∀u∈news,u.oneCell'=true)/\(Builtin.firstCells (X.K e).length (min ys.length m) (.slice a ys.length c2)).run X.P w= .ok news.toArray w/\
       (∀(i:Nat) row,(ys.take m)[i]?=some row->cZ (X.K e) row=true)/\∀(i:Nat) row,(ys.take m)[i]?=some row->∀(j:Nat) y,row[j]?=some y->∃u,news[i*(X.K e).length +j]?=some u/\a8 X.K ρ F w y u:=by
       have aKP:(ys.take m).length =min ys.length m:=by rw [sB,Nat.min_comm]
       have EO:∀(i:Nat) row,(ys.take m)[i]?=some row->i<m/\ys[i]?=some row:=by
        intro i row hi;rw [th]at hi;split at hi
        ·exact⟨by assumption,hi⟩
        ·cases hi
       rcases ho with rfl|⟨rfl,rfl⟩
       ·obtain⟨hk,hc⟩:=agc hI jx hvy;rcases hc with⟨hv,rfl⟩|⟨a',c',hv,vss,hl,gj⟩
        ·injection hv with e1 e2 e3;subst e1;exact⟨[],by simp,by simp,SW,λi row hi=>Dm,λi row hi=>Dm⟩
        ·injection hv with e1 e2 e3;subst e1;obtain⟨news,n1,n2,n3,n4⟩:=azK (X:=X) (ρ:=ρ) (F:=F) (w:=w) (e:=e) (ys:=ys.take m) (vss:=vss.take m) (a:=a') (len:=ys.length) (c:=c2) (λi row hi=>hk i row (EO i row hi).2) (by rw [sB,sB,hl])
          (λi row vs hi nI=>by
            obtain⟨Hz,ca⟩:=EO i row hi;rw [th,if_pos Hz]at nI;exact gj i row vs ca nI) hI.one (by rw [eX];exact rm)
         rw [aKP]at n3;exact⟨news,n1,n2,n3 w rfl,λi row hi=>hk i row (EO i row hi).2,n4⟩
       ·refine⟨[],by simp,by simp,?_,λi row hi=>Dm,λi row hi=>Dm⟩;simp only [gD,Nat.zero_min];exact abe
      obtain⟨news,n1,n2,n3,n4,n5⟩:=aEs;have hq:lo+(ys.take m).length <=xs.length:=SR;obtain⟨tD,i1,g1⟩:=agW hI hb hid hdv hg h3 h4 h5 h6 hq n4 n1 n5;rw [eX]at n3;exact⟨_,_,ρ,F,aAk ht f2.sizeOf hg n3 n2 tD,i1,g1,.int _ _⟩
    ·exact aD
   ·exact aD
  ·exact aD
 ·cases h
def Z5(X:Cx)(ts:tu)(x:AV)(M:aF)(k:AV->aF->Option R):Option R:=
 match ts with
 | [t]=>
   match(X.ti t).ok,(X.ti t).u with
   |true,.slice e=>
    match OA M x with
    |some (id,lo,m,t',xs)=>bf ((X.ti e).ok &&decide (0<(X.ti e).size)&&cZ (X.K e) (pg X e)&&(e==t')) (k (.eV []) (M.set id (.row t' (te (pg X e) xs lo m))))
    |none=>none
   |_,_=>none
 |_=>none
def azH{z:Value}(ht:P.underlying t=some (.slice e))(hz:∀w,(zeroValue e).run P w= .ok z w)
 (hg:w.heap[g]?=some (.cells cur e0 (0,0))) (hm:0<m) (U:∀u∈(Builtin.zeroCells z.cells m).toList,u.oneCell'=true) (tD:p+(Builtin.zeroCells z.cells m).toList.length <=cur.size):
 (Builtin.clear_ #[t] ty #[.slice (some ⟨g,p,none⟩) m cap]).run P w= .ok (.tuple #[]) (w.setRow g (cur.toList.take p++(Builtin.zeroCells z.cells m).toList ++cur.toList.drop (p+(Builtin.zeroCells z.cells m).toList.length)).toArray):=by
 have eR:=RB P g p e0 (Builtin.zeroCells z.cells m).toList 0 cur w hg (by simpa using tD) U;simp only [A9]at eR;obtain⟨n,rfl⟩:=Nat.exists_eq_succ_of_ne_zero (Nat.pos_iff_ne_zero.1 hm);simp only [Builtin.clear_,ZN,Ms,gh,k7 ht,iV,hz,eR,ke]
def axJ(hX:X.Okb)(h:Z5 X ts x M k=some r):
 ∃z M',k z M'=some r/\dc (pb x) M M'/\∀{vx:Value},Eb X M z M' (λρ F w=>a8 X.K ρ F w x vx) (Builtin.clear_ ts.toArray ty #[vx]):=by
 unfold Z5 at h;split at h
 ·rename_i t;split at h
  ·rename_i e bB hu;split at h
   ·rename_i id lo m t' xs vN;replace h:=cO h;obtain⟨U,h⟩:=h;simp only [bw,gG,iU]at U;obtain⟨⟨⟨he,rm⟩,EV⟩,rfl⟩:=U;obtain⟨i,d,z,f⟩:=hX.facts bB;obtain⟨i2,d2,z2,f2⟩:=hX.facts he;have ht:=f.slice hu;have eX:(X.K e).length =(X.ti e).size :=Dx;have gZ:dc (pb x) M (M.set id (.row e (te (pg X e) xs lo m))):=am5;have zg:∀{ρ:bJ} {F:bD} {w:World},a8 X.K ρ F w (.eV []) (.tuple #[]):= .eV [] [] rfl (λj x v h _=>gU);refine⟨_,_,h,gZ,λ{vx w0 S F ρ w} hI KH=> ?_⟩;obtain⟨hb,_,TE⟩:=ahO hI vN KH;have hzero:∀{b:Option Addr} {cap:Nat},(Builtin.clear_ #[t] ty #[.slice b 0 cap]).run X.P w= .ok (.tuple #[]) w:=by
     intro b cap;cases b<;>simp [Builtin.clear_,k7 ht]
    by_cases hm:m=0
    ·subst hm;have Gj:M.set id (.row e (te (pg X e) xs lo 0))=M:=by
      rw [aA2];exact amI
     rw [Gj];refine⟨.tuple #[],w,ρ,F,?_,hI,Grow.refl _ _ _,zg⟩;rcases TE with⟨_,⟨c,rfl⟩|⟨a,c,rfl⟩⟩|⟨hd,g,o',c,cur,cap,hid,hlm,rfl,_⟩
     ·exact hzero
     ·exact hzero
     ·exact hzero
    ·rcases TE with⟨e0,_⟩|⟨hd,g,o',c,cur,cap,hid,hlm,rfl,hdv,hg,h3,h4,h5,h6⟩
     ·exact absurd e0 hm
     ·have tS:z2.cells.size=i2.size:=f2.zs;have hzl:z2.cells.toList.length=(X.K e).length :=by rw [eX,f2.size,<-tS];simp
      have abn:(Builtin.zeroCells z2.cells m).toList =(List.replicate m z2.cells.toList).flatten :=ahM z2.cells (by rw [tS,<-f2.size];exact rm) m;have OX:dm X.K ρ F w (pg X e) z2.cells.toList:=YP f2;have EK:∀(i:Nat) vs,(List.replicate m z2.cells.toList)[i]?=some vs->vs.length=(X.K e).length :=by
       intro i vs hi;rw [C6]at hi;split at hi
       ·injection hi with hi;subst hi;exact hzl
       ·cases hi
      have uP:(Builtin.zeroCells z2.cells m).toList.length =(List.replicate m (pg X e)).length *(X.K e).length :=by
       rw [abn,Q5 _ EK];simp
      have rr:∀u∈(Builtin.zeroCells z2.cells m).toList,u.oneCell'=true:=by
       intro u hu;rw [abn]at hu;obtain⟨l,hl,OW⟩:=List.mem_flatten.1 hu;rw [ZM hl]at OW;obtain⟨j,hj⟩:=Be OW;have EW:=(fK.1 hj).1;have hx:(pg X e)[j]?=some ((pg X e)[j]'(by rw [kS EV,<-hzl];exact EW)):=dy _;exact LK (OX.2 j _ u hx hj) (YV EV hx) hI.one
      have hq:lo+(List.replicate m (pg X e)).length <=xs.length:=by simpa using hlm
      obtain⟨tD,i1,g1⟩:=agW hI hb hid hdv hg h3 h4 h5 h6 hq (λi row hi=>by
       rw [C6]at hi;split at hi
       ·injection hi with hi;subst hi;exact EV
       ·cases hi) uP (λi row hi j y hy=>by
       rw [C6]at hi;split at hi
       ·rename_i Hz;injection hi with hi;subst hi;have hj:=(fK.1 hy).1;have uM:=kS EV;have hv:z2.cells.toList[j]?=some (z2.cells.toList[j]'(by omega)):=dy (by omega);refine⟨_,?_,OX.2 j y _ hy hv⟩;rw [abn,RZ _ EK i j z2.cells.toList (by rw [C6,if_pos Hz]) (by omega)];exact hv
       ·cases hi)
      exact⟨_,_,ρ,F,azH ht f2.zeroValue hg (Nat.pos_of_ne_zero hm) rr tD,i1,g1,zg⟩
   ·exact aD
  ·exact aD
 ·cases h
end
end Go.aj
namespace Go.aj
def ao8{p:Prop}(h:p:=by
 have zZ:dm X.K ρ F w (first++c.args.toList.map e++gV) (v1++c.args.toList.map act.eval++v2):=(dm.append ⟨gY,r1⟩ (IL hr _)).append ⟨ko,r2⟩;have Bz:=sq hI zZ;have e1:(v1.toArray++c.args.map act.eval)++v2.toArray=(v1++c.args.toList.map act.eval++v2).toArray :=by apply xF;simp
 refine⟨λ_ _=>trivial,?_⟩;rw [R9 _ _ _ (by simp [ho])];have du:(execOp act.eval o).run X.P w= .ok (.enter g (v1++c.args.toList.map act.eval++v2).toArray) w:=by
  simp only [execOp,ho,resolve,pq,hv,Deferred.ofValue,gh,ke,iV,invoke];rw [e1];exact qo _ _
 rw [du];refine⟨λhd=>by simp [nK,Fence.wide]at hd,?_⟩;have di:CallsIn Fence.wide (n- 1) X.P g (v1++c.args.toList.map act.eval++v2).toArray w (λe w'=>∃v ρ' F',e= .returned v/\Inv X w0 S F' ρ' M' w'/\Grow F F' ρ ρ' w w'/\a8 X.K ρ' F' w' x v):=aah.2 Bz;have ny:CallsIn (nK rd) (n- 1) X.P g (v1++c.args.toList.map act.eval++v2).toArray w (λe w'=>∃v ρ' F',e= .returned v/\Inv X w0 S F' ρ' M' w'/\Grow F F' ρ ρ' w w'/\a8 X.K ρ' F' w' x v):=di;refine ny.mono ?_;rintro en w' ⟨v,ρ',F',rfl,h3,h4,h5⟩;exact hn v w' ρ' F' h3 h4 h5):p:=h
def By{p:Prop}(h:p:=by simp only [sK,ho,Option.some.injEq]at hi;subst hi;exact gZ):p:=h
def mI{p:Prop}(h:p:=by simp [execOp,ho]):p:=h
def iW{p:Prop}(h:p:=by simp [ho]):p:=h
def rY{p:Prop}(h:p:=by simp [sK,ho]at hi):p:=h
def yJ{p:Prop}(h:p:=by apply xF;simp):p:=h
def Tr{p:Prop}(h:p:=by simp [execOp,ho,resolve,pq,invoke,builtin,e2]):p:=h
def abk{p:Prop}(h:p:=by simp only [sK,ho,pq,hx,Option.some.injEq]at hi;subst hi;exact gZ):p:=h
def SZ{p:Prop}(h:p:=by apply xF;simpa using hx):p:=h
def akO{p:Prop}(h:p:=by exact core (λ{ρ F w v} hv=>by rw [hx]at hv;cases hv;exact .inl ⟨_,rfl⟩) h):p:=h
def akl{p:Prop}(h:p:=by simp [execOp,ho,resolve,pq,invoke,builtin,e1,e2]):p:=h
def aaU{p:Prop}(h:p:=by simp [sK,ho,pq]at hi):p:=h
def aaT{p:Prop}(h:p:=by
 split
 ·exact Z2 _ _ _
 ·rfl):p:=h
def aj6{p:Prop}(h:p:=by simp [execOp,ho,resolve,pq,invoke,builtin]):p:=h
def MV{p:Prop}(h:p:=by rw [hj]at hp;cases hp):p:=h
end Go.aj
namespace Go.aj
def aah:=@Go.callsIn_wide
def zI:=@Nat.le_of_ble_eq_true
def R9:=@Go.Oper.semAt_eq
def Bf:=@List.mem_range
end Go.aj
namespace Go.aj
open Go
noncomputable section
variable {X:Cx} {R:Type}
variable {w0 w w':World} {S:Sc} {F:bD} {ρ:bJ} {M:aF}
variable{s:(Operand->Value)->Sem Value}{x:AV}{a:Act}{next:Act->World->Prop}{Q:Exit->Act->World->Prop}{n:Nat}{o:Oper}{e:Operand->AV}{ρe:Operand->Value}{rd:Option Nat}
def nK(rd:Option Nat):Fence:={Fence.wide with round:=rd}
def gQ(X:Cx)(o:Oper)(e:Operand->AV)(M:aF)(x:AV)(M':aF):Prop:=
 ∀{rd:Option Nat} {n:Nat} {w0:World} {S:Sc} {F:bD} {ρ:bJ} {w:World} {a:Act} {next:Act->World->Prop} {Q:Exit->Act->World->Prop},Inv X w0 S F ρ M w->(∀y,a8 X.K ρ F w (e y) (a.eval y))->
  (∀v w' ρ' F',Inv X w0 S F' ρ' M' w'->Grow F F' ρ ρ' w w'->a8 X.K ρ' F' w' x v->next (a.put o.dst v) w')->o.wpIn (nK rd) n X.P a w next Q
def wH(X:Cx)(f:FuncId)(args:ak)(M:aF)(x:AV)(M':aF):Prop:=
 (∀(vs:Array Value) (w:World),(callFunc f vs).run X.P w= .ok (.enter f vs) w)/\
 ∀{w0:World} {S:Sc} {F:bD} {ρ:bJ} {w:World} {vs:gz},Inv X w0 S F ρ M w->dm X.K ρ F w args vs->
  Calls X.P f vs.toArray w (λe w'=>∃v ρ' F',e= .returned v/\Inv X w0 S F' ρ' M' w'/\Grow F F' ρ ρ' w w'/\a8 X.K ρ' F' w' x v)
def Ss(X:Cx)(id:Nat)(args:ak)(M:aF)(x:AV)(M':aF):Prop:=
 ∀{rd:Option Nat} {n:Nat} {w0:World} {S:Sc} {F:bD} {ρ:bJ} {w:World} {vs:gz} {hd:Hd} {g:Nat},Inv X w0 S F ρ M w->dm X.K ρ F w args vs->ρ[id]?=some hd->hd.v= .pointer (some ⟨g,0,none⟩)->
  ∃f tmps ag body,(Instr.yield g vs.toArray).run X.P w= .ok (.round g f tmps ag body) w/\
   RoundIn (nK rd) n X.P g f tmps ag body w (λe w'=>∃v ρ' F',e= .returned v/\Inv X w0 S F' ρ' M' w'/\Grow F F' ρ ρ' w w'/\a8 X.K ρ' F' w' x v)
structure Nt where
 n:Nat
 mask:Nat
structure j0(R:Type) where
 nt:Nt
 wr:FuncId->ak->aF->Option dx
 call:FuncId->ak->aF->(AV->aF->Option R)->Option R
 yield:Nat->ak->aF->(AV->aF->Option R)->Option R
structure j0.qV(X:Cx)(T:j0 R):Prop where
 call:∀{f args M k r},T.call f args M k=some r->∃x M',wH X f args M x M'/\k x M'=some r/\∀ids,T.wr f args M=some ids->dc ids M M'
 yield:∀{id args M k r},T.yield id args M k=some r->∃x M',Ss X id args M x M'/\k x M'=some r
def nL(X:Cx)(env:bL):Operand->AV
 | .tmp t=>look env t
 | .const v=>aae v
 | .global g=>X.kz g
 | .func f=> .eJ f [] []
def Di(hI:Inv X w0 S F ρ M w){env:bL}(h:k8 X ρ F w env a.tmps)(y:Operand):a8 X.K ρ F w (nL X env y) (a.eval y):=by
 cases y with
 |tmp t=>exact h t
 |const v=>exact ayA _ _ _ _ v
 |global g=>exact hI.kz g
 |func f=>exact .eJ f [] [] [] [] rfl rfl (λj x v h _=>gU) (λj x v h _=>gU)
def UF(op:UnOp)(x:AV)(k:AV->Option R):Option R:=
 match op,x with
 | .not,.bool b=>k (.bool (!b))
 | .neg,.int kd n=>k (.int kd (kd.wrap (0- n)))
 |_,_=>none
def Td(X:Cx)(s d:TypeId)(x:AV)(k:AV->Option R):Option R:=
 match(X.ti s).ok,(X.ti d).ok,(X.ti d).u,x with
 |true,true,.int kd,.int _ n=>k (.int kd (kd.wrap n))
 |_,_,_,_=>none
def Rf(x:AV)(k:AV->Option R):Option R:=
 match x with
 | .ptr _ _ _=>k x
 | .kj _ _ _=>k x
 | .eJ _ _ _=>k x
 |_=>none
def acs(X:Cx)(o:Oper)(x:AV)(mx:Option Operand):Bool:=match x,o.dst,mx with| .au _,some d,none=>X.vw d o.type|_,_,_=>false
def sO(X:Cx)(T:j0 R)(e:Operand->AV)(o:Oper)(M:aF)(k:AV->aF->Option R):Option R:=
 match o.op with
 | .move x=>k (e x) M
 | .assign x=>k (e x) M
 | .pick c a b=>match e c with| .bool t=>(match t with|true=>k (e a) M|false=>k (e b) M)|_=>none
 | .alloc t=>Z6 X t M k
 | .box t x=>ab9 X t (e x) M k
 | .build t ps=>MK X t (ps.toList.map λp=>(p.1,e p.2)) λy=>k y M
 | .buildSlice t n ps=>match aEm (ps.toList.map λp=>(p.1,e p.2))with|true=>YI X t n (ps.toList.map λp=>(p.1,e p.2)) M k|false=>L3 X t n (ps.toList.map λp=>(p.1,e p.2)) M k
 | .load t x=>yE X t (e x) M λy=>k y M
 | .store t x y=>I7 X t (e x) (e y) M λM'=>k (.eV []) M'
 | .nilCheck x=>Rf (e x) λy=>k y M
 | .binOp op t x y _=>NF X op t (e x) (e y) λz=>k z M
 | .unOp op _ x=>UF op (e x) λz=>k z M
 | .convert s d x=>Td X s d (e x) λz=>k z M
 | .fieldAddr t x f=>Mb X t (e x) f λy=>k y M
 | .field t x f=>MJ X t (e x) f λy=>k y M
 | .indexAddr t x i=>A1 X t (e x) (e i) M λy=>k y M
 | .index t x i=>MI X t (e x) (e i) λy=>k y M
 | .slice t x lo hi mx=>match acs X o (e x) mx with|true=>F5 X t (e x) (lo.map e) (hi.map e) M λy=>k y M|false=>Dj X t (e x) (lo.map e) (hi.map e) (mx.map e) M k
 | .makeSlice t l c=>Yp X t (e l) (e c) M k
 | .extract x i=>match e x with| .eV vs=>(match vs[i]? with|some y=>k y M|none=>none)|_=>none
 | .makeFunc (.func f) first gV=>k (.eJ f (first.toList.map e) (gV.toList.map e)) M
 | .call c=>
   match c.callee with
   | .value f=>
     match e f with
     | .eJ g first gV=>T.call g (first++c.args.toList.map e++gV) M k
     | .jz id=>T.yield id (c.args.toList.map e) M λx M'=>bf (Nat.ble M.length M'.length) (k x M')
     |_=>none
   | .builtin .len =>match c.argTypes.toList,c.args.toList with| [t],[x]=>Ac X t (e x) M λy=>k y M|_,_=>none
   | .builtin .min =>DI yS (c.args.toList.map e) λy=>k y M
   | .builtin .max =>DI imax (c.args.toList.map e) λy=>k y M
   | .builtin .append =>match c.args.toList with| [s,x]=>ZC X c.argTypes.toList (e s) (e x) M k|_=>none
   | .builtin .copy =>match c.args.toList with| [s,x]=>abv X c.argTypes.toList (e s) (e x) M k|_=>none
   | .builtin .clear =>match c.args.toList with| [s]=>Z5 X c.argTypes.toList (e s) M k|_=>none
   |_=>none
 | .makeMap t r=>match r with|none=>Y2 X t M k|some _=>none
 | .lookup t x i ok=>Bd X t (e x) (e i) ok M λy=>k y M
 | .mapUpdate t m i x=>Q6 X t (e m) (e i) (e x) M λM'=>k (.eV []) M'
 | .insert t m i x=>Q6 X t (e m) (e i) (e x) M λM'=>k (.eV []) M'
 |_=>none
def sK(T:j0 R)(e:Operand->AV)(o:Oper)(M:aF):Option dx:=
 match o.op with
 | .alloc _=>some []
 | .box _ _=>some []
 | .makeSlice _ _ _=>some []
 | .buildSlice _ _ ps=>some ((ps.toList.map λp=>(p.1,e p.2)).flatMap λp=>p.2.cells.flatMap lJ)
 | .store _ x y=>some (zN (e x)++(e y).cells.flatMap lJ)
 | .slice _ x _ _ _=>some (lJ (e x))
 | .call c=>
   match c.callee with
   | .value f=>
     match e f with
     | .eJ g first gV=>T.wr g (first++c.args.toList.map e++gV) M
     | .jz _=>some (List.range M.length)
     |_=>none
   | .builtin .append =>match c.args.toList with| [s,_]=>some (lJ (e s))|_=>none
   | .builtin .copy =>match c.args.toList with| [s,_]=>some (pb (e s))|_=>none
   | .builtin .clear =>match c.args.toList with| [s]=>some (pb (e s))|_=>none
   | .builtin .unsafeSliceData =>some []
   | .builtin .unsafeString =>match c.args.toList with| [p,_]=>some (zN (e p))|_=>none
   |_=>none
 | .makeMap _ _=>some []
 | .mapUpdate _ m _ _=>some (Gb (e m))
 | .insert _ m _ _=>some (Gb (e m))
 |_=>none
def CO(hd:∀c,o.op≠ .defer c){v:Value}(h:(execOp a.eval o).run X.P w= .ok (.value v) w')(hn:next (a.put o.dst v) w'):
 o.wpIn (nK rd) n X.P a w next Q:=by
 refine⟨λ_ _=>trivial,?_⟩;rw [R9 _ _ _ hd,h];exact hn
def X5(hd:∀c,o.op≠ .defer c)(h:(execOp a.eval o).run X.P w= .ok .skip w')(hn:next (a.put o.dst undef) w'):
 o.wpIn (nK rd) n X.P a w next Q:=by
 refine⟨λ_ _=>trivial,?_⟩;rw [R9 _ _ _ hd,h];exact hn
def gQ.oV(hd:∀c,o.op≠ .defer c)(hs:∀ρe,execOp ρe o=(do pure (.value (<-s ρe)):Sem Next))
 (h:∀{w0:World} {S:Sc} {F:bD} {ρ:bJ} {w:World} {ρe:Operand->Value},Inv X w0 S F ρ M w->(∀y,a8 X.K ρ F w (e y) (ρe y))->∃v,(s ρe).run X.P w= .ok v w/\a8 X.K ρ F w x v):gQ X o e M x M:=by
 intro rd n w0 S F ρ w a next Q hI hr hn;obtain⟨v,U,h2⟩:=h hI hr;exact CO hd (by rw [hs,gh,U];rfl) (hn v w ρ F hI (Grow.refl _ _ _) h2)
def gQ.xG(hd:∀c,o.op≠ .defer c){M':aF}(hs:∀ρe,execOp ρe o=(do pure (.value (<-s ρe)):Sem Next))
 (h:∀{w0:World} {S:Sc} {F:bD} {ρ:bJ} {w:World} {ρe:Operand->Value},Inv X w0 S F ρ M w->(∀y,a8 X.K ρ F w (e y) (ρe y))->∃v w' ρ' F',(s ρe).run X.P w= .ok v w'/\Inv X w0 S F' ρ' M' w'/\Grow F F' ρ ρ' w w'/\a8 X.K ρ' F' w' x v):gQ X o e M x M':=by
 intro rd n w0 S F ρ w a next Q hI hr hn;obtain⟨v,w',ρ',F',U,h2,h3,h4⟩:=h hI hr;exact CO hd (by rw [hs,gh,U];rfl) (hn v w' ρ' F' h2 h3 h4)
def IL(hr:∀y,a8 X.K ρ F w (e y) (ρe y))(xs:List Operand):dm X.K ρ F w (xs.map e) (xs.map ρe):=by
 refine⟨by simp,λj x v hx hv=> ?_⟩;rw [kG]at hx hv;cases h:xs[j]? with
 |none=>rw [h]at hx;cases hx
 |some y=>
  rw [h]at hx hv;simp only [nN,Option.some.injEq]at hx hv;subst hx;subst hv;exact hr y
def dm.append{xs ys:ak}{vs us:gz}(h:dm X.K ρ F w xs vs)(k:dm X.K ρ F w ys us):dm X.K ρ F w (xs++ys) (vs++us):=by
 refine⟨by simp [h.1,k.1],λj x v hx hv=> ?_⟩
 by_cases hj:j<xs.length
 ·exact ak4
 ·rw [nM (by omega)]at hx;rw [nM (by rw [h.1];omega),h.1]at hv;exact k.2 _ x v hx hv
def FB(hr:∀y,a8 X.K ρ F w (e y) (ρe y))(o:Option Operand):tG X.K ρ F w (o.map e) (o.map ρe):=by
 cases o with
 |none=>trivial
 |some y=>exact hr y
set_option maxHeartbeats 1600000 in
def agJ(hX:X.Okb){T:j0 R}(hT:T.qV X){k:AV->aF->Option R}{r:R}(h:sO X T e o M k=some r):
 ∃x M',gQ X o e M x M'/\k x M'=some r/\∀ids,sK T e o M=some ids->dc ids M M':=by
 unfold sO at h;split at h
 ·rename_i x ho;exact⟨_,_,gQ.oV (s:=λρe=>pure (ρe x)) (iW) (λρe=>mI) (λ{w0 S F ρ w ρe} hI hr=>⟨_,rfl,hr x⟩),h,λids hi=>rY⟩
 ·rename_i x ho;exact⟨_,_,gQ.oV (s:=λρe=>pure (ρe x)) (iW) (λρe=>mI) (λ{w0 S F ρ w ρe} hI hr=>⟨_,rfl,hr x⟩),h,λids hi=>rY⟩
 ·rename_i c a b ho;split at h
  ·rename_i t hc;have apo:∀ρe,execOp ρe o=(do pure (.value (if<-asBool (ρe c)then ρe a else ρe b)):Sem Next):=λρe=>mI;split at h
   ·refine⟨_,_,λ{rd n w0 S F ρ w act next Q} hI hr hn=> ?_,h,λids hi=>rY⟩;have U:=hr c;rw [hc]at U;generalize hv:act.eval c=vc at U;cases U;exact CO (iW) (by rw [apo,hv];rfl) (hn _ w ρ F hI (Grow.refl _ _ _) (hr a))
   ·refine⟨_,_,λ{rd n w0 S F ρ w act next Q} hI hr hn=> ?_,h,λids hi=>rY⟩;have U:=hr c;rw [hc]at U;generalize hv:act.eval c=vc at U;cases U;exact CO (iW) (by rw [apo,hv];rfl) (hn _ w ρ F hI (Grow.refl _ _ _) (hr b))
  ·exact aD
 ·rename_i t ho;obtain⟨x,M',h,gZ,hd⟩:=axL hX h;exact⟨x,M',gQ.xG (s:=λ_=>Instr.alloc t true (.tuple #[])) (iW) (λρe=>mI) (λ{w0 S F ρ w ρe} hI hr=>hd hI trivial),h,λids hi=>By⟩
 ·rename_i t x ho;obtain⟨y,M',h,gZ,hd⟩:=ayM h;exact⟨y,M',gQ.xG (s:=λρe=>Instr.box t (ρe x)) (iW) (λρe=>mI) (λ{w0 S F ρ w ρe} hI hr=>hd (ρe x) hI (hr x)),h,λids hi=>By⟩
 ·rename_i t ps ho;obtain⟨y,h,hd⟩:=axK (M:=M) hX h;refine⟨y,M,gQ.oV (s:=λρe=>Instr.build t (ps.map λ(i,x)=>(i,ρe x))) (iW) (λρe=>mI) (λ{w0 S F ρ w ρe} hI hr=> ?_),h,λids hi=>rY⟩;obtain⟨u,U,h2⟩:=hd (ps.toList.map λp=>(p.1,ρe p.2)) hI (by simp) (λj p q hp hq=>by
   rw [kG]at hp hq;cases hj:ps.toList[j]? with
   |none=>exact MV
   |some z=>
    rw [hj]at hp hq;simp only [nN,Option.some.injEq]at hp hq;subst hp;subst hq;exact⟨rfl,hr z.2⟩)
  refine⟨u,?_,h2⟩;have:(ps.map λ(i,x)=>(i,ρe x))=(ps.toList.map λp=>(p.1,ρe p.2)).toArray :=yJ;rw [this];exact U
 ·rename_i t n ps ho;split at h
  ·obtain⟨y,M',h,gZ,hd⟩:=avS hX h;refine⟨y,M',gQ.xG (s:=λρe=>Instr.buildSlice t n (ps.map λ(i,x)=>(i,ρe x))) (iW) (λρe=>mI) (λ{w0 S F ρ w ρe} hI hr=> ?_),h,λids hi=>by simp only [sK,ho,Option.some.injEq]at hi;subst hi;exact gZ.mono (λi hi=>by cases hi)⟩;have:=hd (ps.toList.map λp=>(p.1,ρe p.2)) hI (by simp) (λj p q hp hq=>by
    rw [kG]at hp hq;cases hj:ps.toList[j]? with
    |none=>exact MV
    |some z=>
     rw [hj]at hp hq;simp only [nN,Option.some.injEq]at hp hq;subst hp;subst hq;exact⟨rfl,hr z.2⟩)
   have e1:(ps.map λ(i,x)=>(i,ρe x))=(ps.toList.map λp=>(p.1,ρe p.2)).toArray :=yJ;rw [e1];exact this
  ·obtain⟨y,M',h,gZ,hd⟩:=aeU hX h;refine⟨y,M',gQ.xG (s:=λρe=>Instr.buildSlice t n (ps.map λ(i,x)=>(i,ρe x))) (iW) (λρe=>mI) (λ{w0 S F ρ w ρe} hI hr=> ?_),h,λids hi=>By⟩;have:=hd (ps.toList.map λp=>(p.1,ρe p.2)) hI (by simp) (λj p q hp hq=>by
    rw [kG]at hp hq;cases hj:ps.toList[j]? with
    |none=>exact MV
    |some z=>
     rw [hj]at hp hq;simp only [nN,Option.some.injEq]at hp hq;subst hp;subst hq;exact⟨rfl,hr z.2⟩)
   have e1:(ps.map λ(i,x)=>(i,ρe x))=(ps.toList.map λp=>(p.1,ρe p.2)).toArray :=yJ;rw [e1];obtain⟨v,w',ρ',F',U,h2,h3,h4,_⟩:=this;exact⟨v,w',ρ',F',U,h2,h3,h4⟩
 ·rename_i t x ho;obtain⟨y,h,hd⟩:=agk hX h;exact⟨y,M,gQ.oV (s:=λρe=>Instr.loadAt t (ρe x)) (iW) (λρe=>mI) (λ{w0 S F ρ w ρe} hI hr=>hd hI (hr x)),h,λids hi=>rY⟩
 ·rename_i t x y ho;obtain⟨M',h,gZ,hd⟩:=axF hX h;refine⟨_,M',λ{rd n w0 S F ρ w act next Q} hI hr hn=> ?_,h,λids hi=>By⟩;obtain⟨w',F',U,h2,h3⟩:=hd hI (hr x) (hr y);refine X5 (iW) (w':=w') ?_ (hn undef w' ρ F' h2 h3 (.eV [] [] rfl (λj x v h _=>gU)));simp [execOp,ho,U]
 ·rename_i x ho;unfold Rf at h;have core:∀(hp:∀{ρ:bJ} {F:bD} {w:World} {v:Value},a8 X.K ρ F w (e x) v->(∃a,v= .pointer (some a))∨∃f c1 c2,v= .func (.func f) c1 c2),k (e x) M=some r->∃y M',gQ X o e M y M'/\k y M'=some r/\∀ids,sK T e o M=some ids->dc ids M M':=by
   intro hp h;refine⟨_,_,λ{rd n w0 S F ρ w act next Q} hI hr hn=> ?_,h,λids hi=>rY⟩;have U:=hr x;refine CO (iW) (v:=act.eval x) (w':=w) ?_ (hn _ w ρ F hI (Grow.refl _ _ _) U);rcases hp U with⟨a,hv⟩|⟨f,c1,c2,hv⟩<;>simp [execOp,ho,hv]
  split at h
  ·rename_i id i off hx;exact akO
  ·rename_i t row off hx;exact akO
  ·rename_i f c1 c2 hx;exact core (λ{ρ F w v} hv=>by rw [hx]at hv;cases hv;exact .inr ⟨_,_,_,rfl⟩) h
  ·exact aD
 ·rename_i op t x y u ho;obtain⟨z,h,hd⟩:=ayN (a:=x) (b:=y) (u:=u) hX h;exact⟨z,M,gQ.oV (s:=λρe=>(do eqGuard op t x y (ρe x) (ρe y);binOp op t (ρe x) (ρe y))) (iW) (λρe=>mI) (λ{w0 S F ρ w ρe} hI hr=>hd ρ F w _ _ (hr x) (hr y)),h,λids hi=>rY⟩
 ·rename_i op t x ho;unfold UF at h;split at h
  ·rename_i b hx;refine⟨_,M,gQ.oV (s:=λρe=>Op.unary .not (ρe x)) (iW) (λρe=>mI) (λ{w0 S F ρ w ρe} hI hr=> ?_),h,λids hi=>rY⟩;have U:=hr x;rw [hx]at U;generalize ρe x=vx at U;cases U;exact⟨_,rfl,.bool _⟩
  ·rename_i kd n hx;refine⟨_,M,gQ.oV (s:=λρe=>Op.unary .neg (ρe x)) (iW) (λρe=>mI) (λ{w0 S F ρ w ρe} hI hr=> ?_),h,λids hi=>rY⟩;have U:=hr x;rw [hx]at U;generalize ρe x=vx at U;cases U;exact⟨_,rfl,.int _ _⟩
  ·exact aD
 ·rename_i s d x ho;unfold Td at h;split at h
  ·rename_i kd k0 n U h2 h3 hx;obtain⟨i1,d1,z1,f1⟩:=hX.facts U;obtain⟨i2,d2,z2,f2⟩:=hX.facts h2;have dN:=f2.api h3;refine⟨_,M,gQ.oV (s:=λρe=>convert s d (ρe x)) (iW) (λρe=>mI) (λ{w0 S F ρ w ρe} hI hr=> ?_),h,λids hi=>rY⟩;have h4:=hr x;rw [hx]at h4;generalize ρe x=vx at h4;cases h4;refine⟨.int kd (kd.wrap n),?_,.int _ _⟩;unfold convert;simp only [gh,k7 f1.mi,k7 dN,iV,Conv.intToInt,ke]
  ·exact aD
 ·rename_i t x f ho;obtain⟨y,h,hd⟩:=avd hX h;exact⟨y,M,gQ.oV (s:=λρe=>Instr.fieldAt t (ρe x) f) (iW) (λρe=>mI) (λ{w0 S F ρ w ρe} hI hr=>hd (hr x)),h,λids hi=>rY⟩
 ·rename_i t x f ho;obtain⟨y,h,hd⟩:=axI hX h;exact⟨y,M,gQ.oV (s:=λρe=>Instr.field t (ρe x) f) (iW) (λρe=>mI) (λ{w0 S F ρ w ρe} hI hr=>hd (hr x)),h,λids hi=>rY⟩
 ·rename_i t x i ho;obtain⟨y,h,hd⟩:=avc hX h;exact⟨y,M,gQ.oV (s:=λρe=>Instr.indexAt t (ρe x) (ρe i)) (iW) (λρe=>mI) (λ{w0 S F ρ w ρe} hI hr=>hd hI (hr x) (hr i)),h,λids hi=>rY⟩
 ·rename_i t x i ho;obtain⟨y,h,hd⟩:=axH hX h;exact⟨y,M,gQ.oV (s:=λρe=>Instr.index t (ρe x) (ρe i)) (iW) (λρe=>mI) (λ{w0 S F ρ w ρe} hI hr=>hd (hr x) (hr i)),h,λids hi=>rY⟩
 ·rename_i t x lo hi mx ho;split at h
  ·rename_i Ci;have Hv:mx=none:=by
    unfold acs at Ci;split at Ci
    ·rfl
    ·cases Ci
   obtain⟨y,h,hd⟩:=ayg hX h;exact⟨y,M,gQ.oV (s:=λρe=>Instr.sliceAt t (ρe x) (lo.map ρe) (hi.map ρe) none) (iW) (λρe=>by simp [execOp,ho,Hv]) (λ{w0 S F ρ w ρe} hI hr=>hd hI (hr x) (FB hr lo) (FB hr hi)),h,λids hi=>dc.refl _ _⟩
  obtain⟨y,M',h,gZ,hd⟩:=axG hX h;exact⟨y,M',gQ.xG (s:=λρe=>Instr.sliceAt t (ρe x) (lo.map ρe) (hi.map ρe) (mx.map ρe)) (iW) (λρe=>mI) (λ{w0 S F ρ w ρe} hI hr=>hd hI ⟨hr x,FB hr lo,FB hr hi,FB hr mx⟩),h,λids hi=>By⟩
 ·rename_i t l c ho;obtain⟨y,M',h,gZ,hd⟩:=avb hX h;exact⟨y,M',gQ.xG (s:=λρe=>Instr.makeSlice t (ρe l) (ρe c)) (iW) (λρe=>mI) (λ{w0 S F ρ w ρe} hI hr=>hd hI ⟨hr l,hr c⟩),h,λids hi=>By⟩
 ·rename_i x i ho;split at h
  ·rename_i vs hx;split at h
   ·rename_i y hy;refine⟨y,M,gQ.oV (s:=λρe=>Instr.extract (ρe x) i) (iW) (λρe=>mI) (λ{w0 S F ρ w ρe} hI hr=> ?_),h,λids hi=>rY⟩;have U:=hr x;rw [hx]at U;generalize ρe x=vx at U;cases U with
    |eV _ us hl hu=>
     have hi:=(fK.1 hy).1;have Hq:us[i]?=some (us[i]'(by omega)):=dy (by omega);refine⟨us[i]'(by omega),?_,hu i y _ hy Hq⟩;unfold Instr.extract;simp only [ZN,Hq,ke]
   ·exact aD
  ·exact aD
 ·rename_i f first gV ho
  refine⟨_,M,gQ.oV (s:=λρe=>Instr.makeFunc (.func f) (first.map ρe) (gV.map ρe)) (iW) (λρe=>mI) (λ{w0 S F ρ w ρe} hI hr=>⟨_,rfl,?_⟩),h,λids hi=>rY⟩;have U:=IL hr first.toList
  have h2:=IL hr gV.toList;have:=a8.eJ (K:=X.K) (ρ:=ρ) (F:=F) (w:=w) f _ _ _ _ U.1 h2.1 U.2 h2.2;have e1:(first.toList.map ρe).toArray =first.map ρe:=yJ
  have e2:(gV.toList.map ρe).toArray =gV.map ρe:=yJ;rw [e1,e2]at this;exact this
 ·rename_i c ho;split at h
  ·rename_i f pq;split at h
   ·rename_i g first gV hf
    obtain⟨x,M',⟨qo,sq⟩,h,gZ⟩:=hT.call h;refine⟨x,M',λ{rd n w0 S F ρ w act next Q} hI hr hn=> ?_,h,λids hi=>gZ ids (by simpa only [sK,ho,pq,hf]using hi)⟩;have U:=hr f;rw [hf]at U;generalize hv:act.eval f=vf at U;cases U with
    |eJ _ _ _ v1 v2 gY ko r1 r2=>
     exact ao8
   ·rename_i id hf;obtain⟨x,M',hy,h⟩:=hT.yield h;replace h:=cO h;obtain⟨aK0,h⟩:=h;refine⟨x,M',λ{rd n w0 S F ρ w act next Q} hI hr hn=> ?_,h,λids hi=>by
     simp only [sK,ho,pq,hf,Option.some.injEq]at hi;subst hi;exact⟨zI aK0,λi hi hn=>absurd (Bf.2 hi) hn⟩⟩
    have U:=hr f;rw [hf]at U;generalize hv:act.eval f=vf at U;cases U with
    |jz _ hd g hid KO=>
     obtain⟨fn,tmps,ag,body,h2,h3⟩:=hy (rd:=rd) (n:=n- 1) hI (IL hr c.args.toList) hid KO;refine⟨λ_ _=>trivial,?_⟩;rw [R9 _ _ _ (iW)];have du:(execOp act.eval o).run X.P w= .ok (.round g fn tmps ag body) w:=by
      simp only [execOp,ho,resolve,pq,hv,Deferred.ofValue,gh,ke,iV,invoke];have e1: #[]++c.args.map act.eval=(c.args.toList.map act.eval).toArray :=yJ;rw [e1];exact h2
     rw [du];refine⟨λhd=>by simp [nK,Fence.wide]at hd,?_⟩;refine h3.mono ?_;rintro en w' ⟨v,ρ',F',rfl,h4,h5,h6⟩;exact hn v w' ρ' F' h4 h5 h6
   ·exact aD
  ·rename_i pq;split at h
   ·rename_i t x ht hx;have e1:c.argTypes= #[t]:=by apply xF;simpa using ht
    have e2:c.args= #[x]:=SZ;obtain⟨y,h,hd⟩:=ayK (ty:=o.type) hX h;exact⟨y,M,gQ.oV (s:=λρe=>Builtin.len_ #[t] o.type #[ρe x]) (iW) (λρe=>akl) (λ{w0 S F ρ w ρe} hI hr=>hd hI (hr x)),h,λids hi=>aaU⟩
   ·exact aD
  ·rename_i pq;obtain⟨y,h,hd⟩:=azQ (P:=X.P) (K:=X.K) h;refine⟨y,M,gQ.oV (s:=λρe=>Builtin.min_ c.argTypes o.type (c.args.map ρe)) (iW) (λρe=>aj6) (λ{w0 S F ρ w ρe} hI hr=> ?_),h,λids hi=>aaU⟩;have e1:c.args.map ρe=(c.args.toList.map ρe).toArray :=yJ;rw [e1];exact hd _ _ (IL hr _)
  ·rename_i pq;obtain⟨y,h,hd⟩:=azR (P:=X.P) (K:=X.K) h;refine⟨y,M,gQ.oV (s:=λρe=>Builtin.max_ c.argTypes o.type (c.args.map ρe)) (iW) (λρe=>aj6) (λ{w0 S F ρ w ρe} hI hr=> ?_),h,λids hi=>aaU⟩;have e1:c.args.map ρe=(c.args.toList.map ρe).toArray :=yJ;rw [e1];exact hd _ _ (IL hr _)
  ·rename_i pq;split at h
   ·rename_i s x hx;have e2:c.args= #[s,x]:=SZ;obtain⟨y,M',h,gZ,hd⟩:=aw8 (ty:=o.type) hX h;refine⟨y,M',gQ.xG (s:=λρe=>Builtin.append_ c.argTypes o.type #[ρe s,ρe x]) (iW) (λρe=>Tr) (λ{w0 S F ρ w ρe} hI hr=> ?_),h,λids hi=>abk⟩;have:=hd hI ⟨hr s,hr x⟩;exact sI
   ·exact aD
  ·rename_i pq;split at h
   ·rename_i s x hx;have e2:c.args= #[s,x]:=SZ;obtain⟨y,M',h,gZ,hd⟩:=ayh (ty:=o.type) hX h;refine⟨y,M',gQ.xG (s:=λρe=>Builtin.copy_ c.argTypes o.type #[ρe s,ρe x]) (iW) (λρe=>Tr) (λ{w0 S F ρ w ρe} hI hr=> ?_),h,λids hi=>abk⟩;have:=hd hI ⟨hr s,hr x⟩;exact sI
   ·exact aD
  ·rename_i pq;split at h
   ·rename_i s hx;have e2:c.args= #[s]:=SZ;obtain⟨y,M',h,gZ,hd⟩:=axJ (ty:=o.type) hX h;refine⟨y,M',gQ.xG (s:=λρe=>Builtin.clear_ c.argTypes o.type #[ρe s]) (iW) (λρe=>Tr) (λ{w0 S F ρ w ρe} hI hr=> ?_),h,λids hi=>abk⟩;have:=hd hI (hr s);exact sI
   ·exact aD
  ·exact aD
 ·rename_i t r' ho;split at h
  ·obtain⟨x,M',h,gZ,hd⟩:=awC hX h;exact⟨x,M',gQ.xG (s:=λ_=>Instr.makeMap t none) (iW) (λρe=>mI) (λ{w0 S F ρ w ρe} hI hr=>hd hI trivial),h,λids hi=>By⟩
  ·exact aD
 ·rename_i t x i ok ho;obtain⟨y,h,hd⟩:=aw7 hX h;exact⟨y,M,gQ.oV (s:=λρe=>Instr.lookup t (ρe x) (ρe i) ok) (iW) (λρe=>mI) (λ{w0 S F ρ w ρe} hI hr=>hd hI (hr x) (hr i)),h,λids hi=>rY⟩
 ·rename_i t m i x ho;obtain⟨M',h,gZ,hd⟩:=ae9 hX h;refine⟨_,M',λ{rd n w0 S F ρ w act next Q} hI hr hn=> ?_,h,λids hi=>By⟩;obtain⟨w',F',U,h2,h3⟩:=hd hI (hr m) (hr i) (hr x);refine X5 (iW) (w':=w') ?_ (hn undef w' ρ F' h2 h3 (.eV [] [] rfl (λj x v h _=>gU)));simp [execOp,ho,U]
 ·rename_i t m i x ho;obtain⟨M',h,gZ,hd⟩:=ae9 hX h;refine⟨_,M',λ{rd n w0 S F ρ w act next Q} hI hr hn=> ?_,h,λids hi=>By⟩;obtain⟨w',F',U,h2,h3⟩:=hd hI (hr m) (hr i) (hr x);refine X5 (iW) (w':=w') ?_ (hn undef w' ρ F' h2 h3 (.eV [] [] rfl (λj x v h _=>gU)));simp [execOp,ho,U]
 ·cases h
section
variable {α:Type}
def vT(n:Nat)(k:Nat->Option R):Option R:=match n with|0=>k 0|m+1=>k (Nat.succ m)
def fzI(n:Int)(k:Int->Option R):Option R:=match n with| .ofNat m=>vT m λm=>k (.ofNat m)| .negSucc m=>vT m λm=>k (.negSucc m)
def alV(n:Nat)(k:Nat->Option R):vT n k=k n:=by cases n<;>rfl
def aC5(n:Int)(k:Int->Option R):fzI n k=k n:=by cases n<;>(unfold fzI;exact alV _ λ_=>_)
noncomputable def AO (f:α->(α->Option R)->Option R) (l:List α):(List α->Option R)->Option R:=
 List.rec (motive:=λ_=>(List α->Option R)->Option R) (λk=>k []) (λx _ ih k=>f x λx'=>ih λl'=>k (x'::l')) l
def Bp{f:α->(α->Option R)->Option R}(hf:∀x k,f x k=k x):∀(l:List α) (k:List α->Option R),AO f l k=k l
 | [],_=>rfl
 |x::l,k=>by
  show f x (λx'=>AO f l λl'=>k (x'::l'))=k (x::l);rw [hf,Bp hf l]
def HJ(x:AV)(k:AV->Option R):Option R:=
 match x with
 | .int kd n=>fzI n λn=>k (.int kd n)
 | .bool b=>(match b with|true=>k (.bool true)|false=>k (.bool false))
 | .ptr id i off=>vT id λid=>vT i λi=>vT off λoff=>k (.ptr id i off)
 | .au id=>vT id λid=>k (.au id)
 | .jz id=>vT id λid=>k (.jz id)
 | .mp id=>vT id λid=>k (.mp id)
 | .oy id n=>vT id λid=>vT n λn=>k (.oy id n)
 | .vw id lo n=>vT id λid=>vT lo λlo=>vT n λn=>k (.vw id lo n)
 |x=>k x
def Nj(x:AV)(k:AV->Option R):HJ x k=k x:=by
 cases x<;>simp only [HJ,aC5,alV]
 split<;>rfl
noncomputable def HI (x:AV) (k:AV->Option R):Option R:=
 match x with
 | .agg cs=>AO HJ cs λcs=>k (.agg cs)
 | .eJ f a b=>AO HJ a λa=>AO HJ b λb=>k (.eJ f a b)
 |x=>HJ x k
def Ni(x:AV)(k:AV->Option R):HI x k=k x:=by
 unfold HI;split
 ·exact Bp Nj _ _
 ·rw [Bp Nj,Bp Nj]
 ·exact Nj _ _
noncomputable def zq (x:AV) (k:AV->Option R):Option R:=
 match x with
 | .eV cs=>AO HI cs λcs=>k (.eV cs)
 |x=>HI x k
def abq(x:AV)(k:AV->Option R):zq x k=k x:=by
 unfold zq;split
 ·exact Bp Ni _ _
 ·exact Ni _ _
noncomputable def fzE (e:AV×AV) (k:AV×AV->Option R):Option R:=HJ e.1 λa=>HI e.2 λb=>k (a,b)
def aC6(e:AV×AV)(k:AV×AV->Option R):fzE e k=k e:=by unfold fzE;rw [Nj,Ni]
noncomputable def HH (b:eE) (k:eE->Option R):Option R:=
 match b with
 | .var ks cs=>AO HI cs λcs=>k (.var ks cs)
 | .row t xs=>AO (AO HI) xs λxs=>k (.row t xs)
 | .map kd ag ks es=>AO fzE es λes=>k (.map kd ag ks es)
 |b=>k b
def abp(b:eE)(k:eE->Option R):HH b k=k b:=by
 unfold HH;split
 ·exact Bp Ni _ _
 ·exact Bp (λ_ _=>Bp Ni _ _) _ _
 ·exact Bp aC6 _ _
 ·rfl
noncomputable def Ke (M:aF) (id:Nat) (k:aF->Option R):Option R:=
 List.rec (motive:=λ_=>Nat->(aF->Option R)->Option R) (λ_ k=>k []) (λb tl ih n k=>Nat.rec (motive:=λ_=>Option R) (HH b λb=>k (b::tl)) (λm _=>ih m λl=>k (b::l)) n) M id k
def Z2:∀(M:aF) (id:Nat) (k:aF->Option R),Ke M id k=k M
 | [],_,_=>rfl
 |b::M,0,k=>by
  show(HH b λb=>k (b::M))=_;rw [abp]
 |b::M,n+1,k=>by
  show(Ke M n λl=>k (b::l))=_;rw [Z2 M n]
noncomputable def BA (M:aF) (k:aF->Option R):Option R:=
 List.rec (motive:=λ_=>(aF->Option R)->Option R) (λk=>k []) (λb tl ih k=>List.rec (motive:=λ_=>Option R) (HH b λb=>k [b]) (λ_ _ _=>ih λl=>k (b::l)) tl) M k
def ZB:∀(M:aF) (k:aF->Option R),BA M k=k M
 | [],_=>rfl
 | [b],k=>by
   show(HH b λb=>k [b])=_;rw [abp]
 |b::c::M,k=>by
  show(BA (c::M) λl=>k (b::l))=_;rw [ZB (c::M)]
noncomputable def UA (e:Operand->AV) (o:Oper) (k:AV->aF->Option R) (x:AV) (M:aF):Option R:=
 match o.op with
 | .store _ p _=>(match e p with| .ptr id _ _=>Ke M id λM=>k x M|_=>k x M)
 | .mapUpdate _ m _ _=>(match e m with| .mp id=>Ke M id λM=>k x M|_=>k x M)
 | .insert _ m _ _=>(match e m with| .mp id=>Ke M id λM=>k x M|_=>k x M)
 | .alloc _=>zq x λx=>BA M λM=>k x M
 | .box _ _=>zq x λx=>BA M λM=>k x M
 | .makeSlice _ _ _=>zq x λx=>BA M λM=>k x M
 | .buildSlice _ _ _=>zq x λx=>BA M λM=>k x M
 | .makeMap _ _=>zq x λx=>BA M λM=>k x M
 | .slice _ _ _ _ _=>zq x λx=>BA M λM=>k x M
 | .call c=>(match c.callee with| .value _=>k x M| .builtin .append =>zq x λx=>BA M λM=>k x M|_=>zq x λx=>k x M)
 |_=>zq x λx=>k x M
def aBP(e:Operand->AV)(o:Oper)(k:AV->aF->Option R)(x:AV)(M:aF):UA e o k x M=k x M:=by
 unfold UA;split<;>try (simp only [abq,ZB];done)
 ·exact aaT
 ·exact aaT
 ·exact aaT
 ·split
  ·rfl
  ·simp only [abq,ZB]
  ·exact abq _ _
end
end
end Go.aj
namespace Go.aj
def amE{p:Prop}(h:p:=by
 have nn:=f.u;rw [hu]at nn;have:=f.mi;cases d<;>simp [ph]at nn
 subst nn;exact this):p:=h
def alf{p:Prop}(h:p:=by
 split
 ·split
  ·split
   ·split<;>rfl
   ·rfl
  ·rfl
 ·rfl):p:=h
def akV{p:Prop}(h:p:=by
 injection h with h;subst h;cases h2;cases U;exact key _ rfl rfl rfl):p:=h
def aa1{p:Prop}(h:p:=by apply xF;simpa using ha):p:=h
def akm{p:Prop}(h:p:=by
 rw [ahA,gh,ke,iV];simp [binOp,Op.stringOp]):p:=h
end Go.aj
namespace Go.aj
def pZ:=@Int.toNat_natCast
def RJ:=@Bool.or_false
def ahA:=@Go.eqGuard_at_string
def Rp:=@Go.eqGuard_at_pointer
end Go.aj
namespace Go.aj
open Go
noncomputable section
variable {X:Cx} {R:Type}
variable {w0 w w':World} {S:Sc} {F:bD} {ρ:bJ} {M:aF}
variable{x:AV}{k:AV->aF->Option R}{op:BinOp}{o:Oper}{e:Operand->AV}{P:Program}{r:R}{T:j0 R}{d s t:TypeId}{v:Value}
def AG:List UInt8->List UInt8->Bool
 | [],[]=>true
 |x::xs,y::ys=>Nat.beq x.toNat y.toNat&&AG xs ys
 |_,_=>false
def Nf:∀(a b:List UInt8),AG a b=(a==b)
 | [],[]=>rfl
 | [],_::_=>rfl
 |_::_,[]=>rfl
 |x::xs,y::ys=>by
  have AJ:Nat.beq x.toNat y.toNat=(x==y):=by
   cases h:Nat.beq x.toNat y.toNat with
   |true=>have:=UInt8.toNat_inj.1 (dX h);simp [this]
   |false=>
    have:x≠y:=λe=>by rw [e]at h;simp at h
    simp [this]
  simp only [AG,List.cons_beq_cons,Nf xs ys,AJ]
def JK(op:BinOp)(a b:ByteArray):Option AV:=
 match op with
 | .add =>(match decide (a.data.toList.length+b.data.toList.length<=140737488355328)with|true=>some (.str ⟨⟨a.data.toList++b.data.toList⟩⟩)|false=>none)
 | .eql =>some (.bool (AG a.data.toList b.data.toList))
 | .neq =>some (.bool (!AG a.data.toList b.data.toList))
 |_=>none
def acm(X:Cx)(t:TypeId)(x y:AV):Option Bool:=
 match(X.ti t).ok,(X.ti t).u with
 |true,.ptr e=>
  match x,y with
  | .jh,.jh =>some true
  | .ptr _ _ _,.jh =>some false
  | .kj _ _ _,.jh =>some false
  | .ptr a i o,.ptr b j p=>(match(X.ti e).ok &&(Nat.beq a b&&(Nat.beq i j&&Nat.beq o p))with|true=>some true|false=>none)
  |_,_=>none
 |_,_=>none
def JU(X:Cx)(s d:TypeId):Bool:=match X.ub with|none=>false|some u=>(Nat.beq s u.pt&&Nat.beq d u.up)||(Nat.beq s u.up&&Nat.beq d u.pt)
def acA(X:Cx)(x:AV)(M:aF):Bool:=
 match X.ub with
 |none=>false
 |some u=>match x with
  | .ptr id 0 0=>(match gm M id with|some (.var ks cs)=>decide (ks=u.ks)&& !tF cs|_=>false)
  |_=>false
def isNe(X:Cx)(g:FuncId):Bool:=match X.ub with|none=>false|some u=>Nat.beq g u.ne
def byteOf(row:Row):Option UInt8:=match row with| [.int .u8 (.ofNat n)]=>(match Nat.blt n 256 with|true=>some (UInt8.ofNat n)|false=>none)|_=>none
def bytesOf:Nat->aY->Option (List UInt8)
 |0,_=>some []
 |n+1,row::xs=>(match byteOf row with|some b=>(match bytesOf n xs with|some l=>some (b::l)|none=>none)|none=>none)
 |_+1,[]=>none
def OQ(X:Cx)(e:Operand->AV)(o:Oper):Bool:=
 match o.op with
 | .binOp _ _ x y _=>
   (match e x with
    | .str _=>(match e y with| .str _=>true|_=>false)
    | .jh =>(match e y with| .jh =>true|_=>false)
    | .kj _ _ _=>(match e y with| .jh =>true|_=>false)
    | .ptr _ _ _=>(match e y with| .jh =>true| .ptr _ _ _=>true|_=>false)
    |_=>false)
 | .convert s d _=>JU X s d
 | .slice _ x _ _ _=>(match e x with| .str _=>true|_=>false)
 | .call c=>
   match c.callee with
   | .builtin .unsafeSliceData =>true
   | .builtin .unsafeString =>true
   | .value f=>(match e f with| .eJ g [] []=>isNe X g|_=>false)
   |_=>false
 |_=>false
def strOf:AV->Option ByteArray| .str s=>some s|_=>none
def Yv{s:ByteArray}(h:strOf x=some s):x= .str s:=by
 cases x<;>simp [strOf]at h
 rw [h]
def TX(X:Cx)(op:BinOp)(t:TypeId)(x y:AV):Option AV:=
 match strOf x,strOf y with
 |some a,some b=>JK op a b
 |_,_=>match acm X t x y,op with
  |some b,.eql =>some (.bool b)
  |some b,.neq =>some (.bool (!b))
  |_,_=>none
def anz(X:Cx)(t:TypeId)(x:AV)(lo hi:Option AV):Option AV:=
 match strOf x with
 |some s=>
  (match(X.ti t).ok,(X.ti t).u,oS 0 lo,oS s.data.toList.length hi with
   |true,.str,some l,some h=>(match decide (0<=l)&&decide (l<=h)&&decide (h<=(s.data.toList.length:Int))with
    |true=>some (.str ⟨⟨(s.data.toList.take h.toNat).drop l.toNat⟩⟩)
    |false=>none)
   |_,_,_,_=>none)
 |none=>none
def yY(X:Cx)(e:Operand->AV)(o:Oper)(M:aF):Option (AV×aF):=
 match o.op with
 | .binOp op t x y _=>(match TX X op t (e x) (e y)with|some z=>some (z,M)|none=>none)
 | .convert _ _ x=>(match acA X (e x) M with|true=>some (e x,M)|false=>none)
 | .slice t x lo hi mx=>(match mx,anz X t (e x) (lo.map e) (hi.map e)with|none,some z=>some (z,M)|_,_=>none)
 | .call c=>
   match c.callee with
   | .builtin .unsafeSliceData =>
     (match c.args.toList with
      | [x]=>(match e x with
        | .au id=>(match gm M id with|some (.row _ xs)=>(match decide (0<xs.length)with|true=>some (.ptr id 0 0,M)|false=>none)|_=>none)
        |_=>none)
      |_=>none)
   | .builtin .unsafeString =>
     (match c.argTypes.toList,c.args.toList with
      | [pt,_],[p,n]=>(match e p,e n with
        | .ptr id 0 0,.int .i64 m=>(match gm M id with
          |some (.row t xs)=>(match(X.ti pt).ok,(X.ti pt).u,(X.ti t).ok with
           |true,.ptr t',true=>(match Nat.beq t' t&&Nat.beq (X.ti t).size 1 with
            |true=>(match decide (0<m)with
             |true=>(match bytesOf m.toNat xs with|some l=>some (.str ⟨⟨l⟩⟩,M.set id .dead)|none=>none)
             |false=>none)
            |false=>none)
           |_,_,_=>none)
          |_=>none)
        |_,_=>none)
      |_,_=>none)
   | .value f=>(match e f with| .eJ g [] []=>(match isNe X g,c.args.toList with|true,[x]=>some (e x,M)|_,_=>none)|_=>none)
   |_=>none
 |_=>none
def ay6{row:Row}{b:UInt8}(h:byteOf row=some b):row=[.int .u8 b.toNat]:=by
 unfold byteOf at h;split at h
 ·rename_i n;split at h
  ·rename_i hn;have:n<256:=by simpa [Nat.blt_eq]using hn
   injection h with h;subst h;have e:(UInt8.ofNat n).toNat =n:=fB;rw [e];rfl
  ·exact aD
 ·exact aD
def ags:∀{n:Nat} {xs:aY} {l:List UInt8},bytesOf n xs=some l->l.length=n/\∀(j:Nat) b,l[j]?=some b->xs[j]?=some [.int .u8 b.toNat]
 |0,_,l,h=>by
  simp only [bytesOf,Option.some.injEq]at h;subst h;exact⟨rfl,λj b h=>gU⟩
 |n+1,[],l,h=>by simp [bytesOf]at h
 |n+1,row::xs,l,h=>by
  simp only [bytesOf]at h;split at h
  ·rename_i b hb;split at h
   ·rename_i l' hl;injection h with h;subst h;obtain⟨U,h2⟩:=ags hl;refine⟨by simp [U],λj b' hj=> ?_⟩;cases j with
    |zero=>simp only [Ms,Option.some.injEq]at hj⊢;subst hj;exact ay6 hb
    |succ j=>simp only [ahE]at hj⊢;exact h2 j b' hj
   ·exact aD
  ·exact aD
def aAj{a b:ByteArray}{z:AV}(h:JK op a b=some z)(x y:Operand)(w:World):
 ∃v,(do eqGuard op t x y (.string a) (.string b);binOp op t (.string a) (.string b):Sem Value).run X.P w= .ok v w/\a8 X.K ρ F w z v:=by
 have tl:∀s:ByteArray,s.toList=s.data.toList:=λs=>ByteArray.toList_eq s;unfold JK at h;split at h
 ·split at h
  ·rename_i hl;injection h with h;subst h;have hs:a.size+b.size<=9223372036854775807:=by
    have:=yy hl;simp only [qQ]at this;show a.data.size+b.data.size<=_;omega
   refine⟨.string (a++b),?_,?_⟩
   ·rw [ahA,gh,ke,iV];show(Op.stringOp .add a b).run X.P w=_;exact run_string_add_sum w a b hs
   ·have:(a++b)=⟨⟨a.data.toList++b.data.toList⟩⟩:=by
     apply ByteArray.ext;apply xF;simp
    rw [this];exact .str _
  ·exact aD
 ·injection h with h;subst h;refine⟨.bool (a.toList==b.toList),?_,by rw [Nf,tl,tl];exact .bool _⟩;exact akm
 ·injection h with h;subst h;refine⟨.bool (!(a.toList==b.toList)),?_,by rw [Nf,tl,tl];exact .bool _⟩;exact akm
 ·cases h
def ahV(hX:X.Okb){p q:AV}{b:Bool}(h:acm X t p q=some b){u:Value}(U:a8 X.K ρ F w p v)(h2:a8 X.K ρ F w q u)(x y:Operand):
 (op= .eql ->(do eqGuard op t x y v u;binOp op t v u:Sem Value).run X.P w= .ok (.bool b) w)/\(op= .neq ->(do eqGuard op t x y v u;binOp op t v u:Sem Value).run X.P w= .ok (.bool (!b)) w):=by
 unfold acm at h;split at h
 ·rename_i e bB hu;obtain⟨i,d,z,f⟩:=hX.facts bB;have dN:X.P.underlying t=some (.pointer e):=amE;have hpt:X.P.underlying t=some (.pointer (X.P.pointee t)):=by
   rw [dN];simp [Program.pointee,dN]
  have key:∀(p:Option Addr),v= .pointer p->u= .pointer none->p.isNone=b->(op= .eql ->(do eqGuard op t x y v u;binOp op t v u:Sem Value).run X.P w= .ok (.bool b) w)/\(op= .neq ->(do eqGuard op t x y v u;binOp op t v u:Sem Value).run X.P w= .ok (.bool (!b)) w):=by
   rintro p rfl rfl rfl;constructor
   ·rintro rfl;rw [Rp,gh,ke,iV];exact run_eql_pointer_nil w t p hpt
   ·rintro rfl;rw [Rp,gh,ke,iV];exact run_neq_pointer_nil w t p hpt
  split at h
  ·injection h with h;subst h;cases U;cases h2;exact key _ rfl rfl rfl
  ·exact akV
  ·exact akV
  ·rename_i a i' o b' j p';split at h
   ·rename_i hb;injection h with h;subst h;simp only [bw]at hb;obtain⟨he,e1,e2,e3⟩:=hb;have e1:=dX e1;have e2:=dX e2;have e3:=dX e3;subst e1;subst e2;subst e3;obtain⟨i2,d2,z2,f2⟩:=hX.facts he;cases U with
    |ptr _ _ _ hd g o' n c hid hv=>
     cases h2 with
     |ptr _ _ _ oR g2 o2 n2 c2 Ka mv=>
      rw [hid]at Ka;injection Ka with Ka;subst Ka;rw [hv]at mv;injection mv with q1 q2 q3;injection q1 with q1;injection q1 with q4 q5 q6;subst q4;subst q5;constructor
      ·rintro rfl;rw [Rp,gh,ke,iV];exact run_eql_ptr_same w _ dN f2.info
      ·rintro rfl;rw [Rp,gh,ke,iV];exact Lib.run_neq_ptr_same w _ dN f2.info
   ·exact aD
  ·exact aD
 ·cases h
def ayD{e:TypeId}(hc:P.cellsOf e=1)(count off n:Nat)(hn:off+n<=count):liesAt P P.depth e count off e n=true:=by
 have hd:P.depth=(2*(P.types.size+Made.depth)+1)+1:=rfl;rw [hd];simp only [liesAt,A8];left;rw [hd];simp [rowAt,hc,hn,sameLayout,Nat.mod_one]
def atQ{w:World}(pt it ty e:TypeId)(hp:P.underlying pt=some (.pointer e))(hc:P.cellsOf e=1)(g o cells:Nat)(Cj:w.shape? g=some (e,cells))(l:List UInt8)(h0:l≠ [])(hn:o+l.length<=cells)(h63:l.length<=9223372036854775807)
 (sN:∀j x,l[j]?=some x->w.cell? ((⟨g,o,none⟩:Addr).add j)=some (.int .u8 x.toNat)):
 (Builtin.unsafeString_ #[pt,it] ty #[.pointer (some ⟨g,o,none⟩),.int .i64 l.length]).run P w= .ok (.string ⟨l.toArray⟩) (w.freeze ⟨g,o,none⟩ l.length):=by
 have hl:l.length≠0:=by simpa using h0
 have hlb:=Lib.run_loadBytes (P:=P) w l ⟨g,o,none⟩ .empty sN;have aEt:=ayD (P:=P) hc (cells/P.cellsOf e) o l.length (by rw [hc];simpa using hn);have adg:¬(9223372036854775807:Int)<(l.length:Int):=by omega
 have mB:IntKind.i64.max=9223372036854775807:=rfl;have aKL:¬(l.length:Int)<0:=by omega
 change (asInt (.int .i64 l.length)>>= _).run P w=_
 simp [asInt,asIntOf,mB,adg,aKL,hl,variablesAt,Cj,elemOf,k7 hp,aEt,hlb]
def aw6(w:World)(g o n:Nat):w.grownBy (w.freeze ⟨g,o,none⟩ n) (some g):=by
 unfold World.freeze;split
 ·exact⟨rfl,rfl,rfl,iZ _,λ_ _ _=>rfl⟩
 ·refine⟨rfl,rfl,rfl,by simp,λk hk eY=> ?_⟩;have:k≠g:=λe=>eY (by rw [e]);simp [R5,Ne.symm this]
def ay9{w:World}(dN:P.underlying t=some .string)(s:ByteArray){lo hi:Option AV}{vl vh:Option Value}{K:TypeId->er}(U:tG K ρ F w lo vl)(h2:tG K ρ F w hi vh){l h:Int}(e1:oS 0 lo=some l)(e2:oS s.data.toList.length hi=some h)
 (b1:0<=l) (b2:l<=h) (b3:h<=s.data.toList.length):(Instr.sliceAt t (.string s) vl vh none).run P w= .ok (.string ⟨⟨(s.data.toList.take h.toNat).drop l.toNat⟩⟩) w:=by
 obtain⟨ln,rfl⟩:=C7 b1;obtain⟨hn,rfl⟩:=C7 (show 0<=h by omega);have bound:∀(o:Option AV) (v:Option Value) (d:Int) (n:Nat),tG K ρ F w o v->oS d o=some (n:Int)->(o=none/\v=none/\d=n)∨∃kd,v=some (.int kd n)/\o.isSome=true:=am0;have hu:∀w,(underlying t).run P w= .ok .string w:=λw=>k7 dN w;have eX:s.size=s.data.toList.length:=by rw [qQ];rfl
 have hs:∀a b:Nat,b<=s.size->s.extract a b=⟨⟨(s.data.toList.take b).drop a⟩⟩:=by
  intro a b hb;apply ByteArray.ext;rw [ByteArray.data_extract];apply xF;rw [Array.toList_extract,List.extract_eq_drop_take];rw [List.drop_take]
 have GN:(⟨⟨(s.data.toList.take hn).drop ln⟩⟩:ByteArray)=s.extract ln hn:=(hs ln hn (by omega)).symm;simp only [pZ];rw [GN];rcases bound lo vl 0 ln U e1 with⟨o1,rfl,d1⟩|⟨k1,rfl,s1⟩<;>rcases bound hi vh s.data.toList.length hn h2 e2 with⟨o2,rfl,d2⟩|⟨k2,rfl,s2⟩
 ·have e0:ln=0:=by omega
  have HM:hn=s.size:=by omega
  subst e0;subst HM;simp [Instr.sliceAt,Instr.slice,hu,Instr.sliceBounds]
 ·have e0:ln=0:=by omega
  subst e0;have:hn<=s.size:=by omega
  simp [Instr.sliceAt,Instr.slice,hu,Instr.sliceBounds,Instr.sliceBound,asIntOf,this]
 ·have HM:hn=s.size:=by omega
  subst HM;have U:ln<=s.size:=by omega
  simp [Instr.sliceAt,Instr.slice,hu,Instr.sliceBounds,Instr.sliceBound,asIntOf,U]
 ·have U:ln<=hn:=by omega
  have h2:hn<=s.size:=by omega
  simp [Instr.sliceAt,Instr.slice,hu,Instr.sliceBounds,Instr.sliceBound,asIntOf,U,h2]
def azC(h:JU X s d=true):∃u,X.ub=some u/\(s=u.pt/\d=u.up∨s=u.up/\d=u.pt):=by
 unfold JU at h;split at h
 ·exact aD
 ·rename_i u hu;rw [A8,bw,bw]at h;rcases h with⟨a,b⟩|⟨a,b⟩
  ·exact⟨u,hu,.inl ⟨dX a,dX b⟩⟩
  ·exact⟨u,hu,.inr ⟨dX a,dX b⟩⟩
def az8(hX:X.Okb)(hty:JU X s d=true)(h:acA X x M=true)(hI:Inv X w0 S F ρ M w)(hv:a8 X.K ρ F w x v):(convert s d v).run X.P w= .ok v w:=by
 obtain⟨u,hu,hsd⟩:=azC hty;have bB:=hX.ub u hu;unfold acA at h;rw [hu]at h;simp only at h;split at h
 ·rename_i id;split at h
  ·rename_i ks cs hb;rw [fR]at hb;rw [bw]at h;have lN:=yy h.1;have yk:tF cs=false:=by simpa using h.2
   cases hv with
   |ptr _ _ _ hd g o n c hid hhv=>
    obtain⟨hk,g',cur,e,ig,eX,hg,hr,hc,hy⟩:=hI.YL hb hid;rw [hhv]at ig;injection ig with e1 e2 e3;injection e1 with e1;injection e1 with e1 e4 e5;subst e1;subst e4;have hye:e=u.e:=by
     unfold Cx.yc at hy;rw [hu,yk]at hy;simp only [lN,decide_true,RJ]at hy;exact dX hy
    subst hye;have aKC:cur.size=u.ks.length:=by
     have U:=hr.1;simp only [qQ]at U;rw [U,kS hk,lN]
    have Cj:w.shape? g=some (u.e,u.ks.length):=by simp [World.shape?,hg,aKC]
    obtain⟨j,hj,Vk⟩:=bB.bt;have e0:(⟨g,0+0*hd.sz+0,none⟩:Addr)=⟨g,0,none⟩:=by simp
    rw [e0];rcases hsd with⟨rfl,rfl⟩|⟨rfl,rfl⟩
    ·exact Lib.run_to_unsafe w ⟨g,0,none⟩ bB.pt bB.up hj Vk Cj bB.ks
    ·exact Lib.run_from_unsafe w ⟨g,0,none⟩ bB.up bB.pt hj Cj bB.aKk
  ·exact aD
 ·exact aD
def azz(hX:X.Okb){M':aF}(hi:OQ X e o=true)(h:yY X e o M=some (x,M')):
 gQ X o e M x M'/\∀ids,sK T e o M=some ids->dc ids M M':=by
 unfold yY at h;split at h
 ·rename_i op t a b u ho;refine⟨?_,λids hid=>by simp [sK,ho]at hid⟩;split at h
  ·rename_i z hz;injection h with h;injection h with h3 h4;subst h3;subst h4;intro rd n w0 S F ρ w act next Q hI hr hn;refine gQ.oV (o:=o) (e:=e) (x:=z) (M:=M) (s:=λρe=>(do eqGuard op t a b (ρe a) (ρe b);binOp op t (ρe a) (ρe b))) (iW) (λρe=>mI) (λ{w0 S F ρ w ρe} hI hr=> ?_) hI hr hn;unfold TX at hz;split at hz
   ·rename_i s1 s2 U h2;have r1:=hr a;have r2:=hr b;rw [Yv U]at r1;rw [Yv h2]at r2;generalize ρe a=va at r1;generalize ρe b=vb at r2;cases r1;cases r2;exact aAj hz a b w
   ·split at hz
    ·rename_i bb hb;injection hz with hz;subst hz;exact⟨_,(ahV hX (op:= .eql) hb (hr a) (hr b) a b).1 rfl,.bool _⟩
    ·rename_i bb hb;injection hz with hz;subst hz;exact⟨_,(ahV hX (op:= .neq) hb (hr a) (hr b) a b).2 rfl,.bool _⟩
    ·cases hz
  ·exact aD
 ·rename_i s d a ho;refine⟨?_,λids hid=>by simp [sK,ho]at hid⟩;split at h
  ·rename_i fX;injection h with h;injection h with h3 h4;subst h3;subst h4;have hty:JU X s d=true:=by
    unfold OQ at hi;simp only [ho]at hi;exact hi
   intro rd n w0 S F ρ w act next Q hI hr hn;refine gQ.oV (o:=o) (e:=e) (x:=e a) (M:=M) (s:=λρe=>convert s d (ρe a)) (iW) (λρe=>mI) (λ{w0 S F ρ w ρe} hI hr=> ?_) hI hr hn;exact⟨_,az8 hX hty fX hI (hr a),hr a⟩
  ·exact aD
 ·rename_i t a lo zk mx ho;split at h
  ·rename_i z hz;injection h with h;injection h with h3 h4;subst h3;subst h4;refine⟨?_,λids hid=>dc.refl _ _⟩;unfold anz at hz;split at hz
   ·rename_i s hs;split at hz
    ·rename_i l hh bB hu e1 e2;split at hz
     ·rename_i hb;injection hz with hz;subst hz;simp only [bw,gG]at hb;obtain⟨⟨b1,b2⟩,b3⟩:=hb;obtain⟨i,d,z,f⟩:=hX.facts bB;have dN:X.P.underlying t=some .string :=by
       have nn:=f.u;rw [hu]at nn;have:=f.mi;cases d<;>simp [ph]at nn
       exact this
      intro rd n w0 S F ρ w act next Q hI hr hn;refine gQ.oV (o:=o) (e:=e) (M:=M) (x:= .str ⟨⟨(s.data.toList.take hh.toNat).drop l.toNat⟩⟩) (s:=λρe=>Instr.sliceAt t (ρe a) (lo.map ρe) (zk.map ρe) none) (iW) (λρe=>mI) (λ{w0 S F ρ w ρe} hI hr=> ?_) hI hr hn;have r1:=hr a;rw [Yv hs]at r1;generalize ρe a=va at r1;cases r1;exact⟨_,ay9 dN s (FB hr lo) (FB hr zk) e1 e2 b1 b2 b3,.str _⟩
     ·cases hz
    ·cases hz
   ·cases hz
  ·exact aD
 ·rename_i c ho;split at h
  ·rename_i pq;split at h
   ·rename_i a ha;split at h
    ·rename_i id hid;split at h
     ·rename_i t xs hb;split at h
      ·rename_i AK;have AK:=yy AK;injection h with h;injection h with h3 h4;subst h3;subst h4;rw [fR]at hb;have e2:c.args= #[a]:=aa1;refine⟨gQ.oV (s:=λρe=>Builtin.unsafeSliceData_ c.argTypes o.type #[ρe a]) (iW) (λρe=>Tr) (λ{w0 S F ρ w ρe} hI hr=> ?_),λids hid=>dc.refl _ _⟩;have r1:=hr a;rw [hid]at r1;generalize ρe a=va at r1;cases r1 with
       |au _ hd hh=>
        obtain⟨q1,q2,q3⟩:=hI.rep id _ hd hb hh;rcases q3 with⟨_,q4⟩|⟨g,o',c',cur,q3,hg,q4,q5,q6,q7⟩
        ·subst q4;simp at AK
        ·rw [q3];refine⟨.pointer (some ⟨g,o',none⟩),Lib.run_unsafeSliceData_row w _ _ _ _ _ (by omega),?_⟩;have:=a8.ptr (K:=X.K) (F:=F) (w:=w) id 0 0 hd g o' _ _ hh q3;exact sI
      ·exact aD
     ·exact aD
    ·exact aD
   ·exact aD
  ·rename_i pq;split at h
   ·rename_i pt it p n ht ha;split at h
    ·rename_i id m hp hn;split at h
     ·rename_i t xs hb;split at h
      ·rename_i t' bB hu BP;split at h
       ·rename_i hc;split at h
        case h_2=>cases h
        rename_i c3;have c3:0<m:=yy c3;obtain⟨m,rfl⟩:∃j:Nat,m=(j:Int):=⟨m.toNat,by omega⟩;rw [pZ]at h;have c3:0<m:=by omega
        split at h
        ·rename_i l hl;injection h with h;injection h with h3 h4;subst h3;subst h4;rw [fR]at hb;simp only [bw]at hc;obtain⟨c1,c2⟩:=hc;have c1:=dX c1;subst c1;have c2:=dX c2;obtain⟨l1,l2⟩:=ags hl;have e1:c.argTypes= #[pt,it]:=by apply xF;simpa using ht
         have e2:c.args= #[p,n]:=aa1;obtain⟨i,d,z,f⟩:=hX.facts bB;obtain⟨i2,d2,z2,f2⟩:=hX.facts BP;have dN:X.P.underlying pt=some (.pointer t'):=amE;have Nh:X.P.cellsOf t'=1:=by
          have U:=f2.size;rw [c2]at U;simp [Program.cellsOf,f2.info,<-U]
         refine⟨gQ.xG (s:=λρe=>Builtin.unsafeString_ #[pt,it] o.type #[ρe p,ρe n]) (iW) (λρe=>akl) (λ{w0 S F ρ w ρe} hI hr=> ?_),λids hid=> ?_⟩
         ·have r1:=hr p;have r2:=hr n;rw [hp]at r1;rw [hn]at r2;generalize ρe p=vp at r1;generalize ρe n=vn at r2;cases r2;cases r1 with
          |ptr _ _ _ hd g0 o0 n0 c0 hh hv=>
           obtain⟨q1,q2,q3⟩:=hI.rep id _ hd hb hh;rcases q3 with⟨q3,_⟩|⟨g,o',c',cur,q3,hg,q4,q5,q6,q7⟩
           ·rw [hv]at q3;cases q3
           ·have q3':=q3;rw [hv]at q3';injection q3' with k1 k2 k3;injection k1 with k1;injection k1 with k4 k5 k6;subst k4;subst k5;subst k3;have eX:hd.sz=1:=by
             rw [q1];show(X.K t').length =1;have:(X.K t').length =i2.size:=f2.ks;rw [this,<-f2.size,c2]
            rw [eX]at q6 q7;have hm:m<=xs.length:=by
             have:=(fK.1 (l2 (m- 1) (l[m- 1]'(by omega)) (dy (by omega)))).1;omega
            have Cj:w.shape? g0=some (t',cur.size):=by simp [World.shape?,hg]
            have sN:∀j x,l[j]?=some x->w.cell? ((⟨g0,o0,none⟩:Addr).add j)=some (.int .u8 x.toNat):=by
             intro j x hj;obtain⟨v,ze,mv⟩:=q7 j _ (l2 j x hj) 0 _ rfl;cases mv;rw [sC,cell_of_row w g0 (o0+j) cur _ (0,0) hg];simpa using ze
            have du:=atQ (P:=X.P) (w:=w) pt it o.type t' dN Nh g0 o0 cur.size Cj l (λe=>by rw [e]at l1;simp at l1;omega) (by omega) (by have:=q5;unfold maxLen at this;omega) sN;have dQ:hd.fj=some g0:=qZ;have lP:=aw6 w g0 o0 l.length;have Pb:∀a,F a->a.block≠g0:=(hI.sep id _ hd g0 hb rfl hh dQ).2.2;refine⟨.string ⟨l.toArray⟩,w.freeze ⟨g0,o0,none⟩ l.length,ρ,F,?_,hI.write hb rfl hh dQ lP trivial,⟨λ_ h=>h,λ_ _ h=>h,hI.Ap lP (λk hk a ha=>Nz)⟩,.str _⟩;rw [<-l1];simpa using du
         ·simp only [sK,ho,pq]at hid;rw [ha]at hid;simp only [Option.some.injEq]at hid;subst hid;rw [hp];exact dc.set _ _ _
        ·exact aD
       ·exact aD
      ·exact aD
     ·exact aD
    ·exact aD
   ·exact aD
  ·rename_i f pq;split at h
   ·rename_i g hf;split at h
    ·rename_i a eY ha;injection h with h;injection h with h3 h4;subst h3;subst h4;refine⟨?_,λids hid=>dc.refl _ _⟩;unfold isNe at eY;split at eY
     ·cases eY
     ·rename_i u EL;have hg:=dX eY;subst hg;obtain⟨fn,f1,f2,f3,f4,f5⟩:=(hX.ub u EL).ne;have e2:c.args= #[a]:=aa1;intro rd n w0 S F ρ w act next Q hI hr hn;have U:=hr f;rw [hf]at U;generalize hv:act.eval f=vf at U;cases U with
      |eJ _ _ _ v1 v2 gY ko r1 r2=>
       have ze:v1=[]:=by simpa using gY
       have mv:v2=[]:=by simpa using ko
       subst ze;subst mv;refine CO (iW) (v:=act.eval a) (w':=w) ?_ (hn _ w ρ F hI (Grow.refl _ _ _) (hr a));simp only [execOp,ho,resolve,pq,hv,Deferred.ofValue,gh,ke,iV,invoke,e2];have e1:(#[]:Array Value)++ #[a].map act.eval++ #[]= #[act.eval a]:=by simp
       have h5:=run_callFunc_extern f1 f2 f3 f4 f5 #[act.eval a] w;rw [Lib.run_noEscape,iV]at h5;rw [e1];exact h5
    ·exact aD
   ·exact aD
  ·exact aD
 ·cases h
def ack(X:Cx)(e:Operand->AV)(o:Oper)(M:aF)(k:AV->aF->Option R):Option R:=
 match o.op with
 | .binOp op t x y _=>
   (match strOf (e x),strOf (e y),op with
    |some a,some b,.add =>(match decide (a.data.toList.length+b.data.toList.length<=140737488355328)with|true=>k (.str ⟨⟨a.data.toList++b.data.toList⟩⟩) M|false=>none)
    |some a,some b,.eql =>k (.bool (AG a.data.toList b.data.toList)) M
    |some a,some b,.neq =>k (.bool (!AG a.data.toList b.data.toList)) M
    |_,_,_=>(match TX X op t (e x) (e y)with|some z=>k z M|none=>none))
 | .call c=>
   match c.callee with
   | .builtin .unsafeSliceData =>
     (match c.args.toList with
      | [x]=>(match e x with
        | .au id=>(match gm M id with|some (.row _ xs)=>(match decide (0<xs.length)with|true=>k (.ptr id 0 0) M|false=>none)|_=>none)
        |_=>none)
      |_=>none)
   | .builtin .unsafeString =>
     (match c.argTypes.toList,c.args.toList with
      | [pt,_],[p,n]=>(match e p,e n with
        | .ptr id 0 0,.int .i64 m=>(match gm M id with
          |some (.row t xs)=>(match(X.ti pt).ok,(X.ti pt).u,(X.ti t).ok with
           |true,.ptr t',true=>(match Nat.beq t' t&&Nat.beq (X.ti t).size 1 with
            |true=>(match decide (0<m)with
             |true=>(match bytesOf m.toNat xs with|some l=>k (.str ⟨⟨l⟩⟩) (M.set id .dead)|none=>none)
             |false=>none)
            |false=>none)
           |_,_,_=>none)
          |_=>none)
        |_,_=>none)
      |_,_=>none)
   |_=>(match yY X e o M with|some (x,M')=>k x M'|none=>none)
 |_=>(match yY X e o M with|some (x,M')=>k x M'|none=>none)
def ZQ(X:Cx)(e:Operand->AV)(o:Oper)(M:aF)(k:AV->aF->Option R):ack X e o M k=(match yY X e o M with|some (x,M')=>k x M'|none=>none):=by
 unfold ack;split
 ·rename_i op t x y g ho;simp only [yY,ho,TX];split
  ·rename_i a b U h2;simp only [U,h2,JK];split<;>rfl
  ·rename_i a b U h2;simp only [U,h2,JK]
  ·rename_i a b U h2;simp only [U,h2,JK]
  ·rename_i hn;split<;>rfl
 ·rename_i c ho;split
  ·rename_i hc;simp only [yY,ho,hc];exact alf
  ·rename_i hc;simp only [yY,ho,hc];split
   ·split
    ·split
     ·exact alf
     ·rfl
    ·rfl
   ·rfl
  ·rfl
 ·rfl
noncomputable def Ab (X:Cx) (T:j0 R) (e:Operand->AV) (o:Oper) (M:aF) (k:AV->aF->Option R):Option R:=
 match OQ X e o with
 |true=>ack X e o M k
 |false=>sO X T e o M k
noncomputable def vH (X:Cx) (T:j0 R) (e:Operand->AV) (o:Oper) (M:aF) (k:AV->aF->Option R):Option R:=
 match X.pk with
 |true=>Ab X T e o M k
 |false=>Ab X T e o M (UA e o k)
def Z4(X:Cx)(T:j0 R)(e:Operand->AV)(o:Oper)(M:aF)(k:AV->aF->Option R):vH X T e o M k=Ab X T e o M k:=by
 unfold vH;split
 ·rfl
 ·rw [show UA e o k=k from funext λx=>funext λM=>aBP e o k x M]
def ayJ(hX:X.Okb)(hT:T.qV X)(h:Ab X T e o M k=some r):
 ∃x M',gQ X o e M x M'/\k x M'=some r/\∀ids,sK T e o M=some ids->dc ids M M':=by
 unfold Ab at h;split at h
 ·rename_i hi;rw [ZQ]at h;split at h
  ·rename_i x M' hx;obtain⟨U,h2⟩:=azz (T:=T) hX hi hx;exact⟨x,M',@U,h,h2⟩
  ·exact aD
 ·exact agJ hX hT h
def Mj(hX:X.Okb)(hT:T.qV X)(h:vH X T e o M k=some r):
 ∃x M',gQ X o e M x M'/\k x M'=some r/\∀ids,sK T e o M=some ids->dc ids M M':=ayJ hX hT (by rwa [Z4]at h)
end
end Go.aj
namespace Go.aj
def akr{p:Prop}(h:p:=by
 intro a v e hc;subst e;simp [World.cell?,h]at hc):p:=h
end Go.aj
namespace Go.aj
open Go
noncomputable section
variable {X:Cx} {R:Type}
variable{D:Nat}{w:World}
def less(F:bD)(D:Nat)(a:Addr):Prop:=F a/\a.block≠D
def a8.shrink{K:TypeId->er}{ρ:bJ}{F:bD}(hD:∀a v,a.block=D->w.cell? a≠some v){x:AV}{v:Value}(h:a8 K ρ F w x v):a8 K ρ (less F D) w x v:=by
 induction h with
 |top v=>exact .top v
 |int k n=>exact .int k n
 |bool b=>exact .bool b
 |str s=>exact .str s
 |agg cs vs hl _ ih=>exact .agg cs vs hl ih
 |eV cs vs hl _ ih=>exact .eV cs vs hl ih
 |jh=>exact .jh
 |kj t row off a vs hk hl hc _ ih=>exact .kj t row off a vs hk hl (λj v hv=>⟨(hc j v hv).1,(hc j v hv).2,λe=>hD _ v e (hc j v hv).1⟩) ih
 |ptr id i off hd g o n c hid hv=>exact .ptr id i off hd g o n c hid hv
 |ng t=>exact .ng t
 |ae t xs a cap vss hl nA mB hk hc _ ih=>
  exact .ae t xs a cap vss hl nA mB hk (λi vs gj=>⟨(hc i vs gj).1,λj v hv=>⟨((hc i vs gj).2 j v hv).1,((hc i vs gj).2 j v hv).2,λe=>hD _ v e ((hc i vs gj).2 j v hv).1⟩⟩) ih
 |au id hd hid=>exact .au id hd hid
 |jI=>exact .jI
 |eJ f first gV vf vc hf hc _ _ nG mu=>exact .eJ f first gV vf vc hf hc nG mu
 |nw=>exact .nw
 |jz id hd g hid hv=>exact .jz id hd g hid hv
 |mp id hd hid=>exact .mp id hd hid
 |pI=>exact .pI
 |oy id m hd g o n c cap hid hv=>exact .oy id m hd g o n c cap hid hv
 |vw id lo m hd g o n c cap hid hv hc hb=>exact .vw id lo m hd g o n c cap hid hv hc hb
 |yb id lo=>exact .yb id lo
 |ya id lo a cap=>exact .ya id lo a cap
 |mS a cap=>exact .mS a cap
def LL{lp:Loop}(h:w.heap[D]?=some (.loop lp)):∀(a:Addr) v,a.block=D->w.cell? a≠some v:=akr
def aut{ds:Option (List Deferred)}(h:w.heap[D]?=some (.deferred ds)):∀(a:Addr) v,a.block=D->w.cell? a≠some v:=akr
def ay1{o:Obj}{a:Addr}(h:a.block≠D):(w.putObj D o).cell? a=w.cell? a:=by
 unfold World.cell?;rw [uk h]
def a8.less{K:TypeId->er}{ρ:bJ}{F:bD}{w:World}{D:Nat}(hD:∀a v,a.block=D->w.cell? a≠some v)(o:Obj){x:AV}{v:Value}(h:a8 K ρ F w x v):a8 K ρ (less F D) (w.putObj D o) x v:=
 (h.shrink hD).mono (λ_ _ h=>h) (λ_ h=>h) (λa v ha hc=>by rw [ay1 ha.2];exact hc)
def k8.less{ρ:bJ}{F:bD}{w:World}{D:Nat}(hD:∀a v,a.block=D->w.cell? a≠some v)(o:Obj){env:bL}{tmps:Array Value}(h:k8 X ρ F w env tmps):k8 X ρ (less F D) (w.putObj D o) env tmps:=
 λt=>(h t).less hD o
def n6.less{ρ:bJ}{F:bD}{w:World}{D:Nat}(hD:∀a v,a.block=D->w.cell? a≠some v)(o:Obj){hd:Hd}{b:eE}(eY:b.kU=false->∀g,hd.fj=some g->g≠D)(h:n6 X ρ F w hd b):n6 X ρ (less F D) (w.putObj D o) hd b:=by
 cases b with
 |var ks cs=>
  obtain⟨U,h2,g,cur,e,hv,hh,hr,hy⟩:=h;exact⟨U,h2,g,cur,e,hv,by rw [uk (eY rfl g (qZ))];exact hh,⟨hr.1,λj x v hx hv=>(hr.2 j x v hx hv).less hD o⟩,hy⟩
 |row t xs=>
  obtain⟨U,h2,h3⟩:=h;refine⟨U,h2,?_⟩;rcases h3 with h3|⟨g,of,c,cur,hv,hh,h4,h5,h6,h7⟩
  ·exact .inl h3
  ·refine .inr ⟨g,of,c,cur,hv,by rw [uk (eY rfl g (qZ))];exact hh,h4,h5,h6,λi row hi j x hx=> ?_⟩;obtain⟨v,mD,hr⟩:=h7 i row hi j x hx;exact⟨v,mD,hr.less hD o⟩
 |map kd ag ks es=>
  obtain⟨qL,g,mes,clock,hv,hh,eX,yj⟩:=h;exact⟨qL,g,mes,clock,hv,by rw [uk (eY rfl g (qZ))];exact hh,eX,λi e me he hm=>let⟨a,r1,r2⟩:=yj i e me he hm;⟨a,r1.less hD o,r2.less hD o⟩⟩
 |loop s env busy BK=>
  obtain⟨g,lp,hv,hh,U,h2,h3,h4,h5,h6⟩:=h;exact⟨g,lp,hv,by rw [uk (eY rfl g (qZ))];exact hh,U,h2,h3,h4,h5.less hD o,h6⟩
 |Vz=>
  obtain⟨g,hv,hh⟩:=h;exact⟨g,hv,by rw [uk (eY rfl g (qZ))];exact hh⟩
 |fP t xs=>exact a8.less (K:=X.K) hD o h
 |dead=>trivial
def Inv.Q8{w0 w:World}{S:Sc}{F:bD}{ρ:bJ}{M:aF}(hI:Inv X w0 S F ρ M w){D:Nat}(hF:F ⟨D,0,none⟩)(hD:∀a v,a.block=D->w.cell? a≠some v)(hN:∀a,S.F0 a->a.block≠D)(o:Obj):
 Inv X w0 S (less F D) ρ M (w.putObj D o) where
 os:=hI.os
 tape:=hI.tape
 output:=hI.output
 size:=by simpa using hI.size
 frame:=λg U h2=>by
  have eY:g≠D:=by
   rintro rfl;rcases hI.jS _ hF with h|h|h
   ·exact hN _ h rfl
   ·exact h2 h
   ·simp only at h;omega
  rw [uk eY];exact hI.frame g U h2
 len:=hI.len
 rep:=λid b hd hb hh=>(hI.rep id b hd hb hh).less hD o (λfw g dQ e=>(hI.sep id b hd g hb fw hh dQ).2.2 _ hF e.symm)
 sep:=λid b hd g hb fw hh dQ=>let⟨a1,a2,a3⟩:=hI.sep id b hd g hb fw hh dQ;⟨by simpa using a1,a2,λa ha=>a3 a ha.1⟩
 mC:=hI.mC
 fz:=λa ha=>by simpa using hI.fz a ha.1
 kz:=λg=>(hI.kz g).less hD o
 one:=hI.one
 jS:=λa ha=>hI.jS a ha.1
 fin:=λa ha=>⟨hI.fin a ha,hN a ha⟩
 dV:=λg cs h=>by
  obtain⟨⟨t,z,U⟩,h2,h3⟩:=hI.dV g cs h;have eY:g≠D:=by
   rintro rfl;exact hD ⟨g,0,none⟩ cs[0] rfl (by simp [World.cell?,U,h3])
  exact⟨⟨t,z,by rw [uk eY];exact U⟩,⟨h2,eY⟩,h3⟩
def Inv.aCu{w0 w:World}{S:Sc}{F:bD}{ρ:bJ}{M:aF}(hI:Inv X w0 S F ρ M w){id:Nat}{b:eE}{hd:Hd}{g:Nat}(ot:M[id]?=some .dead)(hh:ρ[id]?=some hd)(dQ:hd.fj=some g)
 (U:g<w.heap.size) (h2:S g∨w0.heap.size<=g) (h3:∀a,F a->a.block≠g) (h4:∀(id':Nat) b' dS,M[id']?=some b'->b'.kU=false->ρ[id']?=some dS->dS.fj≠some g) (nm:n6 X ρ F w hd b):
 Inv X w0 S F ρ (M.set id b) w where
 os:=hI.os
 tape:=hI.tape
 output:=hI.output
 size:=hI.size
 frame:=hI.frame
 len:=by simp [hI.len]
 rep:=λi b' dS hb eC=>by
  rw [C5]at hb;split at hb
  ·rename_i e;subst e;split at hb
   ·injection hb with hb;subst hb;rw [hh]at eC;injection eC with eC;subst eC;exact nm
   ·cases hb
  ·exact hI.rep i b' dS hb eC
 sep:=λi b' dS g' hb fw eC nX=>by
  rw [C5]at hb;split at hb
  ·rename_i e;subst e;rw [hh]at eC;injection eC with eC;subst eC;rw [dQ]at nX;injection nX with e;subst e;exact⟨U,h2,h3⟩
  ·exact hI.sep i b' dS g' hb fw eC nX
 mC:=λi j b1 b2 zn oR g' tW zo vS apB apA yh yg zl oB=>by
  rw [C5]at zo vS;split at zo
  ·rename_i e;subst e;rw [if_neg tW]at vS;rw [hh]at yh;injection yh with yh;subst yh;rw [dQ]at zl;injection zl with e;subst e;exact h4 j b2 oR vS apA yg oB
  ·split at vS
   ·rename_i e;subst e;rw [hh]at yg;injection yg with yg;subst yg;rw [dQ]at oB;injection oB with e;subst e;exact h4 i b1 zn zo apB yh zl
   ·exact hI.mC i j b1 b2 zn oR g' tW zo vS apB apA yh yg zl oB
 fz:=hI.fz
 kz:=hI.kz
 dV:=hI.dV
 one:=hI.one
 jS:=hI.jS
 fin:=hI.fin
end
end Go.aj
namespace Go.aj
def aaR{p:Prop}(h:p:=by simp [Act.put,sG,RN eY]):p:=h
end Go.aj
namespace Go.aj
def IT:=@List.map_map
def FG:=@Option.bind_some
def Mv:=@List.nodup_nil
def Zb:=@beq_self_eq_true
end Go.aj
namespace Go.aj
open Go
noncomputable section
variable {X:Cx} {R:Type}
variable{x:AV}{a:Act}{ops:Array Oper}{tmps:Array Value}{d j:Nat}{nt:Nt}{o:Oper}{r:R}{v:Value}{w w':World}{F F' db:bD}{ρ:bJ}
inductive Rd where
 |out
 |tJ
 |at(id:Nat)
 deriving Inhabited,DecidableEq
structure Cy where
 r:Option Nat
 db:bD
 tv:Nat->Value
structure St where
 env:bL
 mem:aF
 kR:dx
 rd:Rd
variable{st aV stg:St}{k:St->Option R}
def Marks(F:bD)(w:World)(db:bD)(ds:List Deferred):Prop:=
 (∀a,db a->F a)/\∃ms:dx,ds=ms.map (λD=>({target:= .collected D,args:= #[]}:Deferred))/\ms.Nodup/\∀D∈ms,(∀a,db a->a.block≠D)/\F ⟨D,0,none⟩/\w.heap[D]?=some (.deferred (some []))
def Tf(F:bD)(w:World)(db:bD):dx->List Deferred->Prop
 | [],ds=>Marks F w db ds
 |_::_,_=>False
def NI(F:bD)(w:World)(rdc:Option Nat):Prop:=rdc=none∨∃g r,rdc=some g/\F ⟨g,0,none⟩/\w.heap[g]?=some (.loop r)
def Marks.nil(F:bD)(w:World)(h:∀a,db a->F a):Marks F w db []:=⟨h,[],rfl,Mv,λ_ h=>gU⟩
def Marks.mono(hF:∀a,F a->F' a)(hb:∀a,F a->w'.heap[a.block]?=w.heap[a.block]?){ds:List Deferred}(h:Marks F w db ds):Marks F' w' db ds:=by
 obtain⟨h0,ms,U,h2,h3⟩:=h;exact⟨λa ha=>hF _ (h0 a ha),ms,U,h2,λD hD=>⟨(h3 D hD).1,hF _ (h3 D hD).2.1,(hb _ (h3 D hD).2.1).trans (h3 D hD).2.2⟩⟩
def Tf.mono{F F':bD}{w w':World}{db:bD}(hF:∀a,F a->F' a)(hb:∀a,F a->w'.heap[a.block]?=w.heap[a.block]?):∀{ids:dx} {ds:List Deferred},Tf F w db ids ds->Tf F' w' db ids ds
 | [],_,hd=>Marks.mono hF hb hd
def NI.mono(hF:∀a,F a->F' a)(hb:∀a,F a->w'.heap[a.block]?=w.heap[a.block]?){rdc:Option Nat}(hr:NI F w rdc):NI F' w' rdc:=by
 rcases hr with h|⟨g,r,U,h2,h3⟩
 ·exact .inl h
 ·exact .inr ⟨g,r,U,hF _ h2,(hb _ h2).trans h3⟩
structure iz(X:Cx)(nt:Nt)(st:St)(rdc:Cy)(F:bD)(ρ:bJ)(a:Act)(w:World):Prop where
 env:k8 X ρ F w st.env a.tmps
 size:a.tmps.size=nt.n
 defs:Tf F w rdc.db st.kR a.defers
 rd:NI F w rdc.r
 kept:∀t,nt.mask.testBit t=false->a.tmps.getD t undef=rdc.tv t
def iz.grow{nt:Nt}{st:St}{rdc:Cy}{F F':bD}{ρ ρ':bJ}{a:Act}{w w':World}(h:iz X nt st rdc F ρ a w)(g:Grow F F' ρ ρ' w w'):iz X nt st rdc F' ρ' a w':=
 ⟨h.env.grow g,h.size,h.defs.mono g.hF g.hb,h.rd.mono g.hF g.hb,h.kept⟩
def sE(X:Cx)(nt:Nt)(c:Code)(st:St)(e:Exit)(aV:St):Prop:=
 ∀{rdc:Cy} {n:Nat} {w0:World} {S:Sc} {F:bD} {ρ:bJ} {a:Act} {w:World} {Q:Exit->Act->World->Prop},Inv X w0 S F ρ st.mem w->iz X nt st rdc F ρ a w->
  (∀a' w' F' ρ',Inv X w0 S F' ρ' aV.mem w'->iz X nt aV rdc F' ρ' a' w'->Grow F F' ρ ρ' w w'->Q e a' w')->c.wpIn (nK rdc.r) n X.P Q a w
def vF(nt:Nt)(st:St)(dst:Option Tmp)(x:AV)(M:aF)(k:St->Option R):Option R:=
 match dst with
 |none=>k {st with mem:=M}
 |some d=>bf (Nat.blt d nt.n&&nt.mask.testBit d) (k {st with env:=(d,x)::st.env,mem:=M})
def k8.put{env:bL}(h:k8 X ρ F w env tmps)(hd:d<tmps.size)(hx:a8 X.K ρ F w x v):
 k8 X ρ F w ((d,x)::env) (tmps.setIfInBounds d v):=by
 intro t;simp only [sy,look_nil]
 by_cases ht:t=d
 ·subst ht;simp only [Zb,lG];have:(tmps.setIfInBounds t v).getD t undef=v:=by simp [sG,hd]
  rw [this];exact hx
 ·have:(t==d)=false:=by simpa using ht
  simp only [this,nP,lI];have e:(tmps.setIfInBounds d v).getD t undef=tmps.getD t undef:=by simp [sG,RN (Ne.symm ht)]
  rw [e];exact h t
def ah7{mask:Nat}(hd:mask.testBit d=true){tv:Nat->Value}(h:∀t,mask.testBit t=false->a.tmps.getD t undef=tv t):∀t,mask.testBit t=false->(a.put (some d) v).tmps.getD t undef=tv t:=by
 intro t ht;have eY:d≠t:=λe=>by subst e;rw [hd]at ht;cases ht
 rw [<-h t ht];exact aaR
def Rh{dst:Option Tmp}{M:aF}(hk:vF nt st dst x M k=some r):
 ∃aV,k aV=some r/\aV.mem=M/\∀{rdc:Cy} {F:bD} {ρ:bJ} {a:Act} {w:World} {v:Value},iz X nt st rdc F ρ a w->a8 X.K ρ F w x v->iz X nt aV rdc F ρ (a.put dst v) w:=by
 unfold vF at hk;cases dst with
 |none=>exact⟨_,hk,rfl,λ{rdc F ρ a w v} h _=>⟨h.env,h.size,h.defs,h.rd,h.kept⟩⟩
 |some d=>
  replace hk:=cO hk;obtain⟨hd,hk⟩:=hk;refine⟨_,hk,rfl,λ{rdc F ρ a w v} h hx=>⟨h.env.put (by rw [h.size];simp only [bw]at hd;simpa using hd.1) hx,by simp [Act.put,h.size],h.defs,h.rd,ah7 (by simp only [bw]at hd;exact hd.2) h.kept⟩⟩
def DG(ops:Array Oper)(j:Nat):Option Nat:=(ops[j]?).bind (·.dst)
def uv(X:Cx)(T:j0 R)(ops:Array Oper):List Oper->St->(St->Option R)->Option R
 | [],st,k=>k st
 |o::rest,st,k=>
  match o.guard with
  |none=>vH X T (nL X st.env) o st.mem λx M=>vF T.nt st o.dst x M λaV=>uv X T ops rest aV k
  |some (j,want)=>
   match DG ops j with
   |none=>none
   |some d=>
    match look st.env d with
    | .bool b=>
      match b with
      |true=>match want with
       |true=>vH X T (nL X ((d,.bool true)::st.env)) o st.mem λx M=>vF T.nt {st with env:=(d,.bool true)::st.env} o.dst x M λaV=>uv X T ops rest aV k
       |false=>vF T.nt {st with env:=(d,.bool true)::st.env} o.dst (.eV []) st.mem λaV=>uv X T ops rest aV k
      |false=>match want with
       |false=>vH X T (nL X ((d,.bool false)::st.env)) o st.mem λx M=>vF T.nt {st with env:=(d,.bool false)::st.env} o.dst x M λaV=>uv X T ops rest aV k
       |true=>vF T.nt {st with env:=(d,.bool false)::st.env} o.dst (.eV []) st.mem λaV=>uv X T ops rest aV k
    | .eV []=>vF T.nt st o.dst (.eV []) st.mem λaV=>uv X T ops rest aV k
    |_=>none
def YO{K:TypeId->er}:a8 K ρ F w (.eV []) undef:= .eV [] [] rfl (λj x v h _=>gU)
def agS(hd:DG ops j=some d){b:Bool}(h:tmps.getD d undef= .bool b):yielded ops tmps j=some b:=by
 unfold yielded;unfold DG at hd;rw [hd];simp only [FG];rw [sG]at h;cases ht:tmps[d]? with
 |none=>rw [ht]at h;simp [undef]at h
 |some v=>rw [ht]at h;simp only [uh]at h;rw [h]
def afT(hd:DG ops j=some d)(h:tmps.getD d undef=undef):yielded ops tmps j=none:=by
 unfold yielded;unfold DG at hd;rw [hd];simp only [FG];rw [sG]at h;cases ht:tmps[d]? with
 |none=>rfl
 |some v=>rw [ht]at h;simp only [uh]at h;rw [h];rfl
def axq{rdc:Cy}{n:Nat}{Q:Exit->Act->World->Prop}{i:Nat}{rest:dx}(ho:ops[i]?=some o)
 (h:wpOpIn (nK rdc.r) n X.P ops Q i (wpOpsIn (nK rdc.r) n X.P ops Q rest) a w):wpOpsIn (nK rdc.r) n X.P ops Q (i::rest) a w:=by
 rw [wpOpsIn_cons];exact h
def ML(X:Cx)(nt:Nt)(ops:Array Oper)(o:Oper)(st aV:St):Prop:=
 ∀{rdc:Cy} {n:Nat} {w0:World} {S:Sc} {F:bD} {ρ:bJ} {a:Act} {w:World} {Q:Exit->Act->World->Prop} {K:Act->World->Prop},Inv X w0 S F ρ st.mem w->iz X nt st rdc F ρ a w->
  (∀a' w' F' ρ',Inv X w0 S F' ρ' aV.mem w'->iz X nt aV rdc F' ρ' a' w'->Grow F F' ρ ρ' w w'->K a' w')->
  ∀i,ops[i]?=some o->wpOpIn (nK rdc.r) n X.P ops Q i K a w
def aiL{M':aF}(O2:gQ X o (nL X stg.env) st.mem x M')
 (hg:∀{rdc:Cy} {F:bD} {ρ:bJ} {a:Act} {w:World},iz X nt st rdc F ρ a w->iz X nt stg rdc F ρ a w/\Region.wanted o (yielded ops a.tmps)=true)
 (hm:aV.mem=M') (hp:∀{rdc:Cy} {F:bD} {ρ:bJ} {a:Act} {w:World} {v:Value},iz X nt stg rdc F ρ a w->a8 X.K ρ F w x v->iz X nt aV rdc F ρ (a.put o.dst v) w):ML X nt ops o st aV:=by
 intro rdc n w0 S F ρ a w Q K hI hs hk i hi;obtain⟨c7,hw⟩:=hg hs;unfold wpOpIn;simp only [hi,hw,lG];refine O2 hI (λy=>Di hI c7.env y) ?_;intro v w' ρ' F' eZ lP hx;exact hk _ w' F' ρ' (hm▸eZ) (hp (c7.grow lP) hx) lP
def ah0
 (hg:∀{rdc:Cy} {F:bD} {ρ:bJ} {a:Act} {w:World},iz X nt st rdc F ρ a w->iz X nt stg rdc F ρ a w/\Region.wanted o (yielded ops a.tmps)=false)
 (hm:aV.mem=st.mem) (hp:∀{rdc:Cy} {F:bD} {ρ:bJ} {a:Act} {w:World} {v:Value},iz X nt stg rdc F ρ a w->a8 X.K ρ F w (.eV []) v->iz X nt aV rdc F ρ (a.put o.dst v) w):ML X nt ops o st aV:=by
 intro rdc n w0 S F ρ a w Q K hI hs hk i hi;obtain⟨c7,hw⟩:=hg hs;unfold wpOpIn;simp only [hi,hw,nP,lI];exact⟨λ_ _=>trivial,hk _ w F ρ (hm▸hI) (hp c7 YO) (Grow.refl _ _ _)⟩
def Ye(h:o.guard=none)(y:Nat->Option Bool):Region.wanted o y=true:=by unfold Region.wanted;rw [h]
def L5{want:Bool}(h:o.guard=some (j,want))(y:Nat->Option Bool):Region.wanted o y=(y j==some want):=by unfold Region.wanted;rw [h]
def iz.refine{nt:Nt}{st:St}{rdc:Cy}{F:bD}{ρ:bJ}{a:Act}{w:World}(h:iz X nt st rdc F ρ a w){d:Nat}{x:AV}(hx:look st.env d=x):iz X nt {st with env:=(d,x)::st.env} rdc F ρ a w:=by
 refine⟨λt=> ?_,h.size,h.defs,h.rd,h.kept⟩;simp only [sy,look_nil]
 by_cases ht:t=d
 ·subst ht;simp only [Zb,lG];rw [<-hx];exact h.env t
 ·have:(t==d)=false:=by simpa using ht
  simp only [this,nP,lI];exact h.env t
def azi(hX:X.Okb){T:j0 R}(hT:T.qV X){rest:List Oper}(h:uv X T ops (o::rest) st k=some r):
 ∃aV,ML X T.nt ops o st aV/\uv X T ops rest aV k=some r:=by
 simp only [uv]at h;split at h
 ·rename_i O9;obtain⟨x,M',O2,h,_⟩:=Mj hX hT h;obtain⟨aV,h,hm,hp⟩:=Rh (X:=X) h;exact⟨aV,aiL (stg:=st) O2 (λ{rdc F ρ a w} hs=>⟨hs,Ye O9 _⟩) hm hp,h⟩
 ·rename_i j want O9;split at h
  ·exact aD
  ·rename_i d hd;have amc:∀{b:Bool},look st.env d= .bool b->∀{rdc:Cy} {F:bD} {ρ:bJ} {a:Act} {w:World},iz X T.nt st rdc F ρ a w->yielded ops a.tmps j=some b:=by
    intro b hb rdc F ρ a w hs;have:=hs.env d;rw [hb]at this;generalize hv:a.tmps.getD d undef=v at this;cases this;exact agS hd hv
   have run:∀(b:Bool),look st.env d= .bool b->want=b->(vH X T (nL X ((d,.bool b)::st.env)) o st.mem λx M=>vF T.nt {st with env:=(d,.bool b)::st.env} o.dst x M λaV=>uv X T ops rest aV k)=some r->
    ∃aV,ML X T.nt ops o st aV/\uv X T ops rest aV k=some r:=by
    intro b hb hwb h;obtain⟨x,M',O2,h,_⟩:=Mj hX hT h;obtain⟨aV,h,hm,hp⟩:=Rh (X:=X) h;refine⟨aV,aiL (stg:={st with env:=(d,.bool b)::st.env}) O2 (λ{rdc F ρ a w} hs=>⟨hs.refine hb,?_⟩) hm hp,h⟩;rw [L5 O9,amc hb hs,hwb];simp
   have skip:∀(b:Bool),look st.env d= .bool b->want≠b->(vF T.nt {st with env:=(d,.bool b)::st.env} o.dst (.eV []) st.mem λaV=>uv X T ops rest aV k)=some r->
    ∃aV,ML X T.nt ops o st aV/\uv X T ops rest aV k=some r:=by
    intro b hb hwb h;obtain⟨aV,h,hm,hp⟩:=Rh (X:=X) h;refine⟨aV,ah0 (stg:={st with env:=(d,.bool b)::st.env}) (λ{rdc F ρ a w} hs=>⟨hs.refine hb,?_⟩) hm hp,h⟩;rw [L5 O9,amc hb hs];simp only [C8,ne_eq,Option.some.injEq];exact λe=>hwb e.symm
   split at h
   ·rename_i b hb;split at h
    ·split at h
     ·exact run true hb rfl h
     ·exact skip true hb (by simp) h
    ·split at h
     ·exact run false hb rfl h
     ·exact skip false hb (by simp) h
   ·rename_i hb;obtain⟨aV,h,hm,hp⟩:=Rh (X:=X) h;refine⟨aV,ah0 (stg:=st) (λ{rdc F ρ a w} hs=>⟨hs,?_⟩) hm hp,h⟩;have:=hs.env d;rw [hb]at this;generalize hv:a.tmps.getD d undef=v at this;have hu:v=undef:=by
     cases this with
     |eV _ vs hl _=>have:vs=[]:=wE (uo);subst this;rfl
    rw [L5 O9,afT hd (hv.trans hu)];simp
   ·exact aD
def agI(hX:X.Okb){T:j0 R}(hT:T.qV X){ops:Array Oper}:∀(rest:List Oper) (m:Nat) {st:St} {k:St->Option R} {r:R},(∀(i:Nat),rest[i]?=ops[m+i]?)->uv X T ops rest st k=some r->
 ∃aV,k aV=some r/\∀{rdc:Cy} {n:Nat} {w0:World} {S:Sc} {F:bD} {ρ:bJ} {a:Act} {w:World} {Q:Exit->Act->World->Prop},Inv X w0 S F ρ st.mem w->iz X T.nt st rdc F ρ a w->
  (∀a' w' F' ρ',Inv X w0 S F' ρ' aV.mem w'->iz X T.nt aV rdc F' ρ' a' w'->Grow F F' ρ ρ' w w'->Q .normal a' w')->wpOpsIn (nK rdc.r) n X.P ops Q ((List.range rest.length).map (m+ ·)) a w
 | [],m,st,k,r,_,h=>⟨st,h,λ{rdc n w0 S F ρ a w Q} hI hs hq=>hq a w F ρ hI hs (Grow.refl _ _ _)⟩
 |o::rest,m,st,k,r,hr,h=>by
  obtain⟨cm,U,h⟩:=azi hX hT h;obtain⟨lL,h,h2⟩:=agI hX hT rest (m+1) (λi=>by have:=hr (i+1);rw [show m+1+i=m+(i+1)by omega];simpa using this) h;refine⟨lL,h,λ{rdc n w0 S F ρ a w Q} hI hs hq=> ?_⟩;have ho:ops[m]?=some o:=by have:=hr 0;simpa using this.symm
  have hl:(List.range (o::rest).length).map (m+ ·)=m::(List.range rest.length).map ((m+1)+ ·):=by
   rw [fk,List.range_succ_eq_map,jG,IT]
   congr 1
   apply List.map_congr_left;intro i _;exact fB
  rw [hl];refine axq ho (U hI hs ?_ m ho);intro a' w' F' ρ' eZ c7 hg;exact h2 eZ c7 (λHO tI xv wN GO GL N2=>hq HO tI xv wN GO GL (hg.trans N2))
end
end Go.aj

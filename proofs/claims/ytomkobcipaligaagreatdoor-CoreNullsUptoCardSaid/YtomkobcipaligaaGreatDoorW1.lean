/-
  The engine, part N: lists of operations; what is known of a frame.
-/
import Derived.RangeFuncRecord
import Derived.WalkKit
import Derived.Below
import Derived.DataElems
import Derived.ChangeKeysEq
import Derived.Laws.StructEq
import Derived.WalkSpells
import Derived.MapKept
import Derived.Lib.UnsafeStr
import Derived.Lib.Builder
import Derived.Laws.Externs
import Derived.OrdersIn
set_option linter.all false
set_option linter.deprecated false
set_option maxHeartbeats 4000000
namespace Go.aA
def hU{p:Prop}(h:p:=by simp at h):p:=h
def pw{p:Prop}(h:p:=by simpa using hl):p:=h
def QJ{p:Prop}(h:p:=by have:=(eZ.1 hx).1;omega):p:=h
def CJ{p:Prop}(h:p:=by simp [dt]at h):p:=h
def Zz{p:Prop}(h:p:=by have:=(eZ.1 hy).1;omega):p:=h
def JZ{p:Prop}(h:p:=by simpa using hk):p:=h
def JY{p:Prop}(h:p:=by simpa using hx):p:=h
def JT{p:Prop}(h:p:=by simp at h;subst h;simp):p:=h
end Go.aA
namespace Go.aA
def eZ:=@List.getElem?_eq_some_iff
def dD:=@List.getElem?_eq_getElem
def dy:=@List.getElem_mem
def bM:=@Bool.and_eq_true
def FK:=@List.mem_flatMap
def Ye:=@List.eq_of_mem_replicate
end Go.aA
namespace Go.aA
open Go
variable{F:Addr->Prop}{v:Value}{w:World}
inductive Kind where
 |int(k:IntKind)
 |bool
 |str
 |slice(t:TypeId)
 |raw
 |any
 deriving DecidableEq,Inhabited
variable{k:Kind}{ks:List Kind}
inductive AV where
 |top
 |int(k:IntKind)(n:Int)
 |bool(b:Bool)
 |str(s:ByteArray)
 |agg(cs:List AV)
 |ew(vs:List AV)
 |iF
 |iA(t:TypeId)(row:List AV)(off:Nat)
 |ptr(id i off:Nat)
 |ab(t:TypeId)(xs:List (List AV))
 |aC(id:Nat)
 |gQ
 |dC(f:FuncId)(first fL:List AV)
 |ke
 |iB(id:Nat)
 |mp(id:Nat)
 |mg
 |lz(id n:Nat)
 |vw(id lo n:Nat)
 |jR
 deriving Inhabited
variable{x:AV}
abbrev Row:=List AV
variable{row:Row}
def AV.toI:AV->Int| .int _ n=>n|_=>0
def AV.toB:AV->Bool| .bool b=>b|_=>false
def AV.toS:AV->ByteArray| .str s=>s|_=>ByteArray.empty
def AV.rows:AV->List Row| .ab _ xs=>xs|_=>[]
def AV.cells:AV->List AV| .agg cs=>cs|x=>[x]
def AV.pure:AV->Bool| .int _ _| .bool _| .str _| .iF | .iA _ _ _| .ab _ _| .gQ | .ke | .mg | .jR | .dC _ [] []=>true|_=>false
def AV.vlo:AV->Nat| .vw _ lo _=>lo|_=>0
def AV.vn:AV->Nat| .vw _ _ n=>n|_=>0
def AV.plain:AV->Bool| .top | .ew _=>false|_=>true
def AV.leaf:AV->Bool| .agg _| .ew _| .top =>false|_=>true
def AV.shape:Bool->AV->Bool|true,.agg _=>true|false,x=>x.leaf|_,_=>false
def iJ:Kind->AV->Bool
 | .int k,.int k' _=>k==k'
 | .bool,.bool _=>true
 | .str,.str _=>true
 | .slice t,.ab t' _=>t==t'
 | .raw,x=>x.leaf&&x.pure
 | .any,x=>x.leaf
 |_,_=>false
def ld:Kind->AV->AV
 | .int k,x=> .int k x.toI
 | .bool,x=> .bool x.toB
 | .str,x=> .str x.toS
 | .slice t,x=> .ab t x.rows
 | .raw,x=>x
 | .any,x=>x
def Fx(h:iJ k x=true):ld k x=x:=by
 cases k<;>cases x<;>simp_all [iJ,ld,AV.toI,AV.toB,AV.toS,AV.rows]
def afJ(h:iJ k x=true):x.leaf=true:=by
 cases k<;>cases x<;>simp_all [iJ,AV.leaf]
def dt:List Kind->Row->Bool
 | [],[]=>true
 |k::ks,x::xs=>iJ k x&&dt ks xs
 |_,_=>false
def I4(hk:k≠ .any)(h:iJ k x=true):x.pure=true:=by
 cases k<;>cases x<;>simp_all [iJ,AV.leaf,AV.pure]
def iS:∀{ks:List Kind} {row:Row},dt ks row=true->row.length=ks.length
 | [],[],_=>rfl
 | [],_::_,h=>CJ
 |_::_,[],h=>CJ
 |k::ks,x::xs,h=>by
  simp only [dt,bM]at h;simp [iS h.2]
def tY:∀{ks:List Kind} {row:Row},dt ks row=true->∀{j:Nat} {k:Kind} {x:AV},ks[j]?=some k->row[j]?=some x->iJ k x=true
 | [],[],_,j,k,x,h,_=>hU
 | [],_::_,h,_,_,_,_,_=>CJ
 |_::_,[],h,_,_,_,_,_=>CJ
 |k::ks,x::xs,h,j,k',x',hk,hx=>by
  simp only [dt,bM]at h;cases j with
  |zero=>simp at hk hx;subst hk;subst hx;exact h.1
  |succ j=>simp at hk hx;exact tY h.2 hk hx
def XP(h:dt ks row=true){j:Nat}(hx:row[j]?=some x):x.leaf=true:=by
 have hl:=iS h;have hj:j<ks.length:=QJ;exact afJ (tY h (dD hj) hx)
def YM(hl:row.length=ks.length)(h:∀(j:Nat) (k:Kind) (x:AV),ks[j]?=some k->row[j]?=some x->iJ k x=true):dt ks row=true:=by
 induction ks generalizing row with
 |nil=>cases row with|nil=>rfl|cons x xs=>simp at hl
 |cons k ks ih=>
  cases row with
  |nil=>simp at hl
  |cons x xs=>
   simp only [dt,bM];exact⟨h 0 k x rfl rfl,ih (pw) λj k' x' hk hx=>h (j+1) k' x' (JZ) (JY)⟩
structure Hd where
 v:Value
 sz:Nat
variable{ρ ρ':List Hd}
def Value.eM:Value->Option Nat
 | .slice (some a) _ _=>some a.block
 | .map (some g)=>some g
 | .pointer (some a)=>some a.block
 |_=>none
def Hd.eM(h:Hd):Option Nat:=Value.eM h.v
inductive aZ(K:TypeId->List Kind)(ρ:List Hd)(F:Addr->Prop)(w:World):AV->Value->Prop
 |top(v:Value):aZ K ρ F w .top v
 |int(k:IntKind)(n:Int):aZ K ρ F w (.int k n) (.int k n)
 |bool(b:Bool):aZ K ρ F w (.bool b) (.bool b)
 |str(s:ByteArray):aZ K ρ F w (.str s) (.string s)
 |agg(cs:List AV)(vs:List Value)(hl:vs.length=cs.length)(h:∀(j:Nat) x v,cs[j]?=some x->vs[j]?=some v->aZ K ρ F w x v):aZ K ρ F w (.agg cs) (.agg vs.toArray)
 |ew(cs:List AV)(vs:List Value)(hl:vs.length=cs.length)(h:∀(j:Nat) x v,cs[j]?=some x->vs[j]?=some v->aZ K ρ F w x v):aZ K ρ F w (.ew cs) (.tuple vs.toArray)
 |iF:aZ K ρ F w .iF (.pointer none)
 |iA(t:TypeId)(row:Row)(off:Nat)(a:Addr)(vs:List Value)(hk:dt (K t) row=true)(hl:vs.length=row.length)
   (hc:∀(j:Nat) v,vs[j]?=some v->w.cell? (a.add j)=some v∧F (a.add j))
   (h:∀(j:Nat) x v,row[j]?=some x->vs[j]?=some v->aZ K ρ F w x v):aZ K ρ F w (.iA t row off) (.pointer (some (a.add off)))
 |ptr(id i off:Nat)(hd:Hd)(g o n c:Nat)(bA:ρ[id]?=some hd)(hv:hd.v= .slice (some ⟨g,o,none⟩) n c):aZ K ρ F w (.ptr id i off) (.pointer (some ⟨g,o+i*hd.sz+off,none⟩))
 |kM(t:TypeId):aZ K ρ F w (.ab t []) (.slice none 0 0)
 |ab(t:TypeId)(xs:List Row)(a:Addr)(cap:Nat)(vss:List (List Value))(hl:vss.length=xs.length)(lR:xs.length<=cap)(ki:cap<=maxLen)
   (hk:∀(i:Nat) row,xs[i]?=some row->dt (K t) row=true)
   (hc:∀(i:Nat) vs,vss[i]?=some vs->vs.length=(K t).length ∧∀(j:Nat) v,vs[j]?=some v->w.cell? (a.add (i*(K t).length +j))=some v∧F (a.add (i*(K t).length +j)))
   (h:∀(i:Nat) row vs,xs[i]?=some row->vss[i]?=some vs->∀(j:Nat) x v,row[j]?=some x->vs[j]?=some v->aZ K ρ F w x v):
   aZ K ρ F w (.ab t xs) (.slice (some a) xs.length cap)
 |aC(id:Nat)(hd:Hd)(bA:ρ[id]?=some hd):aZ K ρ F w (.aC id) hd.v
 |gQ:aZ K ρ F w .gQ (.slice none 0 0)
 |dC(f:FuncId)(first fL:List AV)(vf vc:List Value)(hf:vf.length=first.length)(hc:vc.length=fL.length)
   (h1:∀(j:Nat) x v,first[j]?=some x->vf[j]?=some v->aZ K ρ F w x v) (h2:∀(j:Nat) x v,fL[j]?=some x->vc[j]?=some v->aZ K ρ F w x v):
   aZ K ρ F w (.dC f first fL) (.func (.func f) vf.toArray vc.toArray)
 |ke:aZ K ρ F w .ke .nilFunc
 |iB(id:Nat)(hd:Hd)(g:Nat)(bA:ρ[id]?=some hd)(hv:hd.v= .pointer (some ⟨g,0,none⟩)):aZ K ρ F w (.iB id) (.func (.yield g) #[] #[])
 |mp(id:Nat)(hd:Hd)(bA:ρ[id]?=some hd):aZ K ρ F w (.mp id) hd.v
 |mg:aZ K ρ F w .mg (.map none)
 |lz(id m:Nat)(hd:Hd)(g o n c cap:Nat)(bA:ρ[id]?=some hd)(hv:hd.v= .slice (some ⟨g,o,none⟩) n c):aZ K ρ F w (.lz id m) (.slice (some ⟨g,o,none⟩) m cap)
 |vw(id lo m:Nat)(hd:Hd)(g o n c cap:Nat)(bA:ρ[id]?=some hd)(hv:hd.v= .slice (some ⟨g,o,none⟩) n c)(lR:m<=cap∧cap<=maxLen)(hb:lo+m<=n):aZ K ρ F w (.vw id lo m) (.slice (some ⟨g,o+lo*hd.sz,none⟩) m cap)
 |tw(id lo:Nat):aZ K ρ F w (.vw id lo 0) (.slice none 0 0)
 |tu(id lo:Nat)(a:Addr)(cap:Nat):aZ K ρ F w (.vw id lo 0) (.slice (some a) 0 cap)
 |jR(a:Addr)(cap:Nat):aZ K ρ F w .jR (.slice (some a) 0 cap)
variable {K:TypeId->List Kind}
def aZ.mono{F':Addr->Prop}{w':World}(gT:∀(id:Nat) hd,ρ[id]?=some hd->ρ'[id]?=some hd)(hF:∀a,F a->F' a)
 (hw:∀a v,F a->w.cell? a=some v->w'.cell? a=some v)   (h:aZ K ρ F w x v):aZ K ρ' F' w' x v:=by
 induction h with
 |top v=>exact .top v
 |int k n=>exact .int k n
 |bool b=>exact .bool b
 |str s=>exact .str s
 |agg cs vs hl _ ih=>exact .agg cs vs hl ih
 |ew cs vs hl _ ih=>exact .ew cs vs hl ih
 |iF=>exact .iF
 |iA t row off a vs hk hl hc _ ih=>exact .iA t row off a vs hk hl (λj v hv=>⟨hw _ _ (hc j v hv).2 (hc j v hv).1,hF _ (hc j v hv).2⟩) ih
 |ptr id i off hd g o n c bA hv=>exact .ptr id i off hd g o n c (gT _ _ bA) hv
 |kM t=>exact .kM t
 |ab t xs a cap vss hl lR ki hk hc _ ih=>
  exact .ab t xs a cap vss hl lR ki hk (λi vs fy=>⟨(hc i vs fy).1,λj v hv=>⟨hw _ _ ((hc i vs fy).2 j v hv).2 ((hc i vs fy).2 j v hv).1,hF _ ((hc i vs fy).2 j v hv).2⟩⟩) ih
 |aC id hd bA=>exact .aC id hd (gT _ _ bA)
 |gQ=>exact .gQ
 |dC f first fL vf vc hf hc _ _ kS fr=>exact .dC f first fL vf vc hf hc kS fr
 |ke=>exact .ke
 |iB id hd g bA hv=>exact .iB id hd g (gT _ _ bA) hv
 |mp id hd bA=>exact .mp id hd (gT _ _ bA)
 |mg=>exact .mg
 |lz id m hd g o n c cap bA hv=>exact .lz id m hd g o n c cap (gT _ _ bA) hv
 |vw id lo m hd g o n c cap bA hv hc hb=>exact .vw id lo m hd g o n c cap (gT _ _ bA) hv hc hb
 |tw id lo=>exact .tw id lo
 |tu id lo a cap=>exact .tu id lo a cap
 |jR a cap=>exact .jR a cap
def aZ.pure{ρ ρ':List Hd}{F:Addr->Prop}{w:World}(hK:∀t,∀k∈K t,k≠ .any){x:AV}{v:Value}(h:aZ K ρ F w x v):x.pure=true->aZ K ρ' F w x v:=by
 have cell:∀{t:TypeId} {row:Row},dt (K t) row=true->∀{j:Nat} {y:AV},row[j]?=some y->y.pure=true:=by
  intro t row hk j y hy;have hl:=iS hk;have hj:j<(K t).length :=Zz;exact I4 (hK t _ (dy hj)) (tY hk (dD hj) hy)
 induction h with
 |int k n=>exact λ_=> .int k n
 |bool b=>exact λ_=> .bool b
 |str s=>exact λ_=> .str s
 |iF=>exact λ_=> .iF
 |iA t row off a vs hk hl hc _ ih=>exact λ_=> .iA t row off a vs hk hl hc (λj y v hy hv=>ih j y v hy hv (cell hk hy))
 |kM t=>exact λ_=> .kM t
 |ab t xs a cap vss hl lR ki hk hc _ ih=>exact λ_=> .ab t xs a cap vss hl lR ki hk hc (λi row vs hi hv j y v hy fT=>ih i row vs hi hv j y v hy fT (cell (hk i row hi) hy))
 |gQ=>exact λ_=> .gQ
 |dC f first fL vf vc hf hc _ _ _ _=>
  intro hp;cases first with
  |cons a b=>simp [AV.pure]at hp
  |nil=>
   cases fL with
   |cons a b=>simp [AV.pure]at hp
   |nil=>exact .dC f [] [] vf vc hf hc (λj y v hy _=>by simp at hy) (λj y v hy _=>by simp at hy)
 |ke=>exact λ_=> .ke
 |mg=>exact λ_=> .mg
 |jR a cap=>exact λ_=> .jR a cap
 |_=>intro hp;simp [AV.pure]at hp
def aZ.aCg(hK:∀t,∀k∈K t,k≠ .any)(h:aZ K ρ F w x v)(hp:x= .top ∨x.pure=true):aZ K ρ' F w x v:=by
 rcases hp with rfl|hp
 ·exact .top v
 ·exact h.pure hK hp
def dz(K:TypeId->List Kind)(ρ:List Hd)(F:Addr->Prop)(w:World)(xs:List AV)(vs:List Value):Prop:=
 vs.length=xs.length∧∀(j:Nat) x v,xs[j]?=some x->vs[j]?=some v->aZ K ρ F w x v
inductive Ex where
 |normal
 |exit(id:Nat)
 |ret
 deriving DecidableEq,Inhabited
inductive ep where
 |var(ks:List Kind)(cs:List AV)
 |row(t:TypeId)(xs:List Row)
 |map(k:Kind)(ag:Bool)(ks:List Kind)(es:List (AV×AV))
 |loop(site:Nat)(env:List (Nat×AV))(busy:Bool)(xl:Option Ex)
 |HW
 |eW(t:TypeId)(xs:List Row)
 |dead
 deriving Inhabited
inductive wB where
 |int(k:IntKind)
 |bool
 |str
 |slice(e:TypeId)
 |array(n:Nat)(e:TypeId)
 |struct(fs:List (Nat×TypeId))
 |ptr(e:TypeId)
 |map(k e:TypeId)
 |other
 deriving Inhabited
structure TI where
 ok:Bool
 u:wB
 size:Nat
 bytes:Nat
 zero:List AV
 ks:List Kind
 deriving Inhabited
def wB.agg:wB->Bool| .struct _| .array _ _=>true|_=>false
def Am:Value->AV
 | .bool b=> .bool b
 | .int k n=> .int k n
 | .string s=> .str s
 | .pointer none=> .iF
 | .slice none 0 0=> .gQ
 | .map none=> .mg
 | .nilFunc => .ke
 |_=> .top
def YU:Value->AV
 | .agg cs=> .agg (cs.toList.map Am)
 | .tuple cs=>match cs.toList with| []=> .ew []|_=> .top
 |v=>Am v
def Cu(P:Program):Nat->TypeId->List Kind
 |0,_=>[.raw]
 |n+1,t=>
  match P.underlying t with
  |some (.int k)=>[.int k]
  |some .bool =>[.bool]
  |some .string =>[.str]
  |some (.slice e)=>[.slice e]
  |some (.struct fs)=>fs.toList.flatMap λf=>Cu P n f.type
  |some (.array m e)=>(List.replicate m (Cu P n e)).flatten
  |_=>[.raw]
def Xb(P:Program):∀(n:Nat) (t:TypeId),∀k∈Cu P n t,k≠ .any
 |0,t,k,h=>by simp [Cu]at h;subst h;simp
 |n+1,t,k,h=>by
  unfold Cu at h;split at h
  ·exact JT
  ·exact JT
  ·exact JT
  ·exact JT
  ·obtain⟨f,_,hf⟩:=FK.1 h;exact Xb P n _ k hf
  ·obtain⟨l,hl,hk⟩:=List.mem_flatten.1 h;rw [Ye hl]at hk;exact Xb P n _ k hk
  ·exact JT
def mK:TypeDesc->wB
 | .int k=> .int k
 | .bool => .bool
 | .string => .str
 | .slice e=> .slice e
 | .array n e=> .array n e
 | .struct fs=> .struct (fs.toList.map λf=>(f.offset,f.type))
 | .pointer e=> .ptr e
 | .map k e=> .map k e
 |_=> .other
def SV:Value->Bool| .agg _=>true|_=>false
def xj(P:Program)(t:TypeId):TI:=
 match P.info? t,P.underlying t with
 |some i,some d=>
  match i.zero with
  |some z=>⟨z.cells.size==i.size&&(Cu P 12 t).length ==i.size&&(SV z==(mK d).agg),mK d,i.size,i.bytes,z.cells.toList.map Am,Cu P 12 t⟩
  |none=>⟨false,.other,0,0,[],[]⟩
 |_,_=>⟨false,.other,0,0,[],[]⟩
end Go.aA
namespace Go.aA
open Go
abbrev bl:Type:=List AV
abbrev aW:Type:=List Row
abbrev aV:Type:=List ep
abbrev dP:Type:=List Nat
abbrev cY:Type:=List (Nat×AV)
abbrev bX:Type:=List Hd
abbrev bT:=Addr->Prop
abbrev cW:Type:=List Int
abbrev ei:Type:=List Kind
abbrev fI:Type:=List Value
abbrev qb:Type:=List TypeId
end Go.aA
namespace Go.aA
def oo{p:Prop}(h:p:=by simp [Hd.eM,Value.eM,hv]):p:=h
def Ri{p:Prop}(h:p:=by subst hi;rw [qK cM]at hc;injection hc with hc;subst hc;simp [ep.iM]at rC):p:=h
def alJ{p:Prop}(h:p:=by
 subst bA;have cM:=(eZ.1 hb).1;rw [qK cM]at hc;injection hc with hc;subst hc;rw [hh]at eo;injection eo with eo;subst eo;exact jX):p:=h
def aiT{p:Prop}(h:p:=by rw [jH (eZ.1 h).1];exact h):p:=h
def Zb{p:Prop}(h:p:=by simpa using hI.len):p:=h
end Go.aA
namespace Go.aA
def jH:=@List.getElem?_append_left
def fk:=@Nat.le_refl
def j7:=@List.mem_append
def qK:=@List.getElem?_set_self
def kI:=@List.getElem?_set_ne
def kZ:=@List.getElem?_append_right
def oh:=@Nat.le_trans
def dU:=@Nat.eq_of_beq_eq_true
def p9:=@Nat.lt_of_lt_of_le
end Go.aA
namespace Go.aA
open Go
noncomputable section
variable{b:ep}{hd:Hd}{row:Option Nat}{v:Value}{F':bT}{M':aV}{ids Tc:dP}{ρ':bX}
structure Site where
 nt:Nat
 params:Array Tmp
 assign:Code
 body:Code
structure Ub where
 ks:ei
 e:TypeId
 bt:TypeId
 pt:TypeId
 up:TypeId
 ne:FuncId
structure Cx where
 P:Program
 ti:TypeId->TI
 site:Nat->Site
 gh:Nat->AV
 eqs:TypeId->Bool
 pk:Bool
 vw:Nat->TypeId->Bool
 ub:Option Ub
def Cx.A4(X:Cx)(ks:ei)(e:TypeId):Bool:=match X.ub with|none=>true|some u=>match decide (ks=u.ks)with|true=>Nat.beq e u.e|false=>true
def Cx.K(X:Cx)(t:TypeId):ei:=(X.ti t).ks
def look(env:cY)(u:Nat):AV:=List.rec (motive:=λ_=>AV) .top (λp _ ih=>Bool.rec (motive:=λ_=>AV) ih p.2 (Nat.beq u p.1)) env
def look_nil(u:Nat):look [] u= .top :=rfl
def p0(t:Nat)(x:AV)(env:cY)(u:Nat):look ((t,x)::env) u=if u==t then x else look env u:=by
 show Bool.rec (motive:=λ_=>AV) (look env u) x (Nat.beq u t)=_;cases hb:Nat.beq u t with
 |true=>
  have:=dU hb;subst this;show x=_;simp
 |false=>
  have:u≠t:=Nat.ne_of_beq_eq_false hb;show look env u=_;simp [this]
def gm(M:aV)(i:Nat):Option ep:=List.rec (motive:=λ_=>Nat->Option ep) (λ_=>none) (λb _ ih n=>Nat.rec (motive:=λ_=>Option ep) (some b) (λm _=>ih m) n) M i
def fb:∀(M:aV) (i:Nat),gm M i=M[i]?
 | [],_=>rfl
 |_::_,0=>rfl
 |b::M,n+1=>by
  show gm M n=_;rw [fb M n];rfl
def Ex.code:Ex->Option Code
 | .normal =>none
 | .exit id=>some (.exit id)
 | .ret =>some .ret
def ep.iM:ep->Bool| .dead | .eW _ _=>true|_=>false
variable {X:Cx}
def jg(X:Cx)(ρ:bX)(F:bT)(w:World)(env:cY)(tmps:Array Value):Prop:=
 ∀t,aZ X.K ρ F w (look env t) (tmps.getD t undef)
def km(X:Cx)(ρ:bX)(F:bT)(w:World)(hd:Hd):ep->Prop
 | .var ks cs=>dt ks cs=true∧hd.sz=cs.length∧∃g cur e,hd.v= .slice (some ⟨g,0,none⟩) 1 1∧w.heap[g]?=some (.cells cur e (0,0))∧dz X.K ρ F w cs cur.toList∧X.A4 ks e=true
 | .row t xs=>hd.sz=(X.K t).length ∧(∀(i:Nat) row,xs[i]?=some row->dt (X.K t) row=true)∧
    ((hd.v= .slice none 0 0∧xs=[])∨∃g o c cur,hd.v= .slice (some ⟨g,o,none⟩) xs.length c∧w.heap[g]?=some (.cells cur t (0,0))∧xs.length<=c∧c<=maxLen∧o+c*hd.sz<=cur.size∧
      ∀(i:Nat) row,xs[i]?=some row->∀(j:Nat) x,row[j]?=some x->∃v,cur[o+i*hd.sz+j]?=some v∧aZ X.K ρ F w x v)
 | .map kd ag ks es=>kd≠ .any ∧∃g mes clock,hd.v= .map (some g)∧w.heap[g]?=some (.map mes clock)∧mes.size=es.length∧
    ∀(i:Nat) e me,es[i]?=some e->mes[i]?=some me->(iJ kd e.1=true∧dt ks e.2.cells=true∧e.2.shape ag=true)∧aZ X.K ρ F w e.1 me.key∧aZ X.K ρ F w e.2 me.val
 | .loop s env busy xl=>∃g lp,hd.v= .pointer (some ⟨g,0,none⟩)∧w.heap[g]?=some (.loop lp)∧lp.params=(X.site s).params ∧lp.assign=(X.site s).assign ∧lp.body=(X.site s).body ∧
    lp.tmps.size=(X.site s).nt ∧jg X ρ F w env lp.tmps∧(busy=true->lp.state= .busy)∧(busy=false->xl=none->lp.state= .ready)∧(busy=false->xl≠none->lp.state= .done)∧
    lp.pending=xl.bind Ex.code∧xl≠some .normal
 | .HW =>∃g,hd.v= .pointer (some ⟨g,0,none⟩)∧w.heap[g]?=some (.deferred (some []))
 | .eW t xs=>aZ X.K ρ F w (.ab t xs) hd.v
 | .dead =>True
structure Sc where
 S:Nat->Prop
 F0:bT
instance:CoeFun Sc (λ_=>Nat->Prop):=⟨Sc.S⟩
structure Inv(X:Cx)(w0:World)(S:Sc)(F:bT)(ρ:bX)(M:aV)(w:World):Prop where
 os:w.os=w0.os
 tape:w.tape=w0.tape
 output:w.output=w0.output
 size:w0.heap.size<=w.heap.size
 frame:∀g,g<w0.heap.size->¬S g->w.heap[g]?=w0.heap[g]?
 len:ρ.length=M.length
 rep:∀(id:Nat) b hd,M[id]?=some b->ρ[id]?=some hd->km X ρ F w hd b
 sep:∀(id:Nat) b hd g,M[id]?=some b->b.iM=false->ρ[id]?=some hd->hd.eM=some g->g<w.heap.size∧(S g∨w0.heap.size<=g)∧∀a,F a->a.block≠g
 iX:∀(id id':Nat) b b' hd dI g,id≠id'->M[id]?=some b->M[id']?=some b'->b.iM=false->b'.iM=false->ρ[id]?=some hd->ρ[id']?=some dI->
  hd.eM=some g->dI.eM≠some g
 fz:∀a,F a->a.block<w.heap.size
 gh:∀g,aZ X.K ρ F w (X.gh g) (.pointer (some ⟨g,0,none⟩))
 one:∀(id:Nat) hd,ρ[id]?=some hd->hd.v.oneCell'=true
 gk:∀a,F a->S.F0 a∨S a.block∨w0.heap.size<=a.block
 fin:∀a,S.F0 a->F a
def jg.mono{ρ ρ':bX}{F F':bT}{w w':World}(gT:∀(id:Nat) hd,ρ[id]?=some hd->ρ'[id]?=some hd)(hF:∀a,F a->F' a)
 (hw:∀a v,F a->w.cell? a=some v->w'.cell? a=some v) {env:cY} {tmps:Array Value} (h:jg X ρ F w env tmps):jg X ρ' F' w' env tmps:=
 λt=>(h t).mono gT hF hw
def km.mono{ρ ρ':bX}{F F':bT}{w w':World}(gT:∀(id:Nat) hd,ρ[id]?=some hd->ρ'[id]?=some hd)(hF:∀a,F a->F' a)
 (hw:∀a v,F a->w.cell? a=some v->w'.cell? a=some v) {hd:Hd} {b:ep} (hg:∀g,hd.eM=some g->w'.heap[g]?=w.heap[g]?) (h:km X ρ F w hd b):km X ρ' F' w' hd b:=by
 cases b with
 |var ks cs=>
  obtain⟨h1,h2,g,cur,e,hv,hh,hr,hy⟩:=h;exact⟨h1,h2,g,cur,e,hv,by rw [hg g (oo)];exact hh,⟨hr.1,λj x v hx hv=>(hr.2 j x v hx hv).mono gT hF hw⟩,hy⟩
 |row t xs=>
  obtain⟨h1,h2,h3⟩:=h;refine⟨h1,h2,?_⟩;rcases h3 with h3|⟨g,o,c,cur,hv,hh,h4,h5,h6,h7⟩
  ·exact .inl h3
  ·refine .inr ⟨g,o,c,cur,hv,by rw [hg g (oo)];exact hh,h4,h5,h6,λi row hi j x hx=> ?_⟩;obtain⟨v,kX,hr⟩:=h7 i row hi j x hx;exact⟨v,kX,hr.mono gT hF hw⟩
 |map kd ag ks es=>
  obtain⟨nH,g,mes,clock,hv,hh,ev,uQ⟩:=h;exact⟨nH,g,mes,clock,hv,by rw [hg g (oo)];exact hh,ev,λi e me he hm=>let⟨a,r1,r2⟩:=uQ i e me he hm;⟨a,r1.mono gT hF hw,r2.mono gT hF hw⟩⟩
 |loop s env busy xl=>
  obtain⟨g,lp,hv,hh,h1,h2,h3,h4,h5,h6⟩:=h;exact⟨g,lp,hv,by rw [hg g (oo)];exact hh,h1,h2,h3,h4,h5.mono gT hF hw,h6⟩
 |HW=>
  obtain⟨g,hv,hh⟩:=h;exact⟨g,hv,by rw [hg g (oo)];exact hh⟩
 |eW t xs=>exact aZ.mono gT hF hw h
 |dead=>trivial
def km.O0{ρ:bX}{F:bT}{w w':World}(gT:∀(id:Nat) hd,ρ[id]?=some hd->ρ'[id]?=some hd)(hF:∀a,F a->F' a)
 (hw:∀a v,F a->w.cell? a=some v->w'.cell? a=some v)   (hb:b.iM=true) (h:km X ρ F w hd b):km X ρ' F' w' hd b:=by
 cases b with
 |eW t xs=>exact aZ.mono gT hF hw h
 |dead=>trivial
 |_=>simp [ep.iM]at hb
section
variable {w0 w w':World} {S:Sc} {F:bT} {ρ:bX} {M:aV}
def Inv.cells(hI:Inv X w0 S F ρ M w)(hg:w.grownBy w' row)(ik:∀k,row=some k->∀a,F a->a.block≠k):
 ∀a v,F a->w.cell? a=some v->w'.cell? a=some v:=by
 intro a v hF hc;refine hg.cell hc ?_;intro e;exact ik _ e.symm a hF rfl
def nK{α:Type}{l:List α}{x y:α}{i:Nat}(h:l[i]?=some y):(l++[x])[i]?=some y:=aiT
def Inv.grown(hI:Inv X w0 S F ρ M w)(hg:w.grownBy w' none):Inv X w0 S F ρ M w' where
 os:=hg.os.trans hI.os
 tape:=hg.tape.trans hI.tape
 output:=hg.output.trans hI.output
 size:=oh hI.size hg.size
 frame:=λg h1 h2=>(hg.block g (p9 h1 hI.size) (by simp)).trans (hI.frame g h1 h2)
 len:=hI.len
 rep:=λid b hd hb hh=>by
  by_cases dI:b.iM=true
  ·exact(hI.rep id b hd hb hh).O0 (λ_ _ h=>h) (λ_ h=>h) (hI.cells hg (by simp)) dI
  ·refine(hI.rep id b hd hb hh).mono (λ_ _ h=>h) (λ_ h=>h) (hI.cells hg (by simp)) ?_;intro g dT;exact hg.block g (hI.sep id b hd g hb (by simpa using dI) hh dT).1 (by simp)
 sep:=λid b hd g hb eU hh dT=>let⟨a1,a2,a3⟩:=hI.sep id b hd g hb eU hh dT;⟨p9 a1 hg.size,a2,a3⟩
 iX:=hI.iX
 fz:=λa ha=>p9 (hI.fz a ha) hg.size
 gh:=λg=>(hI.gh g).mono (λ_ _ h=>h) (λ_ h=>h) (hI.cells hg (by simp))
 one:=hI.one
 gk:=hI.gk
 fin:=hI.fin
def Inv.write(hI:Inv X w0 S F ρ M w){id:Nat}{b b':ep}{hd:Hd}{g:Nat}(hb:M[id]?=some b)(mi:b.iM=false)(hh:ρ[id]?=some hd)(dT:hd.eM=some g)
 (hg:w.grownBy w' (some g)) (jX:km X ρ F w' hd b'):Inv X w0 S F ρ (M.set id b') w' where
 os:=hg.os.trans hI.os
 tape:=hg.tape.trans hI.tape
 output:=hg.output.trans hI.output
 size:=oh hI.size hg.size
 frame:=λk h1 h2=>by
  have hs:=hI.sep id b hd g hb mi hh dT;refine(hg.block k (p9 h1 hI.size) ?_).trans (hI.frame k h1 h2);intro e;injection e with e;subst e;rcases hs.2.1 with h|h
  ·exact h2 h
  ·omega
 len:=Zb
 rep:=λid' c dI hc eo=>by
  by_cases bA:id'=id
  ·subst bA;rw [hh]at eo;injection eo with eo;subst eo;have cM:=(eZ.1 hb).1;rw [qK cM]at hc;injection hc with hc;subst hc;exact jX
  ·rw [kI (Ne.symm bA)]at hc;have hs:=hI.sep id b hd g hb mi hh dT
   by_cases mz:c.iM=true
   ·exact(hI.rep id' c dI hc eo).O0 (λ_ _ h=>h) (λ_ h=>h) (hI.cells hg (λk hk a hF=>by injection hk with hk;subst hk;exact hs.2.2 a hF)) mz
   ·refine(hI.rep id' c dI hc eo).mono (λ_ _ h=>h) (λ_ h=>h) (hI.cells hg ?_) ?_
    ·intro k hk a hF;injection hk with hk;subst hk;exact hs.2.2 a hF
    ·intro g' jC;refine hg.block g' (hI.sep id' c dI g' hc (by simpa using mz) eo jC).1 ?_;intro e;injection e with e;subst e;exact hI.iX id' id c b dI hd g' bA hc hb (by simpa using mz) mi eo hh jC dT
 sep:=λid' c dI g' hc mz eo jC=>by
  by_cases bA:id'=id
  ·subst bA;rw [hh]at eo;injection eo with eo;subst eo;obtain⟨a1,a2,a3⟩:=hI.sep id' b hd g' hb mi hh jC;exact⟨p9 a1 hg.size,a2,a3⟩
  ·rw [kI (Ne.symm bA)]at hc;obtain⟨a1,a2,a3⟩:=hI.sep id' c dI g' hc mz eo jC;exact⟨p9 a1 hg.size,a2,a3⟩
 iX:=λi j c d hc dI k qz h1 h2 h3 h4 h5 h6 h7=>by
  have key:∀(i:Nat) c,(M.set id b')[i]?=some c->c.iM=false->∃c0,M[i]?=some c0∧c0.iM=false:=by
   intro i c hc rC
   by_cases bA:i=id
   ·subst bA;exact⟨b,hb,mi⟩
   ·rw [kI (Ne.symm bA)]at hc;exact⟨c,hc,rC⟩
  obtain⟨c0,a1,a2⟩:=key i c h1 h3;obtain⟨d0,b1,b2⟩:=key j d h2 h4;exact hI.iX i j c0 d0 hc dI k qz a1 b1 a2 b2 h5 h6 h7
 fz:=λa ha=>p9 (hI.fz a ha) hg.size
 gh:=λk=>(hI.gh k).mono (λ_ _ h=>h) (λ_ h=>h) (hI.cells hg (λj hj a hF=>by injection hj with hj;subst hj;exact(hI.sep id b hd g hb mi hh dT).2.2 a hF))
 one:=hI.one
 gk:=hI.gk
 fin:=hI.fin
def Inv.C5(hI:Inv X w0 S F ρ M w)(yX:∀g,hd.eM=some g->g<w.heap.size∧(S g∨w0.heap.size<=g)∧(∀a,F a->a.block≠g)∧
 ∀(id:Nat) b' dI,M[id]?=some b'->b'.iM=false->ρ[id]?=some dI->dI.eM≠some g)
 (h1:hd.v.oneCell'=true) (jX:km X (ρ++[hd]) F w hd b):Inv X w0 S F (ρ++[hd]) (M++[b]) w:=by
 have hlen:=hI.len;have split:∀(i:Nat) c,(M++[b])[i]?=some c->(i<M.length∧M[i]?=some c)∨(i=M.length∧c=b):=by
  intro i c hc
  by_cases hi:i<M.length
  ·rw [jH hi]at hc;exact .inl ⟨hi,hc⟩
  ·rw [kZ (by omega)]at hc;have:i- M.length=0:=by
    have:=(eZ.1 hc).1;simp at this;omega
   rw [this]at hc;simp at hc;exact .inr ⟨by omega,hc.symm⟩
 have vk:∀(i:Nat) h,(ρ++[hd])[i]?=some h->(i<M.length∧ρ[i]?=some h)∨(i=M.length∧h=hd):=by
  intro i h hh
  by_cases hi:i<ρ.length
  ·rw [jH hi]at hh;exact .inl ⟨by omega,hh⟩
  ·rw [kZ (by omega)]at hh;have:i- ρ.length=0:=by
    have:=(eZ.1 hh).1;simp at this;omega
   rw [this]at hh;simp at hh;exact .inr ⟨by omega,hh.symm⟩
 refine⟨hI.os,hI.tape,hI.output,hI.size,hI.frame,by simp [hlen],?_,?_,?_,hI.fz,λg=>(hI.gh g).mono (λ_ _ h=>nK h) (λ_ h=>h) (λ_ _ _ h=>h),λid h hh=>by
  rcases vk id h hh with⟨_,hh⟩|⟨_,rfl⟩
  ·exact hI.one id h hh
  ·exact h1,hI.gk,hI.fin⟩
 ·intro id c h hc hh;rcases split id c hc with⟨hi,hc⟩|⟨hi,rfl⟩
  ·rcases vk id h hh with⟨_,hh⟩|⟨h2,_⟩
   ·exact(hI.rep id c h hc hh).mono (λ_ _ h=>nK h) (λ_ h=>h) (λ_ _ _ h=>h) (λ_ _=>rfl)
   ·omega
  ·rcases vk id h hh with⟨h2,_⟩|⟨_,rfl⟩
   ·omega
   ·exact jX
 ·intro id c h g hc eU hh dT;rcases split id c hc with⟨hi,hc⟩|⟨hi,rfl⟩
  ·rcases vk id h hh with⟨_,hh⟩|⟨h2,_⟩
   ·exact hI.sep id c h g hc eU hh dT
   ·omega
  ·rcases vk id h hh with⟨h2,_⟩|⟨_,rfl⟩
   ·omega
   ·obtain⟨a1,a2,a3,_⟩:=yX g dT;exact⟨a1,a2,a3⟩
 ·intro i j c d hc dI k qz h1 h2 h3 h4 h5 h6 h7 h8;rcases split i c h1 with⟨hi,m1⟩|⟨hi,e1⟩<;>rcases split j d h2 with⟨hj,m2⟩|⟨hj,e2⟩
  ·rcases vk i hc h5 with⟨_,m5⟩|⟨_,_⟩
   ·rcases vk j dI h6 with⟨_,m6⟩|⟨_,_⟩
    ·exact hI.iX i j c d hc dI k qz m1 m2 h3 h4 m5 m6 h7 h8
    ·omega
   ·omega
  ·rcases vk i hc h5 with⟨_,m5⟩|⟨_,_⟩
   ·rcases vk j dI h6 with⟨_,_⟩|⟨_,e6⟩
    ·omega
    ·exact(yX k (e6▸h8)).2.2.2 i c hc m1 h3 m5 h7
   ·omega
  ·rcases vk i hc h5 with⟨_,_⟩|⟨_,e5⟩
   ·omega
   ·rcases vk j dI h6 with⟨_,m6⟩|⟨_,_⟩
    ·exact(yX k (e5▸h7)).2.2.2 j d dI m2 h4 m6 h8
    ·omega
  ·omega
def Inv.push(hI:Inv X w0 S F ρ M w)(hg:w.grownBy w' none)(yX:∀g,hd.eM=some g->w.heap.size<=g∧g<w'.heap.size)
 (h1:hd.v.oneCell'=true) (jX:km X (ρ++[hd]) F w' hd b):Inv X w0 S F (ρ++[hd]) (M++[b]) w':=by
 refine(hI.grown hg).C5 (λg dT=> ?_) h1 jX;obtain⟨h2,h3⟩:=yX g dT;refine⟨h3,.inr (oh hI.size h2),λa ha e=> ?_,λid b' dI mQ eU hh lv=> ?_⟩
 ·have:=hI.fz a ha;omega
 ·have:=(hI.sep id b' dI g mQ eU hh lv).1;omega
def Inv.move(hI:Inv X w0 S F ρ M w){id:Nat}{b':ep}{dI:Hd}(hb:M[id]?=some b)(mi:b.iM=false)(hh:ρ[id]?=some hd)
 (hg:w.grownBy w' row) (ik:row=none∨row=hd.eM) (yX:∀g,dI.eM=some g->g<w'.heap.size∧(hd.eM=some g∨w.heap.size<=g))
 (h1:dI.v.oneCell'=true) (jX:km X (ρ++[dI]) F w' dI b'):Inv X w0 S F (ρ++[dI]) (M.set id .dead ++[b']) w':=by
 have cM:=(eZ.1 hb).1;have HP:Inv X w0 S F ρ (M.set id .dead) w':=by
  cases dT:hd.eM with
  |none=>
   have qA:w.grownBy w' none:=by
    rcases ik with h|h
    ·rw [h]at hg;exact hg
    ·rw [h,dT]at hg;exact hg
   have oE:=hI.grown qA;refine⟨oE.os,oE.tape,oE.output,oE.size,oE.frame,by simpa using oE.len,?_,?_,?_,oE.fz,oE.gh,oE.one,oE.gk,oE.fin⟩
   ·intro i c h hc eo
    by_cases hi:i=id
    ·subst hi;rw [qK cM]at hc;injection hc with hc;subst hc;trivial
    ·rw [kI (Ne.symm hi)]at hc;exact oE.rep i c h hc eo
   ·intro i c h g hc rC eo lv
    by_cases hi:i=id
    ·exact Ri
    ·rw [kI (Ne.symm hi)]at hc;exact oE.sep i c h g hc rC eo lv
   ·intro i j c d h h' g qz hc mz rC eU eo aOl lv;have key:∀(i:Nat) c,(M.set id .dead)[i]?=some c->c.iM=false->M[i]?=some c:=by
     intro i c hc rC
     by_cases hi:i=id
     ·exact Ri
     ·rw [kI (Ne.symm hi)]at hc;exact hc
    exact oE.iX i j c d h h' g qz (key i c hc rC) (key j d mz eU) rC eU eo aOl lv
  |some g=>
   have wv:w.grownBy w' (some g):=by
    rcases ik with h|h
    ·rw [h]at hg;exact⟨hg.os,hg.tape,hg.output,hg.size,λk hk _=>hg.block k hk (by simp)⟩
    ·rw [h,dT]at hg;exact hg
   exact hI.write hb mi hh dT wv (b':= .dead) trivial
 refine HP.C5 (λg dT=> ?_) h1 jX;obtain⟨h2,h3⟩:=yX g dT;rcases h3 with h3|h3
 ·obtain⟨s1,s2,s3⟩:=hI.sep id b hd g hb mi hh h3;refine⟨h2,s2,s3,λi c h hc rC eo lv=> ?_⟩
  by_cases hi:i=id
  ·exact Ri
  ·rw [kI (Ne.symm hi)]at hc;exact hI.iX i id c b h hd g hi hc hb rC mi eo hh lv h3
 ·refine⟨h2,.inr (oh hI.size h3),λa ha e=> ?_,λi c h hc rC eo lv=> ?_⟩
  ·have:=hI.fz a ha;omega
  ·by_cases hi:i=id
   ·exact Ri
   ·rw [kI (Ne.symm hi)]at hc;have:=(hI.sep i c h g hc rC eo lv).1;omega
def Inv.freeze(hI:Inv X w0 S F ρ M w){id:Nat}{b:ep}{hd:Hd}{g:Nat}(hb:M[id]?=some b)(mi:b.iM=false)(hh:ρ[id]?=some hd)(dT:hd.eM=some g)
 {b':ep} (dI:b'.iM=true) (jX:km X ρ (λa=>F a∨a.block=g) w hd b'):Inv X w0 S (λa=>F a∨a.block=g) ρ (M.set id b') w where
 os:=hI.os
 tape:=hI.tape
 output:=hI.output
 size:=hI.size
 frame:=hI.frame
 len:=Zb
 rep:=λid' c h' hc eo=>by
  by_cases bA:id'=id
  ·exact alJ
  ·rw [kI (Ne.symm bA)]at hc;exact(hI.rep id' c h' hc eo).mono (λ_ _ h=>h) (λ_ h=> .inl h) (λ_ _ _ h=>h) (λ_ _=>rfl)
 sep:=λid' c h' g' hc mz eo jC=>by
  by_cases bA:id'=id
  ·subst bA;have cM:=(eZ.1 hb).1;rw [qK cM]at hc;injection hc with hc;subst hc;rw [dI]at mz;cases mz
  ·rw [kI (Ne.symm bA)]at hc;obtain⟨a1,a2,a3⟩:=hI.sep id' c h' g' hc mz eo jC;refine⟨a1,a2,λa ha e=> ?_⟩;rcases ha with ha|ha
   ·exact a3 a ha e
   ·have:g'=g:=by omega
    subst this;exact hI.iX id' id c b h' hd g' bA hc hb mz mi eo hh jC dT
 iX:=λi j c d hc h' k qz h1 h2 h3 h4 h5 h6 h7=>by
  have key:∀(i:Nat) c,(M.set id b')[i]?=some c->c.iM=false->M[i]?=some c:=by
   intro i c hc rC
   by_cases bA:i=id
   ·subst bA;have cM:=(eZ.1 hb).1;rw [qK cM]at hc;injection hc with hc;subst hc;rw [dI]at rC;cases rC
   ·rw [kI (Ne.symm bA)]at hc;exact hc
  exact hI.iX i j c d hc h' k qz (key i c h1 h3) (key j d h2 h4) h3 h4 h5 h6 h7
 fz:=λa ha=>by
  rcases ha with ha|ha
  ·exact hI.fz a ha
  ·have:=(hI.sep id b hd g hb mi hh dT).1;omega
 gh:=λk=>(hI.gh k).mono (λ_ _ h=>h) (λ_ h=> .inl h) (λ_ _ _ h=>h)
 one:=hI.one
 fin:=λa ha=> .inl (hI.fin a ha)
 gk:=λa ha=>by
  rcases ha with ha|ha
  ·exact hI.gk a ha
  ·rcases(hI.sep id b hd g hb mi hh dT).2.1 with h|h
   ·exact .inr (.inl (by rw [ha];exact h))
   ·exact .inr (.inr (by rw [ha];exact h))
end
def dV(ids:dP)(M M':aV):Prop:=M.length<=M'.length∧∀id,id<M.length->id∉ids->M'[id]?=M[id]?
def dV.refl(ids:dP)(M:aV):dV ids M M:=⟨fk _,λ_ _ _=>rfl⟩
def dV.push(ids:dP)(M:aV)(b:ep):dV ids M (M++[b]):=⟨by simp,λid h _=>jH h⟩
def dV.set(M:aV)(id:Nat)(b:ep):dV [id] M (M.set id b):=⟨by simp,λi _ h=>kI (λe=>h (by simp [e]))⟩
def dV.trans{M xO:aV}(h:dV ids M M')(k:dV Tc M' xO):dV (ids++Tc) M xO:=
 ⟨oh h.1 k.1,λi hi hn=>by
   rw [j7,not_or]at hn;rw [k.2 i (p9 hi h.1) hn.2,h.2 i hi hn.1]⟩
def dV.mono{M:aV}(h:dV ids M M')(hs:∀i∈ids,i∈Tc):dV Tc M M':=⟨h.1,λi hi hn=>h.2 i hi λe=>hn (hs i e)⟩
structure Grow(F F':bT)(ρ ρ':bX)(w w':World):Prop where
 hF:∀a,F a->F' a
 gT:∀(id:Nat) hd,ρ[id]?=some hd->ρ'[id]?=some hd
 hb:∀a,F a->w'.heap[a.block]?=w.heap[a.block]?
def afY{w w':World}{a:Addr}(h:w'.heap[a.block]?=w.heap[a.block]?)(hc:w.cell? a=some v):w'.cell? a=some v:=by
 unfold World.cell? at hc⊢;rw [h];exact hc
def Grow.hw{F:bT}{ρ:bX}{w w':World}(h:Grow F F' ρ ρ' w w'):∀a v,F a->w.cell? a=some v->w'.cell? a=some v:=λa _ ha hc=>afY (h.hb a ha) hc
def Inv.xt{w0 w w':World}{S:Sc}{F:bT}{ρ:bX}{M:aV}(hI:Inv X w0 S F ρ M w)(hg:w.grownBy w' row)(ik:∀k,row=some k->∀a,F a->a.block≠k):∀a,F a->w'.heap[a.block]?=w.heap[a.block]?:=
 λa ha=>hg.block a.block (hI.fz a ha) λe=>ik _ e.symm a ha rfl
def Grow.refl(F:bT)(ρ:bX)(w:World):Grow F F ρ ρ w w:=⟨λ_ h=>h,λ_ _ h=>h,λ_ _=>rfl⟩
def Grow.trans{F F' tT:bT}{ρ ρ' sY:bX}{w w' qo:World}(h:Grow F F' ρ ρ' w w')(k:Grow F' tT ρ' sY w' qo):Grow F tT ρ sY w qo:=
 ⟨λa ha=>k.hF a (h.hF a ha),λid hd hh=>k.gT id hd (h.gT id hd hh),λa ha=>(k.hb a (h.hF a ha)).trans (h.hb a ha)⟩
def aZ.grow{K:TypeId->ei}{F:bT}{ρ:bX}{w w':World}{x:AV}(h:aZ K ρ F w x v)(g:Grow F F' ρ ρ' w w'):aZ K ρ' F' w' x v:=h.mono g.gT g.hF g.hw
def jg.grow{F F':bT}{ρ ρ':bX}{w w':World}{env:cY}{tmps:Array Value}(h:jg X ρ F w env tmps)(g:Grow F F' ρ ρ' w w'):jg X ρ' F' w' env tmps:=λt=>(h t).grow g
def dz.grow{K:TypeId->ei}{F F':bT}{ρ ρ':bX}{w w':World}{xs:bl}{vs:fI}(h:dz K ρ F w xs vs)(g:Grow F F' ρ ρ' w w'):dz K ρ' F' w' xs vs:=⟨h.1,λj x v hx hv=>(h.2 j x v hx hv).grow g⟩
end
end Go.aA
namespace Go.aA
def wT{p:Prop}(h:p:=by simp at hx):p:=h
def akr{p:Prop}(h:p:=by have:=f.u;rw [h]at this;cases d<;>simp [mK]at this;subst this;exact f.jN):p:=h
def sP{p:Prop}(h:p:=by simpa using this):p:=h
end Go.aA
namespace Go.aA
def fx:=@Go.Sem.run_bind
def iT:=@List.getElem?_map
def ue:=@Array.ext'
def jf:=@Go.run_underlying
def gE:=@Go.Result.andThen_ok
def iy:=@beq_iff_eq
end Go.aA
namespace Go.aA
open Go
noncomputable section
variable{t:TypeId}
def AT(P:Program)(t:TypeId):Bool:=
 match P.underlying t with
 |some (.struct fs)=>(fs.toList.all fun f=>f.name != "_")&& !P.stoodInHeld t&& !P.eqGuardType P.depth t
 |_=>false
structure mX(X:Cx)(t:TypeId)(i:TypeInfo)(d:TypeDesc)(z:Value):Prop where
 info:X.P.info? t=some i
 jN:X.P.underlying t=some d
 zero:i.zero=some z
 u:(X.ti t).u =mK d
 size:(X.ti t).size =i.size
 bytes:(X.ti t).bytes =i.bytes
 zc:(X.ti t).zero =z.cells.toList.map Am
 zs:z.cells.size=i.size
 ks:(X.ti t).ks.length =i.size
 zag:SV z=(X.ti t).u.agg
structure apx(P:Program)(u:Ub):Prop where
 pt:P.underlying u.pt=some (.pointer u.bt)
 up:P.underlying u.up=some .unsafePointer
 bt:∃j,P.info? u.bt=some j∧j.size≠0
 aNM:liesAt P P.depth u.e (u.ks.length/P.cellsOf u.e) 0 u.bt 1=true
 ks:0<u.ks.length
 ne:∃fn,P.funcs[u.ne]?=some fn∧(fn.name== "runtime.NumGoroutine")=false∧fn.body.isNone=true∧Extern.findNext fn=none∧Extern.find fn=some Extern.AbiNoEscape.same
structure Cx.Okb(X:Cx):Prop where
 facts:∀{t},(X.ti t).ok =true->∃i d z,mX X t i d z
 mixed:X.P.follows .mixedOrders =true
 bad:∀t,(X.ti t).ok =false->(X.ti t).ks =[]
 gh:∀g,X.gh g= .top ∨(X.gh g).pure =true
 eqs:∀t,X.eqs t=true->AT X.P t=true
 ZV:X.pk=true->∀t,∀k∈X.K t,k≠ .any
 ub:∀u,X.ub=some u->apx X.P u
structure Cx.Ok(X:Cx):Prop extends Cx.Okb X where
 pkt:X.pk=true
variable {X:Cx} {R:Type}
def Cx.Ok.kinds(hX:X.Ok)(t:TypeId):∀k∈X.K t,k≠ .any :=hX.toOkb.ZV hX.pkt t
def Cx.Okb.ok(hX:X.Okb)(h:X.pk=true):X.Ok:=⟨hX,h⟩
instance aO3:Coe X.Ok X.Okb:=⟨Cx.Ok.toOkb⟩
def aAH(ht:∀t,(X.ti t).ok =true->X.ti t=xj X.P t)(hb:∀t,(X.ti t).ok =false->(X.ti t).ks =[])(t:TypeId):∀k∈X.K t,k≠ .any :=by
 intro k hk;cases h:(X.ti t).ok with
 |false=>
  have:=hb t h;simp [Cx.K,this]at hk
 |true=>
  have e:=ht t h;unfold Cx.K at hk;rw [e]at hk;unfold xj at hk;split at hk
  ·split at hk
   ·exact Xb _ _ _ k hk
   ·simp at hk
  ·simp at hk
def TI.alike(a b:TI):Prop:=a.ok=b.ok∧a.u=b.u∧a.size=b.size∧a.bytes=b.bytes∧a.zero=b.zero∧a.ks.length=b.ks.length
def afL(e:TI.alike (X.ti t) (xj X.P t))(h:(X.ti t).ok =true):∃i d z,mX X t i d z:=by
 obtain⟨e1,e2,e3,e4,e5,e6⟩:=e;unfold xj at e1 e2 e3 e4 e5 e6;cases hi:X.P.info? t with
 |none=>simp only [hi]at e1;rw [e1]at h;simp at h
 |some i=>
  cases hd:X.P.underlying t with
  |none=>simp only [hi,hd]at e1;rw [e1]at h;simp at h
  |some d=>
   cases hz:i.zero with
   |none=>simp only [hi,hd,hz]at e1;rw [e1]at h;simp at h
   |some z=>
    simp only [hi,hd,hz]at e1 e2 e3 e4 e5 e6;rw [e1]at h;simp only [bM,iy]at h;exact⟨i,d,z,⟨hi,hd,hz,e2,e3,e4,e5,h.1.1,by rw [e6];exact h.1.2,by rw [e2];exact h.2⟩⟩
def mX.isAgg{t:TypeId}{i:TypeInfo}{d:TypeDesc}{z:Value}(f:mX X t i d z)(w:World):(isAgg t).run X.P w= .ok (X.ti t).u.agg w:=by
 rw [f.u];unfold Go.isAgg;simp only [fx,jf f.jN,gE];cases d<;>rfl
def mX.sizeOf{t:TypeId}{i:TypeInfo}{d:TypeDesc}{z:Value}(f:mX X t i d z)(w:World):(sizeOf t).run X.P w= .ok (X.ti t).size w:=by
 rw [f.size];unfold Go.sizeOf typeInfo;simp [f.info]
def mX.zeroValue{t:TypeId}{i:TypeInfo}{d:TypeDesc}{z:Value}(f:mX X t i d z)(w:World):(zeroValue t).run X.P w= .ok z w:=by
 unfold Go.zeroValue typeInfo;simp [f.info,f.zero]
def mX.typeInfo{t:TypeId}{i:TypeInfo}{d:TypeDesc}{z:Value}(f:mX X t i d z)(w:World):(typeInfo t).run X.P w= .ok i w:=by
 unfold Go.typeInfo;simp [f.info]
def mX.slice{t e:TypeId}{i:TypeInfo}{d:TypeDesc}{z:Value}(f:mX X t i d z)(h:(X.ti t).u = .slice e):X.P.underlying t=some (.slice e):=akr
def mX.array{t e:TypeId}{n:Nat}{i:TypeInfo}{d:TypeDesc}{z:Value}(f:mX X t i d z)(h:(X.ti t).u = .array n e):X.P.underlying t=some (.array n e):=by
 have:=f.u;rw [h]at this;cases d<;>simp [mK]at this;obtain⟨rfl,rfl⟩:=this;exact f.jN
def mX.aoM{k:IntKind}{i:TypeInfo}{d:TypeDesc}{z:Value}(f:mX X t i d z)(h:(X.ti t).u = .int k):X.P.underlying t=some (.int k):=akr
def mX.struct{t:TypeId}{fs:List (Nat×TypeId)}{i:TypeInfo}{d:TypeDesc}{z:Value}(f:mX X t i d z)(h:(X.ti t).u = .struct fs):
 ∃gs:Array Field,X.P.underlying t=some (.struct gs)∧fs=gs.toList.map λf=>(f.offset,f.type):=by
 have:=f.u;rw [h]at this;cases d<;>simp [mK]at this;exact⟨_,f.jN,this⟩
def Xr(K:TypeId->ei)(ρ:bX)(F:bT)(w:World)(v:Value):aZ K ρ F w (Am v) v:=by
 unfold Am;split<;>constructor
def aAy(K:TypeId->ei)(ρ:bX)(F:bT)(w:World)(v:Value):aZ K ρ F w (YU v) v:=by
 unfold YU;split
 ·rename_i cs;have:=aZ.agg (K:=K) (ρ:=ρ) (F:=F) (w:=w) (cs.toList.map Am) cs.toList (by simp) (λj x v hx hv=>by
   rw [iT,hv]at hx;simp at hx;subst hx;exact Xr K ρ F w v)
  exact sP
 ·rename_i cs;split
  ·rename_i h;have oD:cs= #[]:=by apply ue;simpa using h
   subst oD;exact aZ.ew [] [] rfl (λj x v hx _=>wT)
  ·exact .top _
 ·exact Xr K ρ F w v
def aBR(K:TypeId->ei)(ρ:bX)(F:bT)(w:World)(vs:fI):dz K ρ F w (vs.map Am) vs:=
 ⟨by simp,λj x v hx hv=>by
   rw [iT,hv]at hx;simp at hx;subst hx;exact Xr K ρ F w v⟩
def Iy{K:TypeId->ei}{ρ:bX}{F:bT}{w:World}{x:AV}{v:Value}(h:aZ K ρ F w x v)(hx:x.leaf=true)(gT:∀(id:Nat) hd,ρ[id]?=some hd->hd.v.oneCell'=true):v.oneCell'=true:=by
 cases h<;>simp_all [AV.leaf,Value.oneCell']<;>(apply gT;assumption)
def aZ.cells{K:TypeId->ei}{ρ:bX}{F:bT}{w:World}{x:AV}{v:Value}(h:aZ K ρ F w x v)(hx:x.leaf=true∨∃cs,x= .agg cs)
 (gT:∀(id:Nat) hd,ρ[id]?=some hd->hd.v.oneCell'=true):dz K ρ F w x.cells v.cells.toList:=by
 rcases hx with hx|⟨cs,rfl⟩
 ·have h1:=Iy h hx gT;have e1:x.cells=[x]:=by cases x<;>simp_all [AV.cells,AV.leaf]
  have e2:v.cells= #[v]:=by cases v<;>simp_all [Value.cells,Value.oneCell']
  rw [e1,e2];refine⟨rfl,λj y u hy hu=> ?_⟩;cases j with
  |zero=>simp at hy hu;subst hy;subst hu;exact h
  |succ j=>simp at hy
 ·cases h with
  |agg _ vs hl h=>exact⟨by simpa [Value.cells,AV.cells]using hl,by simpa [Value.cells,AV.cells]using h⟩
end
end Go.aA
namespace Go.aA
def eu{p:Prop}(h:p:=by simp;omega):p:=h
def jU{p:Prop}(h:p:=by simpa using h):p:=h
def aX{p:Prop}(h:p:=by cases h):p:=h
def aj6{p:Prop}(h:p:=by rw [Bn]at hu;cases d<;>simp [mK]at hu;exact f.jN):p:=h
def aj1{p:Prop}(h:p:=by
 cases hac:a==c with
 |false=>simp [iz]
 |true=>simpa using ih):p:=h
def Zr{p:Prop}(h:p:=by rw [Jr];exact hu):p:=h
end Go.aA
namespace Go.aA
def lO:=@Bool.false_eq_true
def nv:=@if_false
def nu:=@List.map_cons
def mf:=@List.length_cons
def dX:=@Bool.not_eq_true'
def jS:=@List.all_eq_true
def lN:=@List.getD_eq_getElem?_getD
def iz:=@Go.Sem.run_pure
def oJ:=@if_true
def gX:=@List.mem_cons
def PH:=@List.drop_eq_getElem_cons
def pb:=@Option.getD_some
def Ci:=@Array.getElem?_eq_getElem
def mT:=@List.mem_of_getElem?
def z6:=@Bool.or_eq_true
def FF:=@of_decide_eq_true
def oe:=@Array.length_toList
def Jr:=@Array.getElem?_toList
end Go.aA
namespace Go.aA
open Go
noncomputable section
variable {X:Cx} {R:Type}
variable{x:AV}{off:Nat}{r:R}{t:TypeId}{xs:bl}{ks:ei}
def aR(b:Bool)(x:Option R):Option R:=match b with|true=>x|false=>none
def dq{b:Bool}{x:Option R}(h:aR b x=some r):b=true∧x=some r:=by
 cases b<;>simp_all [aR]
def zm(ks:ei)(row:Row)(off:Nat):Nat->bl
 |0=>[]
 |n+1=>ld (ks.getD off .raw) (row.getD off .top)::zm ks row (off+1) n
def ZT{ks:ei}{row:Row}(h:dt ks row=true):∀(n off:Nat),off+n<=ks.length->zm ks row off n=(row.drop off).take n
 |0,off,_=>by simp [zm]
 |n+1,off,hb=>by
  have hl:=iS h;have h1:off<row.length:=by omega
  have h2:off<ks.length:=by omega
  simp only [zm,List.getD,dD h1,dD h2,pb];rw [Fx (tY h (dD h2) (dD h1)),ZT h n (off+1) (by omega)];rw [PH h1,List.take_succ_cons]
def Kind.v:Kind->Kind| .slice _=> .any | .raw => .any |k=>k
def kAt(ks:ei)(off:Nat)(k:Kind):Bool:=(ks.all (·==k))||(ks.getD off .raw ==k)
def aDN{k:Kind}(h:kAt ks off k=true)(ho:off<ks.length):ks[off]?=some k:=by
 unfold kAt at h;rw [z6]at h;rcases h with h|h
 ·rw [jS]at h;rw [dD ho];have:=h _ (dy ho);simp at this;rw [this]
 ·rw [iy,List.getD,dD ho]at h;rw [dD ho];exact jU
def setAt:bl->Nat->bl->bl
 |cs,_,[]=>cs
 |cs,off,x::xs=>setAt (cs.set off x) (off+1) xs
def IP:∀(xs cs:bl) (off:Nat),(setAt cs off xs).length =cs.length
 | [],_,_=>rfl
 |x::xs,cs,off=>by simp [setAt,IP xs]
def Ft:∀(xs cs:bl) (off:Nat),off+xs.length<=cs.length->∀(j:Nat),(setAt cs off xs)[j]?=if off<=j∧j<off+xs.length then xs[j- off]? else cs[j]?
 | [],cs,off,_,j=>by simp [setAt];omega
 |x::xs,cs,off,h,j=>by
  simp only [mf]at h;rw [setAt,Ft xs (cs.set off x) (off+1) (eu) j]
  by_cases h1:j=off
  ·subst h1;rw [if_neg (by omega),if_pos (by simp),qK (by omega)];simp
  ·by_cases h2:off+1<=j∧j<off+1+xs.length
   ·rw [if_pos h2,if_pos (eu)];rw [show j- off=(j-(off+1))+1 by omega];simp
   ·rw [if_neg h2,if_neg (eu),kI (Ne.symm h1)]
def Sk:ei->Nat->bl->Bool
 |_,_,[]=>true
 |ks,off,x::xs=>iJ (ks.getD off .raw) x&&Sk ks (off+1) xs
def yR(ks:ei)(off:Nat)(xs:bl):Bool:=
 (match ks with|k::r=>(r.all (·==k))&&xs.all (iJ k)| []=>false)||Sk ks off xs
def ahs:∀{xs:bl} {ks:ei} {off:Nat},Sk ks off xs=true->∀{j:Nat} {x:AV},xs[j]?=some x->iJ (ks.getD (off+j) .raw) x=true
 | [],_,_,_,j,x,hx=>wT
 |y::ys,ks,off,h,j,x,hx=>by
  simp only [Sk,bM]at h;cases j with
  |zero=>simp at hx;subst hx;exact h.1
  |succ j=>
   have:=ahs h.2 (j:=j) (x:=x) (JY)
   rwa [show off+(j+1)=off+1+j by omega]
def aht(h:yR ks off xs=true)(hb:off+xs.length<=ks.length){j:Nat}(hx:xs[j]?=some x):iJ (ks.getD (off+j) .raw) x=true:=by
 unfold yR at h;rw [z6]at h;rcases h with h|h
 ·cases ks with
  |nil=>exact hU
  |cons k r=>
   simp only [bM,jS]at h;have hj:j<xs.length:=(eZ.1 hx).1;have cM:off+j<(k::r).length :=by omega
   have hk:(k::r).getD (off+j) .raw =k:=by
    simp only [List.getD,dD cM,pb];have hm:=dy cM;rcases gX.1 hm with e|e
    ·exact e
    ·simpa using h.1 _ e
   rw [hk];exact h.2 x (mT hx)
 ·exact ahs h hx
def agi{cs:bl}(hk:dt ks cs=true)(h:yR ks off xs=true)(hb:off+xs.length<=ks.length):dt ks (setAt cs off xs)=true:=by
 have hl:=iS hk;refine YM (by rw [IP];exact hl) λj k x hkj hx=> ?_;rw [Ft xs cs off (by omega) j]at hx
 by_cases hj:off<=j∧j<off+xs.length
 ·rw [if_pos hj]at hx;have:=aht h hb hx;rw [show off+(j- off)=j by omega]at this;simpa [List.getD,hkj]using this
 ·rw [if_neg hj]at hx;exact tY hk hkj hx
def abu(ks:ei)(off:Nat):Kind:=
 match ks with
 | []=> .raw
 |k::r=>match r.all (·==k)with|true=>k|false=>(k::r).getD off .raw
def aDM(h:off<ks.length):abu ks off=ks[off]:=by
 unfold abu;split
 ·exact hU
 ·rename_i k r;split
  ·rename_i ha;cases off with
   |zero=>rfl
   |succ o=>
    have:=jS.1 ha (r[o]'(jU)) (dy _);simpa using(eq_of_beq this).symm
  ·rw [lN,dD h];rfl
def vr(X:Cx)(t:TypeId)(p:AV)(M:aV)(k:AV->Option R):Option R:=
 match p with
 | .iA t' row off=>
   aR ((X.ti t).ok &&decide (off+(X.ti t).size <=(X.K t').length))
    (match(X.ti t).u.agg with
     |true=>k (.agg (zm (X.K t') row off (X.ti t).size))
     |false=>aR ((X.ti t).size ==1) (k (ld (abu (X.K t') off) (row.getD off .top))))
 | .ptr id i off=>
   match gm M id with
   |some (.var ks cs)=>
    aR ((X.ti t).ok &&i==0&&decide (off+(X.ti t).size <=ks.length))
     (match(X.ti t).u.agg with
      |true=>k (.agg (zm ks cs off (X.ti t).size))
      |false=>aR ((X.ti t).size ==1&&kAt ks off ((X.ti t).ks.headD .raw).v) (k (ld ((X.ti t).ks.headD .raw).v (cs.getD off .top))))
   |some (.row t' xs)=>
    aR ((X.ti t).ok &&decide (off+(X.ti t).size <=(X.K t').length)&&decide (i<xs.length))
     (match(X.ti t).u.agg with
      |true=>k (.agg (zm (X.K t') (xs.getD i []) off (X.ti t).size))
      |false=>aR ((X.ti t).size ==1) (k (ld ((X.K t').getD off .raw) ((xs.getD i []).getD off .top))))
   |_=>none
 |_=>none
def Mj(X:Cx):List (Nat×TypeId)->bl->bl->Option Bool
 | [],_,_=>some true
 |f::fs,xs,ys=>
  match Mj X fs xs ys with
  |none=>none
  |some r=>
   match(X.ti f.2).ok,(X.ti f.2).u,xs[f.1]?,ys[f.1]? with
   |true,.int _,some (.int ka a),some (.int kb b)=>(match ka==kb with|true=>some (a==b&&r)|false=>none)
   |true,.bool,some (.bool a),some (.bool b)=>some (a==b&&r)
   |_,_,_,_=>none
def Ax(x:AV)(k:Bool->Option R):Option R:=
 match x with
 | .gQ =>k true
 | .jR =>k false
 | .ab _ xs=>match xs.isEmpty with|true=>none|false=>k false
 |_=>none
def afO{k:Bool->Option R}(h:Ax x k=some r):
 ∃b,k b=some r∧∀{K:TypeId->ei} {ρ:bX} {F:bT} {w:World} {v:Value},aZ K ρ F w x v->∃a n c,v= .slice a n c∧a.isNone=b:=by
 unfold Ax at h;split at h
 ·exact⟨_,h,λ{K ρ F w v} hr=>by cases hr;exact⟨none,0,0,rfl,rfl⟩⟩
 ·exact⟨_,h,λ{K ρ F w v} hr=>by cases hr;exact⟨some _,0,_,rfl,rfl⟩⟩
 ·rename_i t xs;split at h
  ·exact aX
  ·rename_i he;refine⟨_,h,λ{K ρ F w v} hr=> ?_⟩;cases hr with
   |kM t=>simp at he
   |ab t xs a cap vss hl lR ki hk hc hx=>exact⟨some _,_,_,rfl,rfl⟩
 ·cases h
def KB(X:Cx)(op:BinOp)(t:TypeId)(x y:AV)(k:AV->Option R):Option R:=
 match x,y with
 | .int kx a,.int ky b=>
   match op with
   | .shl =>aR (decide (0<=b)) (k (.int kx (kx.wrap (a*2^(min b.toNat kx.bits)))))
   | .shr =>aR (decide (0<=b)) (k (.int kx (a.fdiv (2^(min b.toNat kx.bits)))))
   |_=>
    aR (kx==ky) (match op with
     | .add =>k (.int kx (kx.wrap (a+b)))
     | .sub =>k (.int kx (kx.wrap (a- b)))
     | .mul =>k (.int kx (kx.wrap (a*b)))
     | .quo =>aR (!(b==0)) (k (.int kx (kx.wrap (a.tdiv b))))
     | .rem =>aR (!(b==0)) (k (.int kx (a.tmod b)))
     | .and =>k (.int kx (kx.wrap (BitVec.ofInt kx.bits a&&&BitVec.ofInt kx.bits b).toNat))
     | .or =>k (.int kx (kx.wrap (BitVec.ofInt kx.bits a|||BitVec.ofInt kx.bits b).toNat))
     | .xor =>k (.int kx (kx.wrap (BitVec.ofInt kx.bits a^^^BitVec.ofInt kx.bits b).toNat))
     | .andNot =>k (.int kx (kx.wrap (BitVec.ofInt kx.bits a&&& ~~~ BitVec.ofInt kx.bits b).toNat))
     | .eql =>k (.bool (a==b))
     | .neq =>k (.bool (a != b))
     | .lss =>k (.bool (decide (a<b)))
     | .leq =>k (.bool (decide (a<=b)))
     | .gtr =>k (.bool (decide (b<a)))
     | .geq =>k (.bool (decide (b<=a)))
     |_=>none)
 | .bool a,.bool b=>
   match(X.ti t).ok,(X.ti t).u,op with
   |true,.bool,.eql =>k (.bool (a==b))
   |true,.bool,.neq =>k (.bool (!(a==b)))
   |_,_,_=>none
 | .agg xs,.agg ys=>
   match X.eqs t,(X.ti t).ok,(X.ti t).u with
   |true,true,.struct fs=>
    match Mj X fs xs ys with
    |none=>none
    |some b=>match op with| .eql =>k (.bool b)| .neq =>k (.bool (!b))|_=>none
   |_,_,_=>none
 |x,.gQ =>
  match(X.ti t).ok,(X.ti t).u,op with
  |true,.slice _,.eql =>Ax x λb=>k (.bool b)
  |true,.slice _,.neq =>Ax x λb=>k (.bool (!b))
  |_,_,_=>none
 |_,_=>none
def awF(P:Program)(w:World)(op:BinOp)(t:TypeId)(x y:Operand)(ka kb:IntKind)(a b:Int):(eqGuard op t x y (.int ka a) (.int kb b)).run P w= .ok () w:=by
 unfold eqGuard;cases op<;>rfl
def adT(P:Program)(w:World)(op:BinOp)(t:TypeId)(x y:Operand)(a b:Bool):(eqGuard op t x y (.bool a) (.bool b)).run P w= .ok () w:=by
 unfold eqGuard;cases op<;>rfl
def NQ{i:TypeInfo}{d:TypeDesc}{z:Value}(f:mX X t i d z)(ha:(X.ti t).u.agg =false){vs:Array Value}{v:Value}(hv:vs[off]?=some v)(w:World):(part t vs off).run X.P w= .ok v w:=by
 simp only [part,fx,f.isAgg,ha,gE,hv,iz,lO,nv]
def afr(hX:X.Okb){ρ:bX}{F:bT}{w:World}{xs ys:bl}{vs us:Array Value}(h1:dz X.K ρ F w xs vs.toList)(h2:dz X.K ρ F w ys us.toList)(d:Nat):∀(gs:List Field) (b:Bool),(∀g∈gs,g.name≠ "_")→
 Mj X (gs.map λf=>(f.offset,f.type)) xs ys=some b->(Op.eqFields (d+1) vs us gs).run X.P w= .ok b w
 | [],b,_,h=>by
   simp only [List.map_nil,Mj,Option.some.injEq]at h;subst h;rfl
 |g::gs,b,hn,h=>by
  simp only [nu,Mj]at h;split at h
  ·exact aX
  rename_i r hr;have ih:=afr hX h1 h2 d gs r (fun g hg=>hn g (by simp [hg])) hr;have amn:g.name≠ "_" :=hn g (by simp)
  have cell:∀{zs:bl} {ws:Array Value} {x:AV},dz X.K ρ F w zs ws.toList->zs[g.offset]?=some x->∃v,ws[g.offset]?=some v∧aZ X.K ρ F w x v:=by
   intro zs ws x hz hx;have cM:g.offset<zs.length:=(eZ.1 hx).1;have hl:=hz.1;simp only [oe]at hl;obtain⟨u,hu⟩:∃u,ws[g.offset]?=some u:=⟨ws[g.offset]'(by omega),Ci (by omega)⟩;exact⟨u,hu,hz.2 g.offset _ _ hx (Zr)⟩
  split at h
  ·rename_i kt ka a kb c bz hu HA hyb;cases hk:ka==kb with
   |false=>rw [hk]at h;cases h
   |true=>
    rw [hk]at h;have hk:=eq_of_beq hk;subst hk;simp only [Option.some.injEq]at h;subst h;obtain⟨i,dd,z,f⟩:=hX.facts bz;have dW:X.P.underlying g.type=some (.int kt):=by
     have kG:=f.u;rw [hu]at kG;have hf:=f.jN;cases dd<;>simp [mK]at kG
     subst kG;exact hf
    have ha:(X.ti g.type).u.agg =false:=by rw [hu];rfl
    obtain⟨v,hv,jQ⟩:=cell h1 HA;obtain⟨u,nG,kG⟩:=cell h2 hyb;cases jQ;cases kG;simp only [Op.eqFields,ne_eq,amn,not_false_eq_true,oJ,fx,NQ f ha hv,NQ f ha nG,gE,run_equalIn_int (P:=X.P) w d g.type ka kt a c dW];exact aj1
  ·rename_i a c bz hu HA hyb;simp only [Option.some.injEq]at h;subst h;obtain⟨i,dd,z,f⟩:=hX.facts bz;have dW:X.P.underlying g.type=some .bool :=by
    have kG:=f.u;rw [hu]at kG;have hf:=f.jN;cases dd<;>simp [mK]at kG
    exact hf
   have ha:(X.ti g.type).u.agg =false:=by rw [hu];rfl
   obtain⟨v,hv,jQ⟩:=cell h1 HA;obtain⟨u,nG,kG⟩:=cell h2 hyb;cases jQ;cases kG;simp only [Op.eqFields,ne_eq,amn,not_false_eq_true,oJ,fx,NQ f ha hv,NQ f ha nG,gE,run_equalIn_bool' (P:=X.P) w d g.type a c dW];exact aj1
  ·exact aX
def aAO(hX:X.Okb){op:BinOp}{u:TypeId}{y:AV}{a b:Operand}{k:AV->Option R}(h:KB X op t x y k=some r):
 ∃z,k z=some r∧∀(ρ:bX) (F:bT) (w:World) (va vb:Value),aZ X.K ρ F w x va->aZ X.K ρ F w y vb->
  ∃v,(do eqGuard op t a b va vb;binOp op t va vb:Sem Value).run X.P w= .ok v w∧aZ X.K ρ F w z v:=by
 unfold KB at h;split at h
 ·rename_i kx a' ky b';have key:∀(z:AV) (v:Value),(∀(ρ:bX) (F:bT) (w:World),aZ X.K ρ F w z v)->(∀w,(binOp op t (.int kx a') (.int ky b')).run X.P w= .ok v w)->∀(ρ:bX) (F:bT) (w:World) (va vb:Value),aZ X.K ρ F w (.int kx a') va->aZ X.K ρ F w (.int ky b') vb->
   ∃v,(do eqGuard op t a b va vb;binOp op t va vb:Sem Value).run X.P w= .ok v w∧aZ X.K ρ F w z v:=by
   intro z v hz dE ρ F w va vb h1 h2;cases h1;cases h2;refine⟨v,?_,hz ρ F w⟩;rw [fx,awF];exact dE w
  cases op<;>simp only at h<;>first
   |(replace h:=dq h
     obtain⟨e,h⟩:=h
     first
      |(have e':=FF e
        refine⟨_,h,key _ _ (λ_ _ _=> .int _ _) λw=> ?_⟩;unfold binOp Op.shift;simp [show¬b'<0 by omega]
        done)
      |(rw [iy]at e
        subst e
        first
         |(refine⟨_,h,key _ _ (λ_ _ _=> .int _ _) λw=> ?_⟩
           first
            |(simp [binOp,Op.intArith];done)
            |(simp [binOp,Op.intBits];done))
         |(refine⟨_,h,key _ _ (λ_ _ _=> .bool _) λw=> ?_⟩
           simp [binOp,Op.intCmp];done)
         |(replace h:=dq h
           obtain⟨e2,h⟩:=h;refine⟨_,h,key _ _ (λ_ _ _=> .int _ _) λw=> ?_⟩;have hb:b'≠0:=by simpa using e2
           simp [binOp,Op.intDiv,hb];done)))
   |cases h
 ·rename_i a' b';cases bz:(X.ti t).ok with
  |false=>simp [bz]at h
  |true=>
   obtain⟨i,d,z,f⟩:=hX.facts bz;have hu:=f.u;simp only [bz]at h;split at h
   ·rename_i Bn;have dW:X.P.underlying t=some .bool :=aj6;refine⟨_,h,λρ F w va vb h1 h2=> ?_⟩;cases h1;cases h2;refine⟨_,?_,.bool _⟩;rw [fx,adT];exact run_eql_bool (P:=X.P) (w:=w) t a' b' dW
   ·rename_i Bn;have dW:X.P.underlying t=some .bool :=aj6;refine⟨_,h,λρ F w va vb h1 h2=> ?_⟩;cases h1;cases h2;refine⟨_,?_,.bool _⟩;rw [fx,adT];exact run_neq_bool (P:=X.P) (w:=w) t a' b' dW
   ·exact aX
 ·rename_i xs ys;split at h
  ·rename_i fs heq bz hu;split at h
   ·exact aX
   ·rename_i bb Tt;obtain⟨i,d,z,f⟩:=hX.facts bz;have yV:=hX.eqs t heq;have kG:=f.u;rw [hu]at kG;have dW:=f.jN;cases d<;>simp only [mK]at kG<;>try cases kG
    rename_i gs;unfold AT at yV;rw [dW]at yV;simp only [bM,dX,jS,bne_iff_ne]at yV;obtain⟨⟨hn,eT⟩,hg⟩:=yV;have nY:X.P.fieldsOf t=gs:=by simp [Program.fieldsOf,dW]
    have run:∀(ρ:bX) (F:bT) (w:World) (va vb:Array Value),dz X.K ρ F w xs va.toList->dz X.K ρ F w ys vb.toList->(Op.equalIn 10000 t (.agg va) (.agg vb)).run X.P w= .ok bb w:=by
     intro ρ F w va vb h1 h2;rw [run_equalIn_struct w 9999 t va vb (by rw [nY];exact dW) eT,nY];exact afr hX h1 h2 9998 gs.toList bb hn Tt
    split at h
    ·refine⟨_,h,λρ F w va vb h1 h2=> ?_⟩;cases h1 with
     |agg _ v1 fg pV=>
      cases h2 with
      |agg _ v2 fY su=>
       refine⟨.bool bb,?_,.bool _⟩;rw [fx,run_eqGuard_agg (P:=X.P) w .eql t a b _ _ hg,gE,run_eql_struct,run ρ F w _ _ ⟨fg,pV⟩ ⟨fY,su⟩];rfl
    ·refine⟨_,h,λρ F w va vb h1 h2=> ?_⟩;cases h1 with
     |agg _ v1 fg pV=>
      cases h2 with
      |agg _ v2 fY su=>
       refine⟨.bool (!bb),?_,.bool _⟩;rw [fx,run_eqGuard_agg (P:=X.P) w .neq t a b _ _ hg,gE,run_neq_struct,run ρ F w _ _ ⟨fg,pV⟩ ⟨fY,su⟩];rfl
    ·exact aX
  ·exact aX
 ·split at h
  ·rename_i e heq bz hu;obtain⟨i,d,z',f⟩:=hX.facts bz;have dW:=f.slice hu;obtain⟨bb,h,hv⟩:=afO h;refine⟨_,h,λρ F w va vb h1 h2=> ?_⟩;obtain⟨a',n,c,rfl,rfl⟩:=hv h1;cases h2;refine⟨.bool a'.isNone,?_,.bool _⟩;rw [eqGuard_at_slice,fx,iz,gE];exact Lib.run_eql_slice_nil w t _ a' n c 0 0 dW
  ·rename_i e heq bz hu;obtain⟨i,d,z',f⟩:=hX.facts bz;have dW:=f.slice hu;obtain⟨bb,h,hv⟩:=afO h;refine⟨_,h,λρ F w va vb h1 h2=> ?_⟩;obtain⟨a',n,c,rfl,rfl⟩:=hv h1;cases h2;refine⟨.bool (!a'.isNone),?_,.bool _⟩;rw [eqGuard_at_slice,fx,iz,gE];exact run_neq_slice_nil_any w t _ a' n c 0 0 dW
  ·exact aX
 ·cases h
end
end Go.aA
namespace Go.aA
def qc{p:Prop}(h:p:=by simpa using h2):p:=h
def alD{p:Prop}(h:p:=by
 rename_i ha;refine⟨_,h,λ{w0 S F ρ w vp} hI hp=> ?_⟩;obtain⟨hk,a,vs,rfl,hr,hc⟩:=core hI hp;exact(Jn hX bz hk hr hc rD).1 ha):p:=h
end Go.aA
namespace Go.aA
def pj:=@Array.getD_eq_getD_getElem?
def k7:=@Option.map_some
def jm:=@decide_eq_true_eq
def og:=@List.getElem?_take
def qI:=@List.getElem?_drop
def Aa:=@Go.Addr.add_add
def pf:=@Go.Addr.add_lit
def Jx:=@Nat.zero_add
def ud:=@List.getElem?_range
def Yv:=@List.take_zero
end Go.aA
namespace Go.aA
open Go
noncomputable section
variable {X:Cx} {R:Type}
variable {w0 w:World} {S:Sc} {F:bT} {ρ:bX} {M:aV}
def qL(w:World)(a:Addr)(vs:fI):Prop:=∀(j:Nat) v,vs[j]?=some v->w.cell? (a.add j)=some v
def aBc(hX:X.Okb){t:TypeId}(bz:(X.ti t).ok =true){a:Addr}{vs:fI}(hl:vs.length=(X.ti t).size)(hc:qL w a vs):
 ((X.ti t).u.agg =true->(Instr.loadAt t (.pointer (some a))).run X.P w= .ok (.agg vs.toArray) w)∧
 ((X.ti t).u.agg =false->∀v,vs=[v]->(Instr.loadAt t (.pointer (some a))).run X.P w= .ok v w):=by
 obtain⟨i,d,z,f⟩:=hX.facts bz;constructor
 ·intro ha;unfold Instr.loadAt Instr.sureAddr loadVar;simp only [fx,iz,gE,f.isAgg,ha,oJ,f.sizeOf,<-hl,run_loadCells_list w a vs hc]
 ·intro ha v hv;have h0:=hc 0 v (by simp [hv]);simp only [Addr.add,oJ]at h0;unfold Instr.loadAt Instr.sureAddr loadVar;simp [f.isAgg,ha,run_load,h0]
def dz.drop_take{K:TypeId->ei}{xs:bl}{vs:fI}(h:dz K ρ F w xs vs)(off n:Nat):dz K ρ F w ((xs.drop off).take n) ((vs.drop off).take n):=by
 refine⟨by simp [h.1],λj x v hx hv=> ?_⟩;rw [og]at hx hv;split at hx
 ·rename_i hj;rw [if_pos hj]at hv;rw [qI]at hx hv;exact h.2 _ x v hx hv
 ·cases hx
def qL.drop_take{a:Addr}{vs:fI}(h:qL w a vs)(off n:Nat):qL w (a.add off) ((vs.drop off).take n):=by
 intro j v hv;rw [og]at hv;split at hv
 ·rw [qI]at hv;rw [Aa];exact h _ v hv
 ·cases hv
def Inv.XJ(hI:Inv X w0 S F ρ M w){id:Nat}{ks:ei}{cs:bl}(hb:M[id]?=some (.var ks cs)){hd:Hd}(hh:ρ[id]?=some hd):
 dt ks cs=true∧∃g cur e,hd.v= .slice (some ⟨g,0,none⟩) 1 1∧hd.sz=cs.length∧w.heap[g]?=some (.cells cur e (0,0))∧dz X.K ρ F w cs cur.toList∧qL w ⟨g,0,none⟩ cur.toList∧X.A4 ks e=true:=by
 obtain⟨h1,h2,g,cur,e,hv,hg,hr,hy⟩:=hI.rep id _ hd hb hh;refine⟨h1,g,cur,e,hv,h2,hg,hr,λj v hj=> ?_,hy⟩;rw [pf,Jx,cell_of_row w g j cur e (0,0) hg];simpa using hj
def Inv.Jj(hI:Inv X w0 S F ρ M w){id:Nat}{t:TypeId}{xs:aW}(hb:M[id]?=some (.row t xs)){hd:Hd}(hh:ρ[id]?=some hd){i:Nat}{row:Row}(hi:xs[i]?=some row):
 dt (X.K t) row=true∧hd.sz=(X.K t).length ∧∃g o c cur vs,hd.v= .slice (some ⟨g,o,none⟩) xs.length c∧w.heap[g]?=some (.cells cur t (0,0))∧xs.length<=c∧c<=maxLen∧o+c*hd.sz<=cur.size∧
  dz X.K ρ F w row vs∧qL w ⟨g,o+i*hd.sz,none⟩ vs∧(∀(j:Nat) v,vs[j]?=some v->cur[o+i*hd.sz+j]?=some v):=by
 obtain⟨h1,h2,h3⟩:=hI.rep id _ hd hb hh;have hk:=h2 i row hi;refine⟨hk,h1,?_⟩;rcases h3 with⟨_,he⟩|⟨g,o,c,cur,hv,hg,h4,h5,h6,h7⟩
 ·subst he;simp at hi
 ·have hlen:=iS hk;have fy:∃vs:fI,vs.length=row.length∧∀(j:Nat) x v,row[j]?=some x->vs[j]?=some v->cur[o+i*hd.sz+j]?=some v∧aZ X.K ρ F w x v:=by
   refine⟨(List.range row.length).map λj=>cur.getD (o+i*hd.sz+j) undef,by simp,λj x v hx hv=> ?_⟩;obtain⟨u,hu,hr⟩:=h7 i row hi j x hx;have hj:=(eZ.1 hx).1;rw [iT,ud hj]at hv;simp only [k7,Option.some.injEq]at hv;have:cur.getD (o+i*hd.sz+j) undef=u:=by rw [pj,hu];rfl
   rw [this]at hv;subst hv;exact⟨hu,hr⟩
  obtain⟨vs,hl,fy⟩:=fy;have K6:∀(j:Nat) v,vs[j]?=some v->cur[o+i*hd.sz+j]?=some v:=by
   intro j v hj;have iK:=(eZ.1 hj).1;exact(fy j (row[j]'(by omega)) v (dD (by omega)) hj).1
  refine⟨g,o,c,cur,vs,hv,hg,h4,h5,h6,⟨hl,λj x v hx hv=>(fy j x v hx hv).2⟩,λj v hj=> ?_,K6⟩;rw [pf,cell_of_row w g _ cur t (0,0) hg];exact K6 j v hj
def rK{α:Type}{xs:List α}{i:Nat}{d:α}(h:i<xs.length):xs[i]?=some (xs.getD i d):=by
 simp [List.getD,dD h]
def dz.one{K:TypeId->ei}{x:AV}{vs:fI}(h:dz K ρ F w [x] vs):∃v,vs=[v]∧aZ K ρ F w x v:=by
 obtain⟨h1,h2⟩:=h
 match vs,h1 with
 | [v],_=>exact⟨v,rfl,h2 0 x v rfl rfl⟩
def Jn(hX:X.Okb){t:TypeId}(bz:(X.ti t).ok =true){ks:ei}{row:Row}(hk:dt ks row=true){a:Addr}{vs:fI}(hr:dz X.K ρ F w row vs)(hc:qL w a vs){off:Nat}
 (hb:off+(X.ti t).size <=ks.length):
 ((X.ti t).u.agg =true->∃v,(Instr.loadAt t (.pointer (some (a.add off)))).run X.P w= .ok v w∧aZ X.K ρ F w (.agg (zm ks row off (X.ti t).size)) v)∧
 ((X.ti t).u.agg =false->(X.ti t).size =1->∃v,(Instr.loadAt t (.pointer (some (a.add off)))).run X.P w= .ok v w∧aZ X.K ρ F w (row.getD off .top) v):=by
 have hl:=iS hk;have zu:=hr.1;have nW:=hr.drop_take off (X.ti t).size;have zG:=hc.drop_take off (X.ti t).size;have hlen:((vs.drop off).take (X.ti t).size).length =(X.ti t).size :=eu;obtain⟨l1,l2⟩:=aBc (w:=w) hX bz hlen zG;constructor
 ·intro ha;refine⟨_,l1 ha,?_⟩;rw [ZT hk _ _ hb];exact .agg _ _ nW.1 nW.2
 ·intro ha h1;have cM:off<row.length:=by omega
  have e:(row.drop off).take (X.ti t).size =[row.getD off .top]:=by
   rw [h1,PH cM,List.take_succ_cons,Yv];simp only [List.getD,dD cM,pb]
  rw [e]at nW;obtain⟨v,hv,jX⟩:=nW.one;exact⟨v,l2 ha v hv,jX⟩
def afq(hX:X.Okb){t:TypeId}{p:AV}{k:AV->Option R}{r:R}(h:vr X t p M k=some r):
 ∃z,k z=some r∧∀{w0:World} {S:Sc} {F:bT} {ρ:bX} {w:World} {vp:Value},Inv X w0 S F ρ M w->aZ X.K ρ F w p vp->∃v,(Instr.loadAt t vp).run X.P w= .ok v w∧aZ X.K ρ F w z v:=by
 unfold vr at h;simp only [fb]at h;split at h
 ·rename_i t' row off;replace h:=dq h;obtain⟨h1,h⟩:=h;simp only [bM,jm]at h1;split at h
  ·rename_i ha;refine⟨_,h,λ{w0 S F ρ w vp} hI hp=> ?_⟩;cases hp with
   |iA _ _ _ a vs hk hl hc hr=>exact(Jn hX h1.1 hk ⟨hl,hr⟩ (λj v hv=>(hc j v hv).1) h1.2).1 ha
  ·rename_i ha;replace h:=dq h;obtain⟨h2,h⟩:=h;refine⟨_,h,λ{w0 S F ρ w vp} hI hp=> ?_⟩;cases hp with
   |iA _ _ _ a vs hk hl hc hr=>
    obtain⟨v,wc,jQ⟩:=(Jn hX h1.1 hk ⟨hl,hr⟩ (λj v hv=>(hc j v hv).1) h1.2).2 ha (qc);refine⟨v,wc,?_⟩;have hs:(X.ti t).size =1:=qc;have yW:off<(X.K t').length :=by omega
    rw [aDM yW,Fx]
    ·exact jQ
    ·have cM:off<row.length:=by rw [iS hk];exact yW
     exact tY hk (dD yW) (rK cM)
 ·rename_i id i off;split at h
  ·rename_i ks cs hb;replace h:=dq h;obtain⟨h1,h⟩:=h;simp only [bM,jm,iy]at h1;obtain⟨⟨bz,zF⟩,rD⟩:=h1;subst zF;have core:∀{w0:World} {S:Sc} {F:bT} {ρ:bX} {w:World} {vp:Value},Inv X w0 S F ρ M w->aZ X.K ρ F w (.ptr id 0 off) vp->
    dt ks cs=true∧∃a vs,vp= .pointer (some (Addr.add a off))∧dz X.K ρ F w cs vs∧qL w a vs:=by
    intro w0 S F ρ w vp hI hp;cases hp with
    |ptr _ _ _ hd g o n c bA hv=>
     obtain⟨hk,g',cur,e,fT,ev,hg,hr,hc,_⟩:=hI.XJ hb bA;rw [hv]at fT;injection fT with h1 h2 h3;injection h1 with h1;injection h1 with h1 h4 h5;subst h1;subst h4;refine⟨hk,⟨g,0,none⟩,cur.toList,?_,hr,hc⟩;simp [pf]
   split at h
   ·exact alD
   ·rename_i ha;replace h:=dq h;obtain⟨h2,h⟩:=h;simp only [bM,iy]at h2;refine⟨_,h,λ{w0 S F ρ w vp} hI hp=> ?_⟩;obtain⟨hk,a,vs,rfl,hr,hc⟩:=core hI hp;obtain⟨v,wc,jQ⟩:=(Jn hX bz hk hr hc rD).2 ha h2.1;refine⟨v,wc,?_⟩;have cM:off<cs.length:=by have:=iS hk;omega
    rw [Fx (tY hk (aDN h2.2 (by omega)) (rK cM))];exact jQ
  ·rename_i t' xs hb;replace h:=dq h;obtain⟨h1,h⟩:=h;simp only [bM,jm]at h1;obtain⟨⟨bz,rD⟩,hi⟩:=h1;have core:∀{w0:World} {S:Sc} {F:bT} {ρ:bX} {w:World} {vp:Value},Inv X w0 S F ρ M w->aZ X.K ρ F w (.ptr id i off) vp->
    dt (X.K t') (xs.getD i [])=true∧∃a vs,vp= .pointer (some (Addr.add a off))∧dz X.K ρ F w (xs.getD i []) vs∧qL w a vs:=by
    intro w0 S F ρ w vp hI hp;cases hp with
    |ptr _ _ _ hd g o n c bA hv=>
     obtain⟨hk,ev,g',o',c',cur,vs,fT,hg,_,_,_,hr,hc,_⟩:=hI.Jj hb bA (rK (d:=[]) hi);rw [hv]at fT;injection fT with h1 h2 h3;injection h1 with h1;injection h1 with h1 h4 h5;subst h1;subst h4;refine⟨hk,_,vs,?_,hr,hc⟩;simp [pf]
   split at h
   ·exact alD
   ·rename_i ha;replace h:=dq h;obtain⟨h2,h⟩:=h;refine⟨_,h,λ{w0 S F ρ w vp} hI hp=> ?_⟩;obtain⟨hk,a,vs,rfl,hr,hc⟩:=core hI hp;have hs:(X.ti t).size =1:=qc;obtain⟨v,wc,jQ⟩:=(Jn hX bz hk hr hc rD).2 ha hs;refine⟨v,wc,?_⟩;have yW:off<(X.K t').length :=by omega
    have cM:off<(xs.getD i []).length :=by rw [iS hk];exact yW
    rw [show(X.K t').getD off .raw =(X.K t')[off]by simp [List.getD,dD yW],Fx (tY hk (dD yW) (rK cM))];exact jQ
  ·exact aX
 ·cases h
end
end Go.aA
namespace Go.aA
def Kt{p:Prop}(h:p:=by injection hk with hk;subst hk;exact Ma a ha):p:=h
def Ke{p:Prop}(h:p:=by
 rw [p8,Yf]at this;omega):p:=h
def akV{p:Prop}(h:p:=by
 simp only [vM]at h;exact⟨_,_,h,rfl,dV.refl _ _,λ{w0 S F ρ w} hI=>⟨F,hI,Grow.refl _ _ _,λ_ hv=>hv⟩⟩):p:=h
def akT{p:Prop}(h:p:=by
 intro y hy;obtain⟨j,hj⟩:=z7 hy;exact afJ (aht jk (by omega) hj)):p:=h
def akE{p:Prop}(h:p:=by
 injection e1 with e1;injection e1 with e1 e4 e5;subst e1;subst e4;exact⟨vs,hr,hc⟩):p:=h
def CK{p:Prop}(h:p:=by simpa using hu):p:=h
def Gd{p:Prop}(h:p:=by simpa using hy):p:=h
def aj5{p:Prop}(h:p:=by
 simp only [JC,e7,pg,wM,oe];omega):p:=h
def J0{p:Prop}(h:p:=by simpa using hb):p:=h
def ajQ{p:Prop}(h:p:=by exact Iy (tH.2 j _ u hy hj) (amp _ (mT hy)) hI.one):p:=h
end Go.aA
namespace Go.aA
def JC:=@List.size_toArray
def iU:=@List.append_assoc
def vd:=@List.flatMap_cons
def e7:=@List.length_append
def wM:=@List.length_drop
def pg:=@List.length_take
def Yw:=@List.getElem?_toArray
def z7:=@List.getElem?_of_mem
def yg:=@Nat.add_zero
def zZ:=@List.length_set
def Pj:=@Go.run_storeCells_at
def Ph:=@Go.setRow_heap
def sH:=@Nat.mul_le_mul_right
def p8:=@Nat.add_mul
def Yf:=@Nat.one_mul
end Go.aA
namespace Go.aA
open Go
noncomputable section
variable {X:Cx} {R:Type}
variable {w0 w:World} {S:Sc} {F:bT} {ρ:bX} {M:aV}
def wR:AV->List Nat| .ptr id _ _=>[id]|_=>[]
def oL:AV->List Nat| .aC id=>[id]|_=>[]
def mI:AV->List Nat| .aC id=>[id]| .vw id _ _=>[id]|_=>[]
def ma(k:Kind)(x:AV)(M:aV)(c:AV->aV->Option R):Option R:=
 match k,x with
 | .slice t,.gQ =>c (.ab t []) M
 | .slice t,.aC id=>
   match gm M id with
   |some (.row t' xs)=>aR (t==t') (c (.ab t' xs) (M.set id (.eW t' xs)))
   |some (.eW t' xs)=>aR (t==t') (c (.ab t' xs) M)
   |_=>none
 |_,x=>c x M
def vM:ei->bl->aV->(bl->aV->Option R)->Option R
 |k::ks,x::xs,M,c=>ma k x M λx' M'=>vM ks xs M' λjM xO=>c (x'::jM) xO
 |_,xs,M,c=>c xs M
def awG(hI:Inv X w0 S F ρ M w){id:Nat}{t:TypeId}{xs:aW}(hb:M[id]?=some (.row t xs)){hd:Hd}(hh:ρ[id]?=some hd):
 (hd.eM=none∧xs=[]∧hd.v= .slice none 0 0)∨∃g,hd.eM=some g∧∀(F':bT),(∀a,F a->F' a)->(∀a,a.block=g->F' a)->aZ X.K ρ F' w (.ab t xs) hd.v:=by
 have jX:=hI.rep id _ hd hb hh;obtain⟨h1,h2,h3⟩:=jX;rcases h3 with⟨h3,h4⟩|⟨g,o,c,cur,hv,hg,h4,h5,h6,h7⟩
 ·exact .inl ⟨by simp [Hd.eM,Value.eM,h3],h4,h3⟩
 ·refine .inr ⟨g,oo,λF' hF hF'=> ?_⟩;rw [hv];have ik:∀i:Nat,i<xs.length->∃vs,dz X.K ρ F w (xs.getD i []) vs∧qL w ⟨g,o+i*hd.sz,none⟩ vs:=by
   intro i hi;obtain⟨_,_,g',o',c',aOI,vs,fT,_,_,_,_,hr,hc,_⟩:=hI.Jj hb hh (rK (d:=[]) hi);rw [hv]at fT;injection fT with e1 e2 e3;exact akE
  let vss:List fI:=(List.range xs.length).map λi=>if h:i<xs.length then(ik i h).choose else []
  have aoO:∀(i:Nat) vs,vss[i]?=some vs->∃h:i<xs.length,vs=(ik i h).choose :=by
   intro i vs fy;have hi:i<xs.length:=by
    have:=(eZ.1 fy).1;simpa [vss]using this
   refine⟨hi,?_⟩;simp only [vss,iT,ud hi,k7,Option.some.injEq,dif_pos hi]at fy;exact fy.symm
  refine .ab t xs ⟨g,o,none⟩ c vss (by simp [vss]) h4 h5 h2 ?_ ?_
  ·intro i vs fy;obtain⟨hi,rfl⟩:=aoO i vs fy;obtain⟨hr,hc⟩:=(ik i hi).choose_spec;refine⟨by rw [hr.1,iS (h2 i _ (rK hi))],λj v hj=> ?_⟩;have:=hc j v hj;rw [pf]at this⊢;rw [<-h1];rw [show o+(i*hd.sz+j)=o+i*hd.sz+j by omega];exact⟨this,hF' _ rfl⟩
  ·intro i row vs aGd fy j x v hx fT;obtain⟨hi,rfl⟩:=aoO i vs fy;obtain⟨hr,_⟩:=(ik i hi).choose_spec;have e:row=xs.getD i []:=by
    have:=rK (d:=([]:Row)) hi;rw [aGd]at this;injection this
   subst e;exact(hr.2 j x v hx fT).mono (λ_ _ h=>h) hF (λ_ _ _ h=>h)
def Inv.als(hI:Inv X w0 S F ρ M w){id:Nat}{b b':ep}{hd:Hd}(hb:M[id]?=some b)(hh:ρ[id]?=some hd)(dT:hd.eM=none)(jX:km X ρ F w hd b'):Inv X w0 S F ρ (M.set id b') w where
 os:=hI.os
 tape:=hI.tape
 output:=hI.output
 size:=hI.size
 frame:=hI.frame
 len:=Zb
 rep:=λid' c h' hc eo=>by
  by_cases bA:id'=id
  ·exact alJ
  ·rw [kI (Ne.symm bA)]at hc;exact hI.rep id' c h' hc eo
 sep:=λid' c h' g' hc mz eo jC=>by
  by_cases bA:id'=id
  ·subst bA;rw [hh]at eo;injection eo with eo;subst eo;rw [dT]at jC;cases jC
  ·rw [kI (Ne.symm bA)]at hc;exact hI.sep id' c h' g' hc mz eo jC
 iX:=λi j c d hc h' k qz h1 h2 h3 h4 h5 h6 h7=>by
  by_cases hi:i=id
  ·subst hi;rw [hh]at h5;injection h5 with h5;subst h5;rw [dT]at h7;cases h7
  ·by_cases hj:j=id
   ·subst hj;rw [hh]at h6;injection h6 with h6;subst h6;rw [dT];simp
   ·rw [kI (Ne.symm hi)]at h1;rw [kI (Ne.symm hj)]at h2;exact hI.iX i j c d hc h' k qz h1 h2 h3 h4 h5 h6 h7
 fz:=hI.fz
 gh:=hI.gh
 one:=hI.one
 gk:=hI.gk
 fin:=hI.fin
def Fy{k:Kind}{x:AV}{c:AV->aV->Option R}{r:R}(h:ma k x M c=some r):
 ∃x' M',c x' M'=some r∧M'.length=M.length∧dV (oL x) M M'∧∀{w0:World} {S:Sc} {F:bT} {ρ:bX} {w:World},Inv X w0 S F ρ M w->∃F',Inv X w0 S F' ρ M' w∧Grow F F' ρ ρ w w∧∀v,aZ X.K ρ F w x v->aZ X.K ρ F' w x' v:=by
 unfold ma at h;simp only [fb]at h;split at h
 ·exact⟨_,_,h,rfl,dV.refl _ _,λ{w0 S F ρ w} hI=>⟨F,hI,Grow.refl _ _ _,λv hv=>by cases hv;exact .kM _⟩⟩
 ·rename_i t id;split at h
  ·rename_i t' xs hb;replace h:=dq h;obtain⟨_,h⟩:=h;refine⟨_,_,h,by simp,dV.set _ _ _,λ{w0 S F ρ w} hI=> ?_⟩;have cM:id<ρ.length:=by have:=(eZ.1 hb).1;have:=hI.len;omega
   have hh:ρ[id]?=some ρ[id]:=dD cM;rcases awG hI hb hh with⟨h1,h2,h3⟩|⟨g,h1,h2⟩
   ·refine⟨F,hI.als hb hh h1 ?_,Grow.refl _ _ _,λv hv=> ?_⟩
    ·subst h2;show aZ _ _ _ _ _ _;rw [h3];exact .kM _
    ·cases hv with
     |aC _ hd bA=>
      rw [hh]at bA;injection bA with bA;subst bA;subst h2;rw [h3];exact .kM _
   ·have hr:=h2 (λa=>F a∨a.block=g) (λ_ h=> .inl h) (λ_ h=> .inr h);refine⟨_,hI.freeze hb rfl hh h1 (b':= .eW t' xs) rfl hr,⟨λ_ h=> .inl h,λ_ _ h=>h,λ_ _=>rfl⟩,λv hv=> ?_⟩;cases hv with
    |aC _ hd bA=>
     rw [hh]at bA;injection bA with bA;subst bA;exact hr
  ·rename_i t' xs hb;replace h:=dq h;obtain⟨_,h⟩:=h;refine⟨_,_,h,rfl,dV.refl _ _,λ{w0 S F ρ w} hI=>⟨F,hI,Grow.refl _ _ _,λv hv=> ?_⟩⟩;cases hv with
   |aC _ hd bA=>exact hI.rep id _ hd hb bA
  ·exact aX
 ·exact⟨_,_,h,rfl,dV.refl _ _,λ{w0 S F ρ w} hI=>⟨F,hI,Grow.refl _ _ _,λ_ hv=>hv⟩⟩
def OR:∀(ks:ei) (xs:bl) (M:aV) {c:bl->aV->Option R} {r:R},vM ks xs M c=some r->
 ∃jM M',c jM M'=some r∧M'.length=M.length∧dV (xs.flatMap oL) M M'∧∀{w0:World} {S:Sc} {F:bT} {ρ:bX} {w:World},Inv X w0 S F ρ M w->∃F',Inv X w0 S F' ρ M' w∧Grow F F' ρ ρ w w∧∀vs,dz X.K ρ F w xs vs->dz X.K ρ F' w jM vs
 | [],xs,M,c,r,h=>akV
 |k::ks,[],M,c,r,h=>akV
 |k::ks,x::xs,M,c,r,h=>by
  simp only [vM]at h;obtain⟨x',M1,h,fg,Eb,h1⟩:=Fy (X:=X) h;obtain⟨jM,M2,h,fY,ha2,h2⟩:=OR ks xs M1 h;refine⟨_,_,h,by omega,by rw [vd];exact Eb.trans ha2,λ{w0 S F ρ w} hI=> ?_⟩;obtain⟨F1,i1,g1,r1⟩:=h1 hI;obtain⟨F2,i2,g2,r2⟩:=h2 i1;refine⟨F2,i2,g1.trans g2,λvs fy=> ?_⟩
  match vs,fy.1 with
  |v::vs',hl=>
   have hx:aZ X.K ρ F w x v:=fy.2 0 x v rfl rfl;have hr:=r2 vs' ⟨pw,λj y u hy hu=>(fy.2 (j+1) y u (Gd) (CK)).grow g1⟩;refine⟨by simp [hr.1],λj y u hy hu=> ?_⟩;cases j with
   |zero=>simp at hy hu;subst hy;subst hu;exact(r1 v hx).grow g2
   |succ j=>exact hr.2 j y u (Gd) (CK)
def OK(cur:Array Value)(vs:fI)(o:Nat)(hb:o+vs.length<=cur.size)(j:Nat):
 (cur.toList.take o++vs++cur.toList.drop (o+vs.length)).toArray[j]?=if o<=j∧j<o+vs.length then vs[j- o]? else cur[j]?:=by
 simp only [Yw,iU]
 by_cases h1:j<o
 ·rw [jH (eu),if_neg (by omega),og,if_pos h1];simp
 ·rw [kZ (eu)];have e:(List.take o cur.toList).length =o:=eu;rw [e]
  by_cases h2:j<o+vs.length
  ·rw [if_pos ⟨by omega,h2⟩,jH (by omega)]
  ·rw [if_neg (by omega),kZ (by omega),qI];rw [show o+vs.length+(j- o- vs.length)=j by omega];simp
def afD(hX:X.Okb){t:TypeId}(bz:(X.ti t).ok =true){g o:Nat}{cur:Array Value}{e:TypeId}(hg:w.heap[g]?=some (.cells cur e (0,0))){v:Value}(hs:v.cells.size=(X.ti t).size)
 (hb:o+v.cells.size<=cur.size) (h1:∀u∈v.cells.toList,u.oneCell'=true):
 (Instr.storeAt t (.pointer (some ⟨g,o,none⟩)) v).run X.P w= .ok () (w.setRow g (cur.toList.take o++v.cells.toList++cur.toList.drop (o+v.cells.toList.length)).toArray):=by
 obtain⟨i,d,z,f⟩:=hX.facts bz;have eT:=Pj X.P g o e v.cells.toList 0 cur w hg (J0) h1;simp only [yg]at eT;unfold Instr.storeAt Instr.sureAddr storeVar;simp only [fx,iz,gE,f.sizeOf,hs,ne_eq,not_true_eq_false,nv,eT]
def NA(w:World)(g:Nat)(cs:Array Value):w.grownBy (w.setRow g cs) (some g):=
 ⟨rfl,rfl,rfl,by simp,λk _ hk=>setRow_other w g k cs (λe=>hk (by rw [e]))⟩
def Oo{x:AV}(h:x.plain=true):x.leaf=true∨∃cs,x= .agg cs:=by
 cases x<;>simp_all [AV.plain,AV.leaf]
def FX(X:Cx)(t:TypeId)(p x:AV)(M:aV)(k:aV->Option R):Option R:=
 match p with
 | .ptr id i off=>
   match gm M id with
   |some (.var ks cs)=>
    aR (x.plain&&(X.ti t).ok &&i==0&&x.cells.length==(X.ti t).size &&decide (off+(X.ti t).size <=ks.length)&&yR ks off x.cells) (k (M.set id (.var ks (setAt cs off x.cells))))
   |some (.row _ _)=>
    aR x.plain (vM (X.ti t).ks x.cells M λxc M1=>
     match gm M1 id with
     |some (.row t' xs)=>
      aR ((X.ti t).ok &&xc.length==(X.ti t).size &&decide (off+(X.ti t).size <=(X.K t').length)&&yR (X.K t') off xc&&decide (i<xs.length)) (k (M1.set id (.row t' (xs.set i (setAt (xs.getD i []) off xc)))))
     |_=>none)
   |_=>none
 |_=>none
def azc(hX:X.Okb){t:TypeId}{p x:AV}{k:aV->Option R}{r:R}(h:FX X t p x M k=some r):
 ∃M',k M'=some r∧dV (wR p++x.cells.flatMap oL) M M'∧∀{w0:World} {S:Sc} {F:bT} {ρ:bX} {w:World} {vp vx:Value},Inv X w0 S F ρ M w->aZ X.K ρ F w p vp->aZ X.K ρ F w x vx->
  ∃w' F',(Instr.storeAt t vp vx).run X.P w= .ok () w'∧Inv X w0 S F' ρ M' w'∧Grow F F' ρ ρ w w':=by
 unfold FX at h;simp only [fb]at h;split at h
 ·rename_i id i off;split at h
  ·rename_i ks cs hb;replace h:=dq h;obtain⟨h1,h⟩:=h;simp only [bM,jm,iy]at h1;obtain⟨⟨⟨⟨⟨zy,bz⟩,zF⟩,hlen⟩,rD⟩,jk⟩:=h1;subst zF;refine⟨_,h,(dV.set _ _ _).mono (by simp [wR]),λ{w0 S F ρ w vp vx} hI hp hx=> ?_⟩;cases hp with
   |ptr _ _ _ hd g o n c bA hv=>
    obtain⟨hk,g',cur,e,fT,ev,hg,hr,hc,hy⟩:=hI.XJ hb bA;have jQ:=fT;rw [hv]at fT;injection fT with e1 e2 e3;injection e1 with e1;injection e1 with e1 e4 e5;subst e1;subst e4;have amp:∀y∈x.cells,y.leaf=true:=akT;have tH:=hx.cells (Oo zy) hI.one;have fy:vx.cells.size=(X.ti t).size :=by have:=tH.1;simp at this;omega
    have qy:=iS hk;have eJ:=hr.1;simp only [oe]at eJ;have ou:∀u∈vx.cells.toList,u.oneCell'=true:=by
     intro u hu;obtain⟨j,hj⟩:=z7 hu;have iK:=(eZ.1 hj).1;have hl:=tH.1;have hy:x.cells[j]?=some (x.cells[j]'(by omega)):=dD (by omega);exact ajQ
    have dE:=afD (w:=w) hX bz (o:=off) hg fy (by omega) ou;have e0:(0+0*hd.sz+off:Nat)=off:=by omega
    rw [e0];have jB:=NA w g (cur.toList.take off++vx.cells.toList++cur.toList.drop (off+vx.cells.toList.length)).toArray;have Ma:∀a,F a->a.block≠g:=(hI.sep id _ hd g hb rfl bA (oo)).2.2;have lq:Grow F F ρ ρ w (w.setRow g (cur.toList.take off++vx.cells.toList++cur.toList.drop (off+vx.cells.toList.length)).toArray):=
     ⟨λ_ h=>h,λ_ _ h=>h,hI.xt jB (λk hk a ha=>Kt)⟩
    refine⟨_,F,dE,hI.write hb rfl bA (oo) jB ?_,lq⟩;refine⟨agi hk jk (by omega),by rw [IP];exact ev,g,_,e,jQ,Ph w g cur _ e _ hg,⟨?_,λj y u hy hu=> ?_⟩,hy⟩
    ·rw [IP];simp only [e7,pg,wM,oe];omega
    ·rw [Ft x.cells cs off (by omega) j]at hy;have nG:(cur.toList.take off++vx.cells.toList++cur.toList.drop (off+vx.cells.toList.length)).toArray[j]?=some u:=CK;rw [OK cur vx.cells.toList off (eu) j]at nG;have el:vx.cells.toList.length=x.cells.length:=tH.1;rw [el]at nG
     by_cases hj:off<=j∧j<off+x.cells.length
     ·rw [if_pos hj]at hy nG;exact(tH.2 _ y u hy nG).grow lq
     ·rw [if_neg hj]at hy nG;exact(hr.2 j y u hy (by simpa using nG)).grow lq
  ·rename_i t0 xs0 Me;replace h:=dq h;obtain⟨zy,h⟩:=h;obtain⟨xc,M1,h,fg,fO,HM⟩:=OR (X:=X) _ _ _ h;split at h
   ·rename_i t' xs hb;replace h:=dq h;obtain⟨h1,h⟩:=h;simp only [bM,jm,iy]at h1;obtain⟨⟨⟨⟨bz,hlen⟩,rD⟩,jk⟩,hi⟩:=h1;refine⟨_,h,(fO.trans (dV.set _ _ _)).mono (by intro i hi;rw [j7]at hi⊢;rcases hi with h|h;exact .inr h;exact .inl (by simpa [wR]using h)),λ{w0 S F0 ρ w vp vx} oE hp hx=> ?_⟩;obtain⟨F,hI,qA,nm⟩:=HM oE;cases hp with
    |ptr _ _ _ hd g o n c bA hv=>
     obtain⟨hk,ev,g',o',c',cur,vs,fT,hg,pV,su,hc3,hr,hc,K6⟩:=hI.Jj hb bA (rK (d:=[]) hi);have hv3:=fT;rw [hv]at fT;injection fT with e1 e2 e3;injection e1 with e1;injection e1 with e1 e4 e5;subst e1;subst e4;subst e3;have amp:∀y∈xc,y.leaf=true:=akT;have qy:=iS hk;have tH:dz X.K ρ F w xc vx.cells.toList:=nm _ (hx.cells (Oo zy) oE.one);have fy:vx.cells.size=(X.ti t).size :=by have:=tH.1;simp at this;omega
     have ou:∀u∈vx.cells.toList,u.oneCell'=true:=by
      intro u hu;obtain⟨j,hj⟩:=z7 hu;have iK:=(eZ.1 hj).1;have hl:=tH.1;have hy:xc[j]?=some (xc[j]'(by omega)):=dD (by omega);exact ajQ
     have aO4:o+i*hd.sz+hd.sz<=cur.size:=by
      have:(i+1)*hd.sz<=c*hd.sz:=sH _ (by omega);exact Ke
     have dE:=afD (w:=w) hX bz (o:=o+i*hd.sz+off) hg fy (by omega) ou;have jB:=NA w g (cur.toList.take (o+i*hd.sz+off)++vx.cells.toList++cur.toList.drop (o+i*hd.sz+off+vx.cells.toList.length)).toArray;have Ma:∀a,F a->a.block≠g:=(hI.sep id _ hd g hb rfl bA (oo)).2.2;have lq:Grow F F ρ ρ w (w.setRow g (cur.toList.take (o+i*hd.sz+off)++vx.cells.toList++cur.toList.drop (o+i*hd.sz+off+vx.cells.toList.length)).toArray):=
      ⟨λ_ h=>h,λ_ _ h=>h,hI.xt jB (λk hk a ha=>Kt)⟩
     obtain⟨q1,q2,q3⟩:=hI.rep id _ hd hb bA;have q4:∀(i:Nat) row,xs[i]?=some row->∀(j:Nat) x,row[j]?=some x->∃v,cur[o+i*hd.sz+j]?=some v∧aZ X.K ρ F w x v:=by
      rcases q3 with⟨q5,_⟩|⟨g2,o2,c2,aPd,jQ,lW,_,_,_,q7⟩
      ·rw [hv]at q5;cases q5
      ·rw [hv]at jQ;injection jQ with e1 e2 e3;injection e1 with e1;injection e1 with e1 e4 e5;subst e1;subst e4;rw [hg]at lW;injection lW with lW;injection lW with lW;subst lW;exact q7
     have zq:xs[i]?=some (xs.getD i []):=rK hi;refine⟨_,F,dE,hI.write hb rfl bA (oo) jB ?_,qA.trans lq⟩;refine⟨ev,λi' GY dZ=> ?_,.inr ⟨g,o,c,_,by rw [zZ];exact hv3,Ph w g cur _ t' _ hg,by rw [zZ];exact pV,su,?_,λi' GY dZ j y hy=> ?_⟩⟩
     ·by_cases HK:i'=i
      ·subst HK;rw [qK hi]at dZ;injection dZ with dZ;subst dZ;exact agi hk jk (by omega)
      ·rw [kI (Ne.symm HK)]at dZ;exact q2 i' GY dZ
     ·exact aj5
     ·have el:vx.cells.toList.length=xc.length:=tH.1;rw [OK cur vx.cells.toList _ (eu) _];have rn:∀(i:Nat) row,xs[i]?=some row->row.length=hd.sz:=λi row h=>by rw [iS (q2 i row h),ev]
      by_cases HK:i'=i
      ·subst HK;rw [qK hi]at dZ;injection dZ with dZ;subst dZ;rw [Ft xc _ off (by omega) j]at hy
       by_cases hj:off<=j∧j<off+xc.length
       ·rw [if_pos hj]at hy;rw [if_pos (by omega)];have L6:j- off<xc.length:=by omega
        have hu:vx.cells.toList[j- off]?=some (vx.cells.toList[j- off]'(by omega)):=dD (by omega);refine⟨_,by rw [show o+i'*hd.sz+j-(o+i'*hd.sz+off)=j- off by omega];exact hu,(tH.2 _ y _ hy hu).grow lq⟩
       ·rw [if_neg hj]at hy;rw [if_neg (by omega)];obtain⟨u,hu,hru⟩:=q4 i' _ zq j y hy;exact⟨u,hu,hru.grow lq⟩
      ·rw [kI (Ne.symm HK)]at dZ;have L5:j<hd.sz:=by rw [<-rn i' GY dZ];exact(eZ.1 hy).1
       have eN:¬(o+i*hd.sz+off<=o+i'*hd.sz+j∧o+i'*hd.sz+j<o+i*hd.sz+off+vx.cells.toList.length):=by
        rcases Nat.lt_or_gt_of_ne HK with cM|hgt
        ·have:(i'+1)*hd.sz<=i*hd.sz:=sH _ (by omega);exact Ke
        ·have:(i+1)*hd.sz<=i'*hd.sz:=sH _ (by omega);exact Ke
       rw [if_neg eN];obtain⟨u,hu,hru⟩:=q4 i' GY dZ j y hy;exact⟨u,hu,hru.grow lq⟩
   ·exact aX
  ·exact aX
 ·cases h
end
end Go.aA
namespace Go.aA
def alV{p:Prop}(h:p:=by
 rw [fh,iT]at xI;cases hgs:gs.toList[fi]? with
 |none=>rw [hgs]at xI;cases xI
 |some sx=>
  rw [hgs]at xI;simp at xI;exact⟨sx,by simpa using hgs,xI.1,xI.2⟩):p:=h
def Gt{p:Prop}(h:p:=by rw [f.zc];exact aBR _ _ _ _ _):p:=h
def Ar{p:Prop}(h:p:=by rw [f2.size];exact f2.ks):p:=h
def akW{p:Prop}(h:p:=by
 cases hv with
 |iA _ _ _ a vs hk hl hc hr=>
  refine⟨_,dE _ _,?_⟩;rw [Aa];exact .iA _ _ _ a vs hk hl hc hr):p:=h
def akq{p:Prop}(h:p:=by
 refine⟨_,run_indexAt_slice hX bz hu he h0 h1 w,?_⟩;rw [<-ev];exact hp):p:=h
def Ai{p:Prop}(h:p:=by simp at hi):p:=h
end Go.aA
namespace Go.aA
def FM:=@Go.run_newObj
def FL:=@Go.World.alloc_eq
def Pf:=@Go.heap_alloc_new
def FC:=@Go.World.grownBy_alloc
end Go.aA
namespace Go.aA
open Go
noncomputable section
variable {X:Cx} {R:Type}
variable {w0 w:World} {S:Sc} {F:bT} {ρ:bX} {M:aV}
variable{i x:AV}{k:AV->Option R}{fi:Nat}{r:R}{t:TypeId}{cs:bl}
def AY(X:Cx)(M:aV)(x:AV)(M':aV)(hyp:bX->bT->World->Prop)(s:Sem Value):Prop:=
 ∀{w0:World} {S:Sc} {F:bT} {ρ:bX} {w:World},Inv X w0 S F ρ M w->hyp ρ F w->
  ∃v w' ρ' F',s.run X.P w= .ok v w'∧Inv X w0 S F' ρ' M' w'∧Grow F F' ρ ρ' w w'∧aZ X.K ρ' F' w' x v
def awD{w:World}{o:Obj}:∀a v,w.cell? a=some v->(w.alloc o).cell? a=some v:=by
 intro a v h;rw [World.cell?_alloc_lt _ _ _ (block_lt_of_cell h)];exact h
def Inv.newVar(hI:Inv X w0 S F ρ M w){ks:ei}(hk:dt ks cs=true){cur:Array Value}(hr:dz X.K ρ F w cs cur.toList)(e:TypeId)(hy:X.A4 ks e=true):
 Inv X w0 S F (ρ++[⟨.slice (some ⟨w.heap.size,0,none⟩) 1 1,cs.length⟩]) (M++[.var ks cs]) (w.alloc (.cells cur e))∧
 Grow F F ρ (ρ++[⟨.slice (some ⟨w.heap.size,0,none⟩) 1 1,cs.length⟩]) w (w.alloc (.cells cur e)):=by
 have lq:Grow F F ρ (ρ++[⟨.slice (some ⟨w.heap.size,0,none⟩) 1 1,cs.length⟩]) w (w.alloc (.cells cur e)):=
  ⟨λ_ h=>h,λ_ _ h=>nK h,hI.xt (FC w _ none) (by simp)⟩
 refine⟨hI.push (FC w _ none) (hd:=⟨.slice (some ⟨w.heap.size,0,none⟩) 1 1,cs.length⟩) ?_ rfl ?_,lq⟩
 ·intro g hg;simp [Hd.eM,Value.eM]at hg;subst hg;simp
 ·exact⟨hk,rfl,_,_,_,rfl,Pf w _,hr.grow lq,hy⟩
def Yo{hd:Hd}{g o n c:Nat}(hl:ρ.length=M.length)(hv:hd.v= .slice (some ⟨g,o,none⟩) n c)(i off:Nat):
 aZ X.K (ρ++[hd]) F w (.ptr M.length i off) (.pointer (some ⟨g,o+i*hd.sz+off,none⟩)):=
 .ptr _ _ _ hd g o n c (by rw [<-hl];simp) hv
def oU(X:Cx)(t:TypeId):ei:=(X.ti t).ks.map Kind.v
def YR(X:Cx)(t:TypeId)(M:aV)(k:AV->aV->Option R):Option R:=
 aR (((X.ti t).ok &&X.A4 (oU X t) t)&&dt (oU X t) (X.ti t).zero) (k (.ptr M.length 0 0) (M++[.var (oU X t) (X.ti t).zero]))
def azi(hX:X.Okb){k:AV->aV->Option R}(h:YR X t M k=some r):
 ∃x M',k x M'=some r∧dV [] M M'∧AY X M x M' (λ_ _ _=>True) (Instr.alloc t true (.tuple #[])):=by
 unfold YR at h;replace h:=dq h;obtain⟨h1,h⟩:=h;simp only [bM]at h1;obtain⟨i,d,z,f⟩:=hX.facts h1.1.1;refine⟨_,_,h,dV.push _ _ _,λ{w0 S F ρ w} hI _=> ?_⟩;have hr:dz X.K ρ F w (X.ti t).zero z.cells.toList:=Gt;obtain⟨dO,hg⟩:=hI.newVar h1.2 hr t h1.1.2;refine⟨.pointer (some ⟨w.heap.size,0,none⟩),_,_,_,?_,dO,hg,?_⟩
 ·simp only [Instr.alloc,fx,f.zeroValue,gE,newVar,newRow,FM,iz,FL]
 ·have:=Yo (X:=X) (F:=F) (w:=w.alloc (.cells z.cells t)) (hd:=⟨.slice (some ⟨w.heap.size,0,none⟩) 1 1,(X.ti t).zero.length⟩) hI.len rfl 0 0;exact sP
def aaD(X:Cx)(t:TypeId)(x:AV)(M:aV)(k:AV->aV->Option R):Option R:=
 aR ((x.plain&&X.A4 (oU X t) t)&&dt (oU X t) x.cells) (k (.ptr M.length 0 0) (M++[.var (oU X t) x.cells]))
def aAN{k:AV->aV->Option R}(h:aaD X t x M k=some r):
 ∃y M',k y M'=some r∧dV [] M M'∧∀v,AY X M y M' (λρ F w=>aZ X.K ρ F w x v) (Instr.box t v):=by
 unfold aaD at h;replace h:=dq h;obtain⟨h1,h⟩:=h;simp only [bM]at h1;refine⟨_,_,h,dV.push _ _ _,λv {w0 S F ρ w} hI hx=> ?_⟩;have hr:=hx.cells (Oo h1.1.1) hI.one;obtain⟨dO,hg⟩:=hI.newVar h1.2 hr t h1.1.2;refine⟨.pointer (some ⟨w.heap.size,0,none⟩),_,_,_,?_,dO,hg,?_⟩
 ·simp only [Instr.box,fx,newVar,newRow,FM,iz,gE,FL]
 ·have:=Yo (X:=X) (F:=F) (w:=w.alloc (.cells v.cells t)) (hd:=⟨.slice (some ⟨w.heap.size,0,none⟩) 1 1,x.cells.length⟩) hI.len rfl 0 0;exact sP
def Jb(X:Cx)(t:TypeId)(x:AV)(fi:Nat)(k:AV->Option R):Option R:=
 match(X.ti t).ok,(X.ti t).u with
 |true,.struct fs=>
  match fs[fi]? with
  |some (off,ft)=>
   aR ((X.ti ft).ok && !((X.ti ft).size ==0)) (match x with
    | .ptr id i o=>k (.ptr id i (o+off))
    | .iA t' row o=>k (.iA t' row (o+off))
    |_=>none)
  |none=>none
 |_,_=>none
def au2(hX:X.Okb)(h:Jb X t x fi k=some r):
 ∃y,k y=some r∧∀{ρ:bX} {F:bT} {w:World} {v:Value},aZ X.K ρ F w x v->∃u,(Instr.fieldAt t v fi).run X.P w= .ok u w∧aZ X.K ρ F w y u:=by
 unfold Jb at h;split at h
 ·rename_i fs bz hu;obtain⟨i,d,z,f⟩:=hX.facts bz;obtain⟨gs,dW,fh⟩:=f.struct hu;split at h
  ·rename_i off ft xI;replace h:=dq h;obtain⟨h1,h⟩:=h;simp only [bM,dX,beq_eq_false_iff_ne]at h1;obtain⟨i2,d2,z2,f2⟩:=hX.facts h1.1;have hg:∃sx,gs[fi]?=some sx∧sx.offset=off∧sx.type=ft:=alV;obtain⟨sx,abI,rfl,rfl⟩:=hg;have dE:∀(w:World) (a:Addr),(Instr.fieldAt t (.pointer (some a)) fi).run X.P w= .ok (.pointer (some (a.add sx.offset))) w:=by
    intro w a;simp only [Instr.fieldAt,fx,jf dW,gE,abI,Instr.sureAddr,iz,fieldPlace,f2.sizeOf,h1.2,nv]
   split at h
   ·rename_i id i0 o;refine⟨_,h,λ{ρ F w v} hv=> ?_⟩;cases hv with
    |ptr _ _ _ hd g o' n c bA hv=>
     refine⟨_,dE _ _,?_⟩;rw [pf,show o'+i0*hd.sz+o+sx.offset=o'+i0*hd.sz+(o+sx.offset)by omega];exact .ptr _ _ _ hd g o' n c bA hv
   ·rename_i t' row o;refine⟨_,h,λ{ρ F w v} hv=> ?_⟩;exact akW
   ·exact aX
  ·exact aX
 ·cases h
def yb(X:Cx)(t:TypeId)(x i:AV)(M:aV)(k:AV->Option R):Option R:=
 match i with
 | .int _ n=>
   match(X.ti t).ok,(X.ti t).u with
   |true,.slice e=>
    aR ((X.ti e).ok) (match x with
     | .ab t' xs=>aR (e==t'&&(decide (0<=n)&&decide (n<(xs.length:Int)))) (k (.iA t' (xs.getD n.toNat []) 0))
     | .aC id=>
       match gm M id with
       |some (.row t' xs)=>aR (e==t'&&(decide (0<=n)&&decide (n<(xs.length:Int)))) (k (.ptr id n.toNat 0))
       |some (.eW t' xs)=>aR (e==t'&&(decide (0<=n)&&decide (n<(xs.length:Int)))) (k (.iA t' (xs.getD n.toNat []) 0))
       |_=>none
     | .lz id m=>aR (decide (0<=n)&&decide (n<(m:Int))) (k (.ptr id 0 (n.toNat*(X.ti e).size)))
     | .vw id lo m=>
       match gm M id with
       |some (.row t' _)=>aR (e==t'&&(decide (0<=n)&&decide (n<(m:Int)))) (k (.ptr id (lo+n.toNat) 0))
       |_=>none
     |_=>none)
   |true,.array len e=>
    aR ((X.ti e).ok &&(decide (0<=n)&&decide (n<(len:Int)))) (match x with
     | .ptr id j off=>k (.ptr id j (off+n.toNat*(X.ti e).size))
     | .iA t' row off=>k (.iA t' row (off+n.toNat*(X.ti e).size))
     |_=>none)
   |_,_=>none
 |_=>none
def run_indexAt_slice(hX:X.Okb){e:TypeId}(bz:(X.ti t).ok =true)(hu:(X.ti t).u = .slice e)(he:(X.ti e).ok =true){a:Addr}{len cap:Nat}{kk:IntKind}{n:Int}(h0:0<=n)(h1:n<(len:Int))(w:World):
 (Instr.indexAt t (.slice (some a) len cap) (.int kk n)).run X.P w= .ok (.pointer (some (a.add (n.toNat*(X.ti e).size)))) w:=by
 obtain⟨i,d,z,f⟩:=hX.facts bz;obtain⟨i2,d2,z2,f2⟩:=hX.facts he;have dW:=f.slice hu;simp [Instr.indexAt,asIntOf,jf dW,h0,h1,f2.sizeOf]
def afs{xs:aW}{v:Value}(hv:aZ X.K ρ F w (.ab t xs) v){i:Nat}(hi:i<xs.length):
 ∃a cap,v= .slice (some a) xs.length cap∧aZ X.K ρ F w (.iA t (xs.getD i []) 0) (.pointer (some (a.add (i*(X.K t).length)))):=by
 cases hv with
 |kM=>exact Ai
 |ab _ _ a cap vss hl lR ki hk hc hr=>
  have kU:vss[i]?=some (vss[i]'(by omega)):=dD (by omega);have xF:=rK (d:=([]:Row)) hi;obtain⟨c1,c2⟩:=hc i _ kU;have jX:aZ X.K ρ F w (.iA t (xs.getD i []) 0) (.pointer (some ((a.add (i*(X.K t).length)).add 0))):=by
   refine .iA t _ 0 (a.add (i*(X.K t).length)) (vss[i]'(by omega)) (hk i _ xF) ?_ ?_ ?_
   ·rw [c1,iS (hk i _ xF)]
   ·intro j v hj;rw [Aa];exact c2 j v hj
   ·exact hr i _ _ xF kU
  exact⟨a,cap,rfl,by simpa [Addr.add]using jX⟩
def au1(hX:X.Okb)(h:yb X t x i M k=some r):
 ∃y,k y=some r∧∀{w0:World} {S:Sc} {F:bT} {ρ:bX} {w:World} {v vi:Value},Inv X w0 S F ρ M w->aZ X.K ρ F w x v->aZ X.K ρ F w i vi->
  ∃u,(Instr.indexAt t v vi).run X.P w= .ok u w∧aZ X.K ρ F w y u:=by
 unfold yb at h;simp only [fb]at h;split at h
 ·rename_i kk n;split at h
  ·rename_i e bz hu;replace h:=dq h;obtain⟨he,h⟩:=h;obtain⟨i2,d2,z2,f2⟩:=hX.facts he;have ev:(X.K e).length =(X.ti e).size :=Ar;split at h
   ·rename_i t' xs;replace h:=dq h;obtain⟨h1,h⟩:=h;simp only [bM,jm,iy]at h1;obtain⟨rfl,h0,h1⟩:=h1;refine⟨_,h,λ{w0 S F ρ w v vi} hI hv hi=> ?_⟩;cases hi;obtain⟨a,cap,rfl,hp⟩:=afs hv (i:=n.toNat) (by omega);exact akq
   ·rename_i id;split at h
    ·rename_i t' xs hb;replace h:=dq h;obtain⟨h1,h⟩:=h;simp only [bM,jm,iy]at h1;obtain⟨rfl,h0,h1⟩:=h1;refine⟨_,h,λ{w0 S F ρ w v vi} hI hv hi=> ?_⟩;cases hi;cases hv with
     |aC _ hd bA=>
      have ru:n.toNat<xs.length:=by omega
      obtain⟨hk,hs,g,o,c,cur,vs,hv,hg,_⟩:=hI.Jj hb bA (rK (d:=[]) ru);rw [hv];refine⟨_,run_indexAt_slice hX bz hu he h0 h1 w,?_⟩;rw [pf];have:=aZ.ptr (K:=X.K) (ρ:=ρ) (F:=F) (w:=w) id n.toNat 0 hd g o xs.length c bA hv;rw [hs,ev]at this;exact sP
    ·rename_i t' xs hb;replace h:=dq h;obtain⟨h1,h⟩:=h;simp only [bM,jm,iy]at h1;obtain⟨rfl,h0,h1⟩:=h1;refine⟨_,h,λ{w0 S F ρ w v vi} hI hv hi=> ?_⟩;cases hi;cases hv with
     |aC _ hd bA=>
      have hl:aZ X.K ρ F w (.ab e xs) hd.v:=hI.rep id _ hd hb bA;obtain⟨a,cap,hv,hp⟩:=afs hl (i:=n.toNat) (by omega);rw [hv];exact akq
    ·exact aX
   ·rename_i id m;replace h:=dq h;obtain⟨h1,h⟩:=h;simp only [bM,jm]at h1;refine⟨_,h,λ{w0 S F ρ w v vi} hI hv hi=> ?_⟩;cases hi;cases hv with
    |lz _ _ hd g o n' c cap bA hv=>
     refine⟨_,run_indexAt_slice hX bz hu he h1.1 h1.2 w,?_⟩;rw [pf];have:=aZ.ptr (K:=X.K) (ρ:=ρ) (F:=F) (w:=w) id 0 (n.toNat*(X.ti e).size) hd g o n' c bA hv;exact sP
   ·rename_i id lo m;split at h
    ·rename_i t' xs hb;replace h:=dq h;obtain⟨h1,h⟩:=h;simp only [bM,jm,iy]at h1;obtain⟨rfl,h0,h1⟩:=h1;refine⟨_,h,λ{w0 S F ρ w v vi} hI hv hi=> ?_⟩;cases hi;cases hv with
     |vw _ _ _ hd g o n' c cap bA hv hc rD=>
      obtain⟨q1,_⟩:=hI.rep _ _ hd hb bA;refine⟨_,run_indexAt_slice hX bz hu he h0 h1 w,?_⟩;rw [pf];have:=aZ.ptr (K:=X.K) (ρ:=ρ) (F:=F) (w:=w) id (lo+n.toNat) 0 hd g o n' c bA hv;rw [q1,ev]at this⊢;rw [show o+lo*(X.ti e).size +n.toNat*(X.ti e).size =o+(lo+n.toNat)*(X.ti e).size +0 by rw [p8];omega];exact this
     |tw=>simp at h1;omega
     |tu=>simp at h1;omega
    ·exact aX
   ·exact aX
  ·rename_i len e bz hu;replace h:=dq h;obtain⟨h1,h⟩:=h;simp only [bM,jm]at h1;obtain⟨he,h0,h1⟩:=h1;obtain⟨i1,d1,z1,f1⟩:=hX.facts bz;obtain⟨i2,d2,z2,f2⟩:=hX.facts he;have dW:=f1.array hu;have dE:∀(w:World) (a:Addr),(Instr.indexAt t (.pointer (some a)) (.int kk n)).run X.P w= .ok (.pointer (some (a.add (n.toNat*(X.ti e).size)))) w:=by
    intro w a;simp [Instr.indexAt,asIntOf,jf dW,Instr.sureAddr,h0,h1,f2.sizeOf]
   split at h
   ·rename_i id j off;refine⟨_,h,λ{w0 S F ρ w v vi} hI hv hi=> ?_⟩;cases hi;cases hv with
    |ptr _ _ _ hd g o' n' c bA hv=>
     refine⟨_,dE _ _,?_⟩;rw [pf,show o'+j*hd.sz+off+n.toNat*(X.ti e).size =o'+j*hd.sz+(off+n.toNat*(X.ti e).size)by omega];exact .ptr _ _ _ hd g o' n' c bA hv
   ·rename_i t' row off;refine⟨_,h,λ{w0 S F ρ w v vi} hI hv hi=> ?_⟩;cases hi;exact akW
   ·exact aX
  ·exact aX
 ·cases h
def Gj(X:Cx)(t:TypeId)(cs:bl)(off:Nat)(k:AV->Option R):Option R:=
 aR ((X.ti t).ok &&decide (off+(X.ti t).size <=cs.length)) (match(X.ti t).u.agg with
  |true=>k (.agg ((cs.drop off).take (X.ti t).size))
  |false=>aR ((X.ti t).size ==1) (k (cs.getD off .top)))
def afp(hX:X.Okb){off:Nat}(h:Gj X t cs off k=some r):
 ∃y,k y=some r∧∀{ρ:bX} {F:bT} {w:World} {vs:Array Value},dz X.K ρ F w cs vs.toList->∃u,(part t vs off).run X.P w= .ok u w∧aZ X.K ρ F w y u:=by
 unfold Gj at h;replace h:=dq h;obtain⟨h1,h⟩:=h;simp only [bM,jm]at h1;obtain⟨i,d,z,f⟩:=hX.facts h1.1;split at h
 ·rename_i ha;refine⟨_,h,λ{ρ F w vs} hr=> ?_⟩;refine⟨.agg (vs.extract off (off+(X.ti t).size)),by simp [part,f.isAgg,ha,f.sizeOf],?_⟩;have h2:=hr.drop_take off (X.ti t).size;have e:vs.extract off (off+(X.ti t).size)=((vs.toList.drop off).take (X.ti t).size).toArray :=by
   apply ue;simp [List.extract_eq_take_drop]
  rw [e];exact .agg _ _ h2.1 h2.2
 ·rename_i ha;replace h:=dq h;obtain⟨h2,h⟩:=h;have hs:(X.ti t).size =1:=qc;refine⟨_,h,λ{ρ F w vs} hr=> ?_⟩;have cM:off<cs.length:=by omega
  have hl:=hr.1;simp only [oe]at hl;obtain⟨u,hu⟩:∃u,vs[off]?=some u:=⟨vs[off]'(by omega),Ci (by omega)⟩;refine⟨u,?_,hr.2 off _ _ (rK cM) (Zr)⟩;simp only [part,fx,f.isAgg,ha,gE,hu,iz,lO,nv]
def JK(X:Cx)(t:TypeId)(x:AV)(fi:Nat)(k:AV->Option R):Option R:=
 match(X.ti t).ok,(X.ti t).u,x with
 |true,.struct fs,.agg cs=>
  match fs[fi]? with
  |some (off,ft)=>Gj X ft cs off k
  |none=>none
 |_,_,_=>none
def azf(hX:X.Okb)(h:JK X t x fi k=some r):
 ∃y,k y=some r∧∀{ρ:bX} {F:bT} {w:World} {v:Value},aZ X.K ρ F w x v->∃u,(Instr.field t v fi).run X.P w= .ok u w∧aZ X.K ρ F w y u:=by
 unfold JK at h;split at h
 ·rename_i fs cs bz hu;obtain⟨i,d,z,f⟩:=hX.facts bz;obtain⟨gs,dW,fh⟩:=f.struct hu;split at h
  ·rename_i off ft xI;have hg:∃sx,gs[fi]?=some sx∧sx.offset=off∧sx.type=ft:=alV;obtain⟨sx,abI,rfl,rfl⟩:=hg;obtain⟨y,hy,dE⟩:=afp hX h;refine⟨y,hy,λ{ρ F w v} hv=> ?_⟩;cases hv with
   |agg _ vs hl hr=>
    obtain⟨u,h1,h2⟩:=dE (vs:=vs.toArray) ⟨pw,by simpa using hr⟩;refine⟨u,?_,h2⟩;simp only [Instr.field,fx,jf dW,gE,abI,asAgg,iz,h1]
  ·exact aX
 ·cases h
def JJ(X:Cx)(t:TypeId)(x i:AV)(k:AV->Option R):Option R:=
 match(X.ti t).ok,(X.ti t).u,x,i with
 |true,.array len e,.agg cs,.int _ n=>aR ((X.ti e).ok &&(decide (0<=n)&&decide (n<(len:Int)))) (Gj X e cs (n.toNat*(X.ti e).size) k)
 |true,.str,.str s,.int _ n=>aR (decide (0<=n)) (match s[n.toNat]? with|none=>none|some b=>k (.int .u8 b.toNat))
 |_,_,_,_=>none
def aze(hX:X.Okb)(h:JJ X t x i k=some r):
 ∃y,k y=some r∧∀{ρ:bX} {F:bT} {w:World} {v vi:Value},aZ X.K ρ F w x v->aZ X.K ρ F w i vi->∃u,(Instr.index t v vi).run X.P w= .ok u w∧aZ X.K ρ F w y u:=by
 unfold JJ at h;split at h
 ·rename_i len e cs kk n bz hu;replace h:=dq h;obtain⟨h1,h⟩:=h;simp only [bM,jm]at h1;obtain⟨he,h0,h1⟩:=h1;obtain⟨i1,d1,z1,f1⟩:=hX.facts bz;obtain⟨i2,d2,z2,f2⟩:=hX.facts he;have dW:=f1.array hu;obtain⟨y,hy,dE⟩:=afp hX h;refine⟨y,hy,λ{ρ F w v vi} hv hi=> ?_⟩;cases hi;cases hv with
  |agg _ vs hl hr=>
   obtain⟨u,h3,h4⟩:=dE (vs:=vs.toArray) ⟨pw,by simpa using hr⟩;refine⟨u,?_,h4⟩;simp only [Instr.index,asIntOf,fx,iz,jf dW,gE,h0,h1,and_self,oJ,f2.sizeOf,h3]
 ·rename_i s kk n bz hu;replace h:=dq h;obtain⟨h0,h⟩:=h;have h0:=FF h0;obtain⟨i1,d1,z1,f1⟩:=hX.facts bz;have dW:X.P.underlying t=some .string :=by
   have:=f1.u;rw [hu]at this;cases d1<;>simp [mK]at this;exact f1.jN
  split at h
  ·exact aX
  ·rename_i b hb;refine⟨_,h,λ{ρ F w v vi} hv hi=> ?_⟩;cases hi;cases hv;refine⟨.int .u8 b.toNat,?_,.int _ _⟩;simp only [Instr.index,asIntOf,fx,iz,jf dW,gE,h0,oJ,hb]
 ·cases h
end
end Go.aA
namespace Go.aA
def QN{p:Prop}(h:p:=by
 unfold Builtin.len_;simp [jf dW,goInt]):p:=h
def akH{p:Prop}(h:p:=by
 simp only [DA,Option.some.injEq]at h;subst h
 match vs,hr.1 with
 | [],_=>rfl):p:=h
def aj3{p:Prop}(h:p:=by
 injection h with h;injection h with _ h;subst h;cases hv;exact⟨_,_,rfl⟩):p:=h
def ajc{p:Prop}(h:p:=by rw [pg,wM,show min m (jM.length- lo)=m by omega]):p:=h
def F6{p:Prop}(h:p:=by exact⟨_,_,rfl⟩):p:=h
end Go.aA
namespace Go.aA
def Pp:=@Array.getElem?_setIfInBounds_ne
def Yc:=@Array.foldl_toList
end Go.aA
namespace Go.aA
open Go
noncomputable section
variable {X:Cx} {R:Type}
variable {w0 w w':World} {S:Sc} {F:bT} {ρ:bX} {M:aV}
variable{x:AV}{k:AV->Option R}{P:Program}{r:R}{t:TypeId}{K:TypeId->ei}{v:Value}{xs:aW}
def rowsOf(M:aV):AV->Option (Option TypeId×aW)
 | .ab t xs=>some (some t,xs)
 | .gQ =>some (none,[])
 | .aC id=>match gm M id with|some (.row t xs)=>some (some t,xs)|some (.eW t xs)=>some (some t,xs)|_=>none
 | .vw id lo m=>match gm M id with|some (.row t xs)=>some (some t,(xs.drop lo).take m)|_=>none
 | .jR =>some (none,[])
 |_=>none
def Xp(hI:Inv X w0 S F ρ M w){o:Option TypeId}(h:rowsOf M x=some (o,xs))(hv:aZ X.K ρ F w x v):∃a c,v= .slice a xs.length c:=by
 unfold rowsOf at h;simp only [fb]at h;split at h
 ·injection h with h;injection h with _ h;subst h;cases hv with
  |kM=>exact F6
  |ab=>exact F6
 ·exact aj3
 ·split at h
  ·rename_i hb;injection h with h;injection h with _ h;subst h;cases hv with
   |aC _ hd bA=>
    rcases(hI.rep _ _ hd hb bA).2.2 with⟨h1,h2⟩|⟨g,o,c,cur,h1,_⟩
    ·subst h2;exact⟨_,_,h1⟩
    ·exact⟨_,_,h1⟩
  ·rename_i t jM hb;injection h with h;injection h with _ h;subst h;cases hv with
   |aC _ hd bA=>
    have hr:aZ X.K ρ F w (.ab t jM) hd.v:=hI.rep _ _ hd hb bA;generalize hd.v=v at hr;cases hr with
    |kM=>exact F6
    |ab=>exact F6
  ·exact aX
 ·split at h
  ·rename_i id lo m ob t jM hb;injection h with h;injection h with _ h;subst h;cases hv with
   |vw _ _ _ hd g o n c cap bA hv hc rD=>
    have hlen:n=jM.length:=by
     rcases(hI.rep _ _ hd hb bA).2.2 with⟨h1,h2⟩|⟨g',o',c',cur,h1,_⟩
     ·rw [hv]at h1;cases h1
     ·rw [hv]at h1;injection h1
    refine⟨some ⟨g,o+lo*hd.sz,none⟩,cap,?_⟩;exact ajc
   |tw=>exact F6
   |tu=>exact F6
  ·exact aX
 ·exact aj3
 ·exact aX
def aeW(hI:Inv X w0 S F ρ M w)(h:rowsOf M x=some (some t,xs))(hx:∀id lo m,x≠ .vw id lo m)(hv:aZ X.K ρ F w x v):
 (∀(i:Nat) row,xs[i]?=some row->dt (X.K t) row=true)∧
 ((v= .slice none 0 0∧xs=[])∨∃a c,v= .slice (some a) xs.length c∧∃vss:List fI,vss.length=xs.length∧
   ∀(i:Nat) row vs,xs[i]?=some row->vss[i]?=some vs->dz X.K ρ F w row vs∧qL w (a.add (i*(X.K t).length)) vs):=by
 have core:∀{v:Value} {t:TypeId} {xs:aW},aZ X.K ρ F w (.ab t xs) v->(∀(i:Nat) row,xs[i]?=some row->dt (X.K t) row=true)∧
  ((v= .slice none 0 0∧xs=[])∨∃a c,v= .slice (some a) xs.length c∧∃vss:List fI,vss.length=xs.length∧
    ∀(i:Nat) row vs,xs[i]?=some row->vss[i]?=some vs->dz X.K ρ F w row vs∧qL w (a.add (i*(X.K t).length)) vs):=by
  intro v t xs hv;cases hv with
  |kM=>exact⟨λi row h=>hU,.inl ⟨rfl,rfl⟩⟩
  |ab _ _ a cap vss hl lR ki hk hc hr=>
   refine⟨hk,.inr ⟨a,cap,rfl,vss,hl,λi row vs hi fy=>⟨⟨?_,hr i row vs hi fy⟩,λj u hj=> ?_⟩⟩⟩
   ·rw [(hc i vs fy).1,iS (hk i row hi)]
   ·rw [Aa];exact((hc i vs fy).2 j u hj).1
 unfold rowsOf at h;simp only [fb]at h;split at h
 ·injection h with h;injection h with h1 h2;injection h1 with h1;subst h1;subst h2;exact core hv
 ·injection h with h;injection h with h1 h2;cases h1
 ·split at h
  ·rename_i id t' jM hb;injection h with h;injection h with h1 h2;injection h1 with h1;subst h1;subst h2;cases hv with
   |aC _ hd bA=>
    obtain⟨h1,h2,h3⟩:=hI.rep _ _ hd hb bA;refine⟨h2,?_⟩;rcases h3 with h3|⟨g,o,c,cur,fT,hg,h4,h5,h6,h7⟩
    ·exact .inl h3
    ·have hex:∀i:Nat,i<jM.length->∃vs,dz X.K ρ F w (jM.getD i []) vs∧qL w ⟨g,o+i*hd.sz,none⟩ vs:=by
      intro i hi;obtain⟨_,_,g',o',c',aOI,vs,jQ,_,_,_,_,hr,hc,_⟩:=hI.Jj hb bA (rK (d:=[]) hi);rw [fT]at jQ;injection jQ with e1 e2 e3;exact akE
     refine .inr ⟨_,c,fT,(List.range jM.length).map λi=>if h:i<jM.length then(hex i h).choose else [],by simp,λi row vs hi fy=> ?_⟩;have rB:=(eZ.1 hi).1;simp only [iT,ud rB,k7,Option.some.injEq,dif_pos rB]at fy;subst fy;have e:row=jM.getD i []:=by
      have:=rK (d:=([]:Row)) rB;rw [hi]at this;injection this
     subst e;obtain⟨hr,hc⟩:=(hex i rB).choose_spec;refine⟨hr,?_⟩;rw [pf,<-h1];exact hc
  ·rename_i id t' jM hb;injection h with h;injection h with h1 h2;injection h1 with h1;subst h1;subst h2;cases hv with
   |aC _ hd bA=>exact core (hI.rep _ _ hd hb bA)
  ·exact aX
 ·exact absurd rfl (hx _ _ _)
 ·injection h with h;injection h with h1 h2;cases h1
 ·cases h
def afj(hI:Inv X w0 S F ρ M w)(h:rowsOf M x=some (some t,xs))(hv:aZ X.K ρ F w x v):
 (∀(i:Nat) row,xs[i]?=some row->dt (X.K t) row=true)∧
 ((v= .slice none 0 0∧xs=[])∨∃a c,v= .slice (some a) xs.length c∧∃vss:List fI,vss.length=xs.length∧
   ∀(i:Nat) row vs,xs[i]?=some row->vss[i]?=some vs->dz X.K ρ F w row vs∧qL w (a.add (i*(X.K t).length)) vs):=by
 by_cases hx:∃id lo m,x= .vw id lo m
 ·obtain⟨id,lo,m,rfl⟩:=hx;unfold rowsOf at h;simp only [fb]at h;split at h
  ·rename_i t' jM hb;injection h with h;injection h with h1 h2;injection h1 with h1;subst h1;subst h2;cases hv with
   |vw _ _ _ hd g o n c cap bA hv hc rD=>
    obtain⟨q1,q2,q3⟩:=hI.rep _ _ hd hb bA;have kV:rowsOf M (.aC id)=some (some t',jM):=by simp [fb,rowsOf,hb]
    obtain⟨hk,oD⟩:=aeW hI kV (λ_ _ _ e=>by cases e) (.aC id hd bA);have AP:∀(i:Nat) row,((jM.drop lo).take m)[i]?=some row->i<m∧jM[lo+i]?=some row:=by
     intro i row hi;rw [og]at hi;split at hi
     ·rename_i D7;rw [qI]at hi;exact⟨D7,hi⟩
     ·cases hi
    refine⟨λi row hi=>hk _ row (AP i row hi).2,?_⟩;rcases oD with⟨h1,_⟩|⟨a,c2,h1,vss,hl,fy⟩
    ·rw [hv]at h1;cases h1
    ·rw [hv]at h1;injection h1 with e1 e2 e3;injection e1 with e1;refine .inr ⟨⟨g,o+lo*hd.sz,none⟩,cap,?_,(vss.drop lo).take m,?_,λi row vs hi kU=> ?_⟩
     ·exact ajc
     ·rw [pg,wM,pg,wM,hl]
     ·obtain⟨D7,hr⟩:=AP i row hi;have aN1:vss[lo+i]?=some vs:=by
       rw [og,if_pos D7,qI]at kU;exact kU
      obtain⟨r1,r2⟩:=fy _ _ _ hr aN1;refine⟨r1,?_⟩;rw [<-e1,pf]at r2;rw [pf,q1,show o+lo*(X.K t').length +i*(X.K t').length =o+(lo+i)*(X.K t').length by rw [p8];omega];exact r2
   |tw=>exact⟨λi row hi=>Ai,.inl ⟨rfl,by simp⟩⟩
   |tu _ _ a cap=>exact⟨λi row hi=>Ai,.inr ⟨a,cap,by simp,[],by simp,λi row vs hi _=>Ai⟩⟩
  ·exact aX
 ·exact aeW hI h (λid lo m e=>hx ⟨id,lo,m,e⟩) hv
def xg(X:Cx)(t:TypeId)(x:AV)(M:aV)(k:AV->Option R):Option R:=
 match(X.ti t).ok,(X.ti t).u,x with
 |true,.array n _,_=>k (.int .i64 n)
 |true,.str,.str s=>k (.int .i64 s.size)
 |true,.slice _,.lz _ m=>k (.int .i64 m)
 |true,.slice _,.vw _ _ m=>k (.int .i64 m)
 |true,.slice _,x=>match rowsOf M x with|some (_,xs)=>k (.int .i64 xs.length)|none=>none
 |_,_,_=>none
def aAL(hX:X.Okb){ty:TypeId}(h:xg X t x M k=some r):
 ∃y,k y=some r∧∀{w0:World} {S:Sc} {F:bT} {ρ:bX} {w:World} {v:Value},Inv X w0 S F ρ M w->aZ X.K ρ F w x v->∃u,(Builtin.len_ #[t] ty #[v]).run X.P w= .ok u w∧aZ X.K ρ F w y u:=by
 unfold xg at h;split at h
 ·rename_i n e bz hu;obtain⟨i,d,z,f⟩:=hX.facts bz;have dW:=f.array hu;refine⟨_,h,λ{w0 S F ρ w v} hI hv=>⟨.int .i64 n,?_,.int _ _⟩⟩;exact QN
 ·rename_i s bz hu;obtain⟨i,d,z,f⟩:=hX.facts bz;have dW:X.P.underlying t=some .string :=by
   have:=f.u;rw [hu]at this;cases d<;>simp [mK]at this;exact f.jN
  refine⟨_,h,λ{w0 S F ρ w v} hI hv=>⟨.int .i64 s.size,?_,.int _ _⟩⟩;cases hv;exact QN
 ·rename_i e id m bz hu;obtain⟨i,d,z,f⟩:=hX.facts bz;have dW:=f.slice hu;refine⟨_,h,λ{w0 S F ρ w v} hI hv=>⟨.int .i64 m,?_,.int _ _⟩⟩;cases hv;exact QN
 ·rename_i e id lo m bz hu;obtain⟨i,d,z,f⟩:=hX.facts bz;have dW:=f.slice hu;refine⟨_,h,λ{w0 S F ρ w v} hI hv=>⟨.int .i64 m,?_,.int _ _⟩⟩;cases hv<;>(unfold Builtin.len_;simp [jf dW,goInt])
 ·rename_i e bz hu _ _;obtain⟨i,d,z,f⟩:=hX.facts bz;have dW:=f.slice hu;split at h
  ·rename_i o xs ik;refine⟨_,h,λ{w0 S F ρ w v} hI hv=>⟨.int .i64 xs.length,?_,.int _ _⟩⟩;obtain⟨a,c,rfl⟩:=Xp hI ik hv;exact QN
  ·exact aX
 ·cases h
def nz(x y:Int):Int:=if y<x then y else x
def imax(x y:Int):Int:=if y>x then y else x
def DA(f:Int->Int->Int)(k:IntKind):Int->bl->Option Int
 |a,[]=>some a
 |a,.int k' b::rest=>match k==k' with|true=>DA f k (f a b) rest|false=>none
 |_,_=>none
def Ay(f:Int->Int->Int)(xs:bl)(k:AV->Option R):Option R:=
 match xs with
 | .int kd a::rest=>match DA f kd a rest with|some n=>k (.int kd n)|none=>none
 |_=>none
def ahA{P:Program}{K:TypeId->ei}:∀(xs:bl) (kd:IntKind) (a n:Int) (vs:fI),DA nz kd a xs=some n->dz K ρ F w xs vs->(vs.foldlM Builtin.min2 (.int kd a)).run P w= .ok (.int kd n) w
 | [],kd,a,n,vs,h,hr=>akH
 |x::xs,kd,a,n,vs,h,hr=>by
  cases x<;>simp only [DA]at h<;>try cases h
  rename_i k' b;split at h
  ·match vs,hr.1 with
   |v::vs,hl=>
    have hv:=hr.2 0 _ v rfl rfl;cases hv;rw [List.foldlM_cons,fx];simp only [Builtin.min2,iz,gE];exact ahA xs kd _ n vs h ⟨pw,λj y u hy hu=>hr.2 (j+1) y u (Gd) (CK)⟩
  ·exact aX
def ahB{P:Program}{K:TypeId->ei}:∀(xs:bl) (kd:IntKind) (a n:Int) (vs:fI),DA imax kd a xs=some n->dz K ρ F w xs vs->(vs.foldlM Builtin.max2 (.int kd a)).run P w= .ok (.int kd n) w
 | [],kd,a,n,vs,h,hr=>akH
 |x::xs,kd,a,n,vs,h,hr=>by
  cases x<;>simp only [DA]at h<;>try cases h
  rename_i k' b;split at h
  ·match vs,hr.1 with
   |v::vs,hl=>
    have hv:=hr.2 0 _ v rfl rfl;cases hv;rw [List.foldlM_cons,fx];simp only [Builtin.max2,iz,gE];exact ahB xs kd _ n vs h ⟨pw,λj y u hy hu=>hr.2 (j+1) y u (Gd) (CK)⟩
  ·exact aX
def aBY{xs:bl}(h:Ay nz xs k=some r):
 ∃y,k y=some r∧∀{ρ:bX} {F:bT} {w:World} {vs:fI} (ts:Array TypeId) (ty:TypeId),dz K ρ F w xs vs->∃u,(Builtin.min_ ts ty vs.toArray).run P w= .ok u w∧aZ K ρ F w y u:=by
 unfold Ay at h;split at h
 ·rename_i kd a rest;split at h
  ·rename_i n hn;refine⟨_,h,λ{ρ F w vs} ts ty hr=> ?_⟩
   match vs,hr.1 with
   |v::vs,hl=>
    have hv:=hr.2 0 _ v rfl rfl;cases hv;exact⟨_,by simpa [Builtin.min_]using ahA (P:=P) rest kd a n vs hn ⟨pw,λj y u hy hu=>hr.2 (j+1) y u (Gd) (CK)⟩,.int _ _⟩
  ·exact aX
 ·cases h
def aBZ{xs:bl}(h:Ay imax xs k=some r):
 ∃y,k y=some r∧∀{ρ:bX} {F:bT} {w:World} {vs:fI} (ts:Array TypeId) (ty:TypeId),dz K ρ F w xs vs->∃u,(Builtin.max_ ts ty vs.toArray).run P w= .ok u w∧aZ K ρ F w y u:=by
 unfold Ay at h;split at h
 ·rename_i kd a rest;split at h
  ·rename_i n hn;refine⟨_,h,λ{ρ F w vs} ts ty hr=> ?_⟩
   match vs,hr.1 with
   |v::vs,hl=>
    have hv:=hr.2 0 _ v rfl rfl;cases hv;exact⟨_,by simpa [Builtin.max_]using ahB (P:=P) rest kd a n vs hn ⟨pw,λj y u hy hu=>hr.2 (j+1) y u (Gd) (CK)⟩,.int _ _⟩
  ·exact aX
 ·cases h
def xd(place:Nat->Option (Nat×Nat)):bl->cY->Option bl
 |cells,[]=>some cells
 |cells,(i,x)::rest=>
  match place i with
  |none=>none
  |some (off,size)=>
   match x.plain&&x.cells.length==size&&decide (off+size<=cells.length)with
   |true=>xd place (setAt cells off x.cells) rest
   |false=>none
def Wb(off:Nat):∀(vs:List (Value×Nat)) (cs:Array Value),(vs.foldl (λcs (x:Value×Nat)=>cs.setIfInBounds (off+x.2) x.1) cs).size =cs.size
 | [],cs=>rfl
 |x::vs,cs=>by simp [Wb off vs]
def ae2(off:Nat):∀(vs:fI) (n:Nat) (cs:Array Value),off+n+vs.length<=cs.size->∀j:Nat,
 ((vs.zipIdx n).foldl (λcs (x:Value×Nat)=>cs.setIfInBounds (off+x.2) x.1) cs)[j]?=if off+n<=j∧j<off+n+vs.length then vs[j-(off+n)]? else cs[j]?
 | [],n,cs,_,j=>eu
 |v::vs,n,cs,h,j=>by
  simp only [mf]at h;rw [List.zipIdx_cons,List.foldl_cons,ae2 off vs (n+1) _ (eu) j]
  by_cases h1:j=off+n
  ·subst h1;rw [if_neg (by omega),if_pos (by simp)];have cM:off+n<cs.size:=by omega
   simp [cM]
  ·by_cases h2:off+(n+1)<=j∧j<off+(n+1)+vs.length
   ·rw [if_pos h2,if_pos (eu),show j-(off+n)=(j-(off+(n+1)))+1 by omega];simp
   ·rw [if_neg h2,if_neg (eu),Pp (by omega)]
def Fi(ou:∀(id:Nat) hd,ρ[id]?=some hd->hd.v.oneCell'=true){K:TypeId->ei}{place:Nat->Option (Nat×Nat)}:∀(ps:cY) (cs out:bl) (vs:Array Value) (pv:List (Nat×Value)),xd place cs ps=some out->dz K ρ F w cs vs.toList->
 pv.length=ps.length->(∀(j:Nat) p q,ps[j]?=some p->pv[j]?=some q->p.1=q.1∧aZ K ρ F w p.2 q.2)->∃us,Instr.fill place vs pv=some us∧dz K ρ F w out us.toList
 | [],cs,out,vs,pv,h,hr,hl,_=>by
   simp only [xd,Option.some.injEq]at h;subst h
   match pv,hl with
   | [],_=>exact⟨vs,rfl,hr⟩
 |(i,x)::ps,cs,out,vs,pv,h,hr,hl,hp=>by
  match pv,hl with
  |(i',v)::pv,hl=>
   obtain⟨e,hx⟩:=hp 0 _ _ rfl rfl;simp only at e hx;subst e;simp only [xd]at h;split at h
   ·exact aX
   ·rename_i off size zy;split at h
    ·rename_i amr;simp only [bM,iy,jm]at amr;obtain⟨⟨aET,hlen⟩,hb⟩:=amr;have tH:=hx.cells (Oo aET) ou;have zu:=tH.1;have eJ:=hr.1;simp only [oe]at zu eJ;have ev:v.cells.size=size:=by omega
     have LU:dz K ρ F w (setAt cs off x.cells) (v.cells.zipIdx.foldl (λcs (x:Value×Nat)=>cs.setIfInBounds (off+x.2) x.1) vs).toList :=by
      rw [<-Yc,Array.toList_zipIdx];refine⟨by rw [oe,Wb,IP];exact eJ,λj y u hy hu=> ?_⟩;rw [Jr,ae2 off v.cells.toList 0 vs (eu) j]at hu;rw [Ft x.cells cs off (by omega) j]at hy;simp only [yg,oe]at hu;rw [ev]at hu;rw [hlen]at hy
      by_cases hj:off<=j∧j<off+size
      ·rw [if_pos hj]at hy hu;exact tH.2 _ y u hy hu
      ·rw [if_neg hj]at hy hu;exact hr.2 j y u hy (Zr)
     obtain⟨us,h1,h2⟩:=Fi ou ps _ out _ pv h LU (pw) (λj p q Bq hq=>hp (j+1) p q (by simpa using Bq) (by simpa using hq));refine⟨us,?_,h2⟩;have fy:vs.size=cs.length:=eJ;have jo:¬(v.cells.size≠size∨off+v.cells.size>vs.size):=by omega
     simp only [Instr.fill,zy];rw [if_neg (by simpa using jo)];exact h1
    ·exact aX
end
end Go.aA
namespace Go.aA
def sU{p:Prop}(h:p:=by simpa using h1):p:=h
def akx{p:Prop}(h:p:=by have:=aZ.agg (K:=X.K) (ρ:=ρ) (F:=F) (w:=w) cs us.toList hr.1 hr.2;simpa using this):p:=h
end Go.aA
namespace Go.aA
def ey:=@List.length_map
def Ab:=@List.mem_map
def ag0:=@Go.RowKit.Below.heap_alloc
def agZ:=@List.drop_drop
def X5:=@List.getElem?_cons_succ
end Go.aA
namespace Go.aA
open Go
noncomputable section
variable {X:Cx} {R:Type}
variable {w0 w w':World} {S:Sc} {F:bT} {ρ:bX} {M:aV}
variable{t:TypeId}
def On(X:Cx)(fs:List (Nat×TypeId))(i:Nat):Option (Nat×Nat):=(fs[i]?).map λp=>(p.1,(X.ti p.2).size)
def JL(X:Cx)(t:TypeId)(ps:cY)(k:AV->Option R):Option R:=
 match(X.ti t).ok,(X.ti t).u with
 |true,.struct fs=>aR (fs.all λp=>(X.ti p.2).ok) (match xd (On X fs) (X.ti t).zero ps with|some cs=>k (.agg cs)|none=>none)
 |true,.array _ e=>aR ((X.ti e).ok) (match xd (λi=>some (i*(X.ti e).size,(X.ti e).size)) (X.ti t).zero ps with|some cs=>k (.agg cs)|none=>none)
 |_,_=>none
def aea(hX:X.Okb):∀(fs:List Field),(∀f∈fs,(X.ti f.type).ok =true)->∀w,(fs.mapM λf=>do pure (f.offset,<-sizeOf f.type):Sem (List (Nat×Nat))).run X.P w= .ok (fs.map λf=>(f.offset,(X.ti f.type).size)) w
 | [],_,w=>rfl
 |f::fs,h,w=>by
  obtain⟨i,d,z,ff⟩:=hX.facts (h f (by simp));rw [List.mapM_cons];simp only [fx,ff.sizeOf,gE,iz,aea hX fs (λg hg=>h g (by simp [hg])) w,nu]
def azh(hX:X.Okb){ps:cY}{k:AV->Option R}{r:R}(h:JL X t ps k=some r):
 ∃y,k y=some r∧∀{w0:World} {S:Sc} {F:bT} {ρ:bX} {w:World} (pv:List (Nat×Value)),Inv X w0 S F ρ M w->pv.length=ps.length->
  (∀(j:Nat) p q,ps[j]?=some p->pv[j]?=some q->p.1=q.1∧aZ X.K ρ F w p.2 q.2)->∃u,(Instr.build t pv.toArray).run X.P w= .ok u w∧aZ X.K ρ F w y u:=by
 unfold JL at h;split at h
 ·rename_i fs bz hu;replace h:=dq h;obtain⟨h1,h⟩:=h;obtain⟨i,d,z,f⟩:=hX.facts bz;obtain⟨gs,dW,fh⟩:=f.struct hu;split at h
  ·rename_i cs uo;refine⟨_,h,λ{w0 S F ρ w} pv hI hl hp=> ?_⟩;have hz:dz X.K ρ F w (X.ti t).zero z.cells.toList:=Gt;obtain⟨us,hf,hr⟩:=Fi hI.one ps _ cs z.cells pv uo hz hl hp;refine⟨.agg us,?_,akx⟩;have jq:∀g∈gs.toList,(X.ti g.type).ok =true:=by
    intro g hg;rw [jS]at h1;exact h1 (g.offset,g.type) (by rw [fh];exact Ab.2 ⟨g,hg,rfl⟩)
   have zy:(gs.mapM λf=>do pure (f.offset,<-sizeOf f.type):Sem (Array (Nat×Nat))).run X.P w= .ok (gs.toList.map λf=>(f.offset,(X.ti f.type).size)).toArray w:=by
    rw [Array.mapM_eq_mapM_toList,Sem.run_map,aea hX gs.toList jq w];rfl
   have CV:(λi=>(gs.toList.map λf=>(f.offset,(X.ti f.type).size)).toArray[i]?)=On X fs:=by
    funext i
    rw [fh];simp [On];cases gs[i]?<;>rfl
   unfold Instr.build;simp only [fx,f.zeroValue,gE,jf dW,zy];rw [show(λx=>(gs.toList.map λf=>(f.offset,(X.ti f.type).size)).toArray[x]?)=On X fs from CV,hf];rfl
  ·exact aX
 ·rename_i n e bz hu;replace h:=dq h;obtain⟨h1,h⟩:=h;obtain⟨i,d,z,f⟩:=hX.facts bz;obtain⟨i2,d2,z2,f2⟩:=hX.facts h1;have dW:=f.array hu;split at h
  ·rename_i cs uo;refine⟨_,h,λ{w0 S F ρ w} pv hI hl hp=> ?_⟩;have hz:dz X.K ρ F w (X.ti t).zero z.cells.toList:=Gt;obtain⟨us,hf,hr⟩:=Fi hI.one ps _ cs z.cells pv uo hz hl hp;refine⟨.agg us,?_,akx⟩;unfold Instr.build;simp only [fx,f.zeroValue,gE,jf dW,f2.sizeOf];rw [hf];rfl
  ·exact aX
 ·cases h
def chunk(sz:Nat):Nat->bl->aW
 |0,_=>[]
 |n+1,l=>l.take sz::chunk sz n (l.drop sz)
def B1(sz:Nat):∀(n:Nat) (l:bl),(chunk sz n l).length =n
 |0,_=>rfl
 |n+1,l=>by simp [chunk,B1 sz n]
def agR(sz:Nat):∀(n:Nat) (l:bl) (i:Nat),i<n->(chunk sz n l)[i]?=some ((l.drop (i*sz)).take sz)
 |0,_,_,h=>by omega
 |n+1,l,0,_=>by simp [chunk]
 |n+1,l,i+1,h=>by
  simp only [chunk,X5];rw [agR sz n _ i (by omega),agZ]
  congr 3
  rw [p8];omega
def zc:Kind->AV->AV| .slice t,.gQ => .ab t []|_,x=>x
def mJ(X:Cx)(t:TypeId):Row:=List.zipWith zc (X.ti t).ks (X.ti t).zero
def aEs{k:Kind}{K:TypeId->ei}{x:AV}{v:Value}(h:aZ K ρ F w x v):aZ K ρ F w (zc k x) v:=by
 unfold zc;split
 ·cases h;exact .kM _
 ·exact h
def XL{i:TypeInfo}{d:TypeDesc}{z:Value}(f:mX X t i d z):dz X.K ρ F w (mJ X t) z.cells.toList:=by
 have hz:dz X.K ρ F w (X.ti t).zero z.cells.toList:=Gt;have hl:(X.ti t).zero.length =(X.ti t).ks.length :=by rw [f.ks,f.zc,ey,oe,f.zs]
 refine⟨by rw [hz.1];simp [mJ,hl],λj x v hx hv=> ?_⟩;unfold mJ at hx;rw [List.getElem?_zipWith]at hx;cases hk:(X.ti t).ks[j]? with
 |none=>simp [hk]at hx
 |some k=>
  cases Hy:(X.ti t).zero[j]? with
  |none=>simp [hk,Hy]at hx
  |some y=>
   simp only [hk,Hy,Option.some.injEq]at hx;subst hx;exact aEs (hz.2 j y v Hy hv)
def Inv.newRow(hI:Inv X w0 S F ρ M w){xs:aW}{cur:Array Value}{c:Nat}(hk:∀(i:Nat) row,xs[i]?=some row->dt (X.K t) row=true)(pV:xs.length<=c)(su:c<=maxLen)
 (K6:c*(X.K t).length <=cur.size) (hr:∀(i:Nat) row,xs[i]?=some row->∀(j:Nat) x,row[j]?=some x->∃v,cur[i*(X.K t).length +j]?=some v∧aZ X.K ρ F w x v) (hg:w.grownBy w' none) (ev:w'.heap.size=w.heap.size):
 Inv X w0 S F (ρ++[⟨.slice (some ⟨w.heap.size,0,none⟩) xs.length c,(X.K t).length⟩]) (M++[.row t xs]) (w'.alloc (.cells cur t))∧
 Grow F F ρ (ρ++[⟨.slice (some ⟨w.heap.size,0,none⟩) xs.length c,(X.K t).length⟩]) w (w'.alloc (.cells cur t)):=by
 have jB:w.grownBy (w'.alloc (.cells cur t)) none:=⟨hg.os,hg.tape,hg.output,eu,λk hk _=>(ag0 w' _ k (by omega)).trans (hg.block k hk (by simp))⟩;have lq:Grow F F ρ (ρ++[⟨.slice (some ⟨w.heap.size,0,none⟩) xs.length c,(X.K t).length⟩]) w (w'.alloc (.cells cur t)):=
  ⟨λ_ h=>h,λ_ _ h=>nK h,hI.xt jB (by simp)⟩
 refine⟨hI.push jB (hd:=⟨.slice (some ⟨w.heap.size,0,none⟩) xs.length c,(X.K t).length⟩) ?_ rfl ?_,lq⟩
 ·intro g jC;simp [Hd.eM,Value.eM]at jC;subst jC;exact eu
 ·refine⟨rfl,hk,.inr ⟨w.heap.size,0,c,cur,rfl,by rw [<-ev];exact Pf w' _,pV,su,by simpa using K6,λi row hi j x hx=> ?_⟩⟩;obtain⟨v,h1,h2⟩:=hr i row hi j x hx;exact⟨v,sU,h2.grow lq⟩
def z8{hd:Hd}(hl:ρ.length=M.length):aZ X.K (ρ++[hd]) F w (.aC M.length) hd.v:= .aC _ _ (by rw [<-hl];simp)
def y5(X:Cx)(e:TypeId):cY->aV->(cY->aV->Option R)->Option R
 | [],M,c=>c [] M
 |(i,x)::ps,M,c=>
  match(X.ti e).u.agg,x with
  |true,.agg cs=>vM (X.ti e).ks cs M λMn M'=>y5 X e ps M' λni xO=>c ((i,.agg Mn)::ni) xO
  |false,x=>ma ((X.ti e).ks.headD .raw) x M λx' M'=>y5 X e ps M' λni xO=>c ((i,x')::ni) xO
  |_,_=>none
def azT(y:AV)(j:Nat)(hj:j∈oL y):j∈y.cells.flatMap oL:=by
 cases y with
 |aC id=>simpa [AV.cells]using hj
 |_=>exact absurd hj (by simp [oL])
def agk{e:TypeId}:∀(ps:cY) (M:aV) {c:cY->aV->Option R} {r:R},y5 X e ps M c=some r->
 ∃ni M',c ni M'=some r∧M'.length=M.length∧ni.length=ps.length∧dV (ps.flatMap λp=>p.2.cells.flatMap oL) M M'∧∀{w0:World} {S:Sc} {F:bT} {ρ:bX} {w:World},Inv X w0 S F ρ M w->∃F',Inv X w0 S F' ρ M' w∧Grow F F' ρ ρ w w∧
  ∀pv:List (Nat×Value),pv.length=ps.length->(∀(j:Nat) p q,ps[j]?=some p->pv[j]?=some q->p.1=q.1∧aZ X.K ρ F w p.2 q.2)->(∀(j:Nat) p q,ni[j]?=some p->pv[j]?=some q->p.1=q.1∧aZ X.K ρ F' w p.2 q.2)
 | [],M,c,r,h=>⟨[],M,h,rfl,rfl,dV.refl _ _,λ{w0 S F ρ w} hI=>⟨F,hI,Grow.refl _ _ _,λ_ _ h=>h⟩⟩
 |(i,x)::ps,M,c,r,h=>by
  simp only [y5]at h;have fin:∀(x':AV) (M1:aV),M1.length=M.length->dV (x.cells.flatMap oL) M M1->(∀{w0:World} {S:Sc} {F:bT} {ρ:bX} {w:World},Inv X w0 S F ρ M w->∃F',Inv X w0 S F' ρ M1 w∧Grow F F' ρ ρ w w∧∀v,aZ X.K ρ F w x v->aZ X.K ρ F' w x' v)->
   y5 X e ps M1 (λni xO=>c ((i,x')::ni) xO)=some r->∃ni M',c ni M'=some r∧M'.length=M.length∧ni.length=((i,x)::ps).length ∧dV (((i,x)::ps).flatMap λp=>p.2.cells.flatMap oL) M M'∧∀{w0:World} {S:Sc} {F:bT} {ρ:bX} {w:World},Inv X w0 S F ρ M w->∃F',Inv X w0 S F' ρ M' w∧Grow F F' ρ ρ w w∧
   ∀pv:List (Nat×Value),pv.length=((i,x)::ps).length ->(∀(j:Nat) p q,((i,x)::ps)[j]?=some p->pv[j]?=some q->p.1=q.1∧aZ X.K ρ F w p.2 q.2)->(∀(j:Nat) p q,ni[j]?=some p->pv[j]?=some q->p.1=q.1∧aZ X.K ρ F' w p.2 q.2):=by
   intro x' M1 fg Eb h1 h;obtain⟨ni,M2,h,fY,rA,ha2,h2⟩:=agk ps M1 h;refine⟨_,_,h,by omega,by simp [rA],by rw [vd];exact Eb.trans ha2,λ{w0 S F ρ w} hI=> ?_⟩;obtain⟨F1,i1,g1,r1⟩:=h1 hI;obtain⟨F2,i2,g2,r2⟩:=h2 i1;refine⟨F2,i2,g1.trans g2,λpv hl hp=> ?_⟩
   match pv,hl with
   |q0::pv,hl=>
    obtain⟨e0,Bl⟩:=hp 0 _ _ rfl rfl;have aGe:=r2 pv (pw) (λj p q D2 LW=>by
     obtain⟨a,b⟩:=hp (j+1) p q (by simpa using D2) (by simpa using LW);exact⟨a,b.grow g1⟩)
    intro j p q D2 LW;cases j with
    |zero=>simp at D2 LW;subst D2;subst LW;exact⟨e0,(r1 _ Bl).grow g2⟩
    |succ j=>exact aGe j p q (by simpa using D2) (by simpa using LW)
  split at h
  ·rename_i cs ha;obtain⟨Mn,M1,h,fg,Eb,h1⟩:=OR (X:=X) _ _ _ h;refine fin (.agg Mn) M1 fg Eb (λ{w0 S F ρ w} hI=> ?_) h;obtain⟨F1,i1,g1,r1⟩:=h1 hI;refine⟨F1,i1,g1,λv hv=> ?_⟩;cases hv with
   |agg _ vs hl hr=>
    have:=r1 vs ⟨hl,hr⟩;exact .agg _ _ this.1 this.2
  ·obtain⟨x',M1,h,fg,Eb,h1⟩:=Fy (X:=X) h;refine fin x' M1 fg (Eb.mono λi hi=> ?_) h1 h;exact azT _ _ hi
  ·exact aX
def IV(X:Cx)(t:TypeId)(len:Nat)(ps:cY)(M:aV)(k:AV->aV->Option R):Option R:=
 match(X.ti t).ok,(X.ti t).u with
 |true,.slice e=>
  aR ((X.ti e).ok &&decide (0<(X.ti e).size)&&decide (len*(X.ti e).size <=16777216))
   (y5 X e ps M λni M1=>
     match xd (λi=>some (i*(X.ti e).size,(X.ti e).size)) ((List.replicate len (mJ X e)).flatten) ni with
     |some cs=>
      aR ((chunk (X.ti e).size len cs).all λrow=>dt (X.K e) row) (k (.aC M1.length) (M1++[.row e (chunk (X.ti e).size len cs)]))
     |none=>none)
 |_,_=>none
end
end Go.aA
namespace Go.aA
def aoE{p:Prop}(h:p:=by
 have h1:us.size=len*z2.cells.size:=by
  have aux:∀(pv:List (Nat×Value)) (place:Nat->Option (Nat×Nat)) (a b:Array Value),Instr.fill place a pv=some b->b.size=a.size:=by
   intro pv
   induction pv with
   |nil=>intro place a b h;simp only [Instr.fill,Option.some.injEq]at h;rw [h]
   |cons p pv ih=>
    obtain⟨ix,v⟩:=p;intro place a b h;simp only [Instr.fill]at h;split at h
    ·cases h
    ·split at h
     ·cases h
     ·have:=ih place _ b h;rw [this,<-Yc];exact Wb _ _ _
  have:=aux pv _ _ us hf;simpa using this
 have:=hr.1;simp only [oe]at this;rw [<-this,h1,qu]):p:=h
def aoC{p:Prop}(h:p:=by
 unfold Instr.buildSlice;simp only [fx,jf dW,gE,f2.sizeOf];rw [if_neg (by omega)]
 by_cases h0:len*(X.ti e).size =0
 ·have e0:(Array.range (len*z2.cells.size)).map (z2.cells[· %z2.cells.size]!)= #[]:=by rw [qu,h0];simp
  rw [e0]at hf;rw [if_pos h0];simp only [fx,iz,gE];have e1:(Array.range (len*(X.ti e).size)).map (λx=>(#[]:Array Value)[x %(#[]:Array Value).size]!)= #[]:=by rw [h0];simp
  rw [e1,hf];simp only [newRow,fx,FM,gE,iz,FL]
 ·rw [if_neg h0];simp only [fx,iz,gE,f2.zeroValue];rw [qu]at hf;rw [qu,hf];simp only [newRow,fx,FM,gE,iz,FL]):p:=h
def aai{p:Prop}(h:p:=by
 rw [ag9 z2.cells (by omega)];exact aey (XL f2) len):p:=h
def QR{p:Prop}(h:p:=by have:=(eZ.1 hi).1;simpa using this):p:=h
def akn{p:Prop}(h:p:=by
 rw [jH hj]at hx;rw [jH (by rw [h.1];exact hj)]at hv;exact h.2 j x v hx hv):p:=h
def QC{p:Prop}(h:p:=by rw [f2.size];exact f2.zs):p:=h
def lh{p:Prop}(h:p:=by decide):p:=h
def ajL{p:Prop}(h:p:=by simp [IntKind.wrap,IntKind.bits,IntKind.signed];omega):p:=h
end Go.aA
namespace Go.aA
def Ad:=@List.append_nil
def PS:=@List.ext_getElem?
def yl:=@List.getElem?_eq_none
def Ps:=@getElem!_pos
def Pe:=@Nat.le_mul_of_pos_right
def Yb:=@Nat.mod_eq_of_lt
def Cd:=@Int.eq_ofNat_of_zero_le
def Ya:=@List.replicate_succ
def Cc:=@List.flatten_cons
def ag1:=@Nat.add_mul_mod_self_right
def FA:=@List.getElem?_replicate
end Go.aA
namespace Go.aA
open Go
noncomputable section
variable {X:Cx} {R:Type}
variable {w0 w w':World} {S:Sc} {F:bT} {ρ:bX} {M:aV}
def O1{n:Nat}(h:n<=140737488355328):n<=maxLen:=oh h (lh)
def aey{K:TypeId->ei}{row:Row}{vs:fI}(h:dz K ρ F w row vs):∀n,dz K ρ F w (List.replicate n row).flatten (List.replicate n vs).flatten
 |0=>⟨rfl,λj x v hx _=>wT⟩
 |n+1=>by
  have ih:=aey h n;rw [Ya,Ya,Cc,Cc];refine⟨by rw [e7,e7,h.1,ih.1],λj x v hx hv=> ?_⟩
  by_cases hj:j<row.length
  ·exact akn
  ·rw [kZ (by omega)]at hx;rw [kZ (by rw [h.1];omega),h.1]at hv;exact ih.2 _ x v hx hv
def ag9(vs:Array Value)(hs:0<vs.size):∀n,((Array.range (n*vs.size)).map (vs[· %vs.size]!)).toList =(List.replicate n vs.toList).flatten :=by
 intro n
 induction n with
 |zero=>simp
 |succ n ih=>
  rw [List.replicate_succ',List.flatten_append,<-ih];apply PS;intro j;simp only [Array.toList_map,Array.toList_range,iT,Cc,List.flatten_nil,Ad];have e:(n+1)*vs.size=n*vs.size+vs.size:=by rw [p8,Yf]
  by_cases h1:j<n*vs.size
  ·rw [jH (sU),ud (by omega),iT,ud h1]
  ·by_cases h2:j<(n+1)*vs.size
   ·rw [kZ (eu),ud h2];simp only [ey,List.length_range,k7];have h3:j %vs.size=j- n*vs.size:=by
     rw [show j=(j- n*vs.size)+n*vs.size by omega,ag1,Yb (by omega)];omega
    have h4:j- n*vs.size<vs.size:=by omega
    rw [h3,Jr,Ci h4,Ps vs _ h4]
   ·rw [kZ (eu),yl (eu),yl (eu)];rfl
def agQ{K:TypeId->ei}{cs:bl}{us:fI}(h:dz K ρ F w cs us){sz n:Nat}{i:Nat}{row:Row}(hi:(chunk sz n cs)[i]?=some row){j:Nat}{x:AV}(hx:row[j]?=some x):
 ∃v,us[i*sz+j]?=some v∧aZ K ρ F w x v:=by
 have rB:i<n:=by have:=(eZ.1 hi).1;rwa [B1]at this
 rw [agR sz n cs i rB]at hi;injection hi with hi;subst hi;rw [og]at hx;split at hx
 ·rw [qI]at hx;have cM:=(eZ.1 hx).1;have hl:=h.1;have hu:us[i*sz+j]?=some (us[i*sz+j]'(by omega)):=dD (by omega);exact⟨_,hu,h.2 _ x _ hx hu⟩
 ·cases hx
def adr(hX:X.Okb){t:TypeId}{len:Nat}{ps:cY}{k:AV->aV->Option R}{r:R}(h:IV X t len ps M k=some r):
 ∃y M',k y M'=some r∧dV (ps.flatMap λp=>p.2.cells.flatMap oL) M M'∧∀{w0:World} {S:Sc} {F:bT} {ρ:bX} {w:World} (pv:List (Nat×Value)),Inv X w0 S F ρ M w->pv.length=ps.length->
  (∀(j:Nat) p q,ps[j]?=some p->pv[j]?=some q->p.1=q.1∧aZ X.K ρ F w p.2 q.2)->
  ∃v w' ρ' F',(Instr.buildSlice t len pv.toArray).run X.P w= .ok v w'∧Inv X w0 S F' ρ' M' w'∧Grow F F' ρ ρ' w w'∧aZ X.K ρ' F' w' y v∧∀g,g<w.heap.size->w'.heap[g]?=w.heap[g]?:=by
 unfold IV at h;split at h
 ·rename_i e bz hu;replace h:=dq h;obtain⟨h1,h⟩:=h;simp only [bM,jm]at h1;obtain⟨⟨he,ot⟩,ki⟩:=h1;obtain⟨i,d,z,f⟩:=hX.facts bz;obtain⟨i2,d2,z2,f2⟩:=hX.facts he;have dW:=f.slice hu;obtain⟨ni,M1,h,fg,fY,fO,HM⟩:=agk _ _ h;split at h
  ·rename_i cs uo;replace h:=dq h;obtain⟨jk,h⟩:=h;refine⟨_,_,h,(fO.trans (dV.push [] _ _)).mono (by simp),λ{w0 S F0 ρ w} pv oE hl hp=> ?_⟩;obtain⟨F,hI,qA,Th⟩:=HM oE;have Bq:=Th pv hl hp;have qu:z2.cells.size=(X.ti e).size :=QC;have mZ:(X.K e).length =(X.ti e).size :=Ar;have hz:dz X.K ρ F w (List.replicate len (mJ X e)).flatten ((Array.range (len*z2.cells.size)).map (z2.cells[· %z2.cells.size]!)).toList :=aai;obtain⟨us,hf,hr⟩:=Fi hI.one ni _ cs _ pv uo hz (by omega) Bq;have aOn:cs.length=len*(X.ti e).size :=aoE;have Kx:=hI.newRow (t:=e) (xs:=chunk (X.ti e).size len cs) (cur:=us) (c:=len) (λi row hi=>by
    rw [jS]at jk;exact jk row (mT hi)) (by rw [B1];exact fk _)
    (by
      have:len<=len*(X.ti e).size :=Pe _ ot;exact O1 (by omega))
    (by have:=hr.1;simp only [oe]at this;rw [mZ];omega)
    (λi row hi j x hx=>by
      obtain⟨v,h1,h2⟩:=agQ hr hi hx;rw [mZ];exact⟨v,by rw [Jr]at h1;exact h1,h2⟩)
    (w':=w) ⟨rfl,rfl,rfl,fk _,λ_ _ _=>rfl⟩ rfl
   refine⟨.slice (some ⟨w.heap.size,0,none⟩) len len,_,_,F,?_,Kx.1,qA.trans Kx.2,?_,λg hg=>ag0 w _ g hg⟩
   ·exact aoC
   ·have:=z8 (X:=X) (F:=F) (w:=w.alloc (.cells us e)) (hd:=⟨.slice (some ⟨w.heap.size,0,none⟩) (chunk (X.ti e).size len cs).length len,(X.K e).length⟩) hI.len;simpa [B1]using this
  ·exact aX
 ·cases h
def Xh(X:Cx)(t:TypeId)(l c:AV)(M:aV)(k:AV->aV->Option R):Option R:=
 match(X.ti t).ok,(X.ti t).u,l,c with
 |true,.slice e,.int _ l,.int _ c=>
  aR ((X.ti e).ok &&decide (0<(X.ti e).size)&&decide (0<(X.ti e).bytes)&&dt (X.K e) (mJ X e)&&(decide (0<=l)&&decide (l<=c)&&decide (c*(X.ti e).bytes <=140737488355328)))
   (k (.aC M.length) (M++[.row e (List.replicate l.toNat (mJ X e))]))
 |_,_,_,_=>none
def au0(hX:X.Okb){t:TypeId}{l c:AV}{k:AV->aV->Option R}{r:R}(h:Xh X t l c M k=some r):
 ∃y M',k y M'=some r∧dV [] M M'∧∀{vl vc:Value},AY X M y M' (λρ F w=>aZ X.K ρ F w l vl∧aZ X.K ρ F w c vc) (Instr.makeSlice t vl vc):=by
 unfold Xh at h;split at h
 ·rename_i e k1 l k2 c bz hu;replace h:=dq h;obtain⟨h1,h⟩:=h;simp only [bM,jm]at h1;obtain⟨⟨⟨⟨he,ot⟩,Tr⟩,Bv⟩,⟨Tm,kW⟩,xJ⟩:=h1;obtain⟨i,d,z,f⟩:=hX.facts bz;obtain⟨i2,d2,z2,f2⟩:=hX.facts he;have dW:=f.slice hu;have qu:z2.cells.size=(X.ti e).size :=QC;have mZ:(X.K e).length =(X.ti e).size :=Ar;obtain⟨cn,rfl⟩:=Cd (show 0<=c by omega);obtain⟨ln,rfl⟩:=Cd Tm;have HO:cn<=140737488355328:=by
   have h2:cn<=cn*(X.ti e).bytes :=Pe _ Tr;have h3:((cn*(X.ti e).bytes :Nat):Int)<=140737488355328:=by rw [Int.natCast_mul];exact xJ
   generalize cn*(X.ti e).bytes =m at*;omega
  have nX:ln<=cn:=by omega
  refine⟨_,_,h,dV.push _ _ _,λ{vl vc w0 S F ρ w} hI hv=> ?_⟩;obtain⟨h1,h2⟩:=hv;cases h1;cases h2;have Kx:=hI.newRow (t:=e) (xs:=List.replicate ln (mJ X e)) (cur:=(Array.range (cn*(X.ti e).size)).map (z2.cells[· %z2.cells.size]!)) (c:=cn) (λi row hi=>by
   have:=mT hi;rw [List.mem_replicate]at this;rw [this.2];exact Bv) (by simpa using nX) (O1 HO) (by simp [mZ])
   (λi row hi j x hx=>by
     have rB:i<ln:=QR;rw [FA,if_pos rB]at hi;injection hi with hi;subst hi;have LS:=XL (X:=X) (ρ:=ρ) (F:=F) (w:=w) f2;have hj:=(eZ.1 hx).1;have fY:=LS.1;simp only [oe]at fY;have L6:j<z2.cells.size:=by omega
     have aOh:i*(X.K e).length +j<cn*(X.ti e).size :=by
      rw [mZ];have:(i+1)*(X.ti e).size <=cn*(X.ti e).size :=sH _ (by omega);exact Ke
     have hm:(i*(X.K e).length +j) %z2.cells.size=j:=by
      rw [mZ,qu,Nat.add_comm,ag1,Yb (by omega)]
     refine⟨z2.cells[j],?_,LS.2 j x _ hx (by simp [L6])⟩;rw [Array.getElem?_map,Array.getElem?_range,if_pos aOh];simp only [k7,hm];rw [Ps z2.cells j L6])
   (w':=w) ⟨rfl,rfl,rfl,fk _,λ_ _ _=>rfl⟩ rfl
  refine⟨.slice (some ⟨w.heap.size,0,none⟩) ln cn,_,_,F,?_,Kx.1,Kx.2,?_⟩
  ·have Bm:IntKind.i64.wrap (ln:Int)=ln:=by simp [IntKind.wrap,IntKind.bits,IntKind.signed];omega
   have hwc:IntKind.i64.wrap (cn:Int)=cn:=ajL;have jb:(i2.bytes:Int)*(cn:Int)<=140737488355328:=by rw [<-f2.bytes,Int.mul_comm];exact xJ
   have hbl:(i2.bytes:Int)*(ln:Int)<=140737488355328:=by
    have:(i2.bytes:Int)*(ln:Int)<=(i2.bytes:Int)*(cn:Int):=Int.mul_le_mul_of_nonneg_left (by omega) (by omega);omega
   have jo:¬((((cn:Int)<0∨(281474976710656:Int)<(i2.bytes:Int)*(cn:Int))∨(ln:Int)<0)∨(cn:Int)<(ln:Int)):=by omega
   unfold Instr.makeSlice;simp only [fx,jf dW,gE,asInt,asIntOf,iz,f2.typeInfo,Bm,hwc];rw [if_neg (by simpa using jo)]
   by_cases h0:cn*(X.ti e).size =0
   ·have:cn=0:=by rcases Nat.mul_eq_zero.1 h0 with h|h;exact h;omega
    subst this;have e9:∀g:Nat->Value,(Array.range 0).map g= #[]:=by intro g;simp
    simp [f2.sizeOf,newRow,e9]
   ·simp [f2.sizeOf,newRow,f2.zeroValue,h0]
  ·have:=z8 (X:=X) (F:=F) (w:=w.alloc (.cells ((Array.range (cn*(X.ti e).size)).map (z2.cells[· %z2.cells.size]!)) e)) (hd:=⟨.slice (some ⟨w.heap.size,0,none⟩) (List.replicate ln (mJ X e)).length cn,(X.K e).length⟩) hI.len;exact sP
 ·cases h
end
end Go.aA
namespace Go.aA
def Gh{p:Prop}(h:p:=by rw [<-hI.len];simp):p:=h
def aiO{p:Prop}(h:p:=by rw [jH (eZ.1 hb).1];exact hb):p:=h
def aiN{p:Prop}(h:p:=by rw [jH (eZ.1 hh).1];exact hh):p:=h
end Go.aA
namespace Go.aA
def JB:=@Nat.sub_self
def FN:=@List.all_cons
end Go.aA
namespace Go.aA
open Go
noncomputable section
variable {X:Cx} {R:Type} {M:aV}
variable{len:Nat}{r:R}{t:TypeId}{ps:cY}
def Inv.aGY{w0 w w':World}{S:Sc}{F F':bT}{ρ:bX}{hd:Hd}{b:ep}(hI:Inv X w0 S F ρ M w)(hN:Inv X w0 S F' (ρ++[hd]) (M++[b]) w')(hF:∀a,F a->F' a)(hp:∀g,g<w.heap.size->w'.heap[g]?=w.heap[g]?)(hw:∀a v,F a->w.cell? a=some v->w'.cell? a=some v):
 Inv X w0 S F' ρ M w' where
 os:=hN.os
 tape:=hN.tape
 output:=hN.output
 size:=hN.size
 frame:=hN.frame
 len:=hI.len
 rep:=λid b' dI hb hh=>by
  cases mi:b'.iM with
  |false=>exact(hI.rep id b' dI hb hh).mono (λ_ _ h=>h) hF hw (λg hg=>hp g (hI.sep id b' dI g hb mi hh hg).1)
  |true=>
   have h1:(M++[b])[id]?=some b':=aiO;have h2:(ρ++[hd])[id]?=some dI:=aiN;have hr:=hI.rep id b' dI hb hh;cases b' with
   |dead=>trivial
   |eW t xs=>exact aZ.mono (λ_ _ h=>h) hF hw hr
   |_=>simp [ep.iM]at mi
 sep:=λid b' dI g hb mi hh hg=>by
  have h1:(M++[b])[id]?=some b':=aiO;have h2:(ρ++[hd])[id]?=some dI:=aiN;exact hN.sep id b' dI g h1 mi h2 hg
 iX:=hI.iX
 fz:=hN.fz
 gh:=λg=>(hI.gh g).mono (λ_ _ h=>h) hF hw
 one:=hI.one
 gk:=hN.gk
 fin:=hN.fin
def Da:AV->Bool| .int _ _| .bool _| .str _| .ab _ _=>true|_=>false
def Rk:Bool->AV->Bool|true,.agg cs=>cs.all Da|false,x=>Da x|_,_=>false
def aF6:AV->Bool| .agg cs=>cs.all Da|x=>Da x
def ahx{kd:Kind}{x:AV}{c:AV->aV->Option R}(h:Da x=true):ma kd x M c=c x M:=by
 cases x<;>simp [Da]at h<;>cases kd<;>rfl
def agE:∀(ks:ei) (xs:bl) {M:aV} {c:bl->aV->Option R},xs.all Da=true->vM ks xs M c=c xs M
 | [],xs,M,c,_=>by cases xs<;>rfl
 |_::_,[],M,c,_=>rfl
 |kd::ks,x::xs,M,c,h=>by
  rw [FN,bM]at h;simp only [vM];rw [ahx h.1,agE ks xs h.2]
def XU{e:TypeId}:∀(ps:cY) {M:aV} {c:cY->aV->Option R},(ps.all λp=>Rk (X.ti e).u.agg p.2)=true->y5 X e ps M c=c ps M
 | [],M,c,_=>rfl
 |(i,x)::ps,M,c,h=>by
  rw [FN,bM]at h;obtain⟨h1,h2⟩:=h;cases ha:(X.ti e).u.agg with
  |true=>
   rw [ha]at h1;cases x<;>simp only [Rk,lO]at h1
   simp only [y5,ha];rw [agE _ _ h1,XU ps h2]
  |false=>
   rw [ha]at h1;simp only [y5,ha];rw [ahx (by simpa [Rk]using h1),XU ps h2]
def B4(X:Cx)(t:TypeId)(len:Nat)(ps:cY)(k:AV->Option R):Option R:=
 match(X.ti t).ok,(X.ti t).u with
 |true,.slice e=>
  aR ((((X.ti e).ok &&decide (0<(X.ti e).size)&&decide (len*(X.ti e).size <=16777216))&&(ps.all λp=>Rk (X.ti e).u.agg p.2))&&X.pk)
   (match xd (λi=>some (i*(X.ti e).size,(X.ti e).size)) ((List.replicate len (mJ X e)).flatten) ps with
     |some cs=>aR ((chunk (X.ti e).size len cs).all λrow=>dt (X.K e) row) (k (.ab e (chunk (X.ti e).size len cs)))
     |none=>none)
 |_,_=>none
def au3(hX:X.Okb){k:AV->Option R}(h:B4 X t len ps k=some r):
 ∃y,k y=some r∧(∀(R':Type) (k':AV->Option R'),B4 X t len ps k'=k' y)∧∀{M:aV} {w0:World} {S:Sc} {F:bT} {ρ:bX} {w:World} (pv:List (Nat×Value)),Inv X w0 S F ρ M w->pv.length=ps.length->
  (∀(j:Nat) p q,ps[j]?=some p->pv[j]?=some q->p.1=q.1∧aZ X.K ρ F w p.2 q.2)->
  ∃v w' ρ' F',(Instr.buildSlice t len pv.toArray).run X.P w= .ok v w'∧Inv X w0 S F' ρ' M w'∧Grow F F' ρ ρ' w w'∧aZ X.K ρ' F' w' y v:=by
 unfold B4 at h;split at h
 ·rename_i e bz hu;replace h:=dq h;obtain⟨h1,h⟩:=h;split at h
  ·rename_i cs uo;replace h:=dq h;obtain⟨jk,h⟩:=h;refine⟨_,h,λR' k'=>by unfold B4;simp only [bz,hu,h1,uo,jk,aR],λ{M w0 S F ρ w} pv hI hl hp=> ?_⟩;obtain⟨h1,LY⟩:=Bool.and_eq_true_iff.1 h1;obtain⟨h1,h3⟩:=Bool.and_eq_true_iff.1 h1;have hb:IV X t len ps M (λy M'=>some (y,M'))=some (.aC M.length,M++[.row e (chunk (X.ti e).size len cs)]):=by
    unfold IV;simp only [bz,hu,h1,aR];rw [XU ps h3];simp only [uo,jk,aR]
   obtain⟨y1,M1,he,_,hd⟩:=adr hX hb;injection he with he;injection he with Mb he2;subst Mb;subst he2;obtain⟨v,w',ρ',F1,dE,HP,wv,sr,kh⟩:=hd pv hI hl hp;have gT:∃hd,ρ'=ρ++[hd]:=by
    have fg:=HP.len;have fY:=hI.len;rw [e7,List.length_singleton]at fg;have cM:ρ.length<ρ'.length:=by omega
    refine⟨ρ'[ρ.length],PS λj=> ?_⟩
    by_cases hj:j<ρ.length
    ·rw [jH hj,dD hj];exact wv.gT j _ (dD hj)
    ·by_cases L6:j=ρ.length
     ·subst L6;rw [kZ (fk _),JB,dD cM];rfl
     ·rw [yl (by omega),yl (eu)]
   obtain⟨mz,rfl⟩:=gT;have hz:ma (.slice e) (.aC M.length) (M++[.row e (chunk (X.ti e).size len cs)]) (λx M=>some (x,M))=some (.ab e (chunk (X.ti e).size len cs),M++[.eW e (chunk (X.ti e).size len cs)]):=by
    simp [fb,ma,aR]
   obtain⟨x',M2,he,_,_,HM⟩:=Fy (X:=X) hz;injection he with he;injection he with Mb he2;subst Mb;subst he2;obtain⟨F2,uS,lW,hv⟩:=HM HP;have hg:=wv.trans lW;exact⟨v,w',ρ,F2,dE,hI.aGY uS hg.hF kh (λa v ha hc=>hg.hw a v ha hc),⟨hg.hF,λ_ _ h=>h,hg.hb⟩,(hv v sr).pure (hX.ok LY).kinds rfl⟩
  ·exact aX
 ·cases h
def aNY:AV->Bool| .dC _ [] []=>false| .dC _ _ _=>true|_=>false
def aGa(ps:cY):Bool:=ps.any λp=>p.2.cells.any aNY
def XB(X:Cx)(t:TypeId)(len:Nat)(ps:cY)(M:aV)(k:AV->aV->Option R):Option R:=
 match(X.ti t).ok,(X.ti t).u with
 |true,.slice e=>
  aR ((X.ti e).ok &&decide (0<(X.ti e).size)&&decide (len*(X.ti e).size <=16777216))
   (match xd (λi=>some (i*(X.ti e).size,(X.ti e).size)) ((List.replicate len (mJ X e)).flatten) ps with
     |some cs=>aR (dt (List.replicate cs.length .any) cs&&X.A4 (List.replicate cs.length .any) e) (k (.lz M.length len) (M++[.var (List.replicate cs.length .any) cs]))
     |none=>none)
 |_,_=>none
def av4(hX:X.Okb){k:AV->aV->Option R}(h:XB X t len ps M k=some r):
 ∃y M',k y M'=some r∧dV [] M M'∧∀{w0:World} {S:Sc} {F:bT} {ρ:bX} {w:World} (pv:List (Nat×Value)),Inv X w0 S F ρ M w->pv.length=ps.length->
  (∀(j:Nat) p q,ps[j]?=some p->pv[j]?=some q->p.1=q.1∧aZ X.K ρ F w p.2 q.2)->
  ∃v w' ρ' F',(Instr.buildSlice t len pv.toArray).run X.P w= .ok v w'∧Inv X w0 S F' ρ' M' w'∧Grow F F' ρ ρ' w w'∧aZ X.K ρ' F' w' y v:=by
 unfold XB at h;split at h
 ·rename_i e bz hu;replace h:=dq h;obtain⟨h1,h⟩:=h;simp only [bM,jm]at h1;obtain⟨⟨he,ot⟩,ki⟩:=h1;obtain⟨i,d,z,f⟩:=hX.facts bz;obtain⟨i2,d2,z2,f2⟩:=hX.facts he;have dW:=f.slice hu;split at h
  ·rename_i cs uo;replace h:=dq h;obtain⟨jk,h⟩:=h;rw [bM]at jk;obtain⟨jk,hyy⟩:=jk;refine⟨_,_,h,dV.push _ _ _,λ{w0 S F ρ w} pv hI hl hp=> ?_⟩;have qu:z2.cells.size=(X.ti e).size :=QC;have hz:dz X.K ρ F w (List.replicate len (mJ X e)).flatten ((Array.range (len*z2.cells.size)).map (z2.cells[· %z2.cells.size]!)).toList :=aai;obtain⟨us,hf,hr⟩:=Fi hI.one ps _ cs _ pv uo hz hl hp;obtain⟨dO,hg⟩:=hI.newVar jk hr e hyy;refine⟨.slice (some ⟨w.heap.size,0,none⟩) len len,_,_,F,?_,dO,hg,?_⟩
   ·exact aoC
   ·exact .lz _ _ ⟨.slice (some ⟨w.heap.size,0,none⟩) 1 1,cs.length⟩ _ _ 1 1 _ (Gh) rfl
  ·exact aX
 ·cases h
end
end Go.aA
namespace Go.aA
def amc{p:Prop}(h:p:=by
 intro o v d n hr hb;cases o with
 |none=>cases v with
  |none=>simp only [mB,Option.some.injEq]at hb;exact .inl ⟨rfl,rfl,hb⟩
  |some _=>exact hr.elim
 |some x=>cases v with
  |none=>exact hr.elim
  |some v=>
   cases x<;>simp only [mB]at hb<;>try cases hb
   cases hr;exact .inr ⟨_,rfl,rfl⟩):p:=h
def akl{p:Prop}(h:p:=by simp [Instr.sliceAt,Instr.slice,hu,Instr.sliceBounds,hs,Instr.sliceBound,asIntOf,h1,h2]):p:=h
end Go.aA
namespace Go.aA
def ym:=@Nat.zero_le
def sL:=@List.length_nil
def sK:=@Int.le_refl
end Go.aA
namespace Go.aA
open Go
noncomputable section
variable {X:Cx} {R:Type}
variable {w0 w w':World} {S:Sc} {F:bT} {ρ:bX} {M:aV}
variable{x:AV}{h l:Int}{hi lo mx:Option AV}{r:R}{t:TypeId}{xs:aW}
def mB(d:Int):Option AV->Option Int
 |none=>some d
 |some (.int _ n)=>some n
 |_=>none
def qm(K:TypeId->ei)(ρ:bX)(F:bT)(w:World):Option AV->Option Value->Prop
 |none,none=>True
 |some x,some v=>aZ K ρ F w x v
 |_,_=>False
def vg(xs:aW)(lo hi:Option AV):aW:=
 match lo,hi with
 |none,none=>xs
 |none,some h=>xs.take h.toI.toNat
 |some l,none=>xs.drop l.toI.toNat
 |some l,some h=>(xs.take h.toI.toNat).drop l.toI.toNat
def Af(X:Cx)(t:TypeId)(x:AV)(lo hi mx:Option AV)(M:aV)(k:AV->aV->Option R):Option R:=
 match(X.ti t).ok,(X.ti t).u with
 |true,.slice e=>
  match rowsOf M x with
  |some (_,xs)=>
   match mB 0 lo,mB xs.length hi,mB xs.length mx with
   |some l,some h,some m=>
    aR ((X.ti e).ok && !(mx.isSome&&hi.isNone)&&(decide (0<=l)&&decide (l<=h)&&decide (h<=m)&&decide (m<=(xs.length:Int))))
     (match x with
      | .ab t' xs=>aR (e==t') (k (.ab t' (vg xs lo hi)) M)
      | .gQ =>k .gQ M
      | .aC id=>
        match gm M id with
        |some (.row t' xs)=>aR (e==t') (k (.aC M.length) (M.set id .dead ++[.row t' (vg xs lo hi)]))
        |some (.eW t' xs)=>aR (e==t') (k (.ab t' (vg xs lo hi)) M)
        |_=>none
      |_=>none)
   |_,_,_=>none
  |none=>none
 |_,_=>none
def I3{P:Program}{e:TypeId}{size:Nat}(dW:P.underlying t=some (.slice e))(hs:∀w,(sizeOf e).run P w= .ok size w){a:Option Addr}{len cap:Nat}{vl vh vm:Option Value}{K:TypeId->ei}
 (h1:qm K ρ F w lo vl) (h2:qm K ρ F w hi vh) (h3:qm K ρ F w mx vm) {m:Int} (e1:mB 0 lo=some l) (e2:mB len hi=some h) (e3:mB len mx=some m) (oC:¬(mx.isSome=true∧hi.isNone=true)) (b1:0<=l) (b2:l<=h) (b3:h<=m) (b4:m<=len) (b5:len<=cap):
 ∃mm:Nat,h.toNat<=mm∧mm<=cap∧(Instr.sliceAt t (.slice a len cap) vl vh vm).run P w= .ok (.slice (if mm=l.toNat then a else a.map (·.add (l.toNat*size))) (h.toNat- l.toNat) (mm- l.toNat)) w:=by
 obtain⟨ln,rfl⟩:=Cd b1;obtain⟨hn,rfl⟩:=Cd (show 0<=h by omega);obtain⟨mn,rfl⟩:=Cd (show 0<=m by omega);have bound:∀(o:Option AV) (v:Option Value) (d:Int) (n:Nat),qm K ρ F w o v->mB d o=some (n:Int)->(o=none∧v=none∧d=n)∨∃kd,v=some (.int kd n)∧o.isSome=true:=amc;have hu:∀w,(underlying t).run P w= .ok (.slice e) w:=λw=>jf dW w;rcases bound lo vl 0 ln h1 e1 with⟨o1,rfl,d1⟩|⟨k1,rfl,s1⟩<;>rcases bound hi vh len hn h2 e2 with⟨o2,rfl,d2⟩|⟨k2,rfl,s2⟩<;>rcases bound mx vm len mn h3 e3 with⟨o3,rfl,d3⟩|⟨k3,rfl,s3⟩
 ·refine⟨cap,by omega,fk _,?_⟩;have e0:ln=0:=by omega
  have Ej:hn=len:=by omega
  subst e0;subst Ej;simp [Instr.sliceAt,Instr.slice,hu,Instr.sliceBounds,hs]
 ·exact absurd ⟨s3,by rw [o2];rfl⟩ oC
 ·refine⟨cap,by omega,fk _,?_⟩;have e0:ln=0:=by omega
  subst e0;have:hn<=cap:=by omega
  simp [Instr.sliceAt,Instr.slice,hu,Instr.sliceBounds,hs,Instr.sliceBound,asIntOf,this]
 ·refine⟨mn,by omega,by omega,?_⟩;have e0:ln=0:=by omega
  subst e0;have h1:hn<=mn:=by omega
  have h2:mn<=cap:=by omega
  exact akl
 ·refine⟨cap,by omega,fk _,?_⟩;have Ej:hn=len:=by omega
  subst Ej;have h1:ln<=hn:=by omega
  simp [Instr.sliceAt,Instr.slice,hu,Instr.sliceBounds,hs,Instr.sliceBound,asIntOf,h1]
 ·exact absurd ⟨s3,by rw [o2];rfl⟩ oC
 ·refine⟨cap,by omega,fk _,?_⟩;have h1:ln<=hn:=by omega
  have h2:hn<=cap:=by omega
  exact akl
 ·refine⟨mn,by omega,by omega,?_⟩;have h1:ln<=hn:=by omega
  have h2:hn<=mn:=by omega
  have h3:mn<=cap:=by omega
  simp [Instr.sliceAt,Instr.slice,hu,Instr.sliceBounds,hs,Instr.sliceBound,asIntOf,h1,h2,h3]
def Jd(e1:mB 0 lo=some l)(e2:mB xs.length hi=some h):vg xs lo hi=(xs.take h.toNat).drop l.toNat:=by
 cases lo with
 |none=>
  simp only [mB,Option.some.injEq]at e1;subst e1;cases hi with
  |none=>simp only [mB,Option.some.injEq]at e2;subst e2;simp [vg]
  |some x=>cases x<;>simp only [mB]at e2<;>try cases e2
           simp [vg,AV.toI]
 |some y=>
  cases y<;>simp only [mB]at e1<;>try cases e1
  cases hi with
  |none=>simp only [mB,Option.some.injEq]at e2;subst e2;simp [vg,AV.toI]
  |some x=>cases x<;>simp only [mB]at e2<;>try cases e2
           simp [vg,AV.toI]
def aDv{v:Value}(hv:aZ X.K ρ F w (.ab t xs) v){l h m:Nat}(b2:l<=h)(b3:h<=xs.length):
 ∀{a:Option Addr} {cap:Nat},v= .slice a xs.length cap->h<=m->m<=cap->aZ X.K ρ F w (.ab t ((xs.take h).drop l)) (.slice (if m=l then a else a.map (·.add (l*(X.K t).length))) (h- l) (m- l)):=by
 intro a cap qv uM hm2;cases hv with
 |kM=>
  injection qv with e1 e2 e3;subst e1;subst e3;have h0:h=0:=by simpa using b3
  have l0:l=0:=by omega
  have m0:m=0:=by omega
  subst h0;subst l0;subst m0;exact .kM t
 |ab _ _ a' aPe vss hl lR ki hk hc hr=>
  injection qv with e1 e2 e3;subst e1;subst e3;have e:(if m=l then some a' else(some a').map (·.add (l*(X.K t).length)))=some (if m=l then a' else a'.add (l*(X.K t).length)):=by split<;>rfl
  rw [e];have hlen:((xs.take h).drop l).length =h- l:=eu;have:=aZ.ab (K:=X.K) (ρ:=ρ) (F:=F) (w:=w) t ((xs.take h).drop l) (if m=l then a' else a'.add (l*(X.K t).length)) (m- l) ((vss.take h).drop l) (by simp [hl]) (by rw [hlen];omega) (by omega) ?_ ?_ ?_
  ·rw [hlen]at this;exact this
  ·intro i row hi;rw [qI,og]at hi;split at hi
   ·exact hk _ row hi
   ·cases hi
  ·intro i vs hi;rw [qI,og]at hi;split at hi
   ·rename_i cM;obtain⟨c1,c2⟩:=hc _ vs hi;refine⟨c1,λj u hj=> ?_⟩;rw [if_neg (by omega),Aa];have:=c2 j u hj;rw [show l*(X.K t).length +(i*(X.K t).length +j)=(l+i)*(X.K t).length +j by rw [p8];omega];exact this
   ·cases hi
  ·intro i row vs hi fy;rw [qI,og]at hi fy;split at hi
   ·rename_i cM;rw [if_pos cM]at fy;exact hr _ row vs hi fy
   ·cases hi
def azd(hX:X.Okb){k:AV->aV->Option R}(h:Af X t x lo hi mx M k=some r):
 ∃y M',k y M'=some r∧dV (oL x) M M'∧∀{v:Value} {vl vh vm:Option Value},AY X M y M' (λρ F w=>aZ X.K ρ F w x v∧qm X.K ρ F w lo vl∧qm X.K ρ F w hi vh∧qm X.K ρ F w mx vm) (Instr.sliceAt t v vl vh vm):=by
 unfold Af at h;simp only [fb]at h;split at h
 ·rename_i e bz hu;obtain⟨i,d,z,f⟩:=hX.facts bz;have dW:=f.slice hu;split at h
  ·rename_i o xs ik;split at h
   ·rename_i l h' m e1 e2 e3;replace h:=dq h;obtain⟨h1,h⟩:=h;simp only [bM,dX,Bool.and_eq_false_iff,jm]at h1;obtain⟨⟨he,oC⟩,⟨⟨b1,b2⟩,b3⟩,b4⟩:=h1;have abC:¬(mx.isSome=true∧hi.isNone=true):=by
     rintro⟨p,q⟩;rcases oC with hh|hh
     ·rw [p]at hh;cases hh
     ·rw [q]at hh;cases hh
    obtain⟨i2,d2,z2,f2⟩:=hX.facts he;have ev:(X.K e).length =(X.ti e).size :=Ar;have eb:(h':Int)<=xs.length:=by omega
    have core:∀{ρ:bX} {F:bT} {w:World} {v:Value} {vl vh vm:Option Value},aZ X.K ρ F w (.ab e xs) v->qm X.K ρ F w lo vl->qm X.K ρ F w hi vh->qm X.K ρ F w mx vm->
     ∃u,(Instr.sliceAt t v vl vh vm).run X.P w= .ok u w∧aZ X.K ρ F w (.ab e (vg xs lo hi)) u:=by
     intro ρ F w v vl vh vm hv r1 r2 r3;have qv:∃a cap,v= .slice a xs.length cap∧xs.length<=cap:=by
      cases hv with
      |kM=>exact⟨_,_,rfl,by simp⟩
      |ab _ _ a cap _ _ lR=>exact⟨_,_,rfl,lR⟩
     obtain⟨a,cap,qv,lR⟩:=qv;obtain⟨mm,m1,m2,dE⟩:=I3 (P:=X.P) (size:=(X.ti e).size) dW f2.sizeOf (a:=a) (len:=xs.length) (cap:=cap) r1 r2 r3 e1 e2 e3 abC b1 b2 b3 b4 lR;rw [qv];refine⟨_,dE,?_⟩;rw [Jd e1 e2,<-ev];exact aDv hv (by omega) (by omega) qv m1 m2
    split at h
    ·rename_i t' jM;replace h:=dq h;obtain⟨h2,h⟩:=h;rw [iy]at h2;subst h2;simp only [fb,rowsOf,Option.some.injEq,Prod.mk.injEq]at ik;obtain⟨_,rfl⟩:=ik;refine⟨_,_,h,dV.refl _ _,λ{v vl vh vm w0 S F ρ w} hI hh=> ?_⟩;obtain⟨hv,r1,r2,r3⟩:=hh;obtain⟨u,h3,h4⟩:=core hv r1 r2 r3;exact⟨u,w,ρ,F,h3,hI,Grow.refl _ _ _,h4⟩
    ·simp only [fb,rowsOf,Option.some.injEq,Prod.mk.injEq]at ik;obtain⟨_,rfl⟩:=ik;refine⟨_,_,h,dV.refl _ _,λ{v vl vh vm w0 S F ρ w} hI hh=> ?_⟩;obtain⟨hv,r1,r2,r3⟩:=hh;cases hv;simp only [sL]at eb e2 e3 b4;obtain⟨mm,m1,m2,dE⟩:=I3 (P:=X.P) (size:=(X.ti e).size) dW f2.sizeOf (a:=none) (len:=0) (cap:=0) r1 r2 r3 e1 e2 e3 abC b1 b2 b3 b4 (fk _);refine⟨_,w,ρ,F,dE,hI,Grow.refl _ _ _,?_⟩;have l0:l.toNat=0:=by omega
     have h0:h'.toNat=0:=by omega
     have m0:mm=0:=by omega
     rw [l0,h0,m0];exact .gQ
    ·rename_i id;split at h
     ·rename_i t' jM hb;replace h:=dq h;obtain⟨h2,h⟩:=h;rw [iy]at h2;subst h2;simp only [fb,rowsOf,hb,Option.some.injEq,Prod.mk.injEq]at ik;obtain⟨_,rfl⟩:=ik;refine⟨_,_,h,((dV.set _ _ _).trans (dV.push [] _ _)).mono (by simp [oL]),λ{v vl vh vm w0 S F ρ w} hI hh=> ?_⟩;obtain⟨hv,r1,r2,r3⟩:=hh;cases hv with
      |aC _ hd bA=>
       obtain⟨q1,q2,q3⟩:=hI.rep id _ hd hb bA;have qv:∃a cap,hd.v= .slice a jM.length cap∧jM.length<=cap:=by
        rcases q3 with⟨q3,q4⟩|⟨g,o,c,cur,q3,_,q4,_⟩
        ·subst q4;exact⟨_,_,q3,fk _⟩
        ·exact⟨_,_,q3,q4⟩
       obtain⟨a,cap,qv,lR⟩:=qv;obtain⟨mm,m1,m2,dE⟩:=I3 (P:=X.P) (size:=(X.ti e).size) dW f2.sizeOf (a:=a) (len:=jM.length) (cap:=cap) r1 r2 r3 e1 e2 e3 abC b1 b2 b3 b4 lR;rw [qv];have hlen:(vg jM lo hi).length =h'.toNat- l.toNat:=by rw [Jd e1 e2];simp;omega
       have Dx:∀dI:Hd,dI.v= .slice (if mm=l.toNat then a else a.map (·.add (l.toNat*(X.ti e).size))) (h'.toNat- l.toNat) (mm- l.toNat)->dI.sz=(X.K e).length ->
        Inv X w0 S F (ρ++[dI]) (M.set id .dead ++[.row e (vg jM lo hi)]) w:=by
        intro dI fT dv;have yY:∀g,dI.eM=some g->hd.eM=some g:=by
         intro g hg;simp only [Hd.eM,fT,qv]at hg⊢;cases a with
         |none=>split at hg<;>simp [Value.eM]at hg
         |some a=>
          split at hg
          ·exact hg
          ·simp only [k7,Value.eM,Option.some.injEq]at hg⊢;rw [<-hg];unfold Addr.add;split<;>rfl
        refine hI.move hb rfl bA (w':=w) (row:=none) ⟨rfl,rfl,rfl,fk _,λ_ _ _=>rfl⟩ (.inl rfl) (λg hg=>⟨(hI.sep id _ hd g hb rfl bA (yY g hg)).1,.inl (yY g hg)⟩) (by rw [fT];rfl) ?_;refine⟨dv,λi row dZ=> ?_,?_⟩
        ·rw [Jd e1 e2,qI,og]at dZ;split at dZ
         ·exact q2 _ row dZ
         ·cases dZ
        ·rcases q3 with⟨q3,q4⟩|⟨g,o,c,cur,q3,hg,q4,q5,q6,q7⟩
         ·subst q4;rw [q3]at qv;injection qv with a1 a2 a3;subst a1;subst a3;simp only [sL]at b4 eb;have l0:l.toNat=0:=by omega
          have h0:h'.toNat=0:=by omega
          have m0:mm=0:=by omega
          refine .inl ⟨?_,by rw [Jd e1 e2];simp⟩;rw [fT,l0,h0,m0];rfl
         ·rw [q3]at qv;injection qv with a1 a2 a3;subst a1;subst a3;refine .inr ⟨g,if mm=l.toNat then o else o+l.toNat*(X.ti e).size,mm- l.toNat,cur,?_,hg,by rw [hlen];omega,by omega,?_,λi row dZ j y hy=> ?_⟩
          ·rw [fT,hlen];split
           ·rfl
           ·rw [k7,pf]
          ·rw [dv,ev];rw [q1,ev]at q6;split
           ·rename_i heq;rw [heq,JB,Nat.zero_mul];have:=ym (c*(X.ti e).size);omega
           ·have k1:l.toNat+(mm- l.toNat)<=c:=by omega
            have k2:=sH (X.ti e).size k1;rw [p8]at k2;omega
          ·have rB:=(eZ.1 dZ).1;rw [hlen]at rB;rw [Jd e1 e2,qI,og]at dZ;split at dZ
           ·obtain⟨u,wg,kG⟩:=q7 _ row dZ j y hy;refine⟨u,?_,kG.mono (λ_ _ h=>nK h) (λ_ h=>h) (λ_ _ _ h=>h)⟩;rw [if_neg (by omega),dv,ev];rw [q1,ev]at wg;rw [show o+l.toNat*(X.ti e).size +i*(X.ti e).size +j=o+(l.toNat+i)*(X.ti e).size +j by rw [p8];omega];exact wg
           ·cases dZ
       refine⟨_,w,_,F,dE,Dx ⟨_,(X.K e).length⟩ rfl rfl,⟨λ_ h=>h,λ_ _ h=>nK h,λ_ _=>rfl⟩,?_⟩;exact z8 (M:=M) (hd:=⟨_,(X.K e).length⟩) hI.len
     ·rename_i t' jM hb;replace h:=dq h;obtain⟨h2,h⟩:=h;rw [iy]at h2;subst h2;simp only [fb,rowsOf,hb,Option.some.injEq,Prod.mk.injEq]at ik;obtain⟨_,rfl⟩:=ik;refine⟨_,_,h,dV.refl _ _,λ{v vl vh vm w0 S F ρ w} hI hh=> ?_⟩;obtain⟨hv,r1,r2,r3⟩:=hh;cases hv with
      |aC _ hd bA=>
       obtain⟨u,h3,h4⟩:=core (hI.rep id _ hd hb bA) r1 r2 r3;exact⟨u,w,ρ,F,h3,hI,Grow.refl _ _ _,h4⟩
     ·exact aX
    ·exact aX
   ·exact aX
  ·exact aX
 ·cases h
def CZ(X:Cx)(t:TypeId)(x:AV)(lo hi:Option AV)(M:aV)(k:AV->Option R):Option R:=
 match x with
 | .aC id=>
   match(X.ti t).ok,(X.ti t).u with
   |true,.slice e=>
    match gm M id with
    |some (.row t' xs)=>
     match mB 0 lo,mB xs.length hi with
     |some l,some h=>aR (((X.ti e).ok &&e==t')&&(decide (0<=l)&&decide (l<=h)&&decide (h<=(xs.length:Int)))) (k (.vw id l.toNat (h.toNat- l.toNat)))
     |_,_=>none
    |_=>none
   |_,_=>none
 |_=>none
def azX(hX:X.Okb){k:AV->Option R}(h:CZ X t x lo hi M k=some r):
 ∃y,k y=some r∧∀{w0:World} {S:Sc} {F:bT} {ρ:bX} {w:World} {v:Value} {vl vh:Option Value},Inv X w0 S F ρ M w->aZ X.K ρ F w x v->qm X.K ρ F w lo vl->qm X.K ρ F w hi vh->
  ∃u,(Instr.sliceAt t v vl vh none).run X.P w= .ok u w∧aZ X.K ρ F w y u:=by
 unfold CZ at h;simp only [fb]at h;split at h
 ·rename_i id;split at h
  ·rename_i e bz hu;obtain⟨i,d,z,f⟩:=hX.facts bz;have dW:=f.slice hu;split at h
   ·rename_i t' xs hb;split at h
    ·rename_i l h' e1 e2;replace h:=dq h;obtain⟨h1,h⟩:=h;simp only [bM,jm,iy]at h1;obtain⟨⟨he,rfl⟩,⟨b1,b2⟩,b3⟩:=h1;obtain⟨i2,d2,z2,f2⟩:=hX.facts he;have ev:(X.K e).length =(X.ti e).size :=Ar;refine⟨_,h,λ{w0 S F ρ w v vl vh} hI hv r1 r2=> ?_⟩;cases hv with
     |aC _ hd bA=>
      obtain⟨q1,q2,q3⟩:=hI.rep id _ hd hb bA;rcases q3 with⟨q3,q4⟩|⟨g,o,c,cur,q3,_,q4,_⟩
      ·subst q4;simp only [sL]at b3 e2;obtain⟨mm,m1,m2,dE⟩:=I3 (P:=X.P) (K:=X.K) (ρ:=ρ) (F:=F) (w:=w) (mx:=none) (vm:=none) (size:=(X.ti e).size) dW f2.sizeOf (a:=none) (len:=0) (cap:=0) r1 r2 trivial e1 e2 rfl (by simp) b1 b2 b3 (sK _) (fk _);rw [q3];refine⟨_,dE,?_⟩;have l0:l.toNat=0:=by omega
       have h0:h'.toNat=0:=by omega
       have m0:mm=0:=by omega
       rw [l0,h0,m0];exact .tw id 0
      ·obtain⟨mm,m1,m2,dE⟩:=I3 (P:=X.P) (K:=X.K) (ρ:=ρ) (F:=F) (w:=w) (mx:=none) (vm:=none) (size:=(X.ti e).size) dW f2.sizeOf (a:=some ⟨g,o,none⟩) (len:=xs.length) (cap:=c) r1 r2 trivial e1 e2 rfl (by simp) b1 b2 b3 (sK _) q4;rw [q3];refine⟨_,dE,?_⟩
       by_cases hm:mm=l.toNat
       ·rw [if_pos hm,show h'.toNat- l.toNat=0 by omega];exact .tu id _ _ _
       ·rw [if_neg hm,k7,pf,<-ev,<-q1];exact .vw id l.toNat _ hd g o xs.length c _ bA q3 (by omega) (by omega)
    ·exact aX
   ·exact aX
  ·exact aX
 ·cases h
end
end Go.aA
namespace Go.aA
def aoB{p:Prop}(h:p:=by
 intro k u HJ;have qy:=(eZ.1 HJ).1;rw [tN]at qy;have hi:k/(X.K e).length <vss.length:=Nat.div_lt_of_lt_mul (by rw [agX];exact qy);have hj:k %(X.K e).length <(X.K e).length :=Nat.mod_lt _ ot;have my:k=k/(X.K e).length *(X.K e).length +k %(X.K e).length :=by rw [agX];exact(Nat.div_add_mod k _).symm
 have kU:vss[k/(X.K e).length]?=some (vss[k/(X.K e).length]'hi):=dD hi;have LL:ys[k/(X.K e).length]?=some (ys[k/(X.K e).length]'(by omega)):=dD (by omega);have hg:=PC vss hlen _ (k %(X.K e).length) _ kU hj;rw [<-my]at hg;rw [HJ]at hg;have rn:=iS (hk _ _ LL);exact⟨_,_,_,_,_,my,LL,kU,dD (by rw [rn];exact hj),hg.symm⟩):p:=h
def amd{p:Prop}(h:p:=by
 have kU:vss[i]?=some (vss[i]'(by omega)):=dD (by omega);have hj:=(eZ.1 hy).1;have rn:=iS (hk i row hi);obtain⟨⟨r1,r2⟩,_⟩:=fy i row _ hi kU;have hu:(vss[i]'(by omega))[j]?=some ((vss[i]'(by omega))[j]'(by omega)):=dD (by omega);exact⟨_,by rw [PC vss hlen i j _ kU (by omega)];exact hu,r2 j y _ hy hu⟩):p:=h
def alQ{p:Prop}(h:p:=by
 intro i vs hi;have rB:=(eZ.1 hi).1;obtain⟨⟨r1,_⟩,_⟩:=fy i (ys[i]'(by omega)) vs (dD (by omega)) hi;rw [r1,iS (hk i _ (dD (by omega)))]):p:=h
def alH{p:Prop}(h:p:=by
 simp only [sL,Jx,mE]at nm dE;refine⟨_,_,_,F,dE,nm.1,nm.2,?_⟩;exact z8 (M:=M) (hd:=⟨_,(X.K e).length⟩) hI.len):p:=h
def ak1{p:Prop}(h:p:=by
 cases o with
 |none=>exact .inr ⟨rfl,by simpa using Ti⟩
 |some e'=>left;simp only [iy]at Ti;rw [Ti]):p:=h
def ZK{p:Prop}(h:p:=by cases a<;>simp [Builtin.firstCells,loadCells,loadCellsFrom]):p:=h
def QI{p:Prop}(h:p:=by simp [Hd.eM,Value.eM]at hg):p:=h
def akt{p:Prop}(h:p:=by
 have:xs.length*(X.K e).length <=i*(X.K e).length :=sH _ (by omega);omega):p:=h
def QE{p:Prop}(h:p:=by simp [Builtin.firstCells]):p:=h
def Qx{p:Prop}(h:p:=by exact⟨u,wg,kG.grow lq⟩):p:=h
def Zx{p:Prop}(h:p:=by simp [Hd.eM,Value.eM,q3]):p:=h
def ajK{p:Prop}(h:p:=by exact z8 (M:=M) (hd:=⟨.slice none 0 0,(X.K e).length⟩) hI.len):p:=h
end Go.aA
namespace Go.aA
def JD:=@Array.getElem?_append_left
def mE:=@List.nil_append
def Cg:=@List.eq_nil_of_length_eq_zero
def FE:=@List.getElem?_cons_zero
def agX:=@Nat.mul_comm
end Go.aA
namespace Go.aA
open Go
noncomputable section
variable {X:Cx} {R:Type}
variable {w0 w w':World} {S:Sc} {F:bT} {ρ:bX} {M:aV}
variable{x:AV}{c m n:Nat}{P:Program}{e t ty u:TypeId}{i:TypeInfo}{v:Value}{ys:aW}{news:fI}
def PC{α:Type}{sz:Nat}:∀(vss:List (List α)),(∀(i:Nat) vs,vss[i]?=some vs->vs.length=sz)->∀(i j:Nat) vs,vss[i]?=some vs->j<sz->vss.flatten[i*sz+j]?=vs[j]?
 | [],_,i,j,vs,h,_=>hU
 |v::vss,hl,0,j,vs,h,hj=>by
  simp at h;subst h;have:=hl 0 v rfl;rw [Cc,jH (by omega)];simp
 |v::vss,hl,i+1,j,vs,h,hj=>by
  have h0:=hl 0 v rfl;rw [Cc,kZ (by rw [h0,p8];omega),h0];rw [show(i+1)*sz+j- sz=i*sz+j by rw [p8];omega];exact PC vss (λi vs h=>hl (i+1) vs (jU)) i j vs (jU) hj
def Oz{α:Type}{sz:Nat}:∀(vss:List (List α)),(∀(i:Nat) vs,vss[i]?=some vs->vs.length=sz)->vss.flatten.length=vss.length*sz
 | [],_=>by simp
 |v::vss,hl=>by
  rw [Cc,e7,hl 0 v rfl,Oz vss (λi vs h=>hl (i+1) vs (jU)),mf,p8];omega
def af0(hI:Inv X w0 S F ρ M w){o:Option TypeId}(h:rowsOf M x=some (o,ys))(ho:o=some e∨(o=none∧ys=[]))(hv:aZ X.K ρ F w x v)(ot:0<(X.K e).length):
 (∀(i:Nat) row,ys[i]?=some row->dt (X.K e) row=true)∧
 ∃a c,v= .slice a ys.length c∧∃news:fI,news.length=ys.length*(X.K e).length ∧(∀u∈news,u.oneCell'=true)∧
  (∀w2:World,w2.heap=w.heap->(Builtin.firstCells (X.K e).length ys.length v).run X.P w2= .ok news.toArray w2)∧
  ∀(i:Nat) row,ys[i]?=some row->∀(j:Nat) y,row[j]?=some y->∃u,news[i*(X.K e).length +j]?=some u∧aZ X.K ρ F w y u:=by
 rcases ho with rfl|⟨rfl,rfl⟩
 ·obtain⟨hk,hc⟩:=afj hI h hv;refine⟨hk,?_⟩;rcases hc with⟨rfl,rfl⟩|⟨a,c,rfl,vss,hl,fy⟩
  ·exact⟨none,0,rfl,[],by simp,by simp,λw2 _=>QE,λi row h=>hU⟩
  ·have hlen:∀(i:Nat) vs,vss[i]?=some vs->vs.length=(X.K e).length :=alQ;have tN:=Oz vss hlen;have CV:∀(k:Nat) u,vss.flatten[k]?=some u->∃i j,∃(row:Row) (vs:fI) (y:AV),k=i*(X.K e).length +j∧ys[i]?=some row∧vss[i]?=some vs∧row[j]?=some y∧vs[j]?=some u:=aoB;refine⟨some a,c,rfl,vss.flatten,by rw [tN,hl],λu hu=> ?_,λw2 LP=> ?_,λi row hi j y hy=> ?_⟩
   ·obtain⟨k,oX⟩:=z7 hu;obtain⟨i,j,row,vs,y,_,h1,h2,h3,h4⟩:=CV k u oX;exact Iy ((fy i row vs h1 h2).1.2 j y u h3 h4) (XP (hk i row h1) h3) hI.one
   ·have:=run_firstCells_some (P:=X.P) w2 (X.K e).length ys.length a ys.length c vss.flatten (by rw [tN,hl]) (λk u HJ=>by
     obtain⟨i,j,row,vs,y,my,h1,h2,h3,h4⟩:=CV k u HJ;have hc:=(fy i row vs h1 h2).2 j u h4;rw [Aa,<-my]at hc;unfold World.cell? at hc⊢;rw [LP];exact hc)
    exact this
   ·have rB:=(eZ.1 hi).1;exact amd
 ·obtain⟨a,c,rfl⟩:=Xp hI h hv;refine⟨λi row h=>hU,a,c,rfl,[],by simp,by simp,λw2 _=> ?_,λi row h=>hU⟩;simp only [sL];exact ZK
def Kj(s:ByteArray):aW:=s.data.toList.map λb=>[.int .u8 b.toNat]
def Q8:wB->AV->Bool
 | .str,.str _=>true
 | .slice _,.str _=>false
 | .slice _,_=>true
 |_,_=>false
def Q9(X:Cx)(M:aV)(e:TypeId)(x:AV):Option aW:=
 match x with
 | .str s=>(match X.K e with| [.int .u8]=>some (Kj s)|_=>none)
 |x=>match rowsOf M x with
  |some (o,ys)=>(match(match o with|some e'=>e==e'|none=>ys.isEmpty)with|true=>some ys|false=>none)
  |none=>none
def ahd{t:wB}(h:Q8 t x=true):t= .str ∨∃e,t= .slice e:=by
 unfold Q8 at h;split at h
 ·exact .inl rfl
 ·exact aX
 ·exact .inr ⟨_,rfl⟩
 ·exact aX
def ah2{d:TypeDesc}(h:mK d= .str ∨∃e,mK d= .slice e):d= .string ∨∃e,d= .slice e:=by
 cases d<;>first
  |exact .inl rfl
  |exact .inr ⟨_,rfl⟩
  |(rcases h with h|⟨e,h⟩<;>cases h)
structure aO1(X:Cx)(ρ:bX)(F:bT)(w:World)(e u:TypeId)(ys:aW)(v:Value):Prop where
 len:Builtin.lenOf v=pure ys.length
 ty:∃d,X.P.underlying u=some d∧(d= .string ∨∃e,d= .slice e)
 ks:∀(i:Nat) row,ys[i]?=some row->dt (X.K e) row=true
 news:∃news:fI,news.length=ys.length*(X.K e).length ∧(∀u∈news,u.oneCell'=true)∧
  (∀w2:World,w2.heap=w.heap->(Builtin.firstCells (X.K e).length ys.length v).run X.P w2= .ok news.toArray w2)∧
  ∀(i:Nat) row,ys[i]?=some row->∀(j:Nat) y,row[j]?=some y->∃u,news[i*(X.K e).length +j]?=some u∧aZ X.K ρ F w y u
def ahc(hX:X.Okb)(hI:Inv X w0 S F ρ M w)(hu:(X.ti u).ok =true)(hs:Q8 (X.ti u).u x=true)(h:Q9 X M e x=some ys)(hv:aZ X.K ρ F w x v)(ot:0<(X.K e).length):aO1 X ρ F w e u ys v:=by
 obtain⟨i1,d1,z1,f1⟩:=hX.facts hu;have LR:=f1.jN;have DZ:=f1.u
 by_cases aoQ:∃s,x= .str s
 ·obtain⟨s,rfl⟩:=aoQ;cases hv;simp only [Q9]at h;split at h
  ·rename_i hK;injection h with h;subst h;have hl:(Kj s).length =s.size:=by rw [Kj,ey,oe];rfl
   have hg:∀(i:Nat) row,(Kj s)[i]?=some row->∃b,s.data.toList[i]?=some b∧row=[.int .u8 b.toNat]:=by
    intro i row hi;unfold Kj at hi;rw [iT]at hi;cases hb:s.data.toList[i]? with
    |none=>rw [hb]at hi;cases hi
    |some b=>rw [hb]at hi;injection hi with hi;exact⟨b,rfl,hi.symm⟩
   refine⟨by rw [hl];rfl,⟨d1,LR,?_⟩,λi row hi=> ?_,s.data.toList.map λb=> .int .u8 b.toNat,by rw [hl,hK,ey,oe];exact(Nat.mul_one _).symm,λu hu=> ?_,λw2 _=> ?_,λi row hi j y hy=> ?_⟩
   ·exact ah2 (DZ▸ahd hs)
   ·obtain⟨b,_,rfl⟩:=hg i row hi;rw [hK];rfl
   ·obtain⟨b,_,rfl⟩:=Ab.1 hu;rfl
   ·rw [hl];show(pure ((s.extract 0 s.size).data.map λb=>Value.int .u8 b.toNat):Sem (Array Value)).run X.P w2=_;rw [ByteArray.extract_zero_size,iz]
    congr 1
    apply ue;simp
   ·obtain⟨b,hb,rfl⟩:=hg i row hi;cases j with
    |zero=>
     simp only [FE,Option.some.injEq]at hy;subst hy;exact⟨.int .u8 b.toNat,by rw [hK];simp [hb],.int _ _⟩
    |succ j=>simp at hy
  ·exact aX
 ·have hx:Q9 X M e x=(match rowsOf M x with|some (o,ys)=>(match(match o with|some e'=>e==e'|none=>ys.isEmpty)with|true=>some ys|false=>none)|none=>none):=by
   cases x<;>first
    |rfl
    |exact absurd ⟨_,rfl⟩ aoQ
  rw [hx]at h;split at h
  ·rename_i o ys' ik;split at h
   ·rename_i Ti;injection h with h;subst h;have ho:o=some e∨(o=none∧ys'=[]):=ak1;obtain⟨hk,a,c,rfl,news,h1,h2,h3,h4⟩:=af0 hI ik ho hv ot;refine⟨rfl,⟨d1,LR,?_⟩,hk,news,h1,h2,h3,h4⟩;exact ah2 (DZ▸ahd hs)
   ·exact aX
  ·exact aX
def Ys(X:Cx)(ts:qb)(s x:AV)(M:aV)(k:AV->aV->Option R):Option R:=
 match ts with
 | [t,u]=>
   match(X.ti t).ok,(X.ti t).u,(X.ti u).ok,Q8 (X.ti u).u x with
   |true,.slice e,true,true=>
    match Q9 X M e x with
    |some ys=>
     aR ((X.ti e).ok &&decide (0<(X.ti e).size)&&decide (0<(X.ti e).bytes))
      (match s with
       | .gQ =>aR (decide (ys.length*(X.ti e).bytes <=140737488355328)) (k (.aC M.length) (M++[.row e ys]))
       | .aC id=>
         match gm M id with
         |some (.row e' xs)=>aR (e==e'&&decide ((xs.length+ys.length)*(X.ti e).bytes <=140737488355328)) (k (.aC M.length) (M.set id .dead ++[.row e (xs++ys)]))
         |_=>none
       |_=>none)
    |none=>none
   |_,_,_,_=>none
 |_=>none
def ayT(ht:P.underlying t=some (.slice e))(hu:∃d,P.underlying u=some d∧(d= .string ∨∃e,d= .slice e))(hi:P.info? e=some i)
 {g o:Nat} {cur:Array Value} (hg:w.heap[g]?=some (.cells cur e (0,0)))   (hlen:Builtin.lenOf v=pure m)  (hl:news.length=m*i.size)
 (hf:(Builtin.firstCells i.size m v).run P w= .ok news.toArray w) (h1:∀u∈news,u.oneCell'=true) (Gy:n+m<=c) (qk:o+n*i.size+news.length<=cur.size):
 (Builtin.append_ #[t,u] ty #[.slice (some ⟨g,o,none⟩) n c,v]).run P w=
   .ok (.slice (some ⟨g,o,none⟩) (n+m) c) (w.setRow g (cur.toList.take (o+n*i.size)++news++cur.toList.drop (o+n*i.size+news.length)).toArray):=by
 have eT:=Pj P g (o+n*i.size) e news 0 cur w hg (by simpa using qk) h1;simp only [yg]at eT;obtain⟨d,hd,rfl|⟨e2,rfl⟩⟩:=hu<;>simp [Builtin.append_,jf ht,jf hd,sizeOf,typeInfo,hi,hlen,Gy,hf,pf,eT]
def adq(ht:P.underlying t=some (.slice e))(hu:∃d,P.underlying u=some d∧(d= .string ∨∃e,d= .slice e))(hi:P.info? e=some i)(hlen:Builtin.lenOf v=pure 0)
 (hf:(Builtin.firstCells i.size 0 v).run P w= .ok #[] w):
 (Builtin.append_ #[t,u] ty #[.slice none 0 0,v]).run P w= .ok (.slice none 0 0) w:=by
 obtain⟨d,hd,rfl|⟨e2,rfl⟩⟩:=hu<;>simp [Builtin.append_,jf ht,jf hd,sizeOf,typeInfo,hi,hlen,hf]
def V8{z:Value}(ht:P.underlying t=some (.slice e))(hu:∃d,P.underlying u=some d∧(d= .string ∨∃e,d= .slice e))(hi:P.info? e=some i)(hz:i.zero=some z)
 {b:Option Addr}  {olds:fI} (nY:(Builtin.firstCells i.size n (.slice b n c)).run P w.drew= .ok olds.toArray w.drew)
   (hlen:Builtin.lenOf v=pure m)  (hf:(Builtin.firstCells i.size m v).run P w.drew= .ok news.toArray w.drew) (hn:¬n+m<=c) (h63:n+m<=maxLen)
 (qk:Builtin.nextslicecap (n+m) c*i.bytes<=281474976710656):
 (Builtin.append_ #[t,u] ty #[.slice b n c,v]).run P w=
   .ok (.slice (some ⟨w.heap.size,0,none⟩) (n+m) (grownCap w (n+m) c e))
    (w.drew.alloc (.cells (olds.toArray++news.toArray++Builtin.zeroCells z.cells (grownCap w (n+m) c e-(n+m))) e)):=by
 have abN:¬(9223372036854775807<((n:Int)+(m:Int))):=by simp only [maxLen]at h63;omega
 have aOu:¬(281474976710656<Builtin.nextslicecap (n+m) c*i.bytes):=by omega
 obtain⟨d,hd,rfl|⟨e2,rfl⟩⟩:=hu<;>(
  simp [Builtin.append_,jf ht,jf hd,sizeOf,typeInfo,zeroValue,hi,hz,hlen,hn,abN,aOu,Question.forced,hf,nY,newRow,grownCap]
  congr 2
  apply ue;simp [iU])
def ayn(hX:X.Okb){ts:qb}{s:AV}{k:AV->aV->Option R}{r:R}(h:Ys X ts s x M k=some r):
 ∃y M',k y M'=some r∧dV (oL s) M M'∧∀{vs vx:Value},AY X M y M' (λρ F w=>aZ X.K ρ F w s vs∧aZ X.K ρ F w x vx) (Builtin.append_ ts.toArray ty #[vs,vx]):=by
 unfold Ys at h;simp only [fb]at h;split at h
 ·rename_i t u;split at h
  ·rename_i e bz hu yV hsk;split at h
   ·rename_i ys ik;replace h:=dq h;obtain⟨h1,h⟩:=h;simp only [bM,jm]at h1;obtain⟨⟨he,ot⟩,Tr⟩:=h1;obtain⟨i,d,z,f⟩:=hX.facts bz;obtain⟨i2,d2,z2,f2⟩:=hX.facts he;have ht:=f.slice hu;have mZ:(X.K e).length =i2.size:=f2.ks;have aau:0<(X.K e).length :=by rw [mZ,<-f2.size];exact ot
    have aPb:0<i2.bytes:=by rw [<-f2.bytes];exact Tr
    have qu:z2.cells.size=i2.size:=f2.zs;have bound:∀n:Nat,n*(X.ti e).bytes <=140737488355328->n<=maxLen:=by
     intro n hn;refine O1 (oh ?_ hn);exact Pe _ Tr
    have fresh:∀{w0:World} {S:Sc} {F:bT} {ρ:bX} {w:World} {M2:aV} (xs:aW) (olds news:fI) (c:Nat),Inv X w0 S F ρ M2 w->
     (∀(i:Nat) row,(xs++ys)[i]?=some row->dt (X.K e) row=true)->olds.length=xs.length*(X.K e).length ->news.length=ys.length*(X.K e).length ->
     (∀(i:Nat) row,xs[i]?=some row->∀(j:Nat) y,row[j]?=some y->∃u,olds[i*(X.K e).length +j]?=some u∧aZ X.K ρ F w y u)->
     (∀(i:Nat) row,ys[i]?=some row->∀(j:Nat) y,row[j]?=some y->∃u,news[i*(X.K e).length +j]?=some u∧aZ X.K ρ F w y u)->xs.length+ys.length<=maxLen->
     Inv X w0 S F (ρ++[⟨.slice (some ⟨w.heap.size,0,none⟩) (xs.length+ys.length) (grownCap w (xs.length+ys.length) c e),(X.K e).length⟩]) (M2++[.row e (xs++ys)])
      (w.drew.alloc (.cells (olds.toArray++news.toArray++Builtin.zeroCells z2.cells (grownCap w (xs.length+ys.length) c e-(xs.length+ys.length))) e))∧
     Grow F F ρ (ρ++[⟨.slice (some ⟨w.heap.size,0,none⟩) (xs.length+ys.length) (grownCap w (xs.length+ys.length) c e),(X.K e).length⟩]) w
      (w.drew.alloc (.cells (olds.toArray++news.toArray++Builtin.zeroCells z2.cells (grownCap w (xs.length+ys.length) c e-(xs.length+ys.length))) e)):=by
     intro w0 S F ρ w M2 xs olds news c hI hk L2 nX kV wm ki;have lR:=grownCap_ge w (xs.length+ys.length) c e;have:=hI.newRow (t:=e) (xs:=xs++ys) (cur:=olds.toArray++news.toArray++Builtin.zeroCells z2.cells (grownCap w (xs.length+ys.length) c e-(xs.length+ys.length))) (c:=grownCap w (xs.length+ys.length) c e)
      hk (by rw [e7];exact lR) (grownCap_le_maxLen w _ c e ki)
      (by
        simp only [Array.size_append,JC,size_zeroCells,L2,nX,qu,<-mZ,<-p8];rw [show xs.length+ys.length+(grownCap w (xs.length+ys.length) c e-(xs.length+ys.length))=grownCap w (xs.length+ys.length) c e by omega];exact fk _)
      (λi row hi j y hy=>by
        have hj:=(eZ.1 hy).1;have rn:=iS (hk i row hi)
        by_cases wo:i<xs.length
        ·rw [jH wo]at hi;obtain⟨u,h1,h2⟩:=kV i row hi j y hy;have cM:=(eZ.1 h1).1;refine⟨u,?_,h2⟩;rw [Array.append_assoc,JD (by simpa using cM)];exact sU
        ·rw [kZ (by omega)]at hi;obtain⟨u,h1,h2⟩:=wm (i- xs.length) row hi j y hy;have cM:=(eZ.1 h1).1;refine⟨u,?_,h2⟩;have e0:i*(X.K e).length +j- olds.length=(i- xs.length)*(X.K e).length +j:=by
          rw [L2,Nat.sub_mul];exact akt
         have D8:olds.length<=i*(X.K e).length +j:=by
          rw [L2];exact akt
         rw [Array.append_assoc,Array.getElem?_append_right (by simpa using D8)];simp only [JC];rw [e0,JD (by simpa using cM)];simpa using h1)
      (w':=w.drew) ⟨rfl,rfl,rfl,fk _,λ_ _ _=>rfl⟩ rfl
     rw [e7]at this;exact this
    split at h
    ·replace h:=dq h;obtain⟨hb,h⟩:=h;simp only [jm]at hb;refine⟨_,_,h,dV.push _ _ _,λ{vs vx w0 S F ρ w} hI hh=> ?_⟩;obtain⟨hs,hx⟩:=hh;cases hs;obtain⟨hlen,nG,hk,news,ru,ou,Ea,wm⟩:=ahc hX hI yV hsk ik hx aau
     by_cases hm:ys.length=0
     ·have hys:ys=[]:=Cg hm;subst hys;have Bt:news=[]:=Cg (by simpa using ru);subst Bt;have nZ:=Ea w rfl;rw [mZ]at nZ;have dE:=adq (w:=w) (ty:=ty) ht nG f2.info hlen nZ;refine⟨_,w,ρ++[⟨.slice none 0 0,(X.K e).length⟩],F,dE,hI.C5 (λg hg=>QI) rfl ⟨rfl,λi row h=>hU,.inl ⟨rfl,rfl⟩⟩,⟨λ_ h=>h,λ_ _ h=>nK h,λ_ _=>rfl⟩,?_⟩;exact ajK
     ·have ki:=bound _ hb;have nZ:=Ea w.drew rfl;rw [mZ]at nZ;have dE:=V8 (w:=w) (ty:=ty) ht nG f2.info f2.zero (b:=none) (n:=0) (c:=0) (olds:=[]) (QE) hlen nZ (by omega) (by omega) (by rw [Jx,nextslicecap_zero (by omega),<-f2.bytes];omega);have nm:=fresh [] [] news 0 hI (JZ) (by simp) ru (λi row h=>hU) wm (by simpa using ki);exact alH
    ·rename_i id;split at h
     ·rename_i e' xs hb;replace h:=dq h;obtain⟨h2,h⟩:=h;simp only [bM,iy,jm]at h2;obtain⟨rfl,rD⟩:=h2;refine⟨_,_,h,((dV.set _ _ _).trans (dV.push [] _ _)).mono (by simp [oL]),λ{vs vx w0 S F ρ w} hI hh=> ?_⟩;obtain⟨hs,hx⟩:=hh;cases hs with
      |aC _ hd bA=>
       obtain⟨hlen,nG,hk,news,ru,ou,Ea,wm⟩:=ahc hX hI yV hsk ik hx aau;obtain⟨q1,q2,q3⟩:=hI.rep id _ hd hb bA;have my:∀(i:Nat) row,(xs++ys)[i]?=some row->dt (X.K e) row=true:=by
        intro i row hi
        by_cases wo:i<xs.length
        ·rw [jH wo]at hi;exact q2 i row hi
        ·rw [kZ (by omega)]at hi;exact hk _ row hi
       have ki:=bound _ rD;have dead:∀{w:World},Inv X w0 S F ρ M w->Inv X w0 S F ρ (M.set id .dead) w:=by
        intro w hI;cases dT:hd.eM with
        |none=>exact hI.als hb bA dT trivial
        |some g=>exact hI.write hb rfl bA dT ⟨rfl,rfl,rfl,fk _,λ_ _ _=>rfl⟩ trivial
       rcases q3 with⟨q3,q4⟩|⟨g,o',c,cur,q3,hg,q4,q5,q6,q7⟩
       ·subst q4;rw [q3]
        by_cases hm:ys.length=0
        ·have hys:ys=[]:=Cg hm;subst hys;have Bt:news=[]:=Cg (by simpa using ru);subst Bt;have nZ:=Ea w rfl;rw [mZ]at nZ;have dE:=adq (w:=w) (ty:=ty) ht nG f2.info hlen nZ;refine⟨_,w,ρ++[⟨.slice none 0 0,(X.K e).length⟩],F,dE,(dead hI).C5 (λg hg=>QI) rfl ⟨rfl,λi row h=>hU,.inl ⟨rfl,rfl⟩⟩,⟨λ_ h=>h,λ_ _ h=>nK h,λ_ _=>rfl⟩,?_⟩;exact ajK
        ·have nZ:=Ea w.drew rfl;rw [mZ]at nZ;have dE:=V8 (w:=w) (ty:=ty) ht nG f2.info f2.zero (b:=none) (n:=0) (c:=0) (olds:=[]) (QE) hlen nZ (by omega) (by simpa using ki) (by rw [Jx,nextslicecap_zero (by omega),<-f2.bytes];simp at rD;omega);have nm:=fresh [] [] news 0 (dead hI) (JZ) (by simp) ru (λi row h=>hU) wm (by simpa using ki);exact alH
       ·rw [q3]
        by_cases Gy:xs.length+ys.length<=c
        ·have qk:o'+xs.length*i2.size+news.length<=cur.size:=by
          rw [ru,mZ];rw [q1,mZ]at q6;have:=sH i2.size Gy;rw [p8]at this;omega
         have nZ:=Ea w rfl;rw [mZ]at nZ;have dE:=ayT (w:=w) (ty:=ty) ht nG f2.info hg hlen (by rw [ru,mZ]) nZ ou Gy qk;have jB:=NA w g (cur.toList.take (o'+xs.length*i2.size)++news++cur.toList.drop (o'+xs.length*i2.size+news.length)).toArray;have dT:hd.eM=some g:=Zx;have Ma:∀a,F a->a.block≠g:=(hI.sep id _ hd g hb rfl bA dT).2.2;have lq:Grow F F ρ (ρ++[⟨.slice (some ⟨g,o',none⟩) (xs.length+ys.length) c,(X.K e).length⟩]) w (w.setRow g (cur.toList.take (o'+xs.length*i2.size)++news++cur.toList.drop (o'+xs.length*i2.size+news.length)).toArray):=
          ⟨λ_ h=>h,λ_ _ h=>nK h,hI.xt jB (λk hk a ha=>Kt)⟩
         refine⟨_,_,ρ++[⟨.slice (some ⟨g,o',none⟩) (xs.length+ys.length) c,(X.K e).length⟩],F,dE,hI.move hb rfl bA (row:=some g) jB (.inr dT.symm) (λg' jC=> ?_) rfl ?_,lq,z8 (M:=M) (hd:=⟨_,(X.K e).length⟩) hI.len⟩
         ·simp [Hd.eM,Value.eM]at jC;subst jC;exact⟨by rw [size_setRow];exact(hI.sep id _ hd g hb rfl bA dT).1,.inl dT⟩
         ·refine⟨rfl,my,.inr ⟨g,o',c,_,by rw [e7],Ph w g cur _ e _ hg,by rw [e7];exact Gy,q5,?_,λi row hi j y hy=> ?_⟩⟩
          ·rw [q1]at q6;exact aj5
          ·have hj:=(eZ.1 hy).1;have rn:=iS (my i row hi);rw [OK cur news _ qk];simp only [mZ]at*
           by_cases wo:i<xs.length
           ·rw [jH wo]at hi;obtain⟨u,wg,kG⟩:=q7 i row hi j y hy;rw [q1]at wg;have:(i+1)*i2.size<=xs.length*i2.size:=sH _ (by omega);rw [p8,Yf]at this;rw [if_neg (by omega)];exact Qx
           ·rw [kZ (by omega)]at hi;obtain⟨u,wg,kG⟩:=wm (i- xs.length) row hi j y hy;have cM:=(eZ.1 wg).1;have e0:(i- xs.length)*i2.size=i*i2.size- xs.length*i2.size:=Nat.sub_mul _ _ _;have D8:xs.length*i2.size<=i*i2.size:=sH _ (by omega);rw [if_pos (by omega)];rw [show o'+i*i2.size+j-(o'+xs.length*i2.size)=(i- xs.length)*i2.size+j by omega];exact Qx
        ·have kV:∃olds:fI,olds.length=xs.length*(X.K e).length ∧(∀w2:World,w2.heap=w.heap->(Builtin.firstCells (X.K e).length xs.length hd.v).run X.P w2= .ok olds.toArray w2)∧
          ∀(i:Nat) row,xs[i]?=some row->∀(j:Nat) y,row[j]?=some y->∃u,olds[i*(X.K e).length +j]?=some u∧aZ X.K ρ F w y u:=by
          obtain⟨_,a',c',fT,olds,h1,_,h3,h4⟩:=af0 (e:=e) hI (x:= .aC id) (o:=some e) (ys:=xs) (by simp [fb,rowsOf,hb]) (.inl rfl) (.aC _ hd bA) aau;exact⟨olds,h1,h3,h4⟩
         obtain⟨olds,L2,nY,kV⟩:=kV;have nZ:=Ea w.drew rfl;have hf1:=nY w.drew rfl;rw [q3]at hf1;rw [mZ]at nZ hf1;have dE:=V8 (w:=w) (ty:=ty) ht nG f2.info f2.zero hf1 hlen nZ Gy (by omega) (growslice_fits (by omega) (by rw [<-f2.bytes];exact rD));have nm:=fresh xs olds news c (dead hI) my L2 ru kV wm ki;refine⟨_,_,_,F,dE,nm.1,nm.2,?_⟩;have:=z8 (X:=X) (M:=M) (F:=F) (w:=w.drew.alloc (.cells (olds.toArray++news.toArray++Builtin.zeroCells z2.cells (grownCap w (xs.length+ys.length) c e-(xs.length+ys.length))) e))
          (hd:=⟨.slice (some ⟨w.heap.size,0,none⟩) (xs.length+ys.length) (grownCap w (xs.length+ys.length) c e),(X.K e).length⟩) hI.len
         exact this
     ·exact aX
    ·exact aX
   ·exact aX
  ·exact aX
 ·cases h
end
end Go.aA
namespace Go.aA
def yt{p:Prop}(h:p:=by simpa using he):p:=h
def J3{p:Prop}(h:p:=by simpa using ev):p:=h
def Qi{p:Prop}(h:p:=by simpa using hm):p:=h
end Go.aA
namespace Go.aA
def rS:=@Go.World.putObj_heap_other
def gJ:=@List.drop_zero
def Cq:=@List.take_of_length_le
def Pr:=@Array.getElem?_modify
def wK:=@Array.getElem?_eq_some_iff
def zX:=@List.getElem?_set
def X7:=@Go.World.putObj_heap_same
def Pb:=@Go.MapKept.run_getObj_map
def agV:=@Go.MapKept.run_setObj_map
end Go.aA
namespace Go.aA
open Go Go.MapKept
noncomputable section
variable {X:Cx} {R:Type}
variable {w0 w w':World} {S:Sc} {F:bT} {ρ:bX} {M:aV}
variable{i x:AV}{k:AV->Option R}{ok:Bool}{kd:Kind}{r:R}{t:TypeId}
def tG:AV->AV->Bool
 | .int _ a,.int _ b=>a==b
 | .bool a,.bool b=>a==b
 | .str a,.str b=>a==b
 |_,_=>false
def dR:List (AV×AV)->AV->Option AV
 | [],_=>none
 |e::es,x=>match tG x e.1 with|true=>some e.2|false=>dR es x
def iV:List (AV×AV)->AV->AV->List (AV×AV)
 | [],x,y=>[(x,y)]
 |e::es,x,y=>match tG x e.1 with|true=>(x,y)::es|false=>e::iV es x y
def AO:wB->Option Kind
 | .int k=>some (.int k)
 | .bool =>some .bool
 | .str =>some .str
 |_=>none
def mX.map{t k e:TypeId}{i:TypeInfo}{d:TypeDesc}{z:Value}(f:mX X t i d z)(h:(X.ti t).u = .map k e):X.P.underlying t=some (.map k e):=by
 have h1:=f.jN;have h2:=f.u;rw [h]at h2;cases d<;>simp_all [mK]
structure apA(X:Cx)(kt:TypeId)(kd:Kind)(d:TypeDesc):Prop where
 jN:X.P.underlying kt=some d
 ne:kd≠ .any
 key:∀{ρ:bX} {F:bT} {w:World} {x:AV} {v:Value},iJ kd x=true->aZ X.K ρ F w x v->IsKey d v
 same:∀{ρ:bX} {F:bT} {w:World} {x y:AV} {v u:Value},iJ kd x=true->iJ kd y=true->aZ X.K ρ F w x v->aZ X.K ρ F w y u->Instr.sameNow d v u=some (tG x y)∧(tG x y=true->u=v)
def aoK(hX:X.Okb){kt:TypeId}(bz:(X.ti kt).ok =true)(h:AO (X.ti kt).u =some kd):∃d,apA X kt kd d:=by
 obtain⟨i,d,z,f⟩:=hX.facts bz;refine⟨d,f.jN,?_,?_,?_⟩
 all_goals rw [f.u]at h
 ·rintro rfl;cases d<;>simp [mK,AO]at h
 ·intro ρ F w x v hx hr;cases d<;>simp [mK,AO]at h<;>subst h<;>cases x<;>simp [iJ]at hx<;>cases hr<;>simp [IsKey,hx]
 ·intro ρ F w x y v u hx hy hr hs;cases d<;>simp [mK,AO]at h<;>subst h<;>cases x<;>simp [iJ]at hx<;>cases y<;>simp [iJ]at hy<;>cases hr<;>cases hs<;>simp_all [Instr.sameNow,tG]
  all_goals (intro hb;exact((bytes_beq _ _).1 hb).symm)
def G9(X:Cx)(ρ:bX)(F:bT)(w:World)(kd:Kind)(ag:Bool)(ks:ei)(es:List (AV×AV))(mes:List MapEntry):Prop:=
 mes.length=es.length∧∀(i:Nat) e me,es[i]?=some e->mes[i]?=some me->(iJ kd e.1=true∧dt ks e.2.cells=true∧e.2.shape ag=true)∧aZ X.K ρ F w e.1 me.key∧aZ X.K ρ F w e.2 me.val
def G9.tail{ag:Bool}{ks:ei}{e:AV×AV}{es:List (AV×AV)}{me:MapEntry}{mes:List MapEntry}(h:G9 X ρ F w kd ag ks (e::es) (me::mes)):G9 X ρ F w kd ag ks es mes:=
 ⟨by simpa using h.1,λi e' Lz he hm=>h.2 (i+1) e' Lz (yt) (Qi)⟩
def find_spec{kt:TypeId}{kd:Kind}{d:TypeDesc}(hk:apA X kt kd d){ag:Bool}{ks:ei}{x:AV}{v:Value}(hx:iJ kd x=true)(hr:aZ X.K ρ F w x v):∀(es:List (AV×AV)) (mes:List MapEntry) (n:Nat),G9 X ρ F w kd ag ks es mes->
 (dR es x=none∧Instr.findNow d v mes n=some none∧(∀y,iV es x y=es++[(x,y)]))∨
 ∃i e me,es[i]?=some e∧mes[i]?=some me∧dR es x=some e.2∧Instr.findNow d v mes n=some (some (n+i,me.val))∧me.key=v∧∀y,iV es x y=es.set i (x,y)
 | [],[],n,_=> .inl ⟨rfl,rfl,λ_=>rfl⟩
 | [],_::_,n,h=>by have:=h.1;simp at this
 |_::_,[],n,h=>by have:=h.1;simp at this
 |e::es,me::mes,n,h=>by
  obtain⟨⟨a1,a2,a3⟩,r1,r2⟩:=h.2 0 e me rfl rfl;obtain⟨s1,s2⟩:=hk.same hx a1 hr r1;cases hq:tG x e.1 with
  |true=>
   refine .inr ⟨0,e,me,rfl,rfl,by simp [dR,hq],?_,s2 hq,λy=>by simp [iV,hq]⟩;rw [hq]at s1;simp [Instr.findNow,s1]
  |false=>
   rw [hq]at s1;rcases find_spec hk hx hr es mes (n+1) h.tail with⟨h1,h2,h3⟩|⟨i,e',Lz,h1,h2,h3,h4,h5,h6⟩
   ·exact .inl ⟨by simp [dR,hq,h1],by simp [Instr.findNow,s1,h2],λy=>by simp [iV,hq,h3]⟩
   ·exact .inr ⟨i+1,e',Lz,sU,qc,by simp [dR,hq,h3],by simp [Instr.findNow,s1,h4];omega,h5,λy=>by simp [iV,hq,h6]⟩
def XW(X:Cx)(t:TypeId)(M:aV)(k:AV->aV->Option R):Option R:=
 match(X.ti t).ok,(X.ti t).u with
 |true,.map kt et=>match AO (X.ti kt).u with|some kd=>k (.mp M.length) (M++[.map kd (X.ti et).u.agg (oU X et) []])|none=>none
 |_,_=>none
def axh(hX:X.Okb){k:AV->aV->Option R}(h:XW X t M k=some r):
 ∃y M',k y M'=some r∧dV [] M M'∧AY X M y M' (λ_ _ _=>True) (Instr.makeMap t none):=by
 unfold XW at h;split at h
 case h_2=>cases h
 rename_i kt et _ _;split at h
 case h_2=>cases h
 rename_i kd nH;have eN:kd≠ .any :=by rintro rfl;cases hu:(X.ti kt).u <;>simp [hu,AO]at nH
 refine⟨_,_,h,dV.push _ _ _,λ{w0 S F ρ w} hI _=> ?_⟩;have jB:w.grownBy (w.alloc (.map #[] 0)) none:=FC w _ none;have cM:w.heap.size<(w.alloc (.map #[] 0)).heap.size :=by simp
 refine⟨.map (some w.heap.size),w.alloc (.map #[] 0),ρ++[⟨.map (some w.heap.size),0⟩],F,rfl,?_,⟨λ_ h=>h,λ_ _ h=>nK h,λa ha=>jB.block _ (hI.fz a ha) (by simp)⟩,?_⟩
 ·refine hI.push (hd:=⟨.map (some w.heap.size),0⟩) jB (λg hg=> ?_) rfl ⟨eN,w.heap.size,#[],0,rfl,(MapKept.heap_alloc w _).1,rfl,λi e me he _=>by simp at he⟩;simp only [Hd.eM,Value.eM,Option.some.injEq]at hg;subst hg;exact⟨fk _,cM⟩
 ·exact aZ.mp (K:=X.K) _ ⟨.map (some w.heap.size),0⟩ (Gh)
def GZ(X:Cx)(t:TypeId)(x:AV):AV:=
 match(X.ti t).u.agg with
 |true=> .agg (zm (oU X t) x.cells 0 (X.ti t).size)
 |false=>ld ((oU X t).headD .raw) x
def KI(X:Cx)(t:TypeId):AV:=
 match(X.ti t).u.agg with
 |true=> .agg (X.ti t).zero
 |false=>(X.ti t).zero.headD .top
def xa(X:Cx)(et:TypeId)(ok:Bool)(k:AV->Option R)(o:Option AV):Option R:=
 match o with
 |some x=>(match ok with|true=>k (.ew [GZ X et x,.bool true])|false=>k (GZ X et x))
 |none=>(match ok with|true=>k (.ew [KI X et,.bool false])|false=>k (KI X et))
def amj(X:Cx)(et:TypeId)(o:Option AV):AV:=match o with|some x=>GZ X et x|none=>KI X et
def aF1(ok:Bool)(x:AV)(b:Bool):AV:=match ok with|true=> .ew [x,.bool b]|false=>x
def Q1:List (AV×AV)->AV->(Option AV->Option R)->Option R
 | [],_,k=>k none
 |e::es,x,k=>match tG x e.1 with|true=>k (some e.2)|false=>Q1 es x k
def O7:∀(es:List (AV×AV)) (x:AV) (k:Option AV->Option R),Q1 es x k=k (dR es x)
 | [],_,_=>rfl
 |e::es,x,k=>by
  simp only [Q1,dR];cases tG x e.1 with
  |true=>rfl
  |false=>exact O7 es x k
def aFd(ks:ei):Bool:=ks.all λk=>match k with| .any =>false|_=>true
def yk(X:Cx)(t:TypeId)(x i:AV)(ok:Bool)(M:aV)(k:AV->Option R):Option R:=
 match(X.ti t).ok,(X.ti t).u with
 |true,.map kt et=>
  match AO (X.ti kt).u with
  |some kd=>
   aR ((X.ti kt).ok &&(X.ti et).ok &&iJ kd i)
    (match x with
     | .mg =>xa X et ok k none
     | .mp id=>
       match gm M id with
       |some (.map wa ag ks es)=>
        aR (wa==kd&&ag==(X.ti et).u.agg &&ks==oU X et) (match aFd ks with
         |true=>(match dR es i with|some y=>xa X et ok k (some y)|none=>xa X et ok k none)
         |false=>Q1 es i (xa X et ok k))
       |_=>none
     |_=>none)
  |none=>none
 |_,_=>none
def aA9(hX:X.Okb)(bz:(X.ti t).ok =true):(oU X t).length =(X.ti t).size :=by
 obtain⟨i,d,z,f⟩:=hX.facts bz;simp [oU,f.ks,f.size]
def aDH(hX:X.Okb)(bz:(X.ti t).ok =true)(hk:dt (oU X t) x.cells=true)(hp:x.shape (X.ti t).u.agg =true):GZ X t x=x:=by
 have hl:=aA9 hX bz;unfold GZ;cases ha:(X.ti t).u.agg with
 |true=>
  rw [ha]at hp;cases x<;>simp [AV.shape]at hp
  rename_i cs;simp only [AV.cells]at hk⊢;rw [ZT hk _ _ (by omega)];have:=iS hk;rw [gJ,Cq (by omega)]
 |false=>
  rw [ha]at hp;have hc:x.cells=[x]:=by cases x<;>simp_all [AV.shape,AV.leaf,AV.cells]
  rw [hc]at hk;cases hv:oU X t with
  |nil=>rw [hv]at hk;simp [dt]at hk
  |cons q qs=>
   rw [hv]at hk;simp only [dt,bM]at hk;exact Fx hk.1
def aCd(hX:X.Okb)(bz:(X.ti t).ok =true):∃z,(∀w,(zeroValue t).run X.P w= .ok z w)∧∀{ρ:bX} {F:bT} {w:World},aZ X.K ρ F w (KI X t) z:=by
 obtain⟨i,d,z,f⟩:=hX.facts bz;refine⟨z,f.zeroValue,λ{ρ F w}=> ?_⟩;have hz:dz X.K ρ F w (X.ti t).zero z.cells.toList:=Gt;have fO:=f.zag;unfold KI;cases ha:(X.ti t).u.agg with
 |true=>
  rw [ha]at fO;cases z<;>simp [SV]at fO
  rename_i cs;have:=aZ.agg (K:=X.K) (ρ:=ρ) (F:=F) (w:=w) _ _ hz.1 hz.2;simpa [Value.cells]using this
 |false=>
  rw [ha]at fO;have h1:z.cells.toList=[z]:=by cases z<;>simp_all [SV,Value.cells]
  rw [h1]at hz;have hl:=hz.1;cases Hy:(X.ti t).zero with
  |nil=>rw [Hy]at hl;simp at hl
  |cons y ys=>exact hz.2 0 y z (by rw [Hy];rfl) rfl
def agf{et:TypeId}{o:Option AV}(h:xa X et ok k o=some r):k (aF1 ok (amj X et o) o.isSome)=some r:=by
 unfold xa at h;cases o<;>cases ok<;>exact h
def aym(hX:X.Okb)(h:yk X t x i ok M k=some r):
 ∃y,k y=some r∧∀{w0:World} {S:Sc} {F:bT} {ρ:bX} {w:World} {v vi:Value},Inv X w0 S F ρ M w->aZ X.K ρ F w x v->aZ X.K ρ F w i vi->
  ∃u,(Instr.lookup t v vi ok).run X.P w= .ok u w∧aZ X.K ρ F w y u:=by
 unfold yk at h;simp only [fb]at h;split at h
 case h_2=>cases h
 rename_i kt et xG Bo;split at h
 case h_2=>cases h
 rename_i kd nH;replace h:=dq h;obtain⟨hc,h⟩:=h;simp only [bM]at hc;obtain⟨⟨abH,ao4⟩,hi⟩:=hc;obtain⟨ti,td,tz,tf⟩:=hX.facts xG;have dW:=tf.map Bo;obtain⟨d,ov⟩:=aoK hX abH nH;obtain⟨z,hz,hzr⟩:=aCd hX ao4;have out:∀{o:Option AV} {r:R},xa X et ok k o=some r->∃y,k y=some r∧∀{ρ:bX} {F:bT} {w:World} {vo:Option Value} {mes:List MapEntry} {v vi:Value},(match o,vo with|some a,some b=>aZ X.K ρ F w (GZ X et a) b|none,none=>True|_,_=>False)->
  (∀w1:World,(Instr.lookup t v vi ok).run X.P w= .ok (match ok with|true=> .tuple #[vo.getD z,.bool vo.isSome]|false=>vo.getD z) w)->∃u,(Instr.lookup t v vi ok).run X.P w= .ok u w∧aZ X.K ρ F w y u:=by
  intro o r h;refine⟨_,agf h,λ{ρ F w vo mes v vi} hm dE=>⟨_,dE w,?_⟩⟩;have G2:aZ X.K ρ F w (amj X et o) (vo.getD z):=by
   cases o with
   |none=>cases vo with|none=>exact hzr|some b=>exact hm.elim
   |some a=>cases vo with|none=>exact hm.elim|some b=>exact hm
  have hs:o.isSome=vo.isSome:=by
   cases o with
   |none=>cases vo with|none=>rfl|some b=>exact hm.elim
   |some a=>cases vo with|none=>exact hm.elim|some b=>rfl
  cases ok with
  |false=>exact G2
  |true=>
   refine .ew _ [_,_] rfl λj y u hy hu=> ?_
   match j with
   |0=>simp at hy hu;subst hy;subst hu;exact G2
   |1=>simp at hy hu;subst hy;subst hu;rw [hs];exact .bool _
   |j+2=>simp at hy
 cases x<;>simp only at h<;>try (cases h;done)
 case mg=>
  obtain⟨y,h,hd⟩:=out h;refine⟨y,h,λ{w0 S F ρ w v vi} hI hv kU=> ?_⟩;cases hv;refine hd (vo:=none) (mes:=[]) trivial λ_=> ?_;have hf:Instr.findNow d vi [] 0=some none:=rfl;cases ok<;>simp [Instr.lookup,jf dW,Result.andThen,run_checkKey ov.jN (ov.key hi kU),run_findKey ov.jN hf,hz]
 case mp id=>
  split at h
  case h_2=>cases h
  rename_i wa ag ks es hb;replace h:=dq h;obtain⟨hc,h⟩:=h;simp only [bM,iy]at hc;obtain⟨⟨rfl,rfl⟩,rfl⟩:=hc;have h':xa X et ok k (dR es i)=some r:=by
   split at h
   ·split at h
    ·rename_i y hy;rw [hy];exact h
    ·rename_i hy;rw [hy];exact h
   ·rw [O7]at h;exact h
  obtain⟨y,h,hd⟩:=out h';refine⟨y,h,λ{w0 S F ρ w v vi} hI hv kU=> ?_⟩;cases hv with
  |mp _ dI bA=>
  obtain⟨_,g,mes,clock,hv,hh,ev,uQ⟩:=hI.rep _ _ _ hb bA;rw [hv];have Rn:G9 X ρ F w wa (X.ti et).u.agg (oU X et) es mes.toList:=⟨J3,λj e me he hm=>uQ j e me he (Qi)⟩;rcases find_spec ov hi kU es mes.toList 0 Rn with⟨f1,f2,_⟩|⟨j,e,me,e1,e2,f1,f2,_,_⟩
  ·refine hd (vo:=none) (mes:=[]) (by rw [f1];trivial) λ_=> ?_;cases ok<;>simp [Instr.lookup,jf dW,Pb hh,Result.andThen,run_checkKey ov.jN (ov.key hi kU),run_findKey ov.jN f2,hz]
  ·obtain⟨⟨a1,a2,a3⟩,r1,r2⟩:=Rn.2 j e me e1 e2;refine hd (vo:=some me.val) (mes:=[]) (by rw [f1];show aZ _ _ _ _ _ _;rw [aDH hX ao4 a2 a3];exact r2) λ_=> ?_;cases ok<;>simp [Instr.lookup,jf dW,Pb hh,Result.andThen,run_checkKey ov.jN (ov.key hi kU),run_findKey ov.jN f2]
def C8:AV->List Nat| .mp id=>[id]|_=>[]
def OA(X:Cx)(t:TypeId)(m i x:AV)(M:aV)(k:aV->Option R):Option R:=
 match(X.ti t).ok,(X.ti t).u,m with
 |true,.map kt et,.mp id=>
  match AO (X.ti kt).u with
  |some kd=>
   match gm M id with
   |some (.map wa ag ks es)=>
    aR ((X.ti kt).ok &&iJ kd i&&wa==kd&&x.shape ag&&dt ks x.cells) (k (M.set id (.map wa ag ks (iV es i x))))
   |_=>none
  |none=>none
 |_,_,_=>none
def adD(hX:X.Okb){m:AV}{k:aV->Option R}(h:OA X t m i x M k=some r):
 ∃M',k M'=some r∧dV (C8 m) M M'∧∀{w0:World} {S:Sc} {F:bT} {ρ:bX} {w:World} {vm vi vx:Value},Inv X w0 S F ρ M w->aZ X.K ρ F w m vm->aZ X.K ρ F w i vi->aZ X.K ρ F w x vx->
  ∃w' F',(Instr.mapUpdate t vm vi vx).run X.P w= .ok () w'∧Inv X w0 S F' ρ M' w'∧Grow F F' ρ ρ w w':=by
 unfold OA at h;simp only [fb]at h;split at h
 case h_2=>cases h
 rename_i kt et id xG Bo;split at h
 case h_2=>cases h
 rename_i kd nH;split at h
 case h_2=>cases h
 rename_i wa ag ks es hb;replace h:=dq h;obtain⟨hc,h⟩:=h;simp only [bM,iy]at hc;obtain⟨⟨⟨⟨abH,hi⟩,rfl⟩,zv⟩,jk⟩:=hc;obtain⟨ti,td,tz,tf⟩:=hX.facts xG;have dW:=tf.map Bo;obtain⟨d,ov⟩:=aoK hX abH nH;refine⟨_,h,dV.set _ _ _,λ{w0 S F ρ w vm vi vx} hI hm kU HE=> ?_⟩;cases hm with
 |mp _ hd bA=>
 obtain⟨eN,g,mes,clock,hv,hh,ev,uQ⟩:=hI.rep _ _ _ hb bA;have yY:hd.eM=some g:=oo;have cM:g<w.heap.size:=(wK.1 hh).1;have KZ:=hI.sep _ _ _ _ hb rfl bA yY;rw [hv];have Rn:G9 X ρ F w wa ag ks es mes.toList:=⟨J3,λj e me he hm=>uQ j e me he (Qi)⟩;have lq:∀o:Obj,w.grownBy (w.putObj g o) (some g):=λo=>⟨rfl,rfl,rfl,by simp,λq hq eN=>rS (λe=>eN (by rw [e]))⟩;have hG:∀o:Obj,Grow F F ρ ρ w (w.putObj g o):=λo=>⟨λ_ h=>h,λ_ _ h=>h,λa ha=>rS (KZ.2.2 a ha)⟩;have done:∀(KW:Array MapEntry) (Z4:Nat),KW.size=(iV es i x).length ->(∀(j:Nat) e me,(iV es i x)[j]?=some e->KW[j]?=some me->(iJ wa e.1=true∧dt ks e.2.cells=true∧e.2.shape ag=true)∧aZ X.K ρ F w e.1 me.key∧aZ X.K ρ F w e.2 me.val)->
  Inv X w0 S F ρ (M.set id (.map wa ag ks (iV es i x))) (w.putObj g (.map KW Z4)):=λKW Z4 h1 h2=>
  hI.write hb rfl bA yY (lq _) ⟨eN,g,KW,Z4,hv,X7 cM,h1,λj e me he ry=>let⟨a,r1,r2⟩:=h2 j e me he ry;⟨a,r1.grow (hG _),r2.grow (hG _)⟩⟩
 rcases find_spec ov hi kU es mes.toList 0 Rn with⟨f1,f2,f3⟩|⟨j,e,me,e1,e2,f1,f2,f4,f3⟩
 ·refine⟨w.putObj g (.map (mes.push {key:=vi,val:=vx,born:=clock}) (clock+1)),F,?_,done _ _ (by rw [f3];simp [ev]) λq e me he ry=> ?_,hG _⟩
  ·simp [Instr.mapUpdate,jf dW,Pb hh,run_checkKey ov.jN (ov.key hi kU),run_findKey ov.jN f2,agV _ hh,Result.andThen,World.putObj]
  ·rw [f3]at he
   by_cases hq:q<es.length
   ·rw [jH hq]at he;rw [Array.getElem?_push,if_neg (by omega)]at ry;exact uQ q e me he ry
   ·have hq':q=es.length:=by have:=(eZ.1 he).1;simp at this;omega
    subst hq';rw [kZ (fk _)]at he;simp at he;rw [<-ev,Array.getElem?_push,if_pos rfl]at ry;injection ry with ry;subst he;subst ry;exact⟨⟨hi,jk,zv⟩,kU,HE⟩
 ·have zD:mes[j]?=some me:=by simpa using e2
  have aPa:j<mes.size:=(wK.1 zD).1;refine⟨w.putObj g (.map (mes.modify j λe=>{e with key:=vi,val:=vx}) clock),F,?_,done _ _ (by rw [f3];simp [ev]) λq e' Lz he ry=> ?_,hG _⟩
  ·have my:me.key=vi:=f4;simp [Instr.mapUpdate,jf dW,Pb hh,run_checkKey ov.jN (ov.key hi kU),run_findKey ov.jN f2,zD,my,run_keyThatStays (ov.key hi kU),agV _ hh,Result.andThen,World.putObj]
  ·rw [f3,zX]at he;rw [Pr]at ry;split at he
   ·rename_i ej;subst ej;split at he
    ·injection he with he;subst he;rw [if_pos rfl,zD]at ry;simp at ry;subst ry;exact⟨⟨hi,jk,zv⟩,kU,HE⟩
    ·cases he
   ·rename_i ej;rw [if_neg ej]at ry;exact uQ q e' Lz he ry
end
end Go.aA
namespace Go.aA
def ami{p:Prop}(h:p:=by
 refine(dV.set M id _).mono (λj hj=> ?_);simp only [Ce]at hj;subst hj;unfold Lu at sq;split at sq
 ·split at sq
  ·simp only [Option.some.injEq,Prod.mk.injEq]at sq;simp [mI,sq.1]
  ·cases sq
 ·split at sq
  ·simp only [Option.some.injEq,Prod.mk.injEq]at sq;simp [mI,sq.1]
  ·cases sq
 ·cases sq):p:=h
def alK{p:Prop}(h:p:=by
 refine PS λj=> ?_;rw [zX];split
 ·rename_i hj;subst hj;have:=(eZ.1 hb).1;rw [if_pos this,hb]
 ·rfl):p:=h
def Zf{p:Prop}(h:p:=by rw [pg];omega):p:=h
end Go.aA
namespace Go.aA
def Ce:=@List.mem_singleton
end Go.aA
namespace Go.aA
open Go
noncomputable section
variable {X:Cx} {R:Type}
variable {w0 w w':World} {S:Sc} {F:bT} {ρ:bX} {M:aV}
variable{x:AV}{k:AV->aV->Option R}{cur:Array Value}{c c2 cap g id l lo m p size:Nat}{a:Option Addr}{P:Program}{r:R}{e e0 t ty u:TypeId}{ts:qb}{xs zs:aW}{news:fI}
def aBT{ys:aW}{vss:List fI}{a:Addr}{len:Nat}(hk:∀(i:Nat) row,ys[i]?=some row->dt (X.K e) row=true)(hl:vss.length=ys.length)
 (fy:∀(i:Nat) row vs,ys[i]?=some row->vss[i]?=some vs->dz X.K ρ F w row vs∧qL w (a.add (i*(X.K e).length)) vs) (ou:∀(id:Nat) hd,ρ[id]?=some hd->hd.v.oneCell'=true) (ot:0<(X.K e).length):
 ∃news:fI,news.length=ys.length*(X.K e).length ∧(∀u∈news,u.oneCell'=true)∧
  (∀w2:World,w2.heap=w.heap->(Builtin.firstCells (X.K e).length ys.length (.slice (some a) len c)).run X.P w2= .ok news.toArray w2)∧
  ∀(i:Nat) row,ys[i]?=some row->∀(j:Nat) y,row[j]?=some y->∃u,news[i*(X.K e).length +j]?=some u∧aZ X.K ρ F w y u:=by
 have hlen:∀(i:Nat) vs,vss[i]?=some vs->vs.length=(X.K e).length :=alQ;have tN:=Oz vss hlen;have CV:∀(k:Nat) u,vss.flatten[k]?=some u->∃i j,∃(row:Row) (vs:fI) (y:AV),k=i*(X.K e).length +j∧ys[i]?=some row∧vss[i]?=some vs∧row[j]?=some y∧vs[j]?=some u:=aoB;refine⟨vss.flatten,by rw [tN,hl],λu hu=> ?_,λw2 LP=> ?_,λi row hi j y hy=> ?_⟩
 ·obtain⟨k,oX⟩:=z7 hu;obtain⟨i,j,row,vs,y,_,h1,h2,h3,h4⟩:=CV k u oX;exact Iy ((fy i row vs h1 h2).1.2 j y u h3 h4) (XP (hk i row h1) h3) ou
 ·have:=run_firstCells_some (P:=X.P) w2 (X.K e).length ys.length a len c vss.flatten (by rw [tN,hl]) (λk u HJ=>by
   obtain⟨i,j,row,vs,y,my,h1,h2,h3,h4⟩:=CV k u HJ;have hc:=(fy i row vs h1 h2).2 j u h4;rw [Aa,<-my]at hc;unfold World.cell? at hc⊢;rw [LP];exact hc)
  exact this
 ·have rB:=(eZ.1 hi).1;exact amd
def tC(xs:aW)(lo:Nat)(zs:aW):aW:=xs.take lo++zs++xs.drop (lo+zs.length)
def af5(h:lo+zs.length<=xs.length):(tC xs lo zs).length =xs.length:=by
 simp [tC];omega
def ahP(h:lo+zs.length<=xs.length){i:Nat}{row:Row}(hi:(tC xs lo zs)[i]?=some row):
 (lo<=i∧i<lo+zs.length∧zs[i- lo]?=some row)∨((i<lo∨lo+zs.length<=i)∧xs[i]?=some row):=by
 unfold tC at hi
 by_cases h1:i<lo
 ·rw [iU,jH (eu),og,if_pos h1]at hi;exact .inr ⟨.inl h1,hi⟩
 ·by_cases h2:i<lo+zs.length
  ·rw [iU,kZ (eu),jH (eu)]at hi;simp only [pg]at hi;rw [show i- min lo xs.length=i- lo by omega]at hi;exact .inl ⟨by omega,h2,hi⟩
  ·rw [kZ (eu)]at hi;simp only [e7,pg,qI]at hi;rw [show lo+zs.length+(i-(min lo xs.length+zs.length))=i by omega]at hi;exact .inr ⟨.inr (by omega),hi⟩
def af8(hI:Inv X w0 S F ρ M w)(hb:M[id]?=some (.row e xs)){hd:Hd}(bA:ρ[id]?=some hd){o:Nat}(hv:hd.v= .slice (some ⟨g,o,none⟩) xs.length c)(hg:w.heap[g]?=some (.cells cur e (0,0)))
 (pV:xs.length<=c) (su:c<=maxLen) (oD:o+c*hd.sz<=cur.size) (Kg:∀(i:Nat) row,xs[i]?=some row->∀(j:Nat) x,row[j]?=some x->∃v,cur[o+i*hd.sz+j]?=some v∧aZ X.K ρ F w x v)
    (hq:lo+zs.length<=xs.length) (Bv:∀(i:Nat) row,zs[i]?=some row->dt (X.K e) row=true) (ru:news.length=zs.length*(X.K e).length)
 (wm:∀(i:Nat) row,zs[i]?=some row->∀(j:Nat) y,row[j]?=some y->∃u,news[i*(X.K e).length +j]?=some u∧aZ X.K ρ F w y u):
 o+lo*hd.sz+news.length<=cur.size∧
 Inv X w0 S F ρ (M.set id (.row e (tC xs lo zs))) (w.setRow g (cur.toList.take (o+lo*hd.sz)++news++cur.toList.drop (o+lo*hd.sz+news.length)).toArray)∧
 Grow F F ρ ρ w (w.setRow g (cur.toList.take (o+lo*hd.sz)++news++cur.toList.drop (o+lo*hd.sz+news.length)).toArray):=by
 obtain⟨q1,q2,_⟩:=hI.rep id _ hd hb bA;have dT:hd.eM=some g:=oo;have Ma:∀a,F a->a.block≠g:=(hI.sep id _ hd g hb rfl bA dT).2.2;have jB:=NA w g (cur.toList.take (o+lo*hd.sz)++news++cur.toList.drop (o+lo*hd.sz+news.length)).toArray;have lq:Grow F F ρ ρ w (w.setRow g (cur.toList.take (o+lo*hd.sz)++news++cur.toList.drop (o+lo*hd.sz+news.length)).toArray):=
  ⟨λ_ h=>h,λ_ _ h=>h,hI.xt jB (λk hk a ha=>Kt)⟩
 have qk:o+lo*hd.sz+news.length<=cur.size:=by
  rw [ru,<-q1];have h1:(lo+zs.length)*hd.sz<=c*hd.sz:=sH _ (by omega);rw [p8]at h1;omega
 refine⟨qk,hI.write hb rfl bA dT jB ?_,lq⟩;have my:∀(i:Nat) row,(tC xs lo zs)[i]?=some row->dt (X.K e) row=true:=by
  intro i row hi;rcases ahP hq hi with⟨_,_,h⟩|⟨_,h⟩
  ·exact Bv _ row h
  ·exact q2 _ row h
 refine⟨q1,my,.inr ⟨g,o,c,_,by rw [af5 hq];exact hv,Ph w g cur _ e _ hg,by rw [af5 hq];exact pV,su,?_,λi row hi j y hy=> ?_⟩⟩
 ·simp only [JC,e7,pg,wM,oe];omega
 ·have hj:=(eZ.1 hy).1;have rn:=iS (my i row hi);rw [<-q1]at rn;rw [OK cur news _ qk];rcases ahP hq hi with⟨h1,h2,h⟩|⟨h1,h⟩
  ·obtain⟨u,wg,kG⟩:=wm _ row h j y hy;have cM:=(eZ.1 wg).1;rw [<-q1]at wg cM;have e0:(i- lo)*hd.sz=i*hd.sz- lo*hd.sz:=Nat.sub_mul _ _ _;have D8:lo*hd.sz<=i*hd.sz:=sH _ h1;rw [if_pos (by omega),show o+i*hd.sz+j-(o+lo*hd.sz)=(i- lo)*hd.sz+j by omega];exact Qx
  ·obtain⟨u,wg,kG⟩:=Kg i row h j y hy;rw [if_neg]
   ·exact Qx
   ·rintro⟨g1,g2⟩;rw [ru,<-q1]at g2;rcases h1 with h1|h1
    ·have:(i+1)*hd.sz<=lo*hd.sz:=sH _ (by omega);exact Ke
    ·have:(lo+zs.length)*hd.sz<=i*hd.sz:=sH _ h1;rw [p8]at this;omega
def tS(xs:aW)(lo nd:Nat)(ys:aW):aW:=tC xs lo (ys.take nd)
def pW(z:Row)(xs:aW)(lo n:Nat):aW:=tC xs lo (List.replicate n z)
def aDe(xs:aW)(lo:Nat)(ys:aW):tS xs lo 0 ys=xs:=by simp [tS,tC]
def aDg(z:Row)(xs:aW)(lo:Nat):pW z xs lo 0=xs:=by simp [pW,tC]
def Lu(M:aV):AV->Option (Nat×Nat×Nat×TypeId×aW)
 | .aC id=>match gm M id with|some (.row t xs)=>some (id,0,xs.length,t,xs)|_=>none
 | .vw id lo m=>match gm M id with|some (.row t xs)=>some (id,lo,m,t,xs)|_=>none
 |_=>none
def ahb(hI:Inv X w0 S F ρ M w)(h:Lu M x=some (id,lo,m,t,xs)){v:Value}(hv:aZ X.K ρ F w x v):
 M[id]?=some (.row t xs)∧mI x=[id]∧((m=0∧((∃c,v= .slice none 0 c)∨∃a c,v= .slice (some a) 0 c))∨
  ∃hd g o c cur cap,ρ[id]?=some hd∧lo+m<=xs.length∧v= .slice (some ⟨g,o+lo*hd.sz,none⟩) m cap∧hd.v= .slice (some ⟨g,o,none⟩) xs.length c∧w.heap[g]?=some (.cells cur t (0,0))∧xs.length<=c∧c<=maxLen∧o+c*hd.sz<=cur.size∧
   ∀(i:Nat) row,xs[i]?=some row->∀(j:Nat) x,row[j]?=some x->∃v,cur[o+i*hd.sz+j]?=some v∧aZ X.K ρ F w x v):=by
 unfold Lu at h;simp only [fb]at h;split at h
 ·split at h
  ·rename_i hb;simp only [Option.some.injEq,Prod.mk.injEq]at h;obtain⟨rfl,rfl,rfl,rfl,rfl⟩:=h;cases hv with
   |aC _ hd bA=>
    refine⟨hb,rfl,?_⟩;rcases(hI.rep _ _ hd hb bA).2.2 with⟨h1,h2⟩|⟨g,o,c,cur,h1,h2,h3,h4,h5,h6⟩
    ·subst h2;exact .inl ⟨rfl,.inl ⟨_,h1⟩⟩
    ·exact .inr ⟨hd,g,o,c,cur,c,bA,by omega,sU,h1,h2,h3,h4,h5,h6⟩
  ·exact aX
 ·split at h
  ·rename_i hb;simp only [Option.some.injEq,Prod.mk.injEq]at h;obtain⟨rfl,rfl,rfl,rfl,rfl⟩:=h;refine⟨hb,rfl,?_⟩;cases hv with
   |vw _ _ _ hd g o n c cap bA hv hc rD=>
    rcases(hI.rep _ _ hd hb bA).2.2 with⟨h1,h2⟩|⟨g',o',c',cur,h1,h2,h3,h4,h5,h6⟩
    ·rw [hv]at h1;cases h1
    ·have rG:=h1;rw [hv]at h1;injection h1 with e1 e2 e3;injection e1 with e1;injection e1 with e1 e4 e5;subst e1;subst e4;subst e2;exact .inr ⟨hd,_,_,_,cur,cap,bA,rD,rfl,rG,h2,h3,h4,h5,h6⟩
   |tw=>exact .inl ⟨rfl,.inl ⟨_,rfl⟩⟩
   |tu _ _ a cap=>exact .inl ⟨rfl,.inr ⟨a,cap,rfl⟩⟩
  ·exact aX
 ·cases h
def Z2(X:Cx)(ts:qb)(x y:AV)(M:aV)(k:AV->aV->Option R):Option R:=
 match ts with
 | [t,_]=>
   match(X.ti t).ok,(X.ti t).u with
   |true,.slice e=>
    match rowsOf M y with
    |some (o,ys)=>
     match Lu M x with
     |some (id,lo,m,t',xs)=>
      aR ((X.ti e).ok &&decide (0<(X.ti e).size)&&(match o with|some e'=>e==e'|none=>ys.isEmpty)&&(e==t')) (k (.int .i64 ((min ys.length m:Nat):Int)) (M.set id (.row t' (tS xs lo m ys))))
     |none=>none
    |none=>none
   |_,_=>none
 |_=>none
def aCB(ht:P.underlying t=some (.slice e))(hs:∀w,(sizeOf e).run P w= .ok size w)
 (hg:w.heap[g]?=some (.cells cur e0 (0,0))) (hf:(Builtin.firstCells size (min l m) (.slice a l c2)).run P w= .ok news.toArray w) (h1:∀u∈news,u.oneCell'=true) (qk:p+news.length<=cur.size):
 (Builtin.copy_ #[t,u] ty #[.slice (some ⟨g,p,none⟩) m cap,.slice a l c2]).run P w= .ok (.int .i64 ((min l m:Nat):Int)) (w.setRow g (cur.toList.take p++news++cur.toList.drop (p+news.length)).toArray):=by
 have eT:=Pj P g p e0 news 0 cur w hg (by simpa using qk) h1;simp only [yg]at eT;have hf':(Builtin.firstCells size (Nat.min l m) (.slice a l c2)).run P w= .ok news.toArray w:=hf;simp [Builtin.copy_,jf ht,Builtin.lenOf,hs,hf',eT,goInt]
def run_copy_none(ht:P.underlying t=some (.slice e))(hs:∀w,(sizeOf e).run P w= .ok size w){b:Option Addr}:
 (Builtin.copy_ #[t,u] ty #[.slice b 0 cap,.slice a l c2]).run P w= .ok (.int .i64 0) w:=by
 have hf:(Builtin.firstCells size 0 (.slice a l c2)).run P w= .ok #[] w:=ZK;have hz:Nat.min l 0=0:=Nat.min_zero l;cases b<;>simp [Builtin.copy_,jf ht,Builtin.lenOf,hs,hz,hf,goInt,storeCells]
def azY(hX:X.Okb){y:AV}(h:Z2 X ts x y M k=some r):
 ∃z M',k z M'=some r∧dV (mI x) M M'∧∀{vx vy:Value},AY X M z M' (λρ F w=>aZ X.K ρ F w x vx∧aZ X.K ρ F w y vy) (Builtin.copy_ ts.toArray ty #[vx,vy]):=by
 unfold Z2 at h;split at h
 ·rename_i t u;split at h
  ·rename_i e bz hu;split at h
   ·rename_i o ys ik;split at h
    ·rename_i id lo m t' xs sq;replace h:=dq h;obtain⟨h1,h⟩:=h;simp only [bM,jm,iy]at h1;obtain⟨⟨⟨he,ot⟩,Ti⟩,rfl⟩:=h1;obtain⟨i,d,z,f⟩:=hX.facts bz;obtain⟨i2,d2,z2,f2⟩:=hX.facts he;have ht:=f.slice hu;have ev:(X.K e).length =(X.ti e).size :=Ar;have ho:o=some e∨(o=none∧ys=[]):=ak1;have fO:dV (mI x) M (M.set id (.row e (tS xs lo m ys))):=ami;refine⟨_,_,h,fO,λ{vx vy w0 S F ρ w} hI hh=> ?_⟩;obtain⟨HE,hvy⟩:=hh;obtain⟨hb,_,Ro⟩:=ahb hI sq HE;have Db:tS xs lo m ys=xs->M.set id (.row e (tS xs lo m ys))=M:=by
      intro e1;rw [e1];exact alK
     have hls:∃a c2,vy= .slice a ys.length c2:=Xp hI ik hvy;obtain⟨a,c2,rfl⟩:=hls;rcases Ro with⟨rfl,hv⟩|⟨hd,g,o',c,cur,cap,bA,hlm,rfl,hdv,hg,h3,h4,h5,h6⟩
     ·have e1:=aDe xs lo ys;rw [Db e1];refine⟨.int .i64 0,w,ρ,F,?_,hI,Grow.refl _ _ _,by simpa using aZ.int .i64 0⟩;rcases hv with⟨c,rfl⟩|⟨a',c,rfl⟩
      ·exact run_copy_none ht f2.sizeOf
      ·exact run_copy_none ht f2.sizeOf
     ·
      have aGf:∃news:fI,news.length=(ys.take m).length *(X.K e).length ∧(∀u∈news,u.oneCell'=true)∧(Builtin.firstCells (X.K e).length (min ys.length m) (.slice a ys.length c2)).run X.P w= .ok news.toArray w∧
       (∀(i:Nat) row,(ys.take m)[i]?=some row->dt (X.K e) row=true)∧∀(i:Nat) row,(ys.take m)[i]?=some row->∀(j:Nat) y,row[j]?=some y->∃u,news[i*(X.K e).length +j]?=some u∧aZ X.K ρ F w y u:=by
       have aOd:(ys.take m).length =min ys.length m:=by rw [pg,Nat.min_comm]
       have Bp:∀(i:Nat) row,(ys.take m)[i]?=some row->i<m∧ys[i]?=some row:=by
        intro i row hi;rw [og]at hi;split at hi
        ·exact⟨by assumption,hi⟩
        ·cases hi
       rcases ho with rfl|⟨rfl,rfl⟩
       ·obtain⟨hk,hc⟩:=afj hI ik hvy;rcases hc with⟨hv,rfl⟩|⟨a',c',hv,vss,hl,fy⟩
        ·injection hv with e1 e2 e3;subst e1;exact⟨[],by simp,by simp,QE,λi row hi=>Ai,λi row hi=>Ai⟩
        ·injection hv with e1 e2 e3;subst e1;obtain⟨news,n1,n2,n3,n4⟩:=aBT (X:=X) (ρ:=ρ) (F:=F) (w:=w) (e:=e) (ys:=ys.take m) (vss:=vss.take m) (a:=a') (len:=ys.length) (c:=c2) (λi row hi=>hk i row (Bp i row hi).2) (by rw [pg,pg,hl])
          (λi row vs hi kU=>by
            obtain⟨D7,dZ⟩:=Bp i row hi;rw [og,if_pos D7]at kU;exact fy i row vs dZ kU) hI.one (by rw [ev];exact ot)
         rw [aOd]at n3;exact⟨news,n1,n2,n3 w rfl,λi row hi=>hk i row (Bp i row hi).2,n4⟩
       ·refine⟨[],by simp,by simp,?_,λi row hi=>Ai,λi row hi=>Ai⟩;simp only [sL,Nat.zero_min];exact ZK
      obtain⟨news,n1,n2,n3,n4,n5⟩:=aGf;have hq:lo+(ys.take m).length <=xs.length:=Zf;obtain⟨qk,i1,g1⟩:=af8 hI hb bA hdv hg h3 h4 h5 h6 hq n4 n1 n5;rw [ev]at n3;exact⟨_,_,ρ,F,aCB ht f2.sizeOf hg n3 n2 qk,i1,g1,.int _ _⟩
    ·exact aX
   ·exact aX
  ·exact aX
 ·cases h
def YQ(X:Cx)(ts:qb)(x:AV)(M:aV)(k:AV->aV->Option R):Option R:=
 match ts with
 | [t]=>
   match(X.ti t).ok,(X.ti t).u with
   |true,.slice e=>
    match Lu M x with
    |some (id,lo,m,t',xs)=>aR ((X.ti e).ok &&decide (0<(X.ti e).size)&&dt (X.K e) (mJ X e)&&(e==t')) (k (.ew []) (M.set id (.row t' (pW (mJ X e) xs lo m))))
    |none=>none
   |_,_=>none
 |_=>none
def aBQ{z:Value}(ht:P.underlying t=some (.slice e))(hz:∀w,(zeroValue e).run P w= .ok z w)
 (hg:w.heap[g]?=some (.cells cur e0 (0,0))) (hm:0<m) (h1:∀u∈(Builtin.zeroCells z.cells m).toList,u.oneCell'=true) (qk:p+(Builtin.zeroCells z.cells m).toList.length <=cur.size):
 (Builtin.clear_ #[t] ty #[.slice (some ⟨g,p,none⟩) m cap]).run P w= .ok (.tuple #[]) (w.setRow g (cur.toList.take p++(Builtin.zeroCells z.cells m).toList ++cur.toList.drop (p+(Builtin.zeroCells z.cells m).toList.length)).toArray):=by
 have eT:=Pj P g p e0 (Builtin.zeroCells z.cells m).toList 0 cur w hg (by simpa using qk) h1;simp only [yg]at eT;obtain⟨n,rfl⟩:=Nat.exists_eq_succ_of_ne_zero (Nat.pos_iff_ne_zero.1 hm);simp only [Builtin.clear_,Yw,FE,fx,jf ht,gE,hz,eT,iz]
def azg(hX:X.Okb)(h:YQ X ts x M k=some r):
 ∃z M',k z M'=some r∧dV (mI x) M M'∧∀{vx:Value},AY X M z M' (λρ F w=>aZ X.K ρ F w x vx) (Builtin.clear_ ts.toArray ty #[vx]):=by
 unfold YQ at h;split at h
 ·rename_i t;split at h
  ·rename_i e bz hu;split at h
   ·rename_i id lo m t' xs sq;replace h:=dq h;obtain⟨h1,h⟩:=h;simp only [bM,jm,iy]at h1;obtain⟨⟨⟨he,ot⟩,Bv⟩,rfl⟩:=h1;obtain⟨i,d,z,f⟩:=hX.facts bz;obtain⟨i2,d2,z2,f2⟩:=hX.facts he;have ht:=f.slice hu;have ev:(X.K e).length =(X.ti e).size :=Ar;have fO:dV (mI x) M (M.set id (.row e (pW (mJ X e) xs lo m))):=ami;have wk:∀{ρ:bX} {F:bT} {w:World},aZ X.K ρ F w (.ew []) (.tuple #[]):= .ew [] [] rfl (λj x v h _=>hU);refine⟨_,_,h,fO,λ{vx w0 S F ρ w} hI HE=> ?_⟩;obtain⟨hb,_,Ro⟩:=ahb hI sq HE;have hzero:∀{b:Option Addr} {cap:Nat},(Builtin.clear_ #[t] ty #[.slice b 0 cap]).run X.P w= .ok (.tuple #[]) w:=by
     intro b cap;cases b<;>simp [Builtin.clear_,jf ht]
    by_cases hm:m=0
    ·subst hm;have Db:M.set id (.row e (pW (mJ X e) xs lo 0))=M:=by
      rw [aDg];exact alK
     rw [Db];refine⟨.tuple #[],w,ρ,F,?_,hI,Grow.refl _ _ _,wk⟩;rcases Ro with⟨_,⟨c,rfl⟩|⟨a,c,rfl⟩⟩|⟨hd,g,o',c,cur,cap,bA,hlm,rfl,_⟩
     ·exact hzero
     ·exact hzero
     ·exact hzero
    ·rcases Ro with⟨e0,_⟩|⟨hd,g,o',c,cur,cap,bA,hlm,rfl,hdv,hg,h3,h4,h5,h6⟩
     ·exact absurd e0 hm
     ·have qu:z2.cells.size=i2.size:=f2.zs;have hzl:z2.cells.toList.length=(X.K e).length :=by rw [ev,f2.size,<-qu];simp
      have ZW:(Builtin.zeroCells z2.cells m).toList =(List.replicate m z2.cells.toList).flatten :=ag9 z2.cells (by rw [qu,<-f2.size];exact ot) m;have LS:dz X.K ρ F w (mJ X e) z2.cells.toList:=XL f2;have zu:∀(i:Nat) vs,(List.replicate m z2.cells.toList)[i]?=some vs->vs.length=(X.K e).length :=by
       intro i vs hi;rw [FA]at hi;split at hi
       ·injection hi with hi;subst hi;exact hzl
       ·cases hi
      have ru:(Builtin.zeroCells z2.cells m).toList.length =(List.replicate m (mJ X e)).length *(X.K e).length :=by
       rw [ZW,Oz _ zu];simp
      have ou:∀u∈(Builtin.zeroCells z2.cells m).toList,u.oneCell'=true:=by
       intro u hu;rw [ZW]at hu;obtain⟨l,hl,hul⟩:=List.mem_flatten.1 hu;rw [Ye hl]at hul;obtain⟨j,hj⟩:=z7 hul;have L5:=(eZ.1 hj).1;have hx:(mJ X e)[j]?=some ((mJ X e)[j]'(by rw [iS Bv,<-hzl];exact L5)):=dD _;exact Iy (LS.2 j _ u hx hj) (XP Bv hx) hI.one
      have hq:lo+(List.replicate m (mJ X e)).length <=xs.length:=by simpa using hlm
      obtain⟨qk,i1,g1⟩:=af8 hI hb bA hdv hg h3 h4 h5 h6 hq (λi row hi=>by
       rw [FA]at hi;split at hi
       ·injection hi with hi;subst hi;exact Bv
       ·cases hi) ru (λi row hi j y hy=>by
       rw [FA]at hi;split at hi
       ·rename_i D7;injection hi with hi;subst hi;have hj:=(eZ.1 hy).1;have rn:=iS Bv;have hv:z2.cells.toList[j]?=some (z2.cells.toList[j]'(by omega)):=dD (by omega);refine⟨_,?_,LS.2 j y _ hy hv⟩;rw [ZW,PC _ zu i j z2.cells.toList (by rw [FA,if_pos D7]) (by omega)];exact hv
       ·cases hi)
      exact⟨_,_,ρ,F,aBQ ht f2.zeroValue hg (Nat.pos_of_ne_zero hm) ou qk,i1,g1,wk⟩
   ·exact aX
  ·exact aX
 ·cases h
end
end Go.aA
namespace Go.aA
def aoG{p:Prop}(h:p:=by
 have xb:dz X.K ρ F w (first++c.args.toList.map e++fL) (v1++c.args.toList.map act.eval++v2):=(dz.append ⟨fg,r1⟩ (FJ hr _)).append ⟨fY,r2⟩;have yC:=su hI xb;have e1:(v1.toArray++c.args.map act.eval)++v2.toArray=(v1++c.args.toList.map act.eval++v2).toArray :=by apply ue;simp
 refine⟨λ_ _=>trivial,?_⟩;rw [PM _ _ _ (by simp [ho])];have dE:(execOp act.eval o).run X.P w= .ok (.enter g (v1++c.args.toList.map act.eval++v2).toArray) w:=by
  simp only [execOp,ho,resolve,mM,hv,Deferred.ofValue,fx,iz,gE,invoke];rw [e1];exact pV _ _
 rw [dE];refine⟨λhd=>by simp [lI,Fence.wide]at hd,?_⟩;have ef:CallsIn Fence.wide (n- 1) X.P g (v1++c.args.toList.map act.eval++v2).toArray w (λe w'=>∃v ρ' F',e= .returned v∧Inv X w0 S F' ρ' M' w'∧Grow F F' ρ ρ' w w'∧aZ X.K ρ' F' w' x v):=YX.2 yC;have jY:CallsIn (lI rd) (n- 1) X.P g (v1++c.args.toList.map act.eval++v2).toArray w (λe w'=>∃v ρ' F',e= .returned v∧Inv X w0 S F' ρ' M' w'∧Grow F F' ρ ρ' w w'∧aZ X.K ρ' F' w' x v):=ef;refine jY.mono ?_;rintro en w' ⟨v,ρ',F',rfl,h3,h4,h5⟩;exact hn v w' ρ' F' h3 h4 h5):p:=h
def yA{p:Prop}(h:p:=by simp only [po,ho,Option.some.injEq]at hi;subst hi;exact fO):p:=h
def kf{p:Prop}(h:p:=by simp [execOp,ho]):p:=h
def gF{p:Prop}(h:p:=by simp [ho]):p:=h
def oP{p:Prop}(h:p:=by simp [po,ho]at hi):p:=h
def vD{p:Prop}(h:p:=by apply ue;simp):p:=h
def QU{p:Prop}(h:p:=by simp [execOp,ho,resolve,mM,invoke,builtin,e2]):p:=h
def ZQ{p:Prop}(h:p:=by simp only [po,ho,mM,hx,Option.some.injEq]at hi;subst hi;exact fO):p:=h
def QH{p:Prop}(h:p:=by apply ue;simpa using hx):p:=h
def aj7{p:Prop}(h:p:=by exact core (λ{ρ F w v} hv=>by rw [hx]at hv;cases hv;exact .inl ⟨_,rfl⟩) h):p:=h
def ajx{p:Prop}(h:p:=by simp [execOp,ho,resolve,mM,invoke,builtin,e1,e2]):p:=h
def Zu{p:Prop}(h:p:=by simp [po,ho,mM]at hi):p:=h
def Zt{p:Prop}(h:p:=by
 split
 ·exact YO _ _ _
 ·rfl):p:=h
def aji{p:Prop}(h:p:=by simp [execOp,ho,resolve,mM,invoke,builtin]):p:=h
def JS{p:Prop}(h:p:=by rw [hj]at hp;cases hp):p:=h
end Go.aA
namespace Go.aA
def YX:=@Go.callsIn_wide
def uf:=@Nat.le_of_ble_eq_true
def PM:=@Go.Oper.semAt_eq
def Ac:=@List.mem_range
end Go.aA
namespace Go.aA
open Go
noncomputable section
variable {X:Cx} {R:Type}
variable {w0 w w':World} {S:Sc} {F:bT} {ρ:bX} {M:aV}
variable{s:(Operand->Value)->Sem Value}{x:AV}{a:Act}{next:Act->World->Prop}{Q:Exit->Act->World->Prop}{n:Nat}{o:Oper}{e:Operand->AV}{ρe:Operand->Value}{rd:Option Nat}
def lI(rd:Option Nat):Fence:={Fence.wide with round:=rd}
def fJ(X:Cx)(o:Oper)(e:Operand->AV)(M:aV)(x:AV)(M':aV):Prop:=
 ∀{rd:Option Nat} {n:Nat} {w0:World} {S:Sc} {F:bT} {ρ:bX} {w:World} {a:Act} {next:Act->World->Prop} {Q:Exit->Act->World->Prop},Inv X w0 S F ρ M w->(∀y,aZ X.K ρ F w (e y) (a.eval y))->
  (∀v w' ρ' F',Inv X w0 S F' ρ' M' w'->Grow F F' ρ ρ' w w'->aZ X.K ρ' F' w' x v->next (a.put o.dst v) w')->o.wpIn (lI rd) n X.P a w next Q
def lP(X:Cx)(f:FuncId)(args:bl)(M:aV)(x:AV)(M':aV):Prop:=
 (∀(vs:Array Value) (w:World),(callFunc f vs).run X.P w= .ok (.enter f vs) w)∧
 ∀{w0:World} {S:Sc} {F:bT} {ρ:bX} {w:World} {vs:fI},Inv X w0 S F ρ M w->dz X.K ρ F w args vs->
  Calls X.P f vs.toArray w (λe w'=>∃v ρ' F',e= .returned v∧Inv X w0 S F' ρ' M' w'∧Grow F F' ρ ρ' w w'∧aZ X.K ρ' F' w' x v)
def P5(X:Cx)(id:Nat)(args:bl)(M:aV)(x:AV)(M':aV):Prop:=
 ∀{rd:Option Nat} {n:Nat} {w0:World} {S:Sc} {F:bT} {ρ:bX} {w:World} {vs:fI} {hd:Hd} {g:Nat},Inv X w0 S F ρ M w->dz X.K ρ F w args vs->ρ[id]?=some hd->hd.v= .pointer (some ⟨g,0,none⟩)->
  ∃f tmps ag body,(Instr.yield g vs.toArray).run X.P w= .ok (.round g f tmps ag body) w∧
   RoundIn (lI rd) n X.P g f tmps ag body w (λe w'=>∃v ρ' F',e= .returned v∧Inv X w0 S F' ρ' M' w'∧Grow F F' ρ ρ' w w'∧aZ X.K ρ' F' w' x v)
structure Nt where
 n:Nat
 mask:Nat
structure iw(R:Type) where
 nt:Nt
 wr:FuncId->bl->aV->Option dP
 call:FuncId->bl->aV->(AV->aV->Option R)->Option R
 yield:Nat->bl->aV->(AV->aV->Option R)->Option R
structure iw.oj(X:Cx)(T:iw R):Prop where
 call:∀{f args M k r},T.call f args M k=some r->∃x M',lP X f args M x M'∧k x M'=some r∧∀ids,T.wr f args M=some ids->dV ids M M'
 yield:∀{id args M k r},T.yield id args M k=some r->∃x M',P5 X id args M x M'∧k x M'=some r
def kY(X:Cx)(env:cY):Operand->AV
 | .tmp t=>look env t
 | .const v=>YU v
 | .global g=>X.gh g
 | .func f=> .dC f [] []
def Ae(hI:Inv X w0 S F ρ M w){env:cY}(h:jg X ρ F w env a.tmps)(y:Operand):aZ X.K ρ F w (kY X env y) (a.eval y):=by
 cases y with
 |tmp t=>exact h t
 |const v=>exact aAy _ _ _ _ v
 |global g=>exact hI.gh g
 |func f=>exact .dC f [] [] [] [] rfl rfl (λj x v h _=>hU) (λj x v h _=>hU)
def SG(op:UnOp)(x:AV)(k:AV->Option R):Option R:=
 match op,x with
 | .not,.bool b=>k (.bool (!b))
 | .neg,.int kd n=>k (.int kd (kd.wrap (0- n)))
 |_,_=>none
def Q2(X:Cx)(s d:TypeId)(x:AV)(k:AV->Option R):Option R:=
 match(X.ti s).ok,(X.ti d).ok,(X.ti d).u,x with
 |true,true,.int kd,.int _ n=>k (.int kd (kd.wrap n))
 |_,_,_,_=>none
def OT(x:AV)(k:AV->Option R):Option R:=
 match x with
 | .ptr _ _ _=>k x
 | .iA _ _ _=>k x
 | .dC _ _ _=>k x
 |_=>none
def aaN(X:Cx)(o:Oper)(x:AV)(mx:Option Operand):Bool:=match x,o.dst,mx with| .aC _,some d,none=>X.vw d o.type|_,_,_=>false
def pz(X:Cx)(T:iw R)(e:Operand->AV)(o:Oper)(M:aV)(k:AV->aV->Option R):Option R:=
 match o.op with
 | .move x=>k (e x) M
 | .assign x=>k (e x) M
 | .pick c a b=>match e c with| .bool t=>(match t with|true=>k (e a) M|false=>k (e b) M)|_=>none
 | .alloc t=>YR X t M k
 | .box t x=>aaD X t (e x) M k
 | .build t ps=>JL X t (ps.toList.map λp=>(p.1,e p.2)) λy=>k y M
 | .buildSlice t n ps=>match aGa (ps.toList.map λp=>(p.1,e p.2))with|true=>XB X t n (ps.toList.map λp=>(p.1,e p.2)) M k|false=>IV X t n (ps.toList.map λp=>(p.1,e p.2)) M k
 | .load t x=>vr X t (e x) M λy=>k y M
 | .store t x y=>FX X t (e x) (e y) M λM'=>k (.ew []) M'
 | .nilCheck x=>OT (e x) λy=>k y M
 | .binOp op t x y _=>KB X op t (e x) (e y) λz=>k z M
 | .unOp op _ x=>SG op (e x) λz=>k z M
 | .convert s d x=>Q2 X s d (e x) λz=>k z M
 | .fieldAddr t x f=>Jb X t (e x) f λy=>k y M
 | .field t x f=>JK X t (e x) f λy=>k y M
 | .indexAddr t x i=>yb X t (e x) (e i) M λy=>k y M
 | .index t x i=>JJ X t (e x) (e i) λy=>k y M
 | .slice t x lo hi mx=>match aaN X o (e x) mx with|true=>CZ X t (e x) (lo.map e) (hi.map e) M λy=>k y M|false=>Af X t (e x) (lo.map e) (hi.map e) (mx.map e) M k
 | .makeSlice t l c=>Xh X t (e l) (e c) M k
 | .extract x i=>match e x with| .ew vs=>(match vs[i]? with|some y=>k y M|none=>none)|_=>none
 | .makeFunc (.func f) first fL=>k (.dC f (first.toList.map e) (fL.toList.map e)) M
 | .call c=>
   match c.callee with
   | .value f=>
     match e f with
     | .dC g first fL=>T.call g (first++c.args.toList.map e++fL) M k
     | .iB id=>T.yield id (c.args.toList.map e) M λx M'=>aR (Nat.ble M.length M'.length) (k x M')
     |_=>none
   | .builtin .len =>match c.argTypes.toList,c.args.toList with| [t],[x]=>xg X t (e x) M λy=>k y M|_,_=>none
   | .builtin .min =>Ay nz (c.args.toList.map e) λy=>k y M
   | .builtin .max =>Ay imax (c.args.toList.map e) λy=>k y M
   | .builtin .append =>match c.args.toList with| [s,x]=>Ys X c.argTypes.toList (e s) (e x) M k|_=>none
   | .builtin .copy =>match c.args.toList with| [s,x]=>Z2 X c.argTypes.toList (e s) (e x) M k|_=>none
   | .builtin .clear =>match c.args.toList with| [s]=>YQ X c.argTypes.toList (e s) M k|_=>none
   |_=>none
 | .makeMap t r=>match r with|none=>XW X t M k|some _=>none
 | .lookup t x i ok=>yk X t (e x) (e i) ok M λy=>k y M
 | .mapUpdate t m i x=>OA X t (e m) (e i) (e x) M λM'=>k (.ew []) M'
 | .insert t m i x=>OA X t (e m) (e i) (e x) M λM'=>k (.ew []) M'
 |_=>none
def po(T:iw R)(e:Operand->AV)(o:Oper)(M:aV):Option dP:=
 match o.op with
 | .alloc _=>some []
 | .box _ _=>some []
 | .makeSlice _ _ _=>some []
 | .buildSlice _ _ ps=>some ((ps.toList.map λp=>(p.1,e p.2)).flatMap λp=>p.2.cells.flatMap oL)
 | .store _ x y=>some (wR (e x)++(e y).cells.flatMap oL)
 | .slice _ x _ _ _=>some (oL (e x))
 | .call c=>
   match c.callee with
   | .value f=>
     match e f with
     | .dC g first fL=>T.wr g (first++c.args.toList.map e++fL) M
     | .iB _=>some (List.range M.length)
     |_=>none
   | .builtin .append =>match c.args.toList with| [s,_]=>some (oL (e s))|_=>none
   | .builtin .copy =>match c.args.toList with| [s,_]=>some (mI (e s))|_=>none
   | .builtin .clear =>match c.args.toList with| [s]=>some (mI (e s))|_=>none
   | .builtin .unsafeSliceData =>some []
   | .builtin .unsafeString =>match c.args.toList with| [p,_]=>some (wR (e p))|_=>none
   |_=>none
 | .makeMap _ _=>some []
 | .mapUpdate _ m _ _=>some (C8 (e m))
 | .insert _ m _ _=>some (C8 (e m))
 |_=>none
def zP(hd:∀c,o.op≠ .defer c){v:Value}(h:(execOp a.eval o).run X.P w= .ok (.value v) w')(hn:next (a.put o.dst v) w'):
 o.wpIn (lI rd) n X.P a w next Q:=by
 refine⟨λ_ _=>trivial,?_⟩;rw [PM _ _ _ hd,h];exact hn
def WU(hd:∀c,o.op≠ .defer c)(h:(execOp a.eval o).run X.P w= .ok .skip w')(hn:next (a.put o.dst undef) w'):
 o.wpIn (lI rd) n X.P a w next Q:=by
 refine⟨λ_ _=>trivial,?_⟩;rw [PM _ _ _ hd,h];exact hn
def fJ.mG(hd:∀c,o.op≠ .defer c)(hs:∀ρe,execOp ρe o=(do pure (.value (<-s ρe)):Sem Next))
 (h:∀{w0:World} {S:Sc} {F:bT} {ρ:bX} {w:World} {ρe:Operand->Value},Inv X w0 S F ρ M w->(∀y,aZ X.K ρ F w (e y) (ρe y))->∃v,(s ρe).run X.P w= .ok v w∧aZ X.K ρ F w x v):fJ X o e M x M:=by
 intro rd n w0 S F ρ w a next Q hI hr hn;obtain⟨v,h1,h2⟩:=h hI hr;exact zP hd (by rw [hs,fx,h1];rfl) (hn v w ρ F hI (Grow.refl _ _ _) h2)
def fJ.uh(hd:∀c,o.op≠ .defer c){M':aV}(hs:∀ρe,execOp ρe o=(do pure (.value (<-s ρe)):Sem Next))
 (h:∀{w0:World} {S:Sc} {F:bT} {ρ:bX} {w:World} {ρe:Operand->Value},Inv X w0 S F ρ M w->(∀y,aZ X.K ρ F w (e y) (ρe y))->∃v w' ρ' F',(s ρe).run X.P w= .ok v w'∧Inv X w0 S F' ρ' M' w'∧Grow F F' ρ ρ' w w'∧aZ X.K ρ' F' w' x v):fJ X o e M x M':=by
 intro rd n w0 S F ρ w a next Q hI hr hn;obtain⟨v,w',ρ',F',h1,h2,h3,h4⟩:=h hI hr;exact zP hd (by rw [hs,fx,h1];rfl) (hn v w' ρ' F' h2 h3 h4)
def FJ(hr:∀y,aZ X.K ρ F w (e y) (ρe y))(xs:List Operand):dz X.K ρ F w (xs.map e) (xs.map ρe):=by
 refine⟨by simp,λj x v hx hv=> ?_⟩;rw [iT]at hx hv;cases h:xs[j]? with
 |none=>rw [h]at hx;cases hx
 |some y=>
  rw [h]at hx hv;simp only [k7,Option.some.injEq]at hx hv;subst hx;subst hv;exact hr y
def dz.append{xs ys:bl}{vs us:fI}(h:dz X.K ρ F w xs vs)(k:dz X.K ρ F w ys us):dz X.K ρ F w (xs++ys) (vs++us):=by
 refine⟨by simp [h.1,k.1],λj x v hx hv=> ?_⟩
 by_cases hj:j<xs.length
 ·exact akn
 ·rw [kZ (by omega)]at hx;rw [kZ (by rw [h.1];omega),h.1]at hv;exact k.2 _ x v hx hv
def Ck(hr:∀y,aZ X.K ρ F w (e y) (ρe y))(o:Option Operand):qm X.K ρ F w (o.map e) (o.map ρe):=by
 cases o with
 |none=>trivial
 |some y=>exact hr y
set_option maxHeartbeats 1600000 in
def afN(hX:X.Okb){T:iw R}(hT:T.oj X){k:AV->aV->Option R}{r:R}(h:pz X T e o M k=some r):
 ∃x M',fJ X o e M x M'∧k x M'=some r∧∀ids,po T e o M=some ids->dV ids M M':=by
 unfold pz at h;split at h
 ·rename_i x ho;exact⟨_,_,fJ.mG (s:=λρe=>pure (ρe x)) (gF) (λρe=>kf) (λ{w0 S F ρ w ρe} hI hr=>⟨_,rfl,hr x⟩),h,λids hi=>oP⟩
 ·rename_i x ho;exact⟨_,_,fJ.mG (s:=λρe=>pure (ρe x)) (gF) (λρe=>kf) (λ{w0 S F ρ w ρe} hI hr=>⟨_,rfl,hr x⟩),h,λids hi=>oP⟩
 ·rename_i c a b ho;split at h
  ·rename_i t hc;have aoS:∀ρe,execOp ρe o=(do pure (.value (if<-asBool (ρe c)then ρe a else ρe b)):Sem Next):=λρe=>kf;split at h
   ·refine⟨_,_,λ{rd n w0 S F ρ w act next Q} hI hr hn=> ?_,h,λids hi=>oP⟩;have h1:=hr c;rw [hc]at h1;generalize hv:act.eval c=vc at h1;cases h1;exact zP (gF) (by rw [aoS,hv];rfl) (hn _ w ρ F hI (Grow.refl _ _ _) (hr a))
   ·refine⟨_,_,λ{rd n w0 S F ρ w act next Q} hI hr hn=> ?_,h,λids hi=>oP⟩;have h1:=hr c;rw [hc]at h1;generalize hv:act.eval c=vc at h1;cases h1;exact zP (gF) (by rw [aoS,hv];rfl) (hn _ w ρ F hI (Grow.refl _ _ _) (hr b))
  ·exact aX
 ·rename_i t ho;obtain⟨x,M',h,fO,hd⟩:=azi hX h;exact⟨x,M',fJ.uh (s:=λ_=>Instr.alloc t true (.tuple #[])) (gF) (λρe=>kf) (λ{w0 S F ρ w ρe} hI hr=>hd hI trivial),h,λids hi=>yA⟩
 ·rename_i t x ho;obtain⟨y,M',h,fO,hd⟩:=aAN h;exact⟨y,M',fJ.uh (s:=λρe=>Instr.box t (ρe x)) (gF) (λρe=>kf) (λ{w0 S F ρ w ρe} hI hr=>hd (ρe x) hI (hr x)),h,λids hi=>yA⟩
 ·rename_i t ps ho;obtain⟨y,h,hd⟩:=azh (M:=M) hX h;refine⟨y,M,fJ.mG (s:=λρe=>Instr.build t (ps.map λ(i,x)=>(i,ρe x))) (gF) (λρe=>kf) (λ{w0 S F ρ w ρe} hI hr=> ?_),h,λids hi=>oP⟩;obtain⟨u,h1,h2⟩:=hd (ps.toList.map λp=>(p.1,ρe p.2)) hI (by simp) (λj p q hp hq=>by
   rw [iT]at hp hq;cases hj:ps.toList[j]? with
   |none=>exact JS
   |some z=>
    rw [hj]at hp hq;simp only [k7,Option.some.injEq]at hp hq;subst hp;subst hq;exact⟨rfl,hr z.2⟩)
  refine⟨u,?_,h2⟩;have:(ps.map λ(i,x)=>(i,ρe x))=(ps.toList.map λp=>(p.1,ρe p.2)).toArray :=vD;rw [this];exact h1
 ·rename_i t n ps ho;split at h
  ·obtain⟨y,M',h,fO,hd⟩:=av4 hX h;refine⟨y,M',fJ.uh (s:=λρe=>Instr.buildSlice t n (ps.map λ(i,x)=>(i,ρe x))) (gF) (λρe=>kf) (λ{w0 S F ρ w ρe} hI hr=> ?_),h,λids hi=>by simp only [po,ho,Option.some.injEq]at hi;subst hi;exact fO.mono (λi hi=>by cases hi)⟩;have:=hd (ps.toList.map λp=>(p.1,ρe p.2)) hI (by simp) (λj p q hp hq=>by
    rw [iT]at hp hq;cases hj:ps.toList[j]? with
    |none=>exact JS
    |some z=>
     rw [hj]at hp hq;simp only [k7,Option.some.injEq]at hp hq;subst hp;subst hq;exact⟨rfl,hr z.2⟩)
   have e1:(ps.map λ(i,x)=>(i,ρe x))=(ps.toList.map λp=>(p.1,ρe p.2)).toArray :=vD;rw [e1];exact this
  ·obtain⟨y,M',h,fO,hd⟩:=adr hX h;refine⟨y,M',fJ.uh (s:=λρe=>Instr.buildSlice t n (ps.map λ(i,x)=>(i,ρe x))) (gF) (λρe=>kf) (λ{w0 S F ρ w ρe} hI hr=> ?_),h,λids hi=>yA⟩;have:=hd (ps.toList.map λp=>(p.1,ρe p.2)) hI (by simp) (λj p q hp hq=>by
    rw [iT]at hp hq;cases hj:ps.toList[j]? with
    |none=>exact JS
    |some z=>
     rw [hj]at hp hq;simp only [k7,Option.some.injEq]at hp hq;subst hp;subst hq;exact⟨rfl,hr z.2⟩)
   have e1:(ps.map λ(i,x)=>(i,ρe x))=(ps.toList.map λp=>(p.1,ρe p.2)).toArray :=vD;rw [e1];obtain⟨v,w',ρ',F',h1,h2,h3,h4,_⟩:=this;exact⟨v,w',ρ',F',h1,h2,h3,h4⟩
 ·rename_i t x ho;obtain⟨y,h,hd⟩:=afq hX h;exact⟨y,M,fJ.mG (s:=λρe=>Instr.loadAt t (ρe x)) (gF) (λρe=>kf) (λ{w0 S F ρ w ρe} hI hr=>hd hI (hr x)),h,λids hi=>oP⟩
 ·rename_i t x y ho;obtain⟨M',h,fO,hd⟩:=azc hX h;refine⟨_,M',λ{rd n w0 S F ρ w act next Q} hI hr hn=> ?_,h,λids hi=>yA⟩;obtain⟨w',F',h1,h2,h3⟩:=hd hI (hr x) (hr y);refine WU (gF) (w':=w') ?_ (hn undef w' ρ F' h2 h3 (.ew [] [] rfl (λj x v h _=>hU)));simp [execOp,ho,h1]
 ·rename_i x ho;unfold OT at h;have core:∀(hp:∀{ρ:bX} {F:bT} {w:World} {v:Value},aZ X.K ρ F w (e x) v->(∃a,v= .pointer (some a))∨∃f c1 c2,v= .func (.func f) c1 c2),k (e x) M=some r->∃y M',fJ X o e M y M'∧k y M'=some r∧∀ids,po T e o M=some ids->dV ids M M':=by
   intro hp h;refine⟨_,_,λ{rd n w0 S F ρ w act next Q} hI hr hn=> ?_,h,λids hi=>oP⟩;have h1:=hr x;refine zP (gF) (v:=act.eval x) (w':=w) ?_ (hn _ w ρ F hI (Grow.refl _ _ _) h1);rcases hp h1 with⟨a,hv⟩|⟨f,c1,c2,hv⟩<;>simp [execOp,ho,hv]
  split at h
  ·rename_i id i off hx;exact aj7
  ·rename_i t row off hx;exact aj7
  ·rename_i f c1 c2 hx;exact core (λ{ρ F w v} hv=>by rw [hx]at hv;cases hv;exact .inr ⟨_,_,_,rfl⟩) h
  ·exact aX
 ·rename_i op t x y u ho;obtain⟨z,h,hd⟩:=aAO (a:=x) (b:=y) (u:=u) hX h;exact⟨z,M,fJ.mG (s:=λρe=>(do eqGuard op t x y (ρe x) (ρe y);binOp op t (ρe x) (ρe y))) (gF) (λρe=>kf) (λ{w0 S F ρ w ρe} hI hr=>hd ρ F w _ _ (hr x) (hr y)),h,λids hi=>oP⟩
 ·rename_i op t x ho;unfold SG at h;split at h
  ·rename_i b hx;refine⟨_,M,fJ.mG (s:=λρe=>Op.unary .not (ρe x)) (gF) (λρe=>kf) (λ{w0 S F ρ w ρe} hI hr=> ?_),h,λids hi=>oP⟩;have h1:=hr x;rw [hx]at h1;generalize ρe x=vx at h1;cases h1;exact⟨_,rfl,.bool _⟩
  ·rename_i kd n hx;refine⟨_,M,fJ.mG (s:=λρe=>Op.unary .neg (ρe x)) (gF) (λρe=>kf) (λ{w0 S F ρ w ρe} hI hr=> ?_),h,λids hi=>oP⟩;have h1:=hr x;rw [hx]at h1;generalize ρe x=vx at h1;cases h1;exact⟨_,rfl,.int _ _⟩
  ·exact aX
 ·rename_i s d x ho;unfold Q2 at h;split at h
  ·rename_i kd k0 n h1 h2 h3 hx;obtain⟨i1,d1,z1,f1⟩:=hX.facts h1;obtain⟨i2,d2,z2,f2⟩:=hX.facts h2;have dW:=f2.aoM h3;refine⟨_,M,fJ.mG (s:=λρe=>convert s d (ρe x)) (gF) (λρe=>kf) (λ{w0 S F ρ w ρe} hI hr=> ?_),h,λids hi=>oP⟩;have h4:=hr x;rw [hx]at h4;generalize ρe x=vx at h4;cases h4;refine⟨.int kd (kd.wrap n),?_,.int _ _⟩;unfold convert;simp only [fx,jf f1.jN,jf dW,gE,Conv.intToInt,iz]
  ·exact aX
 ·rename_i t x f ho;obtain⟨y,h,hd⟩:=au2 hX h;exact⟨y,M,fJ.mG (s:=λρe=>Instr.fieldAt t (ρe x) f) (gF) (λρe=>kf) (λ{w0 S F ρ w ρe} hI hr=>hd (hr x)),h,λids hi=>oP⟩
 ·rename_i t x f ho;obtain⟨y,h,hd⟩:=azf hX h;exact⟨y,M,fJ.mG (s:=λρe=>Instr.field t (ρe x) f) (gF) (λρe=>kf) (λ{w0 S F ρ w ρe} hI hr=>hd (hr x)),h,λids hi=>oP⟩
 ·rename_i t x i ho;obtain⟨y,h,hd⟩:=au1 hX h;exact⟨y,M,fJ.mG (s:=λρe=>Instr.indexAt t (ρe x) (ρe i)) (gF) (λρe=>kf) (λ{w0 S F ρ w ρe} hI hr=>hd hI (hr x) (hr i)),h,λids hi=>oP⟩
 ·rename_i t x i ho;obtain⟨y,h,hd⟩:=aze hX h;exact⟨y,M,fJ.mG (s:=λρe=>Instr.index t (ρe x) (ρe i)) (gF) (λρe=>kf) (λ{w0 S F ρ w ρe} hI hr=>hd (hr x) (hr i)),h,λids hi=>oP⟩
 ·rename_i t x lo hi mx ho;split at h
  ·rename_i zt;have D4:mx=none:=by
    unfold aaN at zt;split at zt
    ·rfl
    ·cases zt
   obtain⟨y,h,hd⟩:=azX hX h;exact⟨y,M,fJ.mG (s:=λρe=>Instr.sliceAt t (ρe x) (lo.map ρe) (hi.map ρe) none) (gF) (λρe=>by simp [execOp,ho,D4]) (λ{w0 S F ρ w ρe} hI hr=>hd hI (hr x) (Ck hr lo) (Ck hr hi)),h,λids hi=>dV.refl _ _⟩
  obtain⟨y,M',h,fO,hd⟩:=azd hX h;exact⟨y,M',fJ.uh (s:=λρe=>Instr.sliceAt t (ρe x) (lo.map ρe) (hi.map ρe) (mx.map ρe)) (gF) (λρe=>kf) (λ{w0 S F ρ w ρe} hI hr=>hd hI ⟨hr x,Ck hr lo,Ck hr hi,Ck hr mx⟩),h,λids hi=>yA⟩
 ·rename_i t l c ho;obtain⟨y,M',h,fO,hd⟩:=au0 hX h;exact⟨y,M',fJ.uh (s:=λρe=>Instr.makeSlice t (ρe l) (ρe c)) (gF) (λρe=>kf) (λ{w0 S F ρ w ρe} hI hr=>hd hI ⟨hr l,hr c⟩),h,λids hi=>yA⟩
 ·rename_i x i ho;split at h
  ·rename_i vs hx;split at h
   ·rename_i y hy;refine⟨y,M,fJ.mG (s:=λρe=>Instr.extract (ρe x) i) (gF) (λρe=>kf) (λ{w0 S F ρ w ρe} hI hr=> ?_),h,λids hi=>oP⟩;have h1:=hr x;rw [hx]at h1;generalize ρe x=vx at h1;cases h1 with
    |ew _ us hl hu=>
     have hi:=(eZ.1 hy).1;have DZ:us[i]?=some (us[i]'(by omega)):=dD (by omega);refine⟨us[i]'(by omega),?_,hu i y _ hy DZ⟩;unfold Instr.extract;simp only [Yw,DZ,iz]
   ·exact aX
  ·exact aX
 ·rename_i f first fL ho
  refine⟨_,M,fJ.mG (s:=λρe=>Instr.makeFunc (.func f) (first.map ρe) (fL.map ρe)) (gF) (λρe=>kf) (λ{w0 S F ρ w ρe} hI hr=>⟨_,rfl,?_⟩),h,λids hi=>oP⟩;have h1:=FJ hr first.toList
  have h2:=FJ hr fL.toList;have:=aZ.dC (K:=X.K) (ρ:=ρ) (F:=F) (w:=w) f _ _ _ _ h1.1 h2.1 h1.2 h2.2;have e1:(first.toList.map ρe).toArray =first.map ρe:=vD
  have e2:(fL.toList.map ρe).toArray =fL.map ρe:=vD;rw [e1,e2]at this;exact this
 ·rename_i c ho;split at h
  ·rename_i f mM;split at h
   ·rename_i g first fL hf
    obtain⟨x,M',⟨pV,su⟩,h,fO⟩:=hT.call h;refine⟨x,M',λ{rd n w0 S F ρ w act next Q} hI hr hn=> ?_,h,λids hi=>fO ids (by simpa only [po,ho,mM,hf]using hi)⟩;have h1:=hr f;rw [hf]at h1;generalize hv:act.eval f=vf at h1;cases h1 with
    |dC _ _ _ v1 v2 fg fY r1 r2=>
     exact aoG
   ·rename_i id hf;obtain⟨x,M',hy,h⟩:=hT.yield h;replace h:=dq h;obtain⟨aOp,h⟩:=h;refine⟨x,M',λ{rd n w0 S F ρ w act next Q} hI hr hn=> ?_,h,λids hi=>by
     simp only [po,ho,mM,hf,Option.some.injEq]at hi;subst hi;exact⟨uf aOp,λi hi hn=>absurd (Ac.2 hi) hn⟩⟩
    have h1:=hr f;rw [hf]at h1;generalize hv:act.eval f=vf at h1;cases h1 with
    |iB _ hd g bA HL=>
     obtain⟨fn,tmps,ag,body,h2,h3⟩:=hy (rd:=rd) (n:=n- 1) hI (FJ hr c.args.toList) bA HL;refine⟨λ_ _=>trivial,?_⟩;rw [PM _ _ _ (gF)];have dE:(execOp act.eval o).run X.P w= .ok (.round g fn tmps ag body) w:=by
      simp only [execOp,ho,resolve,mM,hv,Deferred.ofValue,fx,iz,gE,invoke];have e1: #[]++c.args.map act.eval=(c.args.toList.map act.eval).toArray :=vD;rw [e1];exact h2
     rw [dE];refine⟨λhd=>by simp [lI,Fence.wide]at hd,?_⟩;refine h3.mono ?_;rintro en w' ⟨v,ρ',F',rfl,h4,h5,h6⟩;exact hn v w' ρ' F' h4 h5 h6
   ·exact aX
  ·rename_i mM;split at h
   ·rename_i t x ht hx;have e1:c.argTypes= #[t]:=by apply ue;simpa using ht
    have e2:c.args= #[x]:=QH;obtain⟨y,h,hd⟩:=aAL (ty:=o.type) hX h;exact⟨y,M,fJ.mG (s:=λρe=>Builtin.len_ #[t] o.type #[ρe x]) (gF) (λρe=>ajx) (λ{w0 S F ρ w ρe} hI hr=>hd hI (hr x)),h,λids hi=>Zu⟩
   ·exact aX
  ·rename_i mM;obtain⟨y,h,hd⟩:=aBY (P:=X.P) (K:=X.K) h;refine⟨y,M,fJ.mG (s:=λρe=>Builtin.min_ c.argTypes o.type (c.args.map ρe)) (gF) (λρe=>aji) (λ{w0 S F ρ w ρe} hI hr=> ?_),h,λids hi=>Zu⟩;have e1:c.args.map ρe=(c.args.toList.map ρe).toArray :=vD;rw [e1];exact hd _ _ (FJ hr _)
  ·rename_i mM;obtain⟨y,h,hd⟩:=aBZ (P:=X.P) (K:=X.K) h;refine⟨y,M,fJ.mG (s:=λρe=>Builtin.max_ c.argTypes o.type (c.args.map ρe)) (gF) (λρe=>aji) (λ{w0 S F ρ w ρe} hI hr=> ?_),h,λids hi=>Zu⟩;have e1:c.args.map ρe=(c.args.toList.map ρe).toArray :=vD;rw [e1];exact hd _ _ (FJ hr _)
  ·rename_i mM;split at h
   ·rename_i s x hx;have e2:c.args= #[s,x]:=QH;obtain⟨y,M',h,fO,hd⟩:=ayn (ty:=o.type) hX h;refine⟨y,M',fJ.uh (s:=λρe=>Builtin.append_ c.argTypes o.type #[ρe s,ρe x]) (gF) (λρe=>QU) (λ{w0 S F ρ w ρe} hI hr=> ?_),h,λids hi=>ZQ⟩;have:=hd hI ⟨hr s,hr x⟩;exact sP
   ·exact aX
  ·rename_i mM;split at h
   ·rename_i s x hx;have e2:c.args= #[s,x]:=QH;obtain⟨y,M',h,fO,hd⟩:=azY (ty:=o.type) hX h;refine⟨y,M',fJ.uh (s:=λρe=>Builtin.copy_ c.argTypes o.type #[ρe s,ρe x]) (gF) (λρe=>QU) (λ{w0 S F ρ w ρe} hI hr=> ?_),h,λids hi=>ZQ⟩;have:=hd hI ⟨hr s,hr x⟩;exact sP
   ·exact aX
  ·rename_i mM;split at h
   ·rename_i s hx;have e2:c.args= #[s]:=QH;obtain⟨y,M',h,fO,hd⟩:=azg (ty:=o.type) hX h;refine⟨y,M',fJ.uh (s:=λρe=>Builtin.clear_ c.argTypes o.type #[ρe s]) (gF) (λρe=>QU) (λ{w0 S F ρ w ρe} hI hr=> ?_),h,λids hi=>ZQ⟩;have:=hd hI (hr s);exact sP
   ·exact aX
  ·exact aX
 ·rename_i t r' ho;split at h
  ·obtain⟨x,M',h,fO,hd⟩:=axh hX h;exact⟨x,M',fJ.uh (s:=λ_=>Instr.makeMap t none) (gF) (λρe=>kf) (λ{w0 S F ρ w ρe} hI hr=>hd hI trivial),h,λids hi=>yA⟩
  ·exact aX
 ·rename_i t x i ok ho;obtain⟨y,h,hd⟩:=aym hX h;exact⟨y,M,fJ.mG (s:=λρe=>Instr.lookup t (ρe x) (ρe i) ok) (gF) (λρe=>kf) (λ{w0 S F ρ w ρe} hI hr=>hd hI (hr x) (hr i)),h,λids hi=>oP⟩
 ·rename_i t m i x ho;obtain⟨M',h,fO,hd⟩:=adD hX h;refine⟨_,M',λ{rd n w0 S F ρ w act next Q} hI hr hn=> ?_,h,λids hi=>yA⟩;obtain⟨w',F',h1,h2,h3⟩:=hd hI (hr m) (hr i) (hr x);refine WU (gF) (w':=w') ?_ (hn undef w' ρ F' h2 h3 (.ew [] [] rfl (λj x v h _=>hU)));simp [execOp,ho,h1]
 ·rename_i t m i x ho;obtain⟨M',h,fO,hd⟩:=adD hX h;refine⟨_,M',λ{rd n w0 S F ρ w act next Q} hI hr hn=> ?_,h,λids hi=>yA⟩;obtain⟨w',F',h1,h2,h3⟩:=hd hI (hr m) (hr i) (hr x);refine WU (gF) (w':=w') ?_ (hn undef w' ρ F' h2 h3 (.ew [] [] rfl (λj x v h _=>hU)));simp [execOp,ho,h1]
 ·cases h
section
variable {α:Type}
def qD(n:Nat)(k:Nat->Option R):Option R:=match n with|0=>k 0|m+1=>k (Nat.succ m)
def fzI(n:Int)(k:Int->Option R):Option R:=match n with| .ofNat m=>qD m λm=>k (.ofNat m)| .negSucc m=>qD m λm=>k (.negSucc m)
def QZ(n:Nat)(k:Nat->Option R):qD n k=k n:=by cases n<;>rfl
def aE0(n:Int)(k:Int->Option R):fzI n k=k n:=by cases n<;>(unfold fzI;exact QZ _ λ_=>_)
noncomputable def sw (f:α->(α->Option R)->Option R) (l:List α):(List α->Option R)->Option R:=
 List.rec (motive:=λ_=>(List α->Option R)->Option R) (λk=>k []) (λx _ ih k=>f x λx'=>ih λl'=>k (x'::l')) l
def sR{f:α->(α->Option R)->Option R}(hf:∀x k,f x k=k x):∀(l:List α) (k:List α->Option R),sw f l k=k l
 | [],_=>rfl
 |x::l,k=>by
  show f x (λx'=>sw f l λl'=>k (x'::l'))=k (x::l);rw [hf,sR hf l]
def Eh(x:AV)(k:AV->Option R):Option R:=
 match x with
 | .int kd n=>fzI n λn=>k (.int kd n)
 | .bool b=>(match b with|true=>k (.bool true)|false=>k (.bool false))
 | .ptr id i off=>qD id λid=>qD i λi=>qD off λoff=>k (.ptr id i off)
 | .aC id=>qD id λid=>k (.aC id)
 | .iB id=>qD id λid=>k (.iB id)
 | .mp id=>qD id λid=>k (.mp id)
 | .lz id n=>qD id λid=>qD n λn=>k (.lz id n)
 | .vw id lo n=>qD id λid=>qD lo λlo=>qD n λn=>k (.vw id lo n)
 |x=>k x
def Kh(x:AV)(k:AV->Option R):Eh x k=k x:=by
 cases x<;>simp only [Eh,aE0,QZ]
 split<;>rfl
noncomputable def zI (x:AV) (k:AV->Option R):Option R:=
 match x with
 | .agg cs=>sw Eh cs λcs=>k (.agg cs)
 | .dC f a b=>sw Eh a λa=>sw Eh b λb=>k (.dC f a b)
 |x=>Eh x k
def CW(x:AV)(k:AV->Option R):zI x k=k x:=by
 unfold zI;split
 ·exact sR Kh _ _
 ·rw [sR Kh,sR Kh]
 ·exact Kh _ _
noncomputable def uT (x:AV) (k:AV->Option R):Option R:=
 match x with
 | .ew cs=>sw zI cs λcs=>k (.ew cs)
 |x=>zI x k
def Q0(x:AV)(k:AV->Option R):uT x k=k x:=by
 unfold uT;split
 ·exact sR CW _ _
 ·exact CW _ _
noncomputable def fzE (e:AV×AV) (k:AV×AV->Option R):Option R:=Eh e.1 λa=>zI e.2 λb=>k (a,b)
def aE1(e:AV×AV)(k:AV×AV->Option R):fzE e k=k e:=by unfold fzE;rw [Kh,CW]
noncomputable def Eg (b:ep) (k:ep->Option R):Option R:=
 match b with
 | .var ks cs=>sw zI cs λcs=>k (.var ks cs)
 | .row t xs=>sw (sw zI) xs λxs=>k (.row t xs)
 | .map kd ag ks es=>sw fzE es λes=>k (.map kd ag ks es)
 |b=>k b
def ZZ(b:ep)(k:ep->Option R):Eg b k=k b:=by
 unfold Eg;split
 ·exact sR CW _ _
 ·exact sR (λ_ _=>sR CW _ _) _ _
 ·exact sR aE1 _ _
 ·rfl
noncomputable def G5 (M:aV) (id:Nat) (k:aV->Option R):Option R:=
 List.rec (motive:=λ_=>Nat->(aV->Option R)->Option R) (λ_ k=>k []) (λb tl ih n k=>Nat.rec (motive:=λ_=>Option R) (Eg b λb=>k (b::tl)) (λm _=>ih m λl=>k (b::l)) n) M id k
def YO:∀(M:aV) (id:Nat) (k:aV->Option R),G5 M id k=k M
 | [],_,_=>rfl
 |b::M,0,k=>by
  show(Eg b λb=>k (b::M))=_;rw [ZZ]
 |b::M,n+1,k=>by
  show(G5 M n λl=>k (b::l))=_;rw [YO M n]
noncomputable def yE (M:aV) (k:aV->Option R):Option R:=
 List.rec (motive:=λ_=>(aV->Option R)->Option R) (λk=>k []) (λb tl ih k=>List.rec (motive:=λ_=>Option R) (Eg b λb=>k [b]) (λ_ _ _=>ih λl=>k (b::l)) tl) M k
def Yr:∀(M:aV) (k:aV->Option R),yE M k=k M
 | [],_=>rfl
 | [b],k=>by
   show(Eg b λb=>k [b])=_;rw [ZZ]
 |b::c::M,k=>by
  show(yE (c::M) λl=>k (b::l))=_;rw [Yr (c::M)]
noncomputable def Sz (e:Operand->AV) (o:Oper) (k:AV->aV->Option R) (x:AV) (M:aV):Option R:=
 match o.op with
 | .store _ p _=>(match e p with| .ptr id _ _=>G5 M id λM=>k x M|_=>k x M)
 | .mapUpdate _ m _ _=>(match e m with| .mp id=>G5 M id λM=>k x M|_=>k x M)
 | .insert _ m _ _=>(match e m with| .mp id=>G5 M id λM=>k x M|_=>k x M)
 | .alloc _=>uT x λx=>yE M λM=>k x M
 | .box _ _=>uT x λx=>yE M λM=>k x M
 | .makeSlice _ _ _=>uT x λx=>yE M λM=>k x M
 | .buildSlice _ _ _=>uT x λx=>yE M λM=>k x M
 | .makeMap _ _=>uT x λx=>yE M λM=>k x M
 | .slice _ _ _ _ _=>uT x λx=>yE M λM=>k x M
 | .call c=>(match c.callee with| .value _=>k x M| .builtin .append =>uT x λx=>yE M λM=>k x M|_=>uT x λx=>k x M)
 |_=>uT x λx=>k x M
def aDS(e:Operand->AV)(o:Oper)(k:AV->aV->Option R)(x:AV)(M:aV):Sz e o k x M=k x M:=by
 unfold Sz;split<;>try (simp only [Q0,Yr];done)
 ·exact Zt
 ·exact Zt
 ·exact Zt
 ·split
  ·rfl
  ·simp only [Q0,Yr]
  ·exact Q0 _ _
end
end
end Go.aA
namespace Go.aA
def alG{p:Prop}(h:p:=by
 have kG:=f.u;rw [hu]at kG;have:=f.jN;cases d<;>simp [mK]at kG
 subst kG;exact this):p:=h
def akd{p:Prop}(h:p:=by
 injection h with h;subst h;cases h2;cases h1;exact key _ rfl rfl rfl):p:=h
def Zy{p:Prop}(h:p:=by apply ue;simpa using ha):p:=h
def ajz{p:Prop}(h:p:=by
 rw [agU,fx,iz,gE];simp [binOp,Op.stringOp]):p:=h
end Go.aA
namespace Go.aA
def mU:=@Int.toNat_natCast
def agU:=@Go.eqGuard_at_string
def Pa:=@Go.eqGuard_at_pointer
end Go.aA
namespace Go.aA
open Go
noncomputable section
variable {X:Cx} {R:Type}
variable {w0 w w':World} {S:Sc} {F:bT} {ρ:bX} {M:aV}
variable{x:AV}{k:AV->aV->Option R}{op:BinOp}{o:Oper}{e:Operand->AV}{P:Program}{r:R}{T:iw R}{d s t:TypeId}{v:Value}
def LG:List UInt8->List UInt8->Bool
 | [],[]=>true
 |x::xs,y::ys=>Nat.beq x.toNat y.toNat&&LG xs ys
 |_,_=>false
def ZU:∀(a b:List UInt8),LG a b=(a==b)
 | [],[]=>rfl
 | [],_::_=>rfl
 |_::_,[]=>rfl
 |x::xs,y::ys=>by
  have xD:Nat.beq x.toNat y.toNat=(x==y):=by
   cases h:Nat.beq x.toNat y.toNat with
   |true=>have:=UInt8.toNat_inj.1 (dU h);simp [this]
   |false=>
    have:x≠y:=λe=>by rw [e]at h;simp at h
    simp [this]
  simp only [LG,List.cons_beq_cons,ZU xs ys,xD]
def aaL(op:BinOp)(a b:ByteArray):Option AV:=
 match op with
 | .add =>(match decide (a.data.toList.length+b.data.toList.length<=1000000)with|true=>some (.str ⟨⟨a.data.toList++b.data.toList⟩⟩)|false=>none)
 | .eql =>some (.bool (LG a.data.toList b.data.toList))
 | .neq =>some (.bool (!LG a.data.toList b.data.toList))
 |_=>none
def aaM(X:Cx)(t:TypeId)(x y:AV):Option Bool:=
 match(X.ti t).ok,(X.ti t).u with
 |true,.ptr e=>
  match x,y with
  | .iF,.iF =>some true
  | .ptr _ _ _,.iF =>some false
  | .iA _ _ _,.iF =>some false
  | .ptr a i o,.ptr b j p=>(match(X.ti e).ok &&(Nat.beq a b&&(Nat.beq i j&&Nat.beq o p))with|true=>some true|false=>none)
  |_,_=>none
 |_,_=>none
def GO(X:Cx)(s d:TypeId):Bool:=match X.ub with|none=>false|some u=>(Nat.beq s u.pt&&Nat.beq d u.up)||(Nat.beq s u.up&&Nat.beq d u.pt)
def aaV(X:Cx)(x:AV)(M:aV):Bool:=
 match X.ub with
 |none=>false
 |some u=>match x with
  | .ptr id 0 0=>(match gm M id with|some (.var ks _)=>decide (ks=u.ks)|_=>false)
  |_=>false
def isNe(X:Cx)(g:FuncId):Bool:=match X.ub with|none=>false|some u=>Nat.beq g u.ne
def byteOf(row:Row):Option UInt8:=match row with| [.int .u8 (.ofNat n)]=>(match Nat.blt n 256 with|true=>some (UInt8.ofNat n)|false=>none)|_=>none
def bytesOf:Nat->aW->Option (List UInt8)
 |0,_=>some []
 |n+1,row::xs=>(match byteOf row with|some b=>(match bytesOf n xs with|some l=>some (b::l)|none=>none)|none=>none)
 |_+1,[]=>none
def LJ(X:Cx)(e:Operand->AV)(o:Oper):Bool:=
 match o.op with
 | .binOp _ _ x y _=>
   (match e x with
    | .str _=>(match e y with| .str _=>true|_=>false)
    | .iF =>(match e y with| .iF =>true|_=>false)
    | .iA _ _ _=>(match e y with| .iF =>true|_=>false)
    | .ptr _ _ _=>(match e y with| .iF =>true| .ptr _ _ _=>true|_=>false)
    |_=>false)
 | .convert s d _=>GO X s d
 | .slice _ x _ _ _=>(match e x with| .str _=>true|_=>false)
 | .call c=>
   match c.callee with
   | .builtin .unsafeSliceData =>true
   | .builtin .unsafeString =>true
   | .value f=>(match e f with| .dC g [] []=>isNe X g|_=>false)
   |_=>false
 |_=>false
def strOf:AV->Option ByteArray| .str s=>some s|_=>none
def Xo{s:ByteArray}(h:strOf x=some s):x= .str s:=by
 cases x<;>simp [strOf]at h
 rw [h]
def amG(X:Cx)(op:BinOp)(t:TypeId)(x y:AV):Option AV:=
 match strOf x,strOf y with
 |some a,some b=>aaL op a b
 |_,_=>match aaM X t x y,op with
  |some b,.eql =>some (.bool b)
  |some b,.neq =>some (.bool (!b))
  |_,_=>none
def amF(X:Cx)(t:TypeId)(x:AV)(lo hi:Option AV):Option AV:=
 match strOf x with
 |some s=>
  (match(X.ti t).ok,(X.ti t).u,mB 0 lo,mB s.data.toList.length hi with
   |true,.str,some l,some h=>(match decide (0<=l)&&decide (l<=h)&&decide (h<=(s.data.toList.length:Int))with
    |true=>some (.str ⟨⟨(s.data.toList.take h.toNat).drop l.toNat⟩⟩)
    |false=>none)
   |_,_,_,_=>none)
 |none=>none
def Ha(X:Cx)(e:Operand->AV)(o:Oper)(M:aV):Option (AV×aV):=
 match o.op with
 | .binOp op t x y _=>(match amG X op t (e x) (e y)with|some z=>some (z,M)|none=>none)
 | .convert _ _ x=>(match aaV X (e x) M with|true=>some (e x,M)|false=>none)
 | .slice t x lo hi mx=>(match mx,amF X t (e x) (lo.map e) (hi.map e)with|none,some z=>some (z,M)|_,_=>none)
 | .call c=>
   match c.callee with
   | .builtin .unsafeSliceData =>
     (match c.args.toList with
      | [x]=>(match e x with
        | .aC id=>(match gm M id with|some (.row _ (_::_))=>some (.ptr id 0 0,M)|_=>none)
        |_=>none)
      |_=>none)
   | .builtin .unsafeString =>
     (match c.argTypes.toList,c.args.toList with
      | [pt,_],[p,n]=>(match e p,e n with
        | .ptr id 0 0,.int .i64 (.ofNat m)=>(match gm M id with
          |some (.row t xs)=>(match(X.ti pt).ok,(X.ti pt).u,(X.ti t).ok with
           |true,.ptr t',true=>(match Nat.beq t' t&&(Nat.beq (X.ti t).size 1&&(Nat.blt 0 m&&Nat.ble m 1000000))with
            |true=>(match bytesOf m xs with|some l=>some (.str ⟨⟨l⟩⟩,M.set id .dead)|none=>none)
            |false=>none)
           |_,_,_=>none)
          |_=>none)
        |_,_=>none)
      |_,_=>none)
   | .value f=>(match e f with| .dC g [] []=>(match isNe X g,c.args.toList with|true,[x]=>some (e x,M)|_,_=>none)|_=>none)
   |_=>none
 |_=>none
def aA8{row:Row}{b:UInt8}(h:byteOf row=some b):row=[.int .u8 b.toNat]:=by
 unfold byteOf at h;split at h
 ·rename_i n;split at h
  ·rename_i hn;have:n<256:=by simpa [Nat.blt_eq]using hn
   injection h with h;subst h;have e:(UInt8.ofNat n).toNat =n:=eu;rw [e];rfl
  ·exact aX
 ·exact aX
def afA:∀{n:Nat} {xs:aW} {l:List UInt8},bytesOf n xs=some l->l.length=n∧∀(j:Nat) b,l[j]?=some b->xs[j]?=some [.int .u8 b.toNat]
 |0,_,l,h=>by
  simp only [bytesOf,Option.some.injEq]at h;subst h;exact⟨rfl,λj b h=>hU⟩
 |n+1,[],l,h=>by simp [bytesOf]at h
 |n+1,row::xs,l,h=>by
  simp only [bytesOf]at h;split at h
  ·rename_i b hb;split at h
   ·rename_i l' hl;injection h with h;subst h;obtain⟨h1,h2⟩:=afA hl;refine⟨by simp [h1],λj b' hj=> ?_⟩;cases j with
    |zero=>simp only [FE,Option.some.injEq]at hj⊢;subst hj;exact aA8 hb
    |succ j=>simp only [X5]at hj⊢;exact h2 j b' hj
   ·exact aX
  ·exact aX
def aCA{a b:ByteArray}{z:AV}(h:aaL op a b=some z)(x y:Operand)(w:World):
 ∃v,(do eqGuard op t x y (.string a) (.string b);binOp op t (.string a) (.string b):Sem Value).run X.P w= .ok v w∧aZ X.K ρ F w z v:=by
 have tl:∀s:ByteArray,s.toList=s.data.toList:=λs=>ByteArray.toList_eq s;unfold aaL at h;split at h
 ·split at h
  ·rename_i hl;injection h with h;subst h;have hs:a.size+b.size<=9223372036854775807:=by
    have:=FF hl;simp only [oe]at this;show a.data.size+b.data.size<=_;omega
   refine⟨.string (a++b),?_,?_⟩
   ·rw [agU,fx,iz,gE];show(Op.stringOp .add a b).run X.P w=_;exact run_string_add_sum w a b hs
   ·have:(a++b)=⟨⟨a.data.toList++b.data.toList⟩⟩:=by
     apply ByteArray.ext;apply ue;simp
    rw [this];exact .str _
  ·exact aX
 ·injection h with h;subst h;refine⟨.bool (a.toList==b.toList),?_,by rw [ZU,tl,tl];exact .bool _⟩;exact ajz
 ·injection h with h;subst h;refine⟨.bool (!(a.toList==b.toList)),?_,by rw [ZU,tl,tl];exact .bool _⟩;exact ajz
 ·cases h
def ahi(hX:X.Okb){p q:AV}{b:Bool}(h:aaM X t p q=some b){u:Value}(h1:aZ X.K ρ F w p v)(h2:aZ X.K ρ F w q u)(x y:Operand):
 (op= .eql ->(do eqGuard op t x y v u;binOp op t v u:Sem Value).run X.P w= .ok (.bool b) w)∧(op= .neq ->(do eqGuard op t x y v u;binOp op t v u:Sem Value).run X.P w= .ok (.bool (!b)) w):=by
 unfold aaM at h;split at h
 ·rename_i e bz hu;obtain⟨i,d,z,f⟩:=hX.facts bz;have dW:X.P.underlying t=some (.pointer e):=alG;have hpt:X.P.underlying t=some (.pointer (X.P.pointee t)):=by
   rw [dW];simp [Program.pointee,dW]
  have key:∀(p:Option Addr),v= .pointer p->u= .pointer none->p.isNone=b->(op= .eql ->(do eqGuard op t x y v u;binOp op t v u:Sem Value).run X.P w= .ok (.bool b) w)∧(op= .neq ->(do eqGuard op t x y v u;binOp op t v u:Sem Value).run X.P w= .ok (.bool (!b)) w):=by
   rintro p rfl rfl rfl;constructor
   ·rintro rfl;rw [Pa,fx,iz,gE];exact run_eql_pointer_nil w t p hpt
   ·rintro rfl;rw [Pa,fx,iz,gE];exact run_neq_pointer_nil w t p hpt
  split at h
  ·injection h with h;subst h;cases h1;cases h2;exact key _ rfl rfl rfl
  ·exact akd
  ·exact akd
  ·rename_i a i' o b' j p';split at h
   ·rename_i hb;injection h with h;subst h;simp only [bM]at hb;obtain⟨he,e1,e2,e3⟩:=hb;have e1:=dU e1;have e2:=dU e2;have e3:=dU e3;subst e1;subst e2;subst e3;obtain⟨i2,d2,z2,f2⟩:=hX.facts he;cases h1 with
    |ptr _ _ _ hd g o' n c bA hv=>
     cases h2 with
     |ptr _ _ _ mz g2 o2 n2 c2 G3 jQ=>
      rw [bA]at G3;injection G3 with G3;subst G3;rw [hv]at jQ;injection jQ with q1 q2 q3;injection q1 with q1;injection q1 with q4 q5 q6;subst q4;subst q5;constructor
      ·rintro rfl;rw [Pa,fx,iz,gE];exact run_eql_ptr_same w _ dW f2.info
      ·rintro rfl;rw [Pa,fx,iz,gE];exact Lib.run_neq_ptr_same w _ dW f2.info
   ·exact aX
  ·exact aX
 ·cases h
def aAF{e:TypeId}(hc:P.cellsOf e=1)(count off n:Nat)(hn:off+n<=count):liesAt P P.depth e count off e n=true:=by
 have hd:P.depth=(2*(P.types.size+Made.depth)+1)+1:=rfl;rw [hd];simp only [liesAt,z6];left;rw [hd];simp [rowAt,hc,hn,sameLayout,Nat.mod_one]
def asY{w:World}(pt it ty e:TypeId)(hp:P.underlying pt=some (.pointer e))(hc:P.cellsOf e=1)(g o cells:Nat)(zv:w.shape? g=some (e,cells))(l:List UInt8)(h0:l≠ [])(hn:o+l.length<=cells)(h63:l.length<=9223372036854775807)
 (rW:∀j x,l[j]?=some x->w.cell? ((⟨g,o,none⟩:Addr).add j)=some (.int .u8 x.toNat)):
 (Builtin.unsafeString_ #[pt,it] ty #[.pointer (some ⟨g,o,none⟩),.int .i64 l.length]).run P w= .ok (.string ⟨l.toArray⟩) (w.freeze ⟨g,o,none⟩ l.length):=by
 have hl:l.length≠0:=by simpa using h0
 have L3:=Lib.run_loadBytes (P:=P) w l ⟨g,o,none⟩ .empty rW;have aGg:=aAF (P:=P) hc (cells/P.cellsOf e) o l.length (by rw [hc];simpa using hn);have abN:¬(9223372036854775807:Int)<(l.length:Int):=by omega
 have ki:IntKind.i64.max=9223372036854775807:=rfl;have aN9:¬(l.length:Int)<0:=by omega
 change (asInt (.int .i64 l.length)>>= _).run P w=_
 simp [asInt,asIntOf,ki,abN,aN9,hl,variablesAt,zv,elemOf,jf hp,aGg,L3]
def ayl(w:World)(g o n:Nat):w.grownBy (w.freeze ⟨g,o,none⟩ n) (some g):=by
 unfold World.freeze;split
 ·exact⟨rfl,rfl,rfl,fk _,λ_ _ _=>rfl⟩
 ·refine⟨rfl,rfl,rfl,by simp,λk hk eN=> ?_⟩;have:k≠g:=λe=>eN (by rw [e]);simp [Pr,Ne.symm this]
def aBb{w:World}(dW:P.underlying t=some .string)(s:ByteArray){lo hi:Option AV}{vl vh:Option Value}{K:TypeId->ei}(h1:qm K ρ F w lo vl)(h2:qm K ρ F w hi vh){l h:Int}(e1:mB 0 lo=some l)(e2:mB s.data.toList.length hi=some h)
 (b1:0<=l) (b2:l<=h) (b3:h<=s.data.toList.length):(Instr.sliceAt t (.string s) vl vh none).run P w= .ok (.string ⟨⟨(s.data.toList.take h.toNat).drop l.toNat⟩⟩) w:=by
 obtain⟨ln,rfl⟩:=Cd b1;obtain⟨hn,rfl⟩:=Cd (show 0<=h by omega);have bound:∀(o:Option AV) (v:Option Value) (d:Int) (n:Nat),qm K ρ F w o v->mB d o=some (n:Int)->(o=none∧v=none∧d=n)∨∃kd,v=some (.int kd n)∧o.isSome=true:=amc;have hu:∀w,(underlying t).run P w= .ok .string w:=λw=>jf dW w;have ev:s.size=s.data.toList.length:=by rw [oe];rfl
 have hs:∀a b:Nat,b<=s.size->s.extract a b=⟨⟨(s.data.toList.take b).drop a⟩⟩:=by
  intro a b hb;apply ByteArray.ext;rw [ByteArray.data_extract];apply ue;rw [Array.toList_extract,List.extract_eq_drop_take];rw [List.drop_take]
 have Dx:(⟨⟨(s.data.toList.take hn).drop ln⟩⟩:ByteArray)=s.extract ln hn:=(hs ln hn (by omega)).symm;simp only [mU];rw [Dx];rcases bound lo vl 0 ln h1 e1 with⟨o1,rfl,d1⟩|⟨k1,rfl,s1⟩<;>rcases bound hi vh s.data.toList.length hn h2 e2 with⟨o2,rfl,d2⟩|⟨k2,rfl,s2⟩
 ·have e0:ln=0:=by omega
  have Ej:hn=s.size:=by omega
  subst e0;subst Ej;simp [Instr.sliceAt,Instr.slice,hu,Instr.sliceBounds]
 ·have e0:ln=0:=by omega
  subst e0;have:hn<=s.size:=by omega
  simp [Instr.sliceAt,Instr.slice,hu,Instr.sliceBounds,Instr.sliceBound,asIntOf,this]
 ·have Ej:hn=s.size:=by omega
  subst Ej;have h1:ln<=s.size:=by omega
  simp [Instr.sliceAt,Instr.slice,hu,Instr.sliceBounds,Instr.sliceBound,asIntOf,h1]
 ·have h1:ln<=hn:=by omega
  have h2:hn<=s.size:=by omega
  simp [Instr.sliceAt,Instr.slice,hu,Instr.sliceBounds,Instr.sliceBound,asIntOf,h1,h2]
def aBI(h:GO X s d=true):∃u,X.ub=some u∧(s=u.pt∧d=u.up∨s=u.up∧d=u.pt):=by
 unfold GO at h;split at h
 ·exact aX
 ·rename_i u hu;rw [z6,bM,bM]at h;rcases h with⟨a,b⟩|⟨a,b⟩
  ·exact⟨u,hu,.inl ⟨dU a,dU b⟩⟩
  ·exact⟨u,hu,.inr ⟨dU a,dU b⟩⟩
def aCf(hX:X.Okb)(hty:GO X s d=true)(h:aaV X x M=true)(hI:Inv X w0 S F ρ M w)(hv:aZ X.K ρ F w x v):(convert s d v).run X.P w= .ok v w:=by
 obtain⟨u,hu,hsd⟩:=aBI hty;have bz:=hX.ub u hu;unfold aaV at h;rw [hu]at h;simp only at h;split at h
 ·rename_i id;split at h
  ·rename_i ks cs hb;rw [fb]at hb;have jk:=FF h;cases hv with
   |ptr _ _ _ hd g o n c bA hhv=>
    obtain⟨hk,g',cur,e,fT,ev,hg,hr,hc,hy⟩:=hI.XJ hb bA;rw [hhv]at fT;injection fT with e1 e2 e3;injection e1 with e1;injection e1 with e1 e4 e5;subst e1;subst e4;have hye:e=u.e:=by
     unfold Cx.A4 at hy;rw [hu]at hy;simp only [jk,decide_true]at hy;exact dU hy
    subst hye;have aN2:cur.size=u.ks.length:=by
     have h1:=hr.1;simp only [oe]at h1;rw [h1,iS hk,jk]
    have zv:w.shape? g=some (u.e,u.ks.length):=by simp [World.shape?,hg,aN2]
    obtain⟨j,hj,hj0⟩:=bz.bt;have e0:(⟨g,0+0*hd.sz+0,none⟩:Addr)=⟨g,0,none⟩:=by simp
    rw [e0];rcases hsd with⟨rfl,rfl⟩|⟨rfl,rfl⟩
    ·exact Lib.run_to_unsafe w ⟨g,0,none⟩ bz.pt bz.up hj hj0 zv bz.ks
    ·exact Lib.run_from_unsafe w ⟨g,0,none⟩ bz.up bz.pt hj zv bz.aNM
  ·exact aX
 ·exact aX
def aBF(hX:X.Okb){M':aV}(hi:LJ X e o=true)(h:Ha X e o M=some (x,M')):
 fJ X o e M x M'∧∀ids,po T e o M=some ids->dV ids M M':=by
 unfold Ha at h;split at h
 ·rename_i op t a b u ho;refine⟨?_,λids bA=>by simp [po,ho]at bA⟩;split at h
  ·rename_i z hz;injection h with h;injection h with h3 h4;subst h3;subst h4;intro rd n w0 S F ρ w act next Q hI hr hn;refine fJ.mG (o:=o) (e:=e) (x:=z) (M:=M) (s:=λρe=>(do eqGuard op t a b (ρe a) (ρe b);binOp op t (ρe a) (ρe b))) (gF) (λρe=>kf) (λ{w0 S F ρ w ρe} hI hr=> ?_) hI hr hn;unfold amG at hz;split at hz
   ·rename_i s1 s2 h1 h2;have r1:=hr a;have r2:=hr b;rw [Xo h1]at r1;rw [Xo h2]at r2;generalize ρe a=va at r1;generalize ρe b=vb at r2;cases r1;cases r2;exact aCA hz a b w
   ·split at hz
    ·rename_i bb hb;injection hz with hz;subst hz;exact⟨_,(ahi hX (op:= .eql) hb (hr a) (hr b) a b).1 rfl,.bool _⟩
    ·rename_i bb hb;injection hz with hz;subst hz;exact⟨_,(ahi hX (op:= .neq) hb (hr a) (hr b) a b).2 rfl,.bool _⟩
    ·cases hz
  ·exact aX
 ·rename_i s d a ho;refine⟨?_,λids bA=>by simp [po,ho]at bA⟩;split at h
  ·rename_i eV;injection h with h;injection h with h3 h4;subst h3;subst h4;have hty:GO X s d=true:=by
    unfold LJ at hi;simp only [ho]at hi;exact hi
   intro rd n w0 S F ρ w act next Q hI hr hn;refine fJ.mG (o:=o) (e:=e) (x:=e a) (M:=M) (s:=λρe=>convert s d (ρe a)) (gF) (λρe=>kf) (λ{w0 S F ρ w ρe} hI hr=> ?_) hI hr hn;exact⟨_,aCf hX hty eV hI (hr a),hr a⟩
  ·exact aX
 ·rename_i t a lo hi2 mx ho;split at h
  ·rename_i z hz;injection h with h;injection h with h3 h4;subst h3;subst h4;refine⟨?_,λids bA=>dV.refl _ _⟩;unfold amF at hz;split at hz
   ·rename_i s hs;split at hz
    ·rename_i l hh bz hu e1 e2;split at hz
     ·rename_i hb;injection hz with hz;subst hz;simp only [bM,jm]at hb;obtain⟨⟨b1,b2⟩,b3⟩:=hb;obtain⟨i,d,z,f⟩:=hX.facts bz;have dW:X.P.underlying t=some .string :=by
       have kG:=f.u;rw [hu]at kG;have:=f.jN;cases d<;>simp [mK]at kG
       exact this
      intro rd n w0 S F ρ w act next Q hI hr hn;refine fJ.mG (o:=o) (e:=e) (M:=M) (x:= .str ⟨⟨(s.data.toList.take hh.toNat).drop l.toNat⟩⟩) (s:=λρe=>Instr.sliceAt t (ρe a) (lo.map ρe) (hi2.map ρe) none) (gF) (λρe=>kf) (λ{w0 S F ρ w ρe} hI hr=> ?_) hI hr hn;have r1:=hr a;rw [Xo hs]at r1;generalize ρe a=va at r1;cases r1;exact⟨_,aBb dW s (Ck hr lo) (Ck hr hi2) e1 e2 b1 b2 b3,.str _⟩
     ·cases hz
    ·cases hz
   ·cases hz
  ·exact aX
 ·rename_i c ho;split at h
  ·rename_i mM;split at h
   ·rename_i a ha;split at h
    ·rename_i id bA;split at h
     ·rename_i t r rs hb;injection h with h;injection h with h3 h4;subst h3;subst h4;rw [fb]at hb;have e2:c.args= #[a]:=Zy;refine⟨fJ.mG (s:=λρe=>Builtin.unsafeSliceData_ c.argTypes o.type #[ρe a]) (gF) (λρe=>QU) (λ{w0 S F ρ w ρe} hI hr=> ?_),λids bA=>dV.refl _ _⟩;have r1:=hr a;rw [bA]at r1;generalize ρe a=va at r1;cases r1 with
      |aC _ hd hh=>
       obtain⟨q1,q2,q3⟩:=hI.rep id _ hd hb hh;rcases q3 with⟨_,q4⟩|⟨g,o',c',cur,q3,hg,q4,q5,q6,q7⟩
       ·cases q4
       ·rw [q3];refine⟨.pointer (some ⟨g,o',none⟩),Lib.run_unsafeSliceData_row w _ _ _ _ _ (by simp at q4;omega),?_⟩;have:=aZ.ptr (K:=X.K) (F:=F) (w:=w) id 0 0 hd g o' _ _ hh q3;exact sP
     ·exact aX
    ·exact aX
   ·exact aX
  ·rename_i mM;split at h
   ·rename_i pt it p n ht ha;split at h
    ·rename_i id m hp hn;split at h
     ·rename_i t xs hb;split at h
      ·rename_i t' bz hu yV;split at h
       ·rename_i hc;split at h
        ·rename_i l hl;injection h with h;injection h with h3 h4;subst h3;subst h4;rw [fb]at hb;simp only [bM]at hc;obtain⟨c1,c2,c3,c4⟩:=hc;have c1:=dU c1;subst c1;have c2:=dU c2;have c3:0<m:=by simpa [Nat.blt_eq]using c3
         have c4:=uf c4;obtain⟨l1,l2⟩:=afA hl;have e1:c.argTypes= #[pt,it]:=by apply ue;simpa using ht
         have e2:c.args= #[p,n]:=Zy;obtain⟨i,d,z,f⟩:=hX.facts bz;obtain⟨i2,d2,z2,f2⟩:=hX.facts yV;have dW:X.P.underlying pt=some (.pointer t'):=alG;have Kg:X.P.cellsOf t'=1:=by
          have h1:=f2.size;rw [c2]at h1;simp [Program.cellsOf,f2.info,<-h1]
         refine⟨fJ.uh (s:=λρe=>Builtin.unsafeString_ #[pt,it] o.type #[ρe p,ρe n]) (gF) (λρe=>ajx) (λ{w0 S F ρ w ρe} hI hr=> ?_),λids bA=> ?_⟩
         ·have r1:=hr p;have r2:=hr n;rw [hp]at r1;rw [hn]at r2;generalize ρe p=vp at r1;generalize ρe n=vn at r2;cases r2;cases r1 with
          |ptr _ _ _ hd g0 o0 n0 c0 hh hv=>
           obtain⟨q1,q2,q3⟩:=hI.rep id _ hd hb hh;rcases q3 with⟨q3,_⟩|⟨g,o',c',cur,q3,hg,q4,q5,q6,q7⟩
           ·rw [hv]at q3;cases q3
           ·have q3':=q3;rw [hv]at q3';injection q3' with k1 k2 k3;injection k1 with k1;injection k1 with k4 k5 k6;subst k4;subst k5;subst k3;have ev:hd.sz=1:=by
             rw [q1];show(X.K t').length =1;have:(X.K t').length =i2.size:=f2.ks;rw [this,<-f2.size,c2]
            rw [ev]at q6 q7;have hm:m<=xs.length:=by
             have:=(eZ.1 (l2 (m- 1) (l[m- 1]'(by omega)) (dD (by omega)))).1;omega
            have zv:w.shape? g0=some (t',cur.size):=by simp [World.shape?,hg]
            have rW:∀j x,l[j]?=some x->w.cell? ((⟨g0,o0,none⟩:Addr).add j)=some (.int .u8 x.toNat):=by
             intro j x hj;obtain⟨v,wc,jQ⟩:=q7 j _ (l2 j x hj) 0 _ rfl;cases jQ;rw [pf,cell_of_row w g0 (o0+j) cur _ (0,0) hg];simpa using wc
            have dE:=asY (P:=X.P) (w:=w) pt it o.type t' dW Kg g0 o0 cur.size zv l (λe=>by rw [e]at l1;simp at l1;omega) (by omega) (by omega) rW;have dT:hd.eM=some g0:=oo;have jB:=ayl w g0 o0 l.length;have Ma:∀a,F a->a.block≠g0:=(hI.sep id _ hd g0 hb rfl hh dT).2.2;refine⟨.string ⟨l.toArray⟩,w.freeze ⟨g0,o0,none⟩ l.length,ρ,F,?_,hI.write hb rfl hh dT jB trivial,⟨λ_ h=>h,λ_ _ h=>h,hI.xt jB (λk hk a ha=>Kt)⟩,.str _⟩;rw [<-l1];simpa using dE
         ·simp only [po,ho,mM]at bA;rw [ha]at bA;simp only [Option.some.injEq]at bA;subst bA;rw [hp];exact dV.set _ _ _
        ·exact aX
       ·exact aX
      ·exact aX
     ·exact aX
    ·exact aX
   ·exact aX
  ·rename_i f mM;split at h
   ·rename_i g hf;split at h
    ·rename_i a eN ha;injection h with h;injection h with h3 h4;subst h3;subst h4;refine⟨?_,λids bA=>dV.refl _ _⟩;unfold isNe at eN;split at eN
     ·cases eN
     ·rename_i u Bn;have hg:=dU eN;subst hg;obtain⟨fn,f1,f2,f3,f4,f5⟩:=(hX.ub u Bn).ne;have e2:c.args= #[a]:=Zy;intro rd n w0 S F ρ w act next Q hI hr hn;have h1:=hr f;rw [hf]at h1;generalize hv:act.eval f=vf at h1;cases h1 with
      |dC _ _ _ v1 v2 fg fY r1 r2=>
       have wc:v1=[]:=by simpa using fg
       have jQ:v2=[]:=by simpa using fY
       subst wc;subst jQ;refine zP (gF) (v:=act.eval a) (w':=w) ?_ (hn _ w ρ F hI (Grow.refl _ _ _) (hr a));simp only [execOp,ho,resolve,mM,hv,Deferred.ofValue,fx,iz,gE,invoke,e2];have e1:(#[]:Array Value)++ #[a].map act.eval++ #[]= #[act.eval a]:=by simp
       have h5:=run_callFunc_extern f1 f2 f3 f4 f5 #[act.eval a] w;rw [Lib.run_noEscape,gE]at h5;rw [e1];exact h5
    ·exact aX
   ·exact aX
  ·exact aX
 ·cases h
def fzU(b:UInt8)(k:UInt8->Option R):Option R:=qD b.toNat λn=>k (UInt8.ofNat n)
def aEZ(b:UInt8)(k:UInt8->Option R):fzU b k=k b:=by unfold fzU;rw [QZ,UInt8.ofNat_toNat]
noncomputable def fzX (x:AV) (k:AV->Option R):Option R:=
 match x with
 | .str s=>sw fzU s.data.toList λl=>k (.str ⟨⟨l⟩⟩)
 |x=>k x
def ZY(x:AV)(k:AV->Option R):fzX x k=k x:=by
 unfold fzX;split
 ·rw [sR aEZ]
 ·rfl
noncomputable def xf (X:Cx) (T:iw R) (e:Operand->AV) (o:Oper) (M:aV) (k:AV->aV->Option R):Option R:=
 match LJ X e o with
 |true=>(match Ha X e o M with|some (x,M')=>fzX x λx=>k x M'|none=>none)
 |false=>pz X T e o M k
noncomputable def sd (X:Cx) (T:iw R) (e:Operand->AV) (o:Oper) (M:aV) (k:AV->aV->Option R):Option R:=
 match X.pk with
 |true=>xf X T e o M k
 |false=>xf X T e o M (Sz e o k)
def YP(X:Cx)(T:iw R)(e:Operand->AV)(o:Oper)(M:aV)(k:AV->aV->Option R):sd X T e o M k=xf X T e o M k:=by
 unfold sd;split
 ·rfl
 ·rw [show Sz e o k=k from funext λx=>funext λM=>aDS e o k x M]
def aAK(hX:X.Okb)(hT:T.oj X)(h:xf X T e o M k=some r):
 ∃x M',fJ X o e M x M'∧k x M'=some r∧∀ids,po T e o M=some ids->dV ids M M':=by
 unfold xf at h;split at h
 ·rename_i hi;split at h
  ·rename_i x M' hx;rw [ZY]at h;obtain⟨h1,h2⟩:=aBF (T:=T) hX hi hx;exact⟨x,M',@h1,h,h2⟩
  ·exact aX
 ·exact afN hX hT h
def Jh(hX:X.Okb)(hT:T.oj X)(h:sd X T e o M k=some r):
 ∃x M',fJ X o e M x M'∧k x M'=some r∧∀ids,po T e o M=some ids->dV ids M M':=aAK hX hT (by rwa [YP]at h)
end
end Go.aA
namespace Go.aA
def ajG{p:Prop}(h:p:=by
 intro a v e hc;subst e;simp [World.cell?,h]at hc):p:=h
end Go.aA
namespace Go.aA
open Go
noncomputable section
variable {X:Cx} {R:Type}
variable{D:Nat}{w:World}
def less(F:bT)(D:Nat)(a:Addr):Prop:=F a∧a.block≠D
def aZ.shrink{K:TypeId->ei}{ρ:bX}{F:bT}(hD:∀a v,a.block=D->w.cell? a≠some v){x:AV}{v:Value}(h:aZ K ρ F w x v):aZ K ρ (less F D) w x v:=by
 induction h with
 |top v=>exact .top v
 |int k n=>exact .int k n
 |bool b=>exact .bool b
 |str s=>exact .str s
 |agg cs vs hl _ ih=>exact .agg cs vs hl ih
 |ew cs vs hl _ ih=>exact .ew cs vs hl ih
 |iF=>exact .iF
 |iA t row off a vs hk hl hc _ ih=>exact .iA t row off a vs hk hl (λj v hv=>⟨(hc j v hv).1,(hc j v hv).2,λe=>hD _ v e (hc j v hv).1⟩) ih
 |ptr id i off hd g o n c bA hv=>exact .ptr id i off hd g o n c bA hv
 |kM t=>exact .kM t
 |ab t xs a cap vss hl lR ki hk hc _ ih=>
  exact .ab t xs a cap vss hl lR ki hk (λi vs fy=>⟨(hc i vs fy).1,λj v hv=>⟨((hc i vs fy).2 j v hv).1,((hc i vs fy).2 j v hv).2,λe=>hD _ v e ((hc i vs fy).2 j v hv).1⟩⟩) ih
 |aC id hd bA=>exact .aC id hd bA
 |gQ=>exact .gQ
 |dC f first fL vf vc hf hc _ _ kS fr=>exact .dC f first fL vf vc hf hc kS fr
 |ke=>exact .ke
 |iB id hd g bA hv=>exact .iB id hd g bA hv
 |mp id hd bA=>exact .mp id hd bA
 |mg=>exact .mg
 |lz id m hd g o n c cap bA hv=>exact .lz id m hd g o n c cap bA hv
 |vw id lo m hd g o n c cap bA hv hc hb=>exact .vw id lo m hd g o n c cap bA hv hc hb
 |tw id lo=>exact .tw id lo
 |tu id lo a cap=>exact .tu id lo a cap
 |jR a cap=>exact .jR a cap
def Iz{lp:Loop}(h:w.heap[D]?=some (.loop lp)):∀(a:Addr) v,a.block=D->w.cell? a≠some v:=ajG
def atH{ds:Option (List Deferred)}(h:w.heap[D]?=some (.deferred ds)):∀(a:Addr) v,a.block=D->w.cell? a≠some v:=ajG
def aA5{o:Obj}{a:Addr}(h:a.block≠D):(w.putObj D o).cell? a=w.cell? a:=by
 unfold World.cell?;rw [rS h]
def aZ.less{K:TypeId->ei}{ρ:bX}{F:bT}{w:World}{D:Nat}(hD:∀a v,a.block=D->w.cell? a≠some v)(o:Obj){x:AV}{v:Value}(h:aZ K ρ F w x v):aZ K ρ (less F D) (w.putObj D o) x v:=
 (h.shrink hD).mono (λ_ _ h=>h) (λ_ h=>h) (λa v ha hc=>by rw [aA5 ha.2];exact hc)
def jg.less{ρ:bX}{F:bT}{w:World}{D:Nat}(hD:∀a v,a.block=D->w.cell? a≠some v)(o:Obj){env:cY}{tmps:Array Value}(h:jg X ρ F w env tmps):jg X ρ (less F D) (w.putObj D o) env tmps:=
 λt=>(h t).less hD o
def km.less{ρ:bX}{F:bT}{w:World}{D:Nat}(hD:∀a v,a.block=D->w.cell? a≠some v)(o:Obj){hd:Hd}{b:ep}(eN:b.iM=false->∀g,hd.eM=some g->g≠D)(h:km X ρ F w hd b):km X ρ (less F D) (w.putObj D o) hd b:=by
 cases b with
 |var ks cs=>
  obtain⟨h1,h2,g,cur,e,hv,hh,hr,hy⟩:=h;exact⟨h1,h2,g,cur,e,hv,by rw [rS (eN rfl g (oo))];exact hh,⟨hr.1,λj x v hx hv=>(hr.2 j x v hx hv).less hD o⟩,hy⟩
 |row t xs=>
  obtain⟨h1,h2,h3⟩:=h;refine⟨h1,h2,?_⟩;rcases h3 with h3|⟨g,of,c,cur,hv,hh,h4,h5,h6,h7⟩
  ·exact .inl h3
  ·refine .inr ⟨g,of,c,cur,hv,by rw [rS (eN rfl g (oo))];exact hh,h4,h5,h6,λi row hi j x hx=> ?_⟩;obtain⟨v,kX,hr⟩:=h7 i row hi j x hx;exact⟨v,kX,hr.less hD o⟩
 |map kd ag ks es=>
  obtain⟨nH,g,mes,clock,hv,hh,ev,uQ⟩:=h;exact⟨nH,g,mes,clock,hv,by rw [rS (eN rfl g (oo))];exact hh,ev,λi e me he hm=>let⟨a,r1,r2⟩:=uQ i e me he hm;⟨a,r1.less hD o,r2.less hD o⟩⟩
 |loop s env busy xl=>
  obtain⟨g,lp,hv,hh,h1,h2,h3,h4,h5,h6⟩:=h;exact⟨g,lp,hv,by rw [rS (eN rfl g (oo))];exact hh,h1,h2,h3,h4,h5.less hD o,h6⟩
 |HW=>
  obtain⟨g,hv,hh⟩:=h;exact⟨g,hv,by rw [rS (eN rfl g (oo))];exact hh⟩
 |eW t xs=>exact aZ.less (K:=X.K) hD o h
 |dead=>trivial
def Inv.OI{w0 w:World}{S:Sc}{F:bT}{ρ:bX}{M:aV}(hI:Inv X w0 S F ρ M w){D:Nat}(hF:F ⟨D,0,none⟩)(hD:∀a v,a.block=D->w.cell? a≠some v)(hN:∀a,S.F0 a->a.block≠D)(o:Obj):
 Inv X w0 S (less F D) ρ M (w.putObj D o) where
 os:=hI.os
 tape:=hI.tape
 output:=hI.output
 size:=by simpa using hI.size
 frame:=λg h1 h2=>by
  have eN:g≠D:=by
   rintro rfl;rcases hI.gk _ hF with h|h|h
   ·exact hN _ h rfl
   ·exact h2 h
   ·simp only at h;omega
  rw [rS eN];exact hI.frame g h1 h2
 len:=hI.len
 rep:=λid b hd hb hh=>(hI.rep id b hd hb hh).less hD o (λeU g dT e=>(hI.sep id b hd g hb eU hh dT).2.2 _ hF e.symm)
 sep:=λid b hd g hb eU hh dT=>let⟨a1,a2,a3⟩:=hI.sep id b hd g hb eU hh dT;⟨by simpa using a1,a2,λa ha=>a3 a ha.1⟩
 iX:=hI.iX
 fz:=λa ha=>by simpa using hI.fz a ha.1
 gh:=λg=>(hI.gh g).less hD o
 one:=hI.one
 gk:=λa ha=>hI.gk a ha.1
 fin:=λa ha=>⟨hI.fin a ha,hN a ha⟩
def Inv.aEr{w0 w:World}{S:Sc}{F:bT}{ρ:bX}{M:aV}(hI:Inv X w0 S F ρ M w){id:Nat}{b:ep}{hd:Hd}{g:Nat}(mi:M[id]?=some .dead)(hh:ρ[id]?=some hd)(dT:hd.eM=some g)
 (h1:g<w.heap.size) (h2:S g∨w0.heap.size<=g) (h3:∀a,F a->a.block≠g) (h4:∀(id':Nat) b' dI,M[id']?=some b'->b'.iM=false->ρ[id']?=some dI->dI.eM≠some g) (jX:km X ρ F w hd b):
 Inv X w0 S F ρ (M.set id b) w where
 os:=hI.os
 tape:=hI.tape
 output:=hI.output
 size:=hI.size
 frame:=hI.frame
 len:=by simp [hI.len]
 rep:=λi b' dI hb eo=>by
  rw [zX]at hb;split at hb
  ·rename_i e;subst e;split at hb
   ·injection hb with hb;subst hb;rw [hh]at eo;injection eo with eo;subst eo;exact jX
   ·cases hb
  ·exact hI.rep i b' dI hb eo
 sep:=λi b' dI g' hb eU eo lv=>by
  rw [zX]at hb;split at hb
  ·rename_i e;subst e;rw [hh]at eo;injection eo with eo;subst eo;rw [dT]at lv;injection lv with e;subst e;exact⟨h1,h2,h3⟩
  ·exact hI.sep i b' dI g' hb eU eo lv
 iX:=λi j b1 b2 tO mz g' qz wy jb ao7 ao6 uO uN wv lW=>by
  rw [zX]at wy jb;split at wy
  ·rename_i e;subst e;rw [if_neg qz]at jb;rw [hh]at uO;injection uO with uO;subst uO;rw [dT]at wv;injection wv with e;subst e;exact h4 j b2 mz jb ao6 uN lW
  ·split at jb
   ·rename_i e;subst e;rw [hh]at uN;injection uN with uN;subst uN;rw [dT]at lW;injection lW with e;subst e;exact h4 i b1 tO wy ao7 uO wv
   ·exact hI.iX i j b1 b2 tO mz g' qz wy jb ao7 ao6 uO uN wv lW
 fz:=hI.fz
 gh:=hI.gh
 one:=hI.one
 gk:=hI.gk
 fin:=hI.fin
end
end Go.aA
namespace Go.aA
def Zp{p:Prop}(h:p:=by simp [Act.put,pj,Pp eN]):p:=h
end Go.aA
namespace Go.aA
def wL:=@List.nodup_nil
def Pu:=@beq_self_eq_true
def Pn:=@List.map_map
def zY:=@Option.bind_some
end Go.aA
namespace Go.aA
open Go
noncomputable section
variable {X:Cx} {R:Type}
variable{x:AV}{a:Act}{ops:Array Oper}{tmps:Array Value}{d j:Nat}{nt:Nt}{o:Oper}{r:R}{v:Value}{w w':World}{F F' db:bT}{ρ:bX}
inductive Rd where
 |out
 |tA
 |at(id:Nat)
 deriving Inhabited,DecidableEq
structure Cy where
 r:Option Nat
 db:bT
 tv:Nat->Value
structure St where
 env:cY
 mem:aV
 iR:dP
 rd:Rd
variable{st bh stg:St}{k:St->Option R}
def Marks(F:bT)(w:World)(db:bT)(ds:List Deferred):Prop:=
 (∀a,db a->F a)∧∃ms:dP,ds=ms.map (λD=>({target:= .collected D,args:= #[]}:Deferred))∧ms.Nodup∧∀D∈ms,(∀a,db a->a.block≠D)∧F ⟨D,0,none⟩∧w.heap[D]?=some (.deferred (some []))
def Q4(F:bT)(w:World)(db:bT):dP->List Deferred->Prop
 | [],ds=>Marks F w db ds
 |_::_,_=>False
def KF(F:bT)(w:World)(rdc:Option Nat):Prop:=rdc=none∨∃g r,rdc=some g∧F ⟨g,0,none⟩∧w.heap[g]?=some (.loop r)
def Marks.nil(F:bT)(w:World)(h:∀a,db a->F a):Marks F w db []:=⟨h,[],rfl,wL,λ_ h=>hU⟩
def Marks.mono(hF:∀a,F a->F' a)(hb:∀a,F a->w'.heap[a.block]?=w.heap[a.block]?){ds:List Deferred}(h:Marks F w db ds):Marks F' w' db ds:=by
 obtain⟨h0,ms,h1,h2,h3⟩:=h;exact⟨λa ha=>hF _ (h0 a ha),ms,h1,h2,λD hD=>⟨(h3 D hD).1,hF _ (h3 D hD).2.1,(hb _ (h3 D hD).2.1).trans (h3 D hD).2.2⟩⟩
def Q4.mono{F F':bT}{w w':World}{db:bT}(hF:∀a,F a->F' a)(hb:∀a,F a->w'.heap[a.block]?=w.heap[a.block]?):∀{ids:dP} {ds:List Deferred},Q4 F w db ids ds->Q4 F' w' db ids ds
 | [],_,hd=>Marks.mono hF hb hd
def KF.mono(hF:∀a,F a->F' a)(hb:∀a,F a->w'.heap[a.block]?=w.heap[a.block]?){rdc:Option Nat}(hr:KF F w rdc):KF F' w' rdc:=by
 rcases hr with h|⟨g,r,h1,h2,h3⟩
 ·exact .inl h
 ·exact .inr ⟨g,r,h1,hF _ h2,(hb _ h2).trans h3⟩
structure gD(X:Cx)(nt:Nt)(st:St)(rdc:Cy)(F:bT)(ρ:bX)(a:Act)(w:World):Prop where
 env:jg X ρ F w st.env a.tmps
 size:a.tmps.size=nt.n
 defs:Q4 F w rdc.db st.iR a.defers
 rd:KF F w rdc.r
 kept:∀t,nt.mask.testBit t=false->a.tmps.getD t undef=rdc.tv t
def gD.grow{nt:Nt}{st:St}{rdc:Cy}{F F':bT}{ρ ρ':bX}{a:Act}{w w':World}(h:gD X nt st rdc F ρ a w)(g:Grow F F' ρ ρ' w w'):gD X nt st rdc F' ρ' a w':=
 ⟨h.env.grow g,h.size,h.defs.mono g.hF g.hb,h.rd.mono g.hF g.hb,h.kept⟩
def qa(X:Cx)(nt:Nt)(c:Code)(st:St)(e:Exit)(bh:St):Prop:=
 ∀{rdc:Cy} {n:Nat} {w0:World} {S:Sc} {F:bT} {ρ:bX} {a:Act} {w:World} {Q:Exit->Act->World->Prop},Inv X w0 S F ρ st.mem w->gD X nt st rdc F ρ a w->
  (∀a' w' F' ρ',Inv X w0 S F' ρ' bh.mem w'->gD X nt bh rdc F' ρ' a' w'->Grow F F' ρ ρ' w w'->Q e a' w')->c.wpIn (lI rdc.r) n X.P Q a w
def kP(nt:Nt)(st:St)(dst:Option Tmp)(x:AV)(M:aV)(k:St->Option R):Option R:=
 match dst with
 |none=>k {st with mem:=M}
 |some d=>aR (Nat.blt d nt.n&&nt.mask.testBit d) (k {st with env:=(d,x)::st.env,mem:=M})
def jg.put{env:cY}(h:jg X ρ F w env tmps)(hd:d<tmps.size)(hx:aZ X.K ρ F w x v):
 jg X ρ F w ((d,x)::env) (tmps.setIfInBounds d v):=by
 intro t;simp only [p0,look_nil]
 by_cases ht:t=d
 ·subst ht;simp only [Pu,oJ];have:(tmps.setIfInBounds t v).getD t undef=v:=by simp [pj,hd]
  rw [this];exact hx
 ·have:(t==d)=false:=by simpa using ht
  simp only [this,lO,nv];have e:(tmps.setIfInBounds d v).getD t undef=tmps.getD t undef:=by simp [pj,Pp (Ne.symm ht)]
  rw [e];exact h t
def ahu{mask:Nat}(hd:mask.testBit d=true){tv:Nat->Value}(h:∀t,mask.testBit t=false->a.tmps.getD t undef=tv t):∀t,mask.testBit t=false->(a.put (some d) v).tmps.getD t undef=tv t:=by
 intro t ht;have eN:d≠t:=λe=>by subst e;rw [hd]at ht;cases ht
 rw [<-h t ht];exact Zp
def OX{dst:Option Tmp}{M:aV}(hk:kP nt st dst x M k=some r):
 ∃bh,k bh=some r∧bh.mem=M∧∀{rdc:Cy} {F:bT} {ρ:bX} {a:Act} {w:World} {v:Value},gD X nt st rdc F ρ a w->aZ X.K ρ F w x v->gD X nt bh rdc F ρ (a.put dst v) w:=by
 unfold kP at hk;cases dst with
 |none=>exact⟨_,hk,rfl,λ{rdc F ρ a w v} h _=>⟨h.env,h.size,h.defs,h.rd,h.kept⟩⟩
 |some d=>
  replace hk:=dq hk;obtain⟨hd,hk⟩:=hk;refine⟨_,hk,rfl,λ{rdc F ρ a w v} h hx=>⟨h.env.put (by rw [h.size];simp only [bM]at hd;simpa using hd.1) hx,by simp [Act.put,h.size],h.defs,h.rd,ahu (by simp only [bM]at hd;exact hd.2) h.kept⟩⟩
def Aw(ops:Array Oper)(j:Nat):Option Nat:=(ops[j]?).bind (·.dst)
def qR(X:Cx)(T:iw R)(ops:Array Oper):List Oper->St->(St->Option R)->Option R
 | [],st,k=>k st
 |o::rest,st,k=>
  match o.guard with
  |none=>sd X T (kY X st.env) o st.mem λx M=>kP T.nt st o.dst x M λbh=>qR X T ops rest bh k
  |some (j,want)=>
   match Aw ops j with
   |none=>none
   |some d=>
    match look st.env d with
    | .bool b=>
      match b with
      |true=>match want with
       |true=>sd X T (kY X ((d,.bool true)::st.env)) o st.mem λx M=>kP T.nt {st with env:=(d,.bool true)::st.env} o.dst x M λbh=>qR X T ops rest bh k
       |false=>kP T.nt {st with env:=(d,.bool true)::st.env} o.dst (.ew []) st.mem λbh=>qR X T ops rest bh k
      |false=>match want with
       |false=>sd X T (kY X ((d,.bool false)::st.env)) o st.mem λx M=>kP T.nt {st with env:=(d,.bool false)::st.env} o.dst x M λbh=>qR X T ops rest bh k
       |true=>kP T.nt {st with env:=(d,.bool false)::st.env} o.dst (.ew []) st.mem λbh=>qR X T ops rest bh k
    | .ew []=>kP T.nt st o.dst (.ew []) st.mem λbh=>qR X T ops rest bh k
    |_=>none
def XK{K:TypeId->ei}:aZ K ρ F w (.ew []) undef:= .ew [] [] rfl (λj x v h _=>hU)
def af2(hd:Aw ops j=some d){b:Bool}(h:tmps.getD d undef= .bool b):yielded ops tmps j=some b:=by
 unfold yielded;unfold Aw at hd;rw [hd];simp only [zY];rw [pj]at h;cases ht:tmps[d]? with
 |none=>rw [ht]at h;simp [undef]at h
 |some v=>rw [ht]at h;simp only [pb]at h;rw [h]
def aeV(hd:Aw ops j=some d)(h:tmps.getD d undef=undef):yielded ops tmps j=none:=by
 unfold yielded;unfold Aw at hd;rw [hd];simp only [zY];rw [pj]at h;cases ht:tmps[d]? with
 |none=>rfl
 |some v=>rw [ht]at h;simp only [pb]at h;rw [h];rfl
def ayQ{rdc:Cy}{n:Nat}{Q:Exit->Act->World->Prop}{i:Nat}{rest:dP}(ho:ops[i]?=some o)
 (h:wpOpIn (lI rdc.r) n X.P ops Q i (wpOpsIn (lI rdc.r) n X.P ops Q rest) a w):wpOpsIn (lI rdc.r) n X.P ops Q (i::rest) a w:=by
 rw [wpOpsIn_cons];exact h
def JN(X:Cx)(nt:Nt)(ops:Array Oper)(o:Oper)(st bh:St):Prop:=
 ∀{rdc:Cy} {n:Nat} {w0:World} {S:Sc} {F:bT} {ρ:bX} {a:Act} {w:World} {Q:Exit->Act->World->Prop} {K:Act->World->Prop},Inv X w0 S F ρ st.mem w->gD X nt st rdc F ρ a w->
  (∀a' w' F' ρ',Inv X w0 S F' ρ' bh.mem w'->gD X nt bh rdc F' ρ' a' w'->Grow F F' ρ ρ' w w'->K a' w')->
  ∀i,ops[i]?=some o->wpOpIn (lI rdc.r) n X.P ops Q i K a w
def ahT{M':aV}(LZ:fJ X o (kY X stg.env) st.mem x M')
 (hg:∀{rdc:Cy} {F:bT} {ρ:bX} {a:Act} {w:World},gD X nt st rdc F ρ a w->gD X nt stg rdc F ρ a w∧Region.wanted o (yielded ops a.tmps)=true)
 (hm:bh.mem=M') (hp:∀{rdc:Cy} {F:bT} {ρ:bX} {a:Act} {w:World} {v:Value},gD X nt stg rdc F ρ a w->aZ X.K ρ F w x v->gD X nt bh rdc F ρ (a.put o.dst v) w):JN X nt ops o st bh:=by
 intro rdc n w0 S F ρ a w Q K hI hs hk i hi;obtain⟨dv,hw⟩:=hg hs;unfold wpOpIn;simp only [hi,hw,oJ];refine LZ hI (λy=>Ae hI dv.env y) ?_;intro v w' ρ' F' dO jB hx;exact hk _ w' F' ρ' (hm▸dO) (hp (dv.grow jB) hx) jB
def ahm
 (hg:∀{rdc:Cy} {F:bT} {ρ:bX} {a:Act} {w:World},gD X nt st rdc F ρ a w->gD X nt stg rdc F ρ a w∧Region.wanted o (yielded ops a.tmps)=false)
 (hm:bh.mem=st.mem) (hp:∀{rdc:Cy} {F:bT} {ρ:bX} {a:Act} {w:World} {v:Value},gD X nt stg rdc F ρ a w->aZ X.K ρ F w (.ew []) v->gD X nt bh rdc F ρ (a.put o.dst v) w):JN X nt ops o st bh:=by
 intro rdc n w0 S F ρ a w Q K hI hs hk i hi;obtain⟨dv,hw⟩:=hg hs;unfold wpOpIn;simp only [hi,hw,lO,nv];exact⟨λ_ _=>trivial,hk _ w F ρ (hm▸hI) (hp dv XK) (Grow.refl _ _ _)⟩
def W7(h:o.guard=none)(y:Nat->Option Bool):Region.wanted o y=true:=by unfold Region.wanted;rw [h]
def I2{want:Bool}(h:o.guard=some (j,want))(y:Nat->Option Bool):Region.wanted o y=(y j==some want):=by unfold Region.wanted;rw [h]
def gD.refine{nt:Nt}{st:St}{rdc:Cy}{F:bT}{ρ:bX}{a:Act}{w:World}(h:gD X nt st rdc F ρ a w){d:Nat}{x:AV}(hx:look st.env d=x):gD X nt {st with env:=(d,x)::st.env} rdc F ρ a w:=by
 refine⟨λt=> ?_,h.size,h.defs,h.rd,h.kept⟩;simp only [p0,look_nil]
 by_cases ht:t=d
 ·subst ht;simp only [Pu,oJ];rw [<-hx];exact h.env t
 ·have:(t==d)=false:=by simpa using ht
  simp only [this,lO,nv];exact h.env t
def aBn(hX:X.Okb){T:iw R}(hT:T.oj X){rest:List Oper}(h:qR X T ops (o::rest) st k=some r):
 ∃bh,JN X T.nt ops o st bh∧qR X T ops rest bh k=some r:=by
 simp only [qR]at h;split at h
 ·rename_i L8;obtain⟨x,M',LZ,h,_⟩:=Jh hX hT h;obtain⟨bh,h,hm,hp⟩:=OX (X:=X) h;exact⟨bh,ahT (stg:=st) LZ (λ{rdc F ρ a w} hs=>⟨hs,W7 L8 _⟩) hm hp,h⟩
 ·rename_i j want L8;split at h
  ·exact aX
  ·rename_i d hd;have alm:∀{b:Bool},look st.env d= .bool b->∀{rdc:Cy} {F:bT} {ρ:bX} {a:Act} {w:World},gD X T.nt st rdc F ρ a w->yielded ops a.tmps j=some b:=by
    intro b hb rdc F ρ a w hs;have:=hs.env d;rw [hb]at this;generalize hv:a.tmps.getD d undef=v at this;cases this;exact af2 hd hv
   have run:∀(b:Bool),look st.env d= .bool b->want=b->(sd X T (kY X ((d,.bool b)::st.env)) o st.mem λx M=>kP T.nt {st with env:=(d,.bool b)::st.env} o.dst x M λbh=>qR X T ops rest bh k)=some r->
    ∃bh,JN X T.nt ops o st bh∧qR X T ops rest bh k=some r:=by
    intro b hb LO h;obtain⟨x,M',LZ,h,_⟩:=Jh hX hT h;obtain⟨bh,h,hm,hp⟩:=OX (X:=X) h;refine⟨bh,ahT (stg:={st with env:=(d,.bool b)::st.env}) LZ (λ{rdc F ρ a w} hs=>⟨hs.refine hb,?_⟩) hm hp,h⟩;rw [I2 L8,alm hb hs,LO];simp
   have skip:∀(b:Bool),look st.env d= .bool b->want≠b->(kP T.nt {st with env:=(d,.bool b)::st.env} o.dst (.ew []) st.mem λbh=>qR X T ops rest bh k)=some r->
    ∃bh,JN X T.nt ops o st bh∧qR X T ops rest bh k=some r:=by
    intro b hb LO h;obtain⟨bh,h,hm,hp⟩:=OX (X:=X) h;refine⟨bh,ahm (stg:={st with env:=(d,.bool b)::st.env}) (λ{rdc F ρ a w} hs=>⟨hs.refine hb,?_⟩) hm hp,h⟩;rw [I2 L8,alm hb hs];simp only [beq_eq_false_iff_ne,ne_eq,Option.some.injEq];exact λe=>LO e.symm
   split at h
   ·rename_i b hb;split at h
    ·split at h
     ·exact run true hb rfl h
     ·exact skip true hb (by simp) h
    ·split at h
     ·exact run false hb rfl h
     ·exact skip false hb (by simp) h
   ·rename_i hb;obtain⟨bh,h,hm,hp⟩:=OX (X:=X) h;refine⟨bh,ahm (stg:=st) (λ{rdc F ρ a w} hs=>⟨hs,?_⟩) hm hp,h⟩;have:=hs.env d;rw [hb]at this;generalize hv:a.tmps.getD d undef=v at this;have hu:v=undef:=by
     cases this with
     |ew _ vs hl _=>have:vs=[]:=Cg (pw);subst this;rfl
    rw [I2 L8,aeV hd (hv.trans hu)];simp
   ·exact aX
def afM(hX:X.Okb){T:iw R}(hT:T.oj X){ops:Array Oper}:∀(rest:List Oper) (m:Nat) {st:St} {k:St->Option R} {r:R},(∀(i:Nat),rest[i]?=ops[m+i]?)->qR X T ops rest st k=some r->
 ∃bh,k bh=some r∧∀{rdc:Cy} {n:Nat} {w0:World} {S:Sc} {F:bT} {ρ:bX} {a:Act} {w:World} {Q:Exit->Act->World->Prop},Inv X w0 S F ρ st.mem w->gD X T.nt st rdc F ρ a w->
  (∀a' w' F' ρ',Inv X w0 S F' ρ' bh.mem w'->gD X T.nt bh rdc F' ρ' a' w'->Grow F F' ρ ρ' w w'->Q .normal a' w')->wpOpsIn (lI rdc.r) n X.P ops Q ((List.range rest.length).map (m+ ·)) a w
 | [],m,st,k,r,_,h=>⟨st,h,λ{rdc n w0 S F ρ a w Q} hI hs hq=>hq a w F ρ hI hs (Grow.refl _ _ _)⟩
 |o::rest,m,st,k,r,hr,h=>by
  obtain⟨c7,h1,h⟩:=aBn hX hT h;obtain⟨kE,h,h2⟩:=afM hX hT rest (m+1) (λi=>by have:=hr (i+1);rw [show m+1+i=m+(i+1)by omega];simpa using this) h;refine⟨kE,h,λ{rdc n w0 S F ρ a w Q} hI hs hq=> ?_⟩;have ho:ops[m]?=some o:=by have:=hr 0;simpa using this.symm
  have hl:(List.range (o::rest).length).map (m+ ·)=m::(List.range rest.length).map ((m+1)+ ·):=by
   rw [mf,List.range_succ_eq_map,nu,Pn]
   congr 1
   apply List.map_congr_left;intro i _;exact eu
  rw [hl];refine ayQ ho (h1 hI hs ?_ m ho);intro a' w' F' ρ' dO dv hg;exact h2 dO dv (λEl qo tT sY Dy Dv K4=>hq El qo tT sY Dy Dv (hg.trans K4))
end
end Go.aA

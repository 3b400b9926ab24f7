/-
  The engine, part N: lists of operations; what is known of a frame.
-/
import Derived.RangeFuncRecord
import Derived.WalkKit
import Derived.Below
import Derived.DataElems
import Derived.ChangeKeysEq
import Derived.Laws.StructEq
import Derived.WalkSpells
import Derived.MapKept
import Derived.Lib.UnsafeStr
import Derived.Lib.Builder
import Derived.Laws.Externs
import Derived.OrdersIn
set_option linter.all false
set_option linter.deprecated false
set_option maxHeartbeats 4000000
namespace Go.az
def gM{p:Prop}(h:p:=by simp at h):p:=h
def oZ{p:Prop}(h:p:=by simpa using hl):p:=h
def PS{p:Prop}(h:p:=by have:=(eU.1 hx).1;omega):p:=h
def B4{p:Prop}(h:p:=by simp [dk]at h):p:=h
def Yt{p:Prop}(h:p:=by have:=(eU.1 hy).1;omega):p:=h
def I9{p:Prop}(h:p:=by simpa using hk):p:=h
def I8{p:Prop}(h:p:=by simpa using hx):p:=h
def I3{p:Prop}(h:p:=by simp at h;subst h;simp):p:=h
end Go.az
namespace Go.az
def eU:=@List.getElem?_eq_some_iff
def dz:=@List.getElem?_eq_getElem
def dO:=@List.getElem_mem
def bS:=@Bool.and_eq_true
def E7:=@List.mem_flatMap
def Xb:=@List.eq_of_mem_replicate
end Go.az
namespace Go.az
open Go
variable{F:Addr->Prop}{v:Value}{w:World}
inductive Kind where
 |int(k:IntKind)
 |bool
 |str
 |slice(t:TypeId)
 |raw
 |any
 deriving DecidableEq,Inhabited
variable{k:Kind}{ks:List Kind}
inductive AV where
 |top
 |int(k:IntKind)(n:Int)
 |bool(b:Bool)
 |str(s:ByteArray)
 |agg(cs:List AV)
 |ep(vs:List AV)
 |iw
 |ij(t:TypeId)(row:List AV)(off:Nat)
 |ptr(id i off:Nat)
 |ab(t:TypeId)(xs:List (List AV))
 |aA(id:Nat)
 |gE
 |du(f:FuncId)(first fG:List AV)
 |jP
 |ik(id:Nat)
 |mp(id:Nat)
 |lG
 |kU(id n:Nat)
 |vw(id lo n:Nat)
 |jF
 deriving Inhabited
variable{x:AV}
abbrev Row:=List AV
variable{row:Row}
def AV.toI:AV->Int| .int _ n=>n|_=>0
def AV.toB:AV->Bool| .bool b=>b|_=>false
def AV.toS:AV->ByteArray| .str s=>s|_=>ByteArray.empty
def AV.rows:AV->List Row| .ab _ xs=>xs|_=>[]
def AV.cells:AV->List AV| .agg cs=>cs|x=>[x]
def AV.pure:AV->Bool| .int _ _| .bool _| .str _| .iw | .ij _ _ _| .ab _ _| .gE | .jP | .lG | .jF | .du _ [] []=>true|_=>false
def AV.vlo:AV->Nat| .vw _ lo _=>lo|_=>0
def AV.vn:AV->Nat| .vw _ _ n=>n|_=>0
def AV.plain:AV->Bool| .top | .ep _=>false|_=>true
def AV.leaf:AV->Bool| .agg _| .ep _| .top =>false|_=>true
def AV.shape:Bool->AV->Bool|true,.agg _=>true|false,x=>x.leaf|_,_=>false
def iA:Kind->AV->Bool
 | .int k,.int k' _=>k==k'
 | .bool,.bool _=>true
 | .str,.str _=>true
 | .slice t,.ab t' _=>t==t'
 | .raw,x=>x.leaf&&x.pure
 | .any,x=>x.leaf
 |_,_=>false
def ld:Kind->AV->AV
 | .int k,x=> .int k x.toI
 | .bool,x=> .bool x.toB
 | .str,x=> .str x.toS
 | .slice t,x=> .ab t x.rows
 | .raw,x=>x
 | .any,x=>x
def EW(h:iA k x=true):ld k x=x:=by
 cases k<;>cases x<;>simp_all [iA,ld,AV.toI,AV.toB,AV.toS,AV.rows]
def aev(h:iA k x=true):x.leaf=true:=by
 cases k<;>cases x<;>simp_all [iA,AV.leaf]
def dk:List Kind->Row->Bool
 | [],[]=>true
 |k::ks,x::xs=>iA k x&&dk ks xs
 |_,_=>false
def Ia(hk:k≠ .any)(h:iA k x=true):x.pure=true:=by
 cases k<;>cases x<;>simp_all [iA,AV.leaf,AV.pure]
def iG:∀{ks:List Kind} {row:Row},dk ks row=true->row.length=ks.length
 | [],[],_=>rfl
 | [],_::_,h=>B4
 |_::_,[],h=>B4
 |k::ks,x::xs,h=>by
  simp only [dk,bS]at h;simp [iG h.2]
def tF:∀{ks:List Kind} {row:Row},dk ks row=true->∀{j:Nat} {k:Kind} {x:AV},ks[j]?=some k->row[j]?=some x->iA k x=true
 | [],[],_,j,k,x,h,_=>gM
 | [],_::_,h,_,_,_,_,_=>B4
 |_::_,[],h,_,_,_,_,_=>B4
 |k::ks,x::xs,h,j,k',x',hk,hx=>by
  simp only [dk,bS]at h;cases j with
  |zero=>simp at hk hx;subst hk;subst hx;exact h.1
  |succ j=>simp at hk hx;exact tF h.2 hk hx
def WK(h:dk ks row=true){j:Nat}(hx:row[j]?=some x):x.leaf=true:=by
 have hl:=iG h;have hj:j<ks.length:=PS;exact aev (tF h (dz hj) hx)
def XH(hl:row.length=ks.length)(h:∀(j:Nat) (k:Kind) (x:AV),ks[j]?=some k->row[j]?=some x->iA k x=true):dk ks row=true:=by
 induction ks generalizing row with
 |nil=>cases row with|nil=>rfl|cons x xs=>simp at hl
 |cons k ks ih=>
  cases row with
  |nil=>simp at hl
  |cons x xs=>
   simp only [dk,bS];exact⟨h 0 k x rfl rfl,ih (oZ) λj k' x' hk hx=>h (j+1) k' x' (I9) (I8)⟩
structure Hd where
 v:Value
 sz:Nat
variable{ρ ρ':List Hd}
def Value.eC:Value->Option Nat
 | .slice (some a) _ _=>some a.block
 | .map (some g)=>some g
 | .pointer (some a)=>some a.block
 |_=>none
def Hd.eC(h:Hd):Option Nat:=Value.eC h.v
inductive aY(K:TypeId->List Kind)(ρ:List Hd)(F:Addr->Prop)(w:World):AV->Value->Prop
 |top(v:Value):aY K ρ F w .top v
 |int(k:IntKind)(n:Int):aY K ρ F w (.int k n) (.int k n)
 |bool(b:Bool):aY K ρ F w (.bool b) (.bool b)
 |str(s:ByteArray):aY K ρ F w (.str s) (.string s)
 |agg(cs:List AV)(vs:List Value)(hl:vs.length=cs.length)(h:∀(j:Nat) x v,cs[j]?=some x->vs[j]?=some v->aY K ρ F w x v):aY K ρ F w (.agg cs) (.agg vs.toArray)
 |ep(cs:List AV)(vs:List Value)(hl:vs.length=cs.length)(h:∀(j:Nat) x v,cs[j]?=some x->vs[j]?=some v->aY K ρ F w x v):aY K ρ F w (.ep cs) (.tuple vs.toArray)
 |iw:aY K ρ F w .iw (.pointer none)
 |ij(t:TypeId)(row:Row)(off:Nat)(a:Addr)(vs:List Value)(hk:dk (K t) row=true)(hl:vs.length=row.length)
   (hc:∀(j:Nat) v,vs[j]?=some v->w.cell? (a.add j)=some v∧F (a.add j))
   (h:∀(j:Nat) x v,row[j]?=some x->vs[j]?=some v->aY K ρ F w x v):aY K ρ F w (.ij t row off) (.pointer (some (a.add off)))
 |ptr(id i off:Nat)(hd:Hd)(g o n c:Nat)(bA:ρ[id]?=some hd)(hv:hd.v= .slice (some ⟨g,o,none⟩) n c):aY K ρ F w (.ptr id i off) (.pointer (some ⟨g,o+i*hd.sz+off,none⟩))
 |kj(t:TypeId):aY K ρ F w (.ab t []) (.slice none 0 0)
 |ab(t:TypeId)(xs:List Row)(a:Addr)(cap:Nat)(vss:List (List Value))(hl:vss.length=xs.length)(lj:xs.length<=cap)(jT:cap<=maxLen)
   (hk:∀(i:Nat) row,xs[i]?=some row->dk (K t) row=true)
   (hc:∀(i:Nat) vs,vss[i]?=some vs->vs.length=(K t).length ∧∀(j:Nat) v,vs[j]?=some v->w.cell? (a.add (i*(K t).length +j))=some v∧F (a.add (i*(K t).length +j)))
   (h:∀(i:Nat) row vs,xs[i]?=some row->vss[i]?=some vs->∀(j:Nat) x v,row[j]?=some x->vs[j]?=some v->aY K ρ F w x v):
   aY K ρ F w (.ab t xs) (.slice (some a) xs.length cap)
 |aA(id:Nat)(hd:Hd)(bA:ρ[id]?=some hd):aY K ρ F w (.aA id) hd.v
 |gE:aY K ρ F w .gE (.slice none 0 0)
 |du(f:FuncId)(first fG:List AV)(vf vc:List Value)(hf:vf.length=first.length)(hc:vc.length=fG.length)
   (h1:∀(j:Nat) x v,first[j]?=some x->vf[j]?=some v->aY K ρ F w x v) (h2:∀(j:Nat) x v,fG[j]?=some x->vc[j]?=some v->aY K ρ F w x v):
   aY K ρ F w (.du f first fG) (.func (.func f) vf.toArray vc.toArray)
 |jP:aY K ρ F w .jP .nilFunc
 |ik(id:Nat)(hd:Hd)(g:Nat)(bA:ρ[id]?=some hd)(hv:hd.v= .pointer (some ⟨g,0,none⟩)):aY K ρ F w (.ik id) (.func (.yield g) #[] #[])
 |mp(id:Nat)(hd:Hd)(bA:ρ[id]?=some hd):aY K ρ F w (.mp id) hd.v
 |lG:aY K ρ F w .lG (.map none)
 |kU(id m:Nat)(hd:Hd)(g o n c cap:Nat)(bA:ρ[id]?=some hd)(hv:hd.v= .slice (some ⟨g,o,none⟩) n c):aY K ρ F w (.kU id m) (.slice (some ⟨g,o,none⟩) m cap)
 |vw(id lo m:Nat)(hd:Hd)(g o n c cap:Nat)(bA:ρ[id]?=some hd)(hv:hd.v= .slice (some ⟨g,o,none⟩) n c)(lj:m<=cap∧cap<=maxLen)(hb:lo+m<=n):aY K ρ F w (.vw id lo m) (.slice (some ⟨g,o+lo*hd.sz,none⟩) m cap)
 |sK(id lo:Nat):aY K ρ F w (.vw id lo 0) (.slice none 0 0)
 |sJ(id lo:Nat)(a:Addr)(cap:Nat):aY K ρ F w (.vw id lo 0) (.slice (some a) 0 cap)
 |jF(a:Addr)(cap:Nat):aY K ρ F w .jF (.slice (some a) 0 cap)
variable {K:TypeId->List Kind}
def aY.mono{F':Addr->Prop}{w':World}(gG:∀(id:Nat) hd,ρ[id]?=some hd->ρ'[id]?=some hd)(hF:∀a,F a->F' a)
 (hw:∀a v,F a->w.cell? a=some v->w'.cell? a=some v)   (h:aY K ρ F w x v):aY K ρ' F' w' x v:=by
 induction h with
 |top v=>exact .top v
 |int k n=>exact .int k n
 |bool b=>exact .bool b
 |str s=>exact .str s
 |agg cs vs hl _ ih=>exact .agg cs vs hl ih
 |ep cs vs hl _ ih=>exact .ep cs vs hl ih
 |iw=>exact .iw
 |ij t row off a vs hk hl hc _ ih=>exact .ij t row off a vs hk hl (λj v hv=>⟨hw _ _ (hc j v hv).2 (hc j v hv).1,hF _ (hc j v hv).2⟩) ih
 |ptr id i off hd g o n c bA hv=>exact .ptr id i off hd g o n c (gG _ _ bA) hv
 |kj t=>exact .kj t
 |ab t xs a cap vss hl lj jT hk hc _ ih=>
  exact .ab t xs a cap vss hl lj jT hk (λi vs fo=>⟨(hc i vs fo).1,λj v hv=>⟨hw _ _ ((hc i vs fo).2 j v hv).2 ((hc i vs fo).2 j v hv).1,hF _ ((hc i vs fo).2 j v hv).2⟩⟩) ih
 |aA id hd bA=>exact .aA id hd (gG _ _ bA)
 |gE=>exact .gE
 |du f first fG vf vc hf hc _ _ kn fb=>exact .du f first fG vf vc hf hc kn fb
 |jP=>exact .jP
 |ik id hd g bA hv=>exact .ik id hd g (gG _ _ bA) hv
 |mp id hd bA=>exact .mp id hd (gG _ _ bA)
 |lG=>exact .lG
 |kU id m hd g o n c cap bA hv=>exact .kU id m hd g o n c cap (gG _ _ bA) hv
 |vw id lo m hd g o n c cap bA hv hc hb=>exact .vw id lo m hd g o n c cap (gG _ _ bA) hv hc hb
 |sK id lo=>exact .sK id lo
 |sJ id lo a cap=>exact .sJ id lo a cap
 |jF a cap=>exact .jF a cap
def aY.pure{ρ ρ':List Hd}{F:Addr->Prop}{w:World}(hK:∀t,∀k∈K t,k≠ .any){x:AV}{v:Value}(h:aY K ρ F w x v):x.pure=true->aY K ρ' F w x v:=by
 have cell:∀{t:TypeId} {row:Row},dk (K t) row=true->∀{j:Nat} {y:AV},row[j]?=some y->y.pure=true:=by
  intro t row hk j y hy;have hl:=iG hk;have hj:j<(K t).length :=Yt;exact Ia (hK t _ (dO hj)) (tF hk (dz hj) hy)
 induction h with
 |int k n=>exact λ_=> .int k n
 |bool b=>exact λ_=> .bool b
 |str s=>exact λ_=> .str s
 |iw=>exact λ_=> .iw
 |ij t row off a vs hk hl hc _ ih=>exact λ_=> .ij t row off a vs hk hl hc (λj y v hy hv=>ih j y v hy hv (cell hk hy))
 |kj t=>exact λ_=> .kj t
 |ab t xs a cap vss hl lj jT hk hc _ ih=>exact λ_=> .ab t xs a cap vss hl lj jT hk hc (λi row vs hi hv j y v hy fN=>ih i row vs hi hv j y v hy fN (cell (hk i row hi) hy))
 |gE=>exact λ_=> .gE
 |du f first fG vf vc hf hc _ _ _ _=>
  intro hp;cases first with
  |cons a b=>simp [AV.pure]at hp
  |nil=>
   cases fG with
   |cons a b=>simp [AV.pure]at hp
   |nil=>exact .du f [] [] vf vc hf hc (λj y v hy _=>by simp at hy) (λj y v hy _=>by simp at hy)
 |jP=>exact λ_=> .jP
 |lG=>exact λ_=> .lG
 |jF a cap=>exact λ_=> .jF a cap
 |_=>intro hp;simp [AV.pure]at hp
def aY.aA2(hK:∀t,∀k∈K t,k≠ .any)(h:aY K ρ F w x v)(hp:x= .top ∨x.pure=true):aY K ρ' F w x v:=by
 rcases hp with rfl|hp
 ·exact .top v
 ·exact h.pure hK hp
def dt(K:TypeId->List Kind)(ρ:List Hd)(F:Addr->Prop)(w:World)(xs:List AV)(vs:List Value):Prop:=
 vs.length=xs.length∧∀(j:Nat) x v,xs[j]?=some x->vs[j]?=some v->aY K ρ F w x v
inductive Ex where
 |normal
 |exit(id:Nat)
 |ret
 deriving DecidableEq,Inhabited
inductive ed where
 |var(ks:List Kind)(cs:List AV)
 |row(t:TypeId)(xs:List Row)
 |map(k:Kind)(ag:Bool)(ks:List Kind)(es:List (AV×AV))
 |loop(site:Nat)(env:List (Nat×AV))(busy:Bool)(wQ:Option Ex)
 |G9
 |eN(t:TypeId)(xs:List Row)
 |dead
 deriving Inhabited
inductive vT where
 |int(k:IntKind)
 |bool
 |str
 |slice(e:TypeId)
 |array(n:Nat)(e:TypeId)
 |struct(fs:List (Nat×TypeId))
 |ptr(e:TypeId)
 |map(k e:TypeId)
 |other
 deriving Inhabited
structure TI where
 ok:Bool
 u:vT
 size:Nat
 bytes:Nat
 zero:List AV
 ks:List Kind
 deriving Inhabited
def vT.agg:vT->Bool| .struct _| .array _ _=>true|_=>false
def zP:Value->AV
 | .bool b=> .bool b
 | .int k n=> .int k n
 | .string s=> .str s
 | .pointer none=> .iw
 | .slice none 0 0=> .gE
 | .map none=> .lG
 | .nilFunc => .jP
 |_=> .top
def XN:Value->AV
 | .agg cs=> .agg (cs.toList.map zP)
 | .tuple cs=>match cs.toList with| []=> .ep []|_=> .top
 |v=>zP v
def BW(P:Program):Nat->TypeId->List Kind
 |0,_=>[.raw]
 |n+1,t=>
  match P.underlying t with
  |some (.int k)=>[.int k]
  |some .bool =>[.bool]
  |some .string =>[.str]
  |some (.slice e)=>[.slice e]
  |some (.struct fs)=>fs.toList.flatMap λf=>BW P n f.type
  |some (.array m e)=>(List.replicate m (BW P n e)).flatten
  |_=>[.raw]
def V3(P:Program):∀(n:Nat) (t:TypeId),∀k∈BW P n t,k≠ .any
 |0,t,k,h=>by simp [BW]at h;subst h;simp
 |n+1,t,k,h=>by
  unfold BW at h;split at h
  ·exact I3
  ·exact I3
  ·exact I3
  ·exact I3
  ·obtain⟨f,_,hf⟩:=E7.1 h;exact V3 P n _ k hf
  ·obtain⟨l,hl,hk⟩:=List.mem_flatten.1 h;rw [Xb hl]at hk;exact V3 P n _ k hk
  ·exact I3
def mq:TypeDesc->vT
 | .int k=> .int k
 | .bool => .bool
 | .string => .str
 | .slice e=> .slice e
 | .array n e=> .array n e
 | .struct fs=> .struct (fs.toList.map λf=>(f.offset,f.type))
 | .pointer e=> .ptr e
 | .map k e=> .map k e
 |_=> .other
def RG:Value->Bool| .agg _=>true|_=>false
def wO(P:Program)(t:TypeId):TI:=
 match P.info? t,P.underlying t with
 |some i,some d=>
  match i.zero with
  |some z=>⟨z.cells.size==i.size&&(BW P 12 t).length ==i.size&&(RG z==(mq d).agg),mq d,i.size,i.bytes,z.cells.toList.map zP,BW P 12 t⟩
  |none=>⟨false,.other,0,0,[],[]⟩
 |_,_=>⟨false,.other,0,0,[],[]⟩
end Go.az
namespace Go.az
open Go
abbrev bp:Type:=List AV
abbrev aZ:Type:=List Row
abbrev aW:Type:=List ed
abbrev dI:Type:=List Nat
abbrev cV:Type:=List (Nat×AV)
abbrev bY:Type:=List Hd
abbrev bT:=Addr->Prop
abbrev cT:Type:=List Int
abbrev dZ:Type:=List Kind
abbrev fA:Type:=List Value
abbrev pT:Type:=List TypeId
end Go.az
namespace Go.az
def n6{p:Prop}(h:p:=by simp [Hd.eC,Value.eC,hv]):p:=h
def Qq{p:Prop}(h:p:=by subst hi;rw [qu cF]at hc;injection hc with hc;subst hc;simp [ed.iB]at qQ):p:=h
def ako{p:Prop}(h:p:=by
 subst bA;have cF:=(eU.1 hb).1;rw [qu cF]at hc;injection hc with hc;subst hc;rw [hh]at eo;injection eo with eo;subst eo;exact jI):p:=h
def ahD{p:Prop}(h:p:=by rw [ju (eU.1 h).1];exact h):p:=h
def X4{p:Prop}(h:p:=by simpa using hI.len):p:=h
end Go.az
namespace Go.az
def ju:=@List.getElem?_append_left
def gz:=@Nat.le_refl
def jO:=@List.mem_append
def qu:=@List.getElem?_set_self
def kh:=@List.getElem?_set_ne
def kv:=@List.getElem?_append_right
def nW:=@Nat.le_trans
def dE:=@Nat.eq_of_beq_eq_true
def pR:=@Nat.lt_of_lt_of_le
end Go.az
namespace Go.az
open Go
noncomputable section
variable{b:ed}{hd:Hd}{row:Option Nat}{v:Value}{F':bT}{M':aW}{ids R5:dI}{ρ':bY}
structure Site where
 nt:Nat
 params:Array Tmp
 assign:Code
 body:Code
structure Ub where
 ks:dZ
 e:TypeId
 bt:TypeId
 pt:TypeId
 up:TypeId
 ne:FuncId
structure Cx where
 P:Program
 ti:TypeId->TI
 site:Nat->Site
 fT:Nat->AV
 eqs:TypeId->Bool
 pk:Bool
 vw:Nat->TypeId->Bool
 ub:Option Ub
def Cx.Aw(X:Cx)(ks:dZ)(e:TypeId):Bool:=match X.ub with|none=>true|some u=>match decide (ks=u.ks)with|true=>Nat.beq e u.e|false=>true
def Cx.K(X:Cx)(t:TypeId):dZ:=(X.ti t).ks
def look(env:cV)(u:Nat):AV:=List.rec (motive:=λ_=>AV) .top (λp _ ih=>Bool.rec (motive:=λ_=>AV) ih p.2 (Nat.beq u p.1)) env
def look_nil(u:Nat):look [] u= .top :=rfl
def pN(t:Nat)(x:AV)(env:cV)(u:Nat):look ((t,x)::env) u=if u==t then x else look env u:=by
 show Bool.rec (motive:=λ_=>AV) (look env u) x (Nat.beq u t)=_;cases hb:Nat.beq u t with
 |true=>
  have:=dE hb;subst this;show x=_;simp
 |false=>
  have:u≠t:=Nat.ne_of_beq_eq_false hb;show look env u=_;simp [this]
def gm(M:aW)(i:Nat):Option ed:=List.rec (motive:=λ_=>Nat->Option ed) (λ_=>none) (λb _ ih n=>Nat.rec (motive:=λ_=>Option ed) (some b) (λm _=>ih m) n) M i
def eY:∀(M:aW) (i:Nat),gm M i=M[i]?
 | [],_=>rfl
 |_::_,0=>rfl
 |b::M,n+1=>by
  show gm M n=_;rw [eY M n];rfl
def Ex.code:Ex->Option Code
 | .normal =>none
 | .exit id=>some (.exit id)
 | .ret =>some .ret
def ed.iB:ed->Bool| .dead | .eN _ _=>true|_=>false
variable {X:Cx}
def iU(X:Cx)(ρ:bY)(F:bT)(w:World)(env:cV)(tmps:Array Value):Prop:=
 ∀t,aY X.K ρ F w (look env t) (tmps.getD t undef)
def jV(X:Cx)(ρ:bY)(F:bT)(w:World)(hd:Hd):ed->Prop
 | .var ks cs=>dk ks cs=true∧hd.sz=cs.length∧∃g cur e,hd.v= .slice (some ⟨g,0,none⟩) 1 1∧w.heap[g]?=some (.cells cur e (0,0))∧dt X.K ρ F w cs cur.toList∧X.Aw ks e=true
 | .row t xs=>hd.sz=(X.K t).length ∧(∀(i:Nat) row,xs[i]?=some row->dk (X.K t) row=true)∧
    ((hd.v= .slice none 0 0∧xs=[])∨∃g o c cur,hd.v= .slice (some ⟨g,o,none⟩) xs.length c∧w.heap[g]?=some (.cells cur t (0,0))∧xs.length<=c∧c<=maxLen∧o+c*hd.sz<=cur.size∧
      ∀(i:Nat) row,xs[i]?=some row->∀(j:Nat) x,row[j]?=some x->∃v,cur[o+i*hd.sz+j]?=some v∧aY X.K ρ F w x v)
 | .map kd ag ks es=>kd≠ .any ∧∃g mes clock,hd.v= .map (some g)∧w.heap[g]?=some (.map mes clock)∧mes.size=es.length∧
    ∀(i:Nat) e me,es[i]?=some e->mes[i]?=some me->(iA kd e.1=true∧dk ks e.2.cells=true∧e.2.shape ag=true)∧aY X.K ρ F w e.1 me.key∧aY X.K ρ F w e.2 me.val
 | .loop s env busy wQ=>∃g lp,hd.v= .pointer (some ⟨g,0,none⟩)∧w.heap[g]?=some (.loop lp)∧lp.params=(X.site s).params ∧lp.assign=(X.site s).assign ∧lp.body=(X.site s).body ∧
    lp.tmps.size=(X.site s).nt ∧iU X ρ F w env lp.tmps∧(busy=true->lp.state= .busy)∧(busy=false->wQ=none->lp.state= .ready)∧(busy=false->wQ≠none->lp.state= .done)∧
    lp.pending=wQ.bind Ex.code∧wQ≠some .normal
 | .G9 =>∃g,hd.v= .pointer (some ⟨g,0,none⟩)∧w.heap[g]?=some (.deferred (some []))
 | .eN t xs=>aY X.K ρ F w (.ab t xs) hd.v
 | .dead =>True
structure Sc where
 S:Nat->Prop
 F0:bT
instance:CoeFun Sc (λ_=>Nat->Prop):=⟨Sc.S⟩
structure Inv(X:Cx)(w0:World)(S:Sc)(F:bT)(ρ:bY)(M:aW)(w:World):Prop where
 os:w.os=w0.os
 tape:w.tape=w0.tape
 output:w.output=w0.output
 size:w0.heap.size<=w.heap.size
 frame:∀g,g<w0.heap.size->¬S g->w.heap[g]?=w0.heap[g]?
 len:ρ.length=M.length
 rep:∀(id:Nat) b hd,M[id]?=some b->ρ[id]?=some hd->jV X ρ F w hd b
 sep:∀(id:Nat) b hd g,M[id]?=some b->b.iB=false->ρ[id]?=some hd->hd.eC=some g->g<w.heap.size∧(S g∨w0.heap.size<=g)∧∀a,F a->a.block≠g
 iN:∀(id id':Nat) b b' hd dC g,id≠id'->M[id]?=some b->M[id']?=some b'->b.iB=false->b'.iB=false->ρ[id]?=some hd->ρ[id']?=some dC->
  hd.eC=some g->dC.eC≠some g
 fz:∀a,F a->a.block<w.heap.size
 fT:∀g,aY X.K ρ F w (X.fT g) (.pointer (some ⟨g,0,none⟩))
 one:∀(id:Nat) hd,ρ[id]?=some hd->hd.v.oneCell'=true
 fV:∀a,F a->S.F0 a∨S a.block∨w0.heap.size<=a.block
 fin:∀a,S.F0 a->F a
def iU.mono{ρ ρ':bY}{F F':bT}{w w':World}(gG:∀(id:Nat) hd,ρ[id]?=some hd->ρ'[id]?=some hd)(hF:∀a,F a->F' a)
 (hw:∀a v,F a->w.cell? a=some v->w'.cell? a=some v) {env:cV} {tmps:Array Value} (h:iU X ρ F w env tmps):iU X ρ' F' w' env tmps:=
 λt=>(h t).mono gG hF hw
def jV.mono{ρ ρ':bY}{F F':bT}{w w':World}(gG:∀(id:Nat) hd,ρ[id]?=some hd->ρ'[id]?=some hd)(hF:∀a,F a->F' a)
 (hw:∀a v,F a->w.cell? a=some v->w'.cell? a=some v) {hd:Hd} {b:ed} (hg:∀g,hd.eC=some g->w'.heap[g]?=w.heap[g]?) (h:jV X ρ F w hd b):jV X ρ' F' w' hd b:=by
 cases b with
 |var ks cs=>
  obtain⟨h1,h2,g,cur,e,hv,hh,hr,hy⟩:=h;exact⟨h1,h2,g,cur,e,hv,by rw [hg g (n6)];exact hh,⟨hr.1,λj x v hx hv=>(hr.2 j x v hx hv).mono gG hF hw⟩,hy⟩
 |row t xs=>
  obtain⟨h1,h2,h3⟩:=h;refine⟨h1,h2,?_⟩;rcases h3 with h3|⟨g,o,c,cur,hv,hh,h4,h5,h6,h7⟩
  ·exact .inl h3
  ·refine .inr ⟨g,o,c,cur,hv,by rw [hg g (n6)];exact hh,h4,h5,h6,λi row hi j x hx=> ?_⟩;obtain⟨v,kr,hr⟩:=h7 i row hi j x hx;exact⟨v,kr,hr.mono gG hF hw⟩
 |map kd ag ks es=>
  obtain⟨nu,g,mes,clock,hv,hh,ei,uw⟩:=h;exact⟨nu,g,mes,clock,hv,by rw [hg g (n6)];exact hh,ei,λi e me he hm=>let⟨a,r1,r2⟩:=uw i e me he hm;⟨a,r1.mono gG hF hw,r2.mono gG hF hw⟩⟩
 |loop s env busy wQ=>
  obtain⟨g,lp,hv,hh,h1,h2,h3,h4,h5,h6⟩:=h;exact⟨g,lp,hv,by rw [hg g (n6)];exact hh,h1,h2,h3,h4,h5.mono gG hF hw,h6⟩
 |G9=>
  obtain⟨g,hv,hh⟩:=h;exact⟨g,hv,by rw [hg g (n6)];exact hh⟩
 |eN t xs=>exact aY.mono gG hF hw h
 |dead=>trivial
def jV.N9{ρ:bY}{F:bT}{w w':World}(gG:∀(id:Nat) hd,ρ[id]?=some hd->ρ'[id]?=some hd)(hF:∀a,F a->F' a)
 (hw:∀a v,F a->w.cell? a=some v->w'.cell? a=some v)   (hb:b.iB=true) (h:jV X ρ F w hd b):jV X ρ' F' w' hd b:=by
 cases b with
 |eN t xs=>exact aY.mono gG hF hw h
 |dead=>trivial
 |_=>simp [ed.iB]at hb
section
variable {w0 w w':World} {S:Sc} {F:bT} {ρ:bY} {M:aW}
def Inv.cells(hI:Inv X w0 S F ρ M w)(hg:w.grownBy w' row)(gW:∀k,row=some k->∀a,F a->a.block≠k):
 ∀a v,F a->w.cell? a=some v->w'.cell? a=some v:=by
 intro a v hF hc;refine hg.cell hc ?_;intro e;exact gW _ e.symm a hF rfl
def ny{α:Type}{l:List α}{x y:α}{i:Nat}(h:l[i]?=some y):(l++[x])[i]?=some y:=ahD
def Inv.grown(hI:Inv X w0 S F ρ M w)(hg:w.grownBy w' none):Inv X w0 S F ρ M w' where
 os:=hg.os.trans hI.os
 tape:=hg.tape.trans hI.tape
 output:=hg.output.trans hI.output
 size:=nW hI.size hg.size
 frame:=λg h1 h2=>(hg.block g (pR h1 hI.size) (by simp)).trans (hI.frame g h1 h2)
 len:=hI.len
 rep:=λid b hd hb hh=>by
  by_cases dC:b.iB=true
  ·exact(hI.rep id b hd hb hh).N9 (λ_ _ h=>h) (λ_ h=>h) (hI.cells hg (by simp)) dC
  ·refine(hI.rep id b hd hb hh).mono (λ_ _ h=>h) (λ_ h=>h) (hI.cells hg (by simp)) ?_;intro g dQ;exact hg.block g (hI.sep id b hd g hb (by simpa using dC) hh dQ).1 (by simp)
 sep:=λid b hd g hb eK hh dQ=>let⟨a1,a2,a3⟩:=hI.sep id b hd g hb eK hh dQ;⟨pR a1 hg.size,a2,a3⟩
 iN:=hI.iN
 fz:=λa ha=>pR (hI.fz a ha) hg.size
 fT:=λg=>(hI.fT g).mono (λ_ _ h=>h) (λ_ h=>h) (hI.cells hg (by simp))
 one:=hI.one
 fV:=hI.fV
 fin:=hI.fin
def Inv.write(hI:Inv X w0 S F ρ M w){id:Nat}{b b':ed}{hd:Hd}{g:Nat}(hb:M[id]?=some b)(lK:b.iB=false)(hh:ρ[id]?=some hd)(dQ:hd.eC=some g)
 (hg:w.grownBy w' (some g)) (jI:jV X ρ F w' hd b'):Inv X w0 S F ρ (M.set id b') w' where
 os:=hg.os.trans hI.os
 tape:=hg.tape.trans hI.tape
 output:=hg.output.trans hI.output
 size:=nW hI.size hg.size
 frame:=λk h1 h2=>by
  have hs:=hI.sep id b hd g hb lK hh dQ;refine(hg.block k (pR h1 hI.size) ?_).trans (hI.frame k h1 h2);intro e;injection e with e;subst e;rcases hs.2.1 with h|h
  ·exact h2 h
  ·omega
 len:=X4
 rep:=λid' c dC hc eo=>by
  by_cases bA:id'=id
  ·subst bA;rw [hh]at eo;injection eo with eo;subst eo;have cF:=(eU.1 hb).1;rw [qu cF]at hc;injection hc with hc;subst hc;exact jI
  ·rw [kh (Ne.symm bA)]at hc;have hs:=hI.sep id b hd g hb lK hh dQ
   by_cases lV:c.iB=true
   ·exact(hI.rep id' c dC hc eo).N9 (λ_ _ h=>h) (λ_ h=>h) (hI.cells hg (λk hk a hF=>by injection hk with hk;subst hk;exact hs.2.2 a hF)) lV
   ·refine(hI.rep id' c dC hc eo).mono (λ_ _ h=>h) (λ_ h=>h) (hI.cells hg ?_) ?_
    ·intro k hk a hF;injection hk with hk;subst hk;exact hs.2.2 a hF
    ·intro g' jo;refine hg.block g' (hI.sep id' c dC g' hc (by simpa using lV) eo jo).1 ?_;intro e;injection e with e;subst e;exact hI.iN id' id c b dC hd g' bA hc hb (by simpa using lV) lK eo hh jo dQ
 sep:=λid' c dC g' hc lV eo jo=>by
  by_cases bA:id'=id
  ·subst bA;rw [hh]at eo;injection eo with eo;subst eo;obtain⟨a1,a2,a3⟩:=hI.sep id' b hd g' hb lK hh jo;exact⟨pR a1 hg.size,a2,a3⟩
  ·rw [kh (Ne.symm bA)]at hc;obtain⟨a1,a2,a3⟩:=hI.sep id' c dC g' hc lV eo jo;exact⟨pR a1 hg.size,a2,a3⟩
 iN:=λi j c d hc dC k qj h1 h2 h3 h4 h5 h6 h7=>by
  have key:∀(i:Nat) c,(M.set id b')[i]?=some c->c.iB=false->∃c0,M[i]?=some c0∧c0.iB=false:=by
   intro i c hc qQ
   by_cases bA:i=id
   ·subst bA;exact⟨b,hb,lK⟩
   ·rw [kh (Ne.symm bA)]at hc;exact⟨c,hc,qQ⟩
  obtain⟨c0,a1,a2⟩:=key i c h1 h3;obtain⟨d0,b1,b2⟩:=key j d h2 h4;exact hI.iN i j c0 d0 hc dC k qj a1 b1 a2 b2 h5 h6 h7
 fz:=λa ha=>pR (hI.fz a ha) hg.size
 fT:=λk=>(hI.fT k).mono (λ_ _ h=>h) (λ_ h=>h) (hI.cells hg (λj hj a hF=>by injection hj with hj;subst hj;exact(hI.sep id b hd g hb lK hh dQ).2.2 a hF))
 one:=hI.one
 fV:=hI.fV
 fin:=hI.fin
def Inv.Cg(hI:Inv X w0 S F ρ M w)(yx:∀g,hd.eC=some g->g<w.heap.size∧(S g∨w0.heap.size<=g)∧(∀a,F a->a.block≠g)∧
 ∀(id:Nat) b' dC,M[id]?=some b'->b'.iB=false->ρ[id]?=some dC->dC.eC≠some g)
 (h1:hd.v.oneCell'=true) (jI:jV X (ρ++[hd]) F w hd b):Inv X w0 S F (ρ++[hd]) (M++[b]) w:=by
 have hlen:=hI.len;have split:∀(i:Nat) c,(M++[b])[i]?=some c->(i<M.length∧M[i]?=some c)∨(i=M.length∧c=b):=by
  intro i c hc
  by_cases hi:i<M.length
  ·rw [ju hi]at hc;exact .inl ⟨hi,hc⟩
  ·rw [kv (by omega)]at hc;have:i- M.length=0:=by
    have:=(eU.1 hc).1;simp at this;omega
   rw [this]at hc;simp at hc;exact .inr ⟨by omega,hc.symm⟩
 have uN:∀(i:Nat) h,(ρ++[hd])[i]?=some h->(i<M.length∧ρ[i]?=some h)∨(i=M.length∧h=hd):=by
  intro i h hh
  by_cases hi:i<ρ.length
  ·rw [ju hi]at hh;exact .inl ⟨by omega,hh⟩
  ·rw [kv (by omega)]at hh;have:i- ρ.length=0:=by
    have:=(eU.1 hh).1;simp at this;omega
   rw [this]at hh;simp at hh;exact .inr ⟨by omega,hh.symm⟩
 refine⟨hI.os,hI.tape,hI.output,hI.size,hI.frame,by simp [hlen],?_,?_,?_,hI.fz,λg=>(hI.fT g).mono (λ_ _ h=>ny h) (λ_ h=>h) (λ_ _ _ h=>h),λid h hh=>by
  rcases uN id h hh with⟨_,hh⟩|⟨_,rfl⟩
  ·exact hI.one id h hh
  ·exact h1,hI.fV,hI.fin⟩
 ·intro id c h hc hh;rcases split id c hc with⟨hi,hc⟩|⟨hi,rfl⟩
  ·rcases uN id h hh with⟨_,hh⟩|⟨h2,_⟩
   ·exact(hI.rep id c h hc hh).mono (λ_ _ h=>ny h) (λ_ h=>h) (λ_ _ _ h=>h) (λ_ _=>rfl)
   ·omega
  ·rcases uN id h hh with⟨h2,_⟩|⟨_,rfl⟩
   ·omega
   ·exact jI
 ·intro id c h g hc eK hh dQ;rcases split id c hc with⟨hi,hc⟩|⟨hi,rfl⟩
  ·rcases uN id h hh with⟨_,hh⟩|⟨h2,_⟩
   ·exact hI.sep id c h g hc eK hh dQ
   ·omega
  ·rcases uN id h hh with⟨h2,_⟩|⟨_,rfl⟩
   ·omega
   ·obtain⟨a1,a2,a3,_⟩:=yx g dQ;exact⟨a1,a2,a3⟩
 ·intro i j c d hc dC k qj h1 h2 h3 h4 h5 h6 h7 h8;rcases split i c h1 with⟨hi,m1⟩|⟨hi,e1⟩<;>rcases split j d h2 with⟨hj,m2⟩|⟨hj,e2⟩
  ·rcases uN i hc h5 with⟨_,m5⟩|⟨_,_⟩
   ·rcases uN j dC h6 with⟨_,m6⟩|⟨_,_⟩
    ·exact hI.iN i j c d hc dC k qj m1 m2 h3 h4 m5 m6 h7 h8
    ·omega
   ·omega
  ·rcases uN i hc h5 with⟨_,m5⟩|⟨_,_⟩
   ·rcases uN j dC h6 with⟨_,_⟩|⟨_,e6⟩
    ·omega
    ·exact(yx k (e6▸h8)).2.2.2 i c hc m1 h3 m5 h7
   ·omega
  ·rcases uN i hc h5 with⟨_,_⟩|⟨_,e5⟩
   ·omega
   ·rcases uN j dC h6 with⟨_,m6⟩|⟨_,_⟩
    ·exact(yx k (e5▸h7)).2.2.2 j d dC m2 h4 m6 h8
    ·omega
  ·omega
def Inv.push(hI:Inv X w0 S F ρ M w)(hg:w.grownBy w' none)(yx:∀g,hd.eC=some g->w.heap.size<=g∧g<w'.heap.size)
 (h1:hd.v.oneCell'=true) (jI:jV X (ρ++[hd]) F w' hd b):Inv X w0 S F (ρ++[hd]) (M++[b]) w':=by
 refine(hI.grown hg).Cg (λg dQ=> ?_) h1 jI;obtain⟨h2,h3⟩:=yx g dQ;refine⟨h3,.inr (nW hI.size h2),λa ha e=> ?_,λid b' dC nv eK hh kQ=> ?_⟩
 ·have:=hI.fz a ha;omega
 ·have:=(hI.sep id b' dC g nv eK hh kQ).1;omega
def Inv.move(hI:Inv X w0 S F ρ M w){id:Nat}{b':ed}{dC:Hd}(hb:M[id]?=some b)(lK:b.iB=false)(hh:ρ[id]?=some hd)
 (hg:w.grownBy w' row) (gW:row=none∨row=hd.eC) (yx:∀g,dC.eC=some g->g<w'.heap.size∧(hd.eC=some g∨w.heap.size<=g))
 (h1:dC.v.oneCell'=true) (jI:jV X (ρ++[dC]) F w' dC b'):Inv X w0 S F (ρ++[dC]) (M.set id .dead ++[b']) w':=by
 have cF:=(eU.1 hb).1;have G5:Inv X w0 S F ρ (M.set id .dead) w':=by
  cases dQ:hd.eC with
  |none=>
   have qk:w.grownBy w' none:=by
    rcases gW with h|h
    ·rw [h]at hg;exact hg
    ·rw [h,dQ]at hg;exact hg
   have oo:=hI.grown qk;refine⟨oo.os,oo.tape,oo.output,oo.size,oo.frame,by simpa using oo.len,?_,?_,?_,oo.fz,oo.fT,oo.one,oo.fV,oo.fin⟩
   ·intro i c h hc eo
    by_cases hi:i=id
    ·subst hi;rw [qu cF]at hc;injection hc with hc;subst hc;trivial
    ·rw [kh (Ne.symm hi)]at hc;exact oo.rep i c h hc eo
   ·intro i c h g hc qQ eo kQ
    by_cases hi:i=id
    ·exact Qq
    ·rw [kh (Ne.symm hi)]at hc;exact oo.sep i c h g hc qQ eo kQ
   ·intro i j c d h h' g qj hc lV qQ eK eo aM5 kQ;have key:∀(i:Nat) c,(M.set id .dead)[i]?=some c->c.iB=false->M[i]?=some c:=by
     intro i c hc qQ
     by_cases hi:i=id
     ·exact Qq
     ·rw [kh (Ne.symm hi)]at hc;exact hc
    exact oo.iN i j c d h h' g qj (key i c hc qQ) (key j d lV eK) qQ eK eo aM5 kQ
  |some g=>
   have vO:w.grownBy w' (some g):=by
    rcases gW with h|h
    ·rw [h]at hg;exact⟨hg.os,hg.tape,hg.output,hg.size,λk hk _=>hg.block k hk (by simp)⟩
    ·rw [h,dQ]at hg;exact hg
   exact hI.write hb lK hh dQ vO (b':= .dead) trivial
 refine G5.Cg (λg dQ=> ?_) h1 jI;obtain⟨h2,h3⟩:=yx g dQ;rcases h3 with h3|h3
 ·obtain⟨s1,s2,s3⟩:=hI.sep id b hd g hb lK hh h3;refine⟨h2,s2,s3,λi c h hc qQ eo kQ=> ?_⟩
  by_cases hi:i=id
  ·exact Qq
  ·rw [kh (Ne.symm hi)]at hc;exact hI.iN i id c b h hd g hi hc hb qQ lK eo hh kQ h3
 ·refine⟨h2,.inr (nW hI.size h3),λa ha e=> ?_,λi c h hc qQ eo kQ=> ?_⟩
  ·have:=hI.fz a ha;omega
  ·by_cases hi:i=id
   ·exact Qq
   ·rw [kh (Ne.symm hi)]at hc;have:=(hI.sep i c h g hc qQ eo kQ).1;omega
def Inv.freeze(hI:Inv X w0 S F ρ M w){id:Nat}{b:ed}{hd:Hd}{g:Nat}(hb:M[id]?=some b)(lK:b.iB=false)(hh:ρ[id]?=some hd)(dQ:hd.eC=some g)
 {b':ed} (dC:b'.iB=true) (jI:jV X ρ (λa=>F a∨a.block=g) w hd b'):Inv X w0 S (λa=>F a∨a.block=g) ρ (M.set id b') w where
 os:=hI.os
 tape:=hI.tape
 output:=hI.output
 size:=hI.size
 frame:=hI.frame
 len:=X4
 rep:=λid' c h' hc eo=>by
  by_cases bA:id'=id
  ·exact ako
  ·rw [kh (Ne.symm bA)]at hc;exact(hI.rep id' c h' hc eo).mono (λ_ _ h=>h) (λ_ h=> .inl h) (λ_ _ _ h=>h) (λ_ _=>rfl)
 sep:=λid' c h' g' hc lV eo jo=>by
  by_cases bA:id'=id
  ·subst bA;have cF:=(eU.1 hb).1;rw [qu cF]at hc;injection hc with hc;subst hc;rw [dC]at lV;cases lV
  ·rw [kh (Ne.symm bA)]at hc;obtain⟨a1,a2,a3⟩:=hI.sep id' c h' g' hc lV eo jo;refine⟨a1,a2,λa ha e=> ?_⟩;rcases ha with ha|ha
   ·exact a3 a ha e
   ·have:g'=g:=by omega
    subst this;exact hI.iN id' id c b h' hd g' bA hc hb lV lK eo hh jo dQ
 iN:=λi j c d hc h' k qj h1 h2 h3 h4 h5 h6 h7=>by
  have key:∀(i:Nat) c,(M.set id b')[i]?=some c->c.iB=false->M[i]?=some c:=by
   intro i c hc qQ
   by_cases bA:i=id
   ·subst bA;have cF:=(eU.1 hb).1;rw [qu cF]at hc;injection hc with hc;subst hc;rw [dC]at qQ;cases qQ
   ·rw [kh (Ne.symm bA)]at hc;exact hc
  exact hI.iN i j c d hc h' k qj (key i c h1 h3) (key j d h2 h4) h3 h4 h5 h6 h7
 fz:=λa ha=>by
  rcases ha with ha|ha
  ·exact hI.fz a ha
  ·have:=(hI.sep id b hd g hb lK hh dQ).1;omega
 fT:=λk=>(hI.fT k).mono (λ_ _ h=>h) (λ_ h=> .inl h) (λ_ _ _ h=>h)
 one:=hI.one
 fin:=λa ha=> .inl (hI.fin a ha)
 fV:=λa ha=>by
  rcases ha with ha|ha
  ·exact hI.fV a ha
  ·rcases(hI.sep id b hd g hb lK hh dQ).2.1 with h|h
   ·exact .inr (.inl (by rw [ha];exact h))
   ·exact .inr (.inr (by rw [ha];exact h))
end
def dR(ids:dI)(M M':aW):Prop:=M.length<=M'.length∧∀id,id<M.length->id∉ids->M'[id]?=M[id]?
def dR.refl(ids:dI)(M:aW):dR ids M M:=⟨gz _,λ_ _ _=>rfl⟩
def dR.push(ids:dI)(M:aW)(b:ed):dR ids M (M++[b]):=⟨by simp,λid h _=>ju h⟩
def dR.set(M:aW)(id:Nat)(b:ed):dR [id] M (M.set id b):=⟨by simp,λi _ h=>kh (λe=>h (by simp [e]))⟩
def dR.trans{M xi:aW}(h:dR ids M M')(k:dR R5 M' xi):dR (ids++R5) M xi:=
 ⟨nW h.1 k.1,λi hi hn=>by
   rw [jO,not_or]at hn;rw [k.2 i (pR hi h.1) hn.2,h.2 i hi hn.1]⟩
def dR.mono{M:aW}(h:dR ids M M')(hs:∀i∈ids,i∈R5):dR R5 M M':=⟨h.1,λi hi hn=>h.2 i hi λe=>hn (hs i e)⟩
structure Grow(F F':bT)(ρ ρ':bY)(w w':World):Prop where
 hF:∀a,F a->F' a
 gG:∀(id:Nat) hd,ρ[id]?=some hd->ρ'[id]?=some hd
 hb:∀a,F a->w'.heap[a.block]?=w.heap[a.block]?
def aeJ{w w':World}{a:Addr}(h:w'.heap[a.block]?=w.heap[a.block]?)(hc:w.cell? a=some v):w'.cell? a=some v:=by
 unfold World.cell? at hc⊢;rw [h];exact hc
def Grow.hw{F:bT}{ρ:bY}{w w':World}(h:Grow F F' ρ ρ' w w'):∀a v,F a->w.cell? a=some v->w'.cell? a=some v:=λa _ ha hc=>aeJ (h.hb a ha) hc
def Inv.wV{w0 w w':World}{S:Sc}{F:bT}{ρ:bY}{M:aW}(hI:Inv X w0 S F ρ M w)(hg:w.grownBy w' row)(gW:∀k,row=some k->∀a,F a->a.block≠k):∀a,F a->w'.heap[a.block]?=w.heap[a.block]?:=
 λa ha=>hg.block a.block (hI.fz a ha) λe=>gW _ e.symm a ha rfl
def Grow.refl(F:bT)(ρ:bY)(w:World):Grow F F ρ ρ w w:=⟨λ_ h=>h,λ_ _ h=>h,λ_ _=>rfl⟩
def Grow.trans{F F' tu:bT}{ρ ρ' sw:bY}{w w' p8:World}(h:Grow F F' ρ ρ' w w')(k:Grow F' tu ρ' sw w' p8):Grow F tu ρ sw w p8:=
 ⟨λa ha=>k.hF a (h.hF a ha),λid hd hh=>k.gG id hd (h.gG id hd hh),λa ha=>(k.hb a (h.hF a ha)).trans (h.hb a ha)⟩
def aY.grow{K:TypeId->dZ}{F:bT}{ρ:bY}{w w':World}{x:AV}(h:aY K ρ F w x v)(g:Grow F F' ρ ρ' w w'):aY K ρ' F' w' x v:=h.mono g.gG g.hF g.hw
def iU.grow{F F':bT}{ρ ρ':bY}{w w':World}{env:cV}{tmps:Array Value}(h:iU X ρ F w env tmps)(g:Grow F F' ρ ρ' w w'):iU X ρ' F' w' env tmps:=λt=>(h t).grow g
def dt.grow{K:TypeId->dZ}{F F':bT}{ρ ρ':bY}{w w':World}{xs:bp}{vs:fA}(h:dt K ρ F w xs vs)(g:Grow F F' ρ ρ' w w'):dt K ρ' F' w' xs vs:=⟨h.1,λj x v hx hv=>(h.2 j x v hx hv).grow g⟩
end
end Go.az
namespace Go.az
def wk{p:Prop}(h:p:=by simp at hx):p:=h
def ajb{p:Prop}(h:p:=by have:=f.u;rw [h]at this;cases d<;>simp [mq]at this;subst this;exact f.jB):p:=h
def se{p:Prop}(h:p:=by simpa using this):p:=h
end Go.az
namespace Go.az
def fm:=@Go.Sem.run_bind
def iH:=@List.getElem?_map
def tK:=@Array.ext'
def iT:=@Go.run_underlying
def gh:=@Go.Result.andThen_ok
def ic:=@beq_iff_eq
end Go.az
namespace Go.az
open Go
noncomputable section
variable{t:TypeId}
def An(P:Program)(t:TypeId):Bool:=
 match P.underlying t with
 |some (.struct fs)=>(fs.toList.all fun f=>f.name != "_")&& !P.stoodInHeld t&& !P.eqGuardType P.depth t
 |_=>false
structure mH(X:Cx)(t:TypeId)(i:TypeInfo)(d:TypeDesc)(z:Value):Prop where
 info:X.P.info? t=some i
 jB:X.P.underlying t=some d
 zero:i.zero=some z
 u:(X.ti t).u =mq d
 size:(X.ti t).size =i.size
 bytes:(X.ti t).bytes =i.bytes
 zc:(X.ti t).zero =z.cells.toList.map zP
 zs:z.cells.size=i.size
 ks:(X.ti t).ks.length =i.size
 zag:RG z=(X.ti t).u.agg
structure aog(P:Program)(u:Ub):Prop where
 pt:P.underlying u.pt=some (.pointer u.bt)
 up:P.underlying u.up=some .unsafePointer
 bt:∃j,P.info? u.bt=some j∧j.size≠0
 aMv:liesAt P P.depth u.e (u.ks.length/P.cellsOf u.e) 0 u.bt 1=true
 ks:0<u.ks.length
 ne:∃fn,P.funcs[u.ne]?=some fn∧(fn.name== "runtime.NumGoroutine")=false∧fn.body.isNone=true∧Extern.findNext fn=none∧Extern.find fn=some Extern.AbiNoEscape.same
structure Cx.Okb(X:Cx):Prop where
 facts:∀{t},(X.ti t).ok =true->∃i d z,mH X t i d z
 mixed:X.P.follows .mixedOrders =true
 bad:∀t,(X.ti t).ok =false->(X.ti t).ks =[]
 fT:∀g,X.fT g= .top ∨(X.fT g).pure =true
 eqs:∀t,X.eqs t=true->An X.P t=true
 YO:X.pk=true->∀t,∀k∈X.K t,k≠ .any
 ub:∀u,X.ub=some u->aog X.P u
structure Cx.Ok(X:Cx):Prop extends Cx.Okb X where
 pkt:X.pk=true
variable {X:Cx} {R:Type}
def Cx.Ok.kinds(hX:X.Ok)(t:TypeId):∀k∈X.K t,k≠ .any :=hX.toOkb.YO hX.pkt t
def Cx.Okb.ok(hX:X.Okb)(h:X.pk=true):X.Ok:=⟨hX,h⟩
instance aNM:Coe X.Ok X.Okb:=⟨Cx.Ok.toOkb⟩
def azu(ht:∀t,(X.ti t).ok =true->X.ti t=wO X.P t)(hb:∀t,(X.ti t).ok =false->(X.ti t).ks =[])(t:TypeId):∀k∈X.K t,k≠ .any :=by
 intro k hk;cases h:(X.ti t).ok with
 |false=>
  have:=hb t h;simp [Cx.K,this]at hk
 |true=>
  have e:=ht t h;unfold Cx.K at hk;rw [e]at hk;unfold wO at hk;split at hk
  ·split at hk
   ·exact V3 _ _ _ k hk
   ·simp at hk
  ·simp at hk
def TI.alike(a b:TI):Prop:=a.ok=b.ok∧a.u=b.u∧a.size=b.size∧a.bytes=b.bytes∧a.zero=b.zero∧a.ks.length=b.ks.length
def aex(e:TI.alike (X.ti t) (wO X.P t))(h:(X.ti t).ok =true):∃i d z,mH X t i d z:=by
 obtain⟨e1,e2,e3,e4,e5,e6⟩:=e;unfold wO at e1 e2 e3 e4 e5 e6;cases hi:X.P.info? t with
 |none=>simp only [hi]at e1;rw [e1]at h;simp at h
 |some i=>
  cases hd:X.P.underlying t with
  |none=>simp only [hi,hd]at e1;rw [e1]at h;simp at h
  |some d=>
   cases hz:i.zero with
   |none=>simp only [hi,hd,hz]at e1;rw [e1]at h;simp at h
   |some z=>
    simp only [hi,hd,hz]at e1 e2 e3 e4 e5 e6;rw [e1]at h;simp only [bS,ic]at h;exact⟨i,d,z,⟨hi,hd,hz,e2,e3,e4,e5,h.1.1,by rw [e6];exact h.1.2,by rw [e2];exact h.2⟩⟩
def mH.isAgg{t:TypeId}{i:TypeInfo}{d:TypeDesc}{z:Value}(f:mH X t i d z)(w:World):(isAgg t).run X.P w= .ok (X.ti t).u.agg w:=by
 rw [f.u];unfold Go.isAgg;simp only [fm,iT f.jB,gh];cases d<;>rfl
def mH.sizeOf{t:TypeId}{i:TypeInfo}{d:TypeDesc}{z:Value}(f:mH X t i d z)(w:World):(sizeOf t).run X.P w= .ok (X.ti t).size w:=by
 rw [f.size];unfold Go.sizeOf typeInfo;simp [f.info]
def mH.zeroValue{t:TypeId}{i:TypeInfo}{d:TypeDesc}{z:Value}(f:mH X t i d z)(w:World):(zeroValue t).run X.P w= .ok z w:=by
 unfold Go.zeroValue typeInfo;simp [f.info,f.zero]
def mH.typeInfo{t:TypeId}{i:TypeInfo}{d:TypeDesc}{z:Value}(f:mH X t i d z)(w:World):(typeInfo t).run X.P w= .ok i w:=by
 unfold Go.typeInfo;simp [f.info]
def mH.slice{t e:TypeId}{i:TypeInfo}{d:TypeDesc}{z:Value}(f:mH X t i d z)(h:(X.ti t).u = .slice e):X.P.underlying t=some (.slice e):=ajb
def mH.array{t e:TypeId}{n:Nat}{i:TypeInfo}{d:TypeDesc}{z:Value}(f:mH X t i d z)(h:(X.ti t).u = .array n e):X.P.underlying t=some (.array n e):=by
 have:=f.u;rw [h]at this;cases d<;>simp [mq]at this;obtain⟨rfl,rfl⟩:=this;exact f.jB
def mH.anx{k:IntKind}{i:TypeInfo}{d:TypeDesc}{z:Value}(f:mH X t i d z)(h:(X.ti t).u = .int k):X.P.underlying t=some (.int k):=ajb
def mH.struct{t:TypeId}{fs:List (Nat×TypeId)}{i:TypeInfo}{d:TypeDesc}{z:Value}(f:mH X t i d z)(h:(X.ti t).u = .struct fs):
 ∃gs:Array Field,X.P.underlying t=some (.struct gs)∧fs=gs.toList.map λf=>(f.offset,f.type):=by
 have:=f.u;rw [h]at this;cases d<;>simp [mq]at this;exact⟨_,f.jB,this⟩
def Wj(K:TypeId->dZ)(ρ:bY)(F:bT)(w:World)(v:Value):aY K ρ F w (zP v) v:=by
 unfold zP;split<;>constructor
def azl(K:TypeId->dZ)(ρ:bY)(F:bT)(w:World)(v:Value):aY K ρ F w (XN v) v:=by
 unfold XN;split
 ·rename_i cs;have:=aY.agg (K:=K) (ρ:=ρ) (F:=F) (w:=w) (cs.toList.map zP) cs.toList (by simp) (λj x v hx hv=>by
   rw [iH,hv]at hx;simp at hx;subst hx;exact Wj K ρ F w v)
  exact se
 ·rename_i cs;split
  ·rename_i h;have om:cs= #[]:=by apply tK;simpa using h
   subst om;exact aY.ep [] [] rfl (λj x v hx _=>wk)
  ·exact .top _
 ·exact Wj K ρ F w v
def aAD(K:TypeId->dZ)(ρ:bY)(F:bT)(w:World)(vs:fA):dt K ρ F w (vs.map zP) vs:=
 ⟨by simp,λj x v hx hv=>by
   rw [iH,hv]at hx;simp at hx;subst hx;exact Wj K ρ F w v⟩
def HI{K:TypeId->dZ}{ρ:bY}{F:bT}{w:World}{x:AV}{v:Value}(h:aY K ρ F w x v)(hx:x.leaf=true)(gG:∀(id:Nat) hd,ρ[id]?=some hd->hd.v.oneCell'=true):v.oneCell'=true:=by
 cases h<;>simp_all [AV.leaf,Value.oneCell']<;>(apply gG;assumption)
def aY.cells{K:TypeId->dZ}{ρ:bY}{F:bT}{w:World}{x:AV}{v:Value}(h:aY K ρ F w x v)(hx:x.leaf=true∨∃cs,x= .agg cs)
 (gG:∀(id:Nat) hd,ρ[id]?=some hd->hd.v.oneCell'=true):dt K ρ F w x.cells v.cells.toList:=by
 rcases hx with hx|⟨cs,rfl⟩
 ·have h1:=HI h hx gG;have e1:x.cells=[x]:=by cases x<;>simp_all [AV.cells,AV.leaf]
  have e2:v.cells= #[v]:=by cases v<;>simp_all [Value.cells,Value.oneCell']
  rw [e1,e2];refine⟨rfl,λj y u hy hu=> ?_⟩;cases j with
  |zero=>simp at hy hu;subst hy;subst hu;exact h
  |succ j=>simp at hy
 ·cases h with
  |agg _ vs hl h=>exact⟨by simpa [Value.cells,AV.cells]using hl,by simpa [Value.cells,AV.cells]using h⟩
end
end Go.az
namespace Go.az
def eh{p:Prop}(h:p:=by simp;omega):p:=h
def lJ{p:Prop}(h:p:=by simpa using h):p:=h
def aiQ{p:Prop}(h:p:=by rw [AQ]at hu;cases d<;>simp [mq]at hu;exact f.jB):p:=h
def aiL{p:Prop}(h:p:=by
 cases hac:a==c with
 |false=>simp [ie]
 |true=>simpa using ih):p:=h
def bh{p:Prop}(h:p:=by cases h):p:=h
def Yl{p:Prop}(h:p:=by rw [Iy];exact hu):p:=h
end Go.az
namespace Go.az
def lg:=@Bool.false_eq_true
def ng:=@if_false
def nf:=@List.map_cons
def nc:=@List.length_cons
def dT:=@Bool.not_eq_true'
def mY:=@List.getD_eq_getElem?_getD
def ie:=@Go.Sem.run_pure
def ow:=@if_true
def gN:=@List.mem_cons
def Xt:=@List.drop_eq_getElem_cons
def oR:=@Option.getD_some
def BP:=@Array.getElem?_eq_getElem
def mD:=@List.mem_of_getElem?
def zy:=@Bool.or_eq_true
def jN:=@List.all_eq_true
def nU:=@Array.length_toList
def E3:=@of_decide_eq_true
def Iy:=@Array.getElem?_toList
end Go.az
namespace Go.az
open Go
noncomputable section
variable {X:Cx} {R:Type}
variable{x:AV}{off:Nat}{r:R}{t:TypeId}{xs:bp}{ks:dZ}
def aP(b:Bool)(x:Option R):Option R:=match b with|true=>x|false=>none
def di{b:Bool}{x:Option R}(h:aP b x=some r):b=true∧x=some r:=by
 cases b<;>simp_all [aP]
def yR(ks:dZ)(row:Row)(off:Nat):Nat->bp
 |0=>[]
 |n+1=>ld (ks.getD off .raw) (row.getD off .top)::yR ks row (off+1) n
def YM{ks:dZ}{row:Row}(h:dk ks row=true):∀(n off:Nat),off+n<=ks.length->yR ks row off n=(row.drop off).take n
 |0,off,_=>by simp [yR]
 |n+1,off,hb=>by
  have hl:=iG h;have h1:off<row.length:=by omega
  have h2:off<ks.length:=by omega
  simp only [yR,List.getD,dz h1,dz h2,oR];rw [EW (tF h (dz h2) (dz h1)),YM h n (off+1) (by omega)];rw [Xt h1,List.take_succ_cons]
def Kind.v:Kind->Kind| .slice _=> .any | .raw => .any |k=>k
def kAt(ks:dZ)(off:Nat)(k:Kind):Bool:=(ks.all (·==k))||(ks.getD off .raw ==k)
def aCD{k:Kind}(h:kAt ks off k=true)(ho:off<ks.length):ks[off]?=some k:=by
 unfold kAt at h;rw [zy]at h;rcases h with h|h
 ·rw [jN]at h;rw [dz ho];have:=h _ (dO ho);simp at this;rw [this]
 ·rw [ic,List.getD,dz ho]at h;rw [dz ho];exact lJ
def setAt:bp->Nat->bp->bp
 |cs,_,[]=>cs
 |cs,off,x::xs=>setAt (cs.set off x) (off+1) xs
def HY:∀(xs cs:bp) (off:Nat),(setAt cs off xs).length =cs.length
 | [],_,_=>rfl
 |x::xs,cs,off=>by simp [setAt,HY xs]
def ES:∀(xs cs:bp) (off:Nat),off+xs.length<=cs.length->∀(j:Nat),(setAt cs off xs)[j]?=if off<=j∧j<off+xs.length then xs[j- off]? else cs[j]?
 | [],cs,off,_,j=>by simp [setAt];omega
 |x::xs,cs,off,h,j=>by
  simp only [nc]at h;rw [setAt,ES xs (cs.set off x) (off+1) (eh) j]
  by_cases h1:j=off
  ·subst h1;rw [if_neg (by omega),if_pos (by simp),qu (by omega)];simp
  ·by_cases h2:off+1<=j∧j<off+1+xs.length
   ·rw [if_pos h2,if_pos (eh)];rw [show j- off=(j-(off+1))+1 by omega];simp
   ·rw [if_neg h2,if_neg (eh),kh (Ne.symm h1)]
def Re:dZ->Nat->bp->Bool
 |_,_,[]=>true
 |ks,off,x::xs=>iA (ks.getD off .raw) x&&Re ks (off+1) xs
def yr(ks:dZ)(off:Nat)(xs:bp):Bool:=
 (match ks with|k::r=>(r.all (·==k))&&xs.all (iA k)| []=>false)||Re ks off xs
def agb:∀{xs:bp} {ks:dZ} {off:Nat},Re ks off xs=true->∀{j:Nat} {x:AV},xs[j]?=some x->iA (ks.getD (off+j) .raw) x=true
 | [],_,_,_,j,x,hx=>wk
 |y::ys,ks,off,h,j,x,hx=>by
  simp only [Re,bS]at h;cases j with
  |zero=>simp at hx;subst hx;exact h.1
  |succ j=>
   have:=agb h.2 (j:=j) (x:=x) (I8)
   rwa [show off+(j+1)=off+1+j by omega]
def agc(h:yr ks off xs=true)(hb:off+xs.length<=ks.length){j:Nat}(hx:xs[j]?=some x):iA (ks.getD (off+j) .raw) x=true:=by
 unfold yr at h;rw [zy]at h;rcases h with h|h
 ·cases ks with
  |nil=>exact gM
  |cons k r=>
   simp only [bS,jN]at h;have hj:j<xs.length:=(eU.1 hx).1;have cF:off+j<(k::r).length :=by omega
   have hk:(k::r).getD (off+j) .raw =k:=by
    simp only [List.getD,dz cF,oR];have hm:=dO cF;rcases gN.1 hm with e|e
    ·exact e
    ·simpa using h.1 _ e
   rw [hk];exact h.2 x (mD hx)
 ·exact agb h hx
def ae2{cs:bp}(hk:dk ks cs=true)(h:yr ks off xs=true)(hb:off+xs.length<=ks.length):dk ks (setAt cs off xs)=true:=by
 have hl:=iG hk;refine XH (by rw [HY];exact hl) λj k x hkj hx=> ?_;rw [ES xs cs off (by omega) j]at hx
 by_cases hj:off<=j∧j<off+xs.length
 ·rw [if_pos hj]at hx;have:=agc h hb hx;rw [show off+(j- off)=j by omega]at this;simpa [List.getD,hkj]using this
 ·rw [if_neg hj]at hx;exact tF hk hkj hx
def aah(ks:dZ)(off:Nat):Kind:=
 match ks with
 | []=> .raw
 |k::r=>match r.all (·==k)with|true=>k|false=>(k::r).getD off .raw
def aCB(h:off<ks.length):aah ks off=ks[off]:=by
 unfold aah;split
 ·exact gM
 ·rename_i k r;split
  ·rename_i ha;cases off with
   |zero=>rfl
   |succ o=>
    have:=jN.1 ha (r[o]'(lJ)) (dO _);simpa using(eq_of_beq this).symm
  ·rw [mY,dz h];rfl
def uP(X:Cx)(t:TypeId)(p:AV)(M:aW)(k:AV->Option R):Option R:=
 match p with
 | .ij t' row off=>
   aP ((X.ti t).ok &&decide (off+(X.ti t).size <=(X.K t').length))
    (match(X.ti t).u.agg with
     |true=>k (.agg (yR (X.K t') row off (X.ti t).size))
     |false=>aP ((X.ti t).size ==1) (k (ld (aah (X.K t') off) (row.getD off .top))))
 | .ptr id i off=>
   match gm M id with
   |some (.var ks cs)=>
    aP ((X.ti t).ok &&i==0&&decide (off+(X.ti t).size <=ks.length))
     (match(X.ti t).u.agg with
      |true=>k (.agg (yR ks cs off (X.ti t).size))
      |false=>aP ((X.ti t).size ==1&&kAt ks off ((X.ti t).ks.headD .raw).v) (k (ld ((X.ti t).ks.headD .raw).v (cs.getD off .top))))
   |some (.row t' xs)=>
    aP ((X.ti t).ok &&decide (off+(X.ti t).size <=(X.K t').length)&&decide (i<xs.length))
     (match(X.ti t).u.agg with
      |true=>k (.agg (yR (X.K t') (xs.getD i []) off (X.ti t).size))
      |false=>aP ((X.ti t).size ==1) (k (ld ((X.K t').getD off .raw) ((xs.getD i []).getD off .top))))
   |_=>none
 |_=>none
def Lt(X:Cx):List (Nat×TypeId)->bp->bp->Option Bool
 | [],_,_=>some true
 |f::fs,xs,ys=>
  match Lt X fs xs ys with
  |none=>none
  |some r=>
   match(X.ti f.2).ok,(X.ti f.2).u,xs[f.1]?,ys[f.1]? with
   |true,.int _,some (.int ka a),some (.int kb b)=>(match ka==kb with|true=>some (a==b&&r)|false=>none)
   |true,.bool,some (.bool a),some (.bool b)=>some (a==b&&r)
   |_,_,_,_=>none
def zY(x:AV)(k:Bool->Option R):Option R:=
 match x with
 | .gE =>k true
 | .jF =>k false
 | .ab _ xs=>match xs.isEmpty with|true=>none|false=>k false
 |_=>none
def aeA{k:Bool->Option R}(h:zY x k=some r):
 ∃b,k b=some r∧∀{K:TypeId->dZ} {ρ:bY} {F:bT} {w:World} {v:Value},aY K ρ F w x v->∃a n c,v= .slice a n c∧a.isNone=b:=by
 unfold zY at h;split at h
 ·exact⟨_,h,λ{K ρ F w v} hr=>by cases hr;exact⟨none,0,0,rfl,rfl⟩⟩
 ·exact⟨_,h,λ{K ρ F w v} hr=>by cases hr;exact⟨some _,0,_,rfl,rfl⟩⟩
 ·rename_i t xs;split at h
  ·exact bh
  ·rename_i he;refine⟨_,h,λ{K ρ F w v} hr=> ?_⟩;cases hr with
   |kj t=>simp at he
   |ab t xs a cap vss hl lj jT hk hc hx=>exact⟨some _,_,_,rfl,rfl⟩
 ·cases h
def JK(X:Cx)(op:BinOp)(t:TypeId)(x y:AV)(k:AV->Option R):Option R:=
 match x,y with
 | .int kx a,.int ky b=>
   match op with
   | .shl =>aP (decide (0<=b)) (k (.int kx (kx.wrap (a*2^(min b.toNat kx.bits)))))
   | .shr =>aP (decide (0<=b)) (k (.int kx (a.fdiv (2^(min b.toNat kx.bits)))))
   |_=>
    aP (kx==ky) (match op with
     | .add =>k (.int kx (kx.wrap (a+b)))
     | .sub =>k (.int kx (kx.wrap (a- b)))
     | .mul =>k (.int kx (kx.wrap (a*b)))
     | .quo =>aP (!(b==0)) (k (.int kx (kx.wrap (a.tdiv b))))
     | .rem =>aP (!(b==0)) (k (.int kx (a.tmod b)))
     | .and =>k (.int kx (kx.wrap (BitVec.ofInt kx.bits a&&&BitVec.ofInt kx.bits b).toNat))
     | .or =>k (.int kx (kx.wrap (BitVec.ofInt kx.bits a|||BitVec.ofInt kx.bits b).toNat))
     | .xor =>k (.int kx (kx.wrap (BitVec.ofInt kx.bits a^^^BitVec.ofInt kx.bits b).toNat))
     | .andNot =>k (.int kx (kx.wrap (BitVec.ofInt kx.bits a&&& ~~~ BitVec.ofInt kx.bits b).toNat))
     | .eql =>k (.bool (a==b))
     | .neq =>k (.bool (a != b))
     | .lss =>k (.bool (decide (a<b)))
     | .leq =>k (.bool (decide (a<=b)))
     | .gtr =>k (.bool (decide (b<a)))
     | .geq =>k (.bool (decide (b<=a)))
     |_=>none)
 | .bool a,.bool b=>
   match(X.ti t).ok,(X.ti t).u,op with
   |true,.bool,.eql =>k (.bool (a==b))
   |true,.bool,.neq =>k (.bool (!(a==b)))
   |_,_,_=>none
 | .agg xs,.agg ys=>
   match X.eqs t,(X.ti t).ok,(X.ti t).u with
   |true,true,.struct fs=>
    match Lt X fs xs ys with
    |none=>none
    |some b=>match op with| .eql =>k (.bool b)| .neq =>k (.bool (!b))|_=>none
   |_,_,_=>none
 |x,.gE =>
  match(X.ti t).ok,(X.ti t).u,op with
  |true,.slice _,.eql =>zY x λb=>k (.bool b)
  |true,.slice _,.neq =>zY x λb=>k (.bool (!b))
  |_,_,_=>none
 |_,_=>none
def avr(P:Program)(w:World)(op:BinOp)(t:TypeId)(x y:Operand)(ka kb:IntKind)(a b:Int):(eqGuard op t x y (.int ka a) (.int kb b)).run P w= .ok () w:=by
 unfold eqGuard;cases op<;>rfl
def acF(P:Program)(w:World)(op:BinOp)(t:TypeId)(x y:Operand)(a b:Bool):(eqGuard op t x y (.bool a) (.bool b)).run P w= .ok () w:=by
 unfold eqGuard;cases op<;>rfl
def MY{i:TypeInfo}{d:TypeDesc}{z:Value}(f:mH X t i d z)(ha:(X.ti t).u.agg =false){vs:Array Value}{v:Value}(hv:vs[off]?=some v)(w:World):(part t vs off).run X.P w= .ok v w:=by
 simp only [part,fm,f.isAgg,ha,gh,hv,ie,lg,ng]
def aed(hX:X.Okb){ρ:bY}{F:bT}{w:World}{xs ys:bp}{vs us:Array Value}(h1:dt X.K ρ F w xs vs.toList)(h2:dt X.K ρ F w ys us.toList)(d:Nat):∀(gs:List Field) (b:Bool),(∀g∈gs,g.name≠ "_")→
 Lt X (gs.map λf=>(f.offset,f.type)) xs ys=some b->(Op.eqFields (d+1) vs us gs).run X.P w= .ok b w
 | [],b,_,h=>by
   simp only [List.map_nil,Lt,Option.some.injEq]at h;subst h;rfl
 |g::gs,b,hn,h=>by
  simp only [nf,Lt]at h;split at h
  ·exact bh
  rename_i r hr;have ih:=aed hX h1 h2 d gs r (fun g hg=>hn g (by simp [hg])) hr;have ak1:g.name≠ "_" :=hn g (by simp)
  have cell:∀{zs:bp} {ws:Array Value} {x:AV},dt X.K ρ F w zs ws.toList->zs[g.offset]?=some x->∃v,ws[g.offset]?=some v∧aY X.K ρ F w x v:=by
   intro zs ws x hz hx;have cF:g.offset<zs.length:=(eU.1 hx).1;have hl:=hz.1;simp only [nU]at hl;obtain⟨u,hu⟩:∃u,ws[g.offset]?=some u:=⟨ws[g.offset]'(by omega),BP (by omega)⟩;exact⟨u,hu,hz.2 g.offset _ _ hx (Yl)⟩
  split at h
  ·rename_i kt ka a kb c bB hu GU hyb;cases hk:ka==kb with
   |false=>rw [hk]at h;cases h
   |true=>
    rw [hk]at h;have hk:=eq_of_beq hk;subst hk;simp only [Option.some.injEq]at h;subst h;obtain⟨i,dd,z,f⟩:=hX.facts bB;have dS:X.P.underlying g.type=some (.int kt):=by
     have kg:=f.u;rw [hu]at kg;have hf:=f.jB;cases dd<;>simp [mq]at kg
     subst kg;exact hf
    have ha:(X.ti g.type).u.agg =false:=by rw [hu];rfl
    obtain⟨v,hv,jE⟩:=cell h1 GU;obtain⟨u,nq,kg⟩:=cell h2 hyb;cases jE;cases kg;simp only [Op.eqFields,ne_eq,ak1,not_false_eq_true,ow,fm,MY f ha hv,MY f ha nq,gh,run_equalIn_int (P:=X.P) w d g.type ka kt a c dS];exact aiL
  ·rename_i a c bB hu GU hyb;simp only [Option.some.injEq]at h;subst h;obtain⟨i,dd,z,f⟩:=hX.facts bB;have dS:X.P.underlying g.type=some .bool :=by
    have kg:=f.u;rw [hu]at kg;have hf:=f.jB;cases dd<;>simp [mq]at kg
    exact hf
   have ha:(X.ti g.type).u.agg =false:=by rw [hu];rfl
   obtain⟨v,hv,jE⟩:=cell h1 GU;obtain⟨u,nq,kg⟩:=cell h2 hyb;cases jE;cases kg;simp only [Op.eqFields,ne_eq,ak1,not_false_eq_true,ow,fm,MY f ha hv,MY f ha nq,gh,run_equalIn_bool' (P:=X.P) w d g.type a c dS];exact aiL
  ·exact bh
def azB(hX:X.Okb){op:BinOp}{u:TypeId}{y:AV}{a b:Operand}{k:AV->Option R}(h:JK X op t x y k=some r):
 ∃z,k z=some r∧∀(ρ:bY) (F:bT) (w:World) (va vb:Value),aY X.K ρ F w x va->aY X.K ρ F w y vb->
  ∃v,(do eqGuard op t a b va vb;binOp op t va vb:Sem Value).run X.P w= .ok v w∧aY X.K ρ F w z v:=by
 unfold JK at h;split at h
 ·rename_i kx a' ky b';have key:∀(z:AV) (v:Value),(∀(ρ:bY) (F:bT) (w:World),aY X.K ρ F w z v)->(∀w,(binOp op t (.int kx a') (.int ky b')).run X.P w= .ok v w)->∀(ρ:bY) (F:bT) (w:World) (va vb:Value),aY X.K ρ F w (.int kx a') va->aY X.K ρ F w (.int ky b') vb->
   ∃v,(do eqGuard op t a b va vb;binOp op t va vb:Sem Value).run X.P w= .ok v w∧aY X.K ρ F w z v:=by
   intro z v hz dB ρ F w va vb h1 h2;cases h1;cases h2;refine⟨v,?_,hz ρ F w⟩;rw [fm,avr];exact dB w
  cases op<;>simp only at h<;>first
   |(replace h:=di h
     obtain⟨e,h⟩:=h
     first
      |(have e':=E3 e
        refine⟨_,h,key _ _ (λ_ _ _=> .int _ _) λw=> ?_⟩;unfold binOp Op.shift;simp [show¬b'<0 by omega]
        done)
      |(rw [ic]at e
        subst e
        first
         |(refine⟨_,h,key _ _ (λ_ _ _=> .int _ _) λw=> ?_⟩
           first
            |(simp [binOp,Op.intArith];done)
            |(simp [binOp,Op.intBits];done))
         |(refine⟨_,h,key _ _ (λ_ _ _=> .bool _) λw=> ?_⟩
           simp [binOp,Op.intCmp];done)
         |(replace h:=di h
           obtain⟨e2,h⟩:=h;refine⟨_,h,key _ _ (λ_ _ _=> .int _ _) λw=> ?_⟩;have hb:b'≠0:=by simpa using e2
           simp [binOp,Op.intDiv,hb];done)))
   |cases h
 ·rename_i a' b';cases bB:(X.ti t).ok with
  |false=>simp [bB]at h
  |true=>
   obtain⟨i,d,z,f⟩:=hX.facts bB;have hu:=f.u;simp only [bB]at h;split at h
   ·rename_i AQ;have dS:X.P.underlying t=some .bool :=aiQ;refine⟨_,h,λρ F w va vb h1 h2=> ?_⟩;cases h1;cases h2;refine⟨_,?_,.bool _⟩;rw [fm,acF];exact run_eql_bool (P:=X.P) (w:=w) t a' b' dS
   ·rename_i AQ;have dS:X.P.underlying t=some .bool :=aiQ;refine⟨_,h,λρ F w va vb h1 h2=> ?_⟩;cases h1;cases h2;refine⟨_,?_,.bool _⟩;rw [fm,acF];exact run_neq_bool (P:=X.P) (w:=w) t a' b' dS
   ·exact bh
 ·rename_i xs ys;split at h
  ·rename_i fs heq bB hu;split at h
   ·exact bh
   ·rename_i bb Sm;obtain⟨i,d,z,f⟩:=hX.facts bB;have yv:=hX.eqs t heq;have kg:=f.u;rw [hu]at kg;have dS:=f.jB;cases d<;>simp only [mq]at kg<;>try cases kg
    rename_i gs;unfold An at yv;rw [dS]at yv;simp only [bS,dT,jN,bne_iff_ne]at yv;obtain⟨⟨hn,eJ⟩,hg⟩:=yv;have nO:X.P.fieldsOf t=gs:=by simp [Program.fieldsOf,dS]
    have run:∀(ρ:bY) (F:bT) (w:World) (va vb:Array Value),dt X.K ρ F w xs va.toList->dt X.K ρ F w ys vb.toList->(Op.equalIn 10000 t (.agg va) (.agg vb)).run X.P w= .ok bb w:=by
     intro ρ F w va vb h1 h2;rw [run_equalIn_struct w 9999 t va vb (by rw [nO];exact dS) eJ,nO];exact aed hX h1 h2 9998 gs.toList bb hn Sm
    split at h
    ·refine⟨_,h,λρ F w va vb h1 h2=> ?_⟩;cases h1 with
     |agg _ v1 eZ pG=>
      cases h2 with
      |agg _ v2 fP rM=>
       refine⟨.bool bb,?_,.bool _⟩;rw [fm,run_eqGuard_agg (P:=X.P) w .eql t a b _ _ hg,gh,run_eql_struct,run ρ F w _ _ ⟨eZ,pG⟩ ⟨fP,rM⟩];rfl
    ·refine⟨_,h,λρ F w va vb h1 h2=> ?_⟩;cases h1 with
     |agg _ v1 eZ pG=>
      cases h2 with
      |agg _ v2 fP rM=>
       refine⟨.bool (!bb),?_,.bool _⟩;rw [fm,run_eqGuard_agg (P:=X.P) w .neq t a b _ _ hg,gh,run_neq_struct,run ρ F w _ _ ⟨eZ,pG⟩ ⟨fP,rM⟩];rfl
    ·exact bh
  ·exact bh
 ·split at h
  ·rename_i e heq bB hu;obtain⟨i,d,z',f⟩:=hX.facts bB;have dS:=f.slice hu;obtain⟨bb,h,hv⟩:=aeA h;refine⟨_,h,λρ F w va vb h1 h2=> ?_⟩;obtain⟨a',n,c,rfl,rfl⟩:=hv h1;cases h2;refine⟨.bool a'.isNone,?_,.bool _⟩;rw [eqGuard_at_slice,fm,ie,gh];exact Lib.run_eql_slice_nil w t _ a' n c 0 0 dS
  ·rename_i e heq bB hu;obtain⟨i,d,z',f⟩:=hX.facts bB;have dS:=f.slice hu;obtain⟨bb,h,hv⟩:=aeA h;refine⟨_,h,λρ F w va vb h1 h2=> ?_⟩;obtain⟨a',n,c,rfl,rfl⟩:=hv h1;cases h2;refine⟨.bool (!a'.isNone),?_,.bool _⟩;rw [eqGuard_at_slice,fm,ie,gh];exact run_neq_slice_nil_any w t _ a' n c 0 0 dS
  ·exact bh
 ·cases h
end
end Go.az
namespace Go.az
def pU{p:Prop}(h:p:=by simpa using h2):p:=h
def ajK{p:Prop}(h:p:=by
 rename_i ha;refine⟨_,h,λ{w0 S F ρ w vp} hI hp=> ?_⟩;obtain⟨hk,a,vs,rfl,hr,hc⟩:=core hI hp;exact(Iv hX bB hk hr hc qR).1 ha):p:=h
end Go.az
namespace Go.az
def oV:=@Array.getD_eq_getD_getElem?
def kz:=@Option.map_some
def iY:=@decide_eq_true_eq
def nV:=@List.getElem?_take
def qt:=@List.getElem?_drop
def zC:=@Go.Addr.add_add
def oS:=@Go.Addr.add_lit
def IF:=@Nat.zero_add
def tJ:=@List.getElem?_range
def Xs:=@List.take_zero
end Go.az
namespace Go.az
open Go
noncomputable section
variable {X:Cx} {R:Type}
variable {w0 w:World} {S:Sc} {F:bT} {ρ:bY} {M:aW}
def qv(w:World)(a:Addr)(vs:fA):Prop:=∀(j:Nat) v,vs[j]?=some v->w.cell? (a.add j)=some v
def az0(hX:X.Okb){t:TypeId}(bB:(X.ti t).ok =true){a:Addr}{vs:fA}(hl:vs.length=(X.ti t).size)(hc:qv w a vs):
 ((X.ti t).u.agg =true->(Instr.loadAt t (.pointer (some a))).run X.P w= .ok (.agg vs.toArray) w)∧
 ((X.ti t).u.agg =false->∀v,vs=[v]->(Instr.loadAt t (.pointer (some a))).run X.P w= .ok v w):=by
 obtain⟨i,d,z,f⟩:=hX.facts bB;constructor
 ·intro ha;unfold Instr.loadAt Instr.sureAddr loadVar;simp only [fm,ie,gh,f.isAgg,ha,ow,f.sizeOf,<-hl,run_loadCells_list w a vs hc]
 ·intro ha v hv;have h0:=hc 0 v (by simp [hv]);simp only [Addr.add,ow]at h0;unfold Instr.loadAt Instr.sureAddr loadVar;simp [f.isAgg,ha,run_load,h0]
def dt.drop_take{K:TypeId->dZ}{xs:bp}{vs:fA}(h:dt K ρ F w xs vs)(off n:Nat):dt K ρ F w ((xs.drop off).take n) ((vs.drop off).take n):=by
 refine⟨by simp [h.1],λj x v hx hv=> ?_⟩;rw [nV]at hx hv;split at hx
 ·rename_i hj;rw [if_pos hj]at hv;rw [qt]at hx hv;exact h.2 _ x v hx hv
 ·cases hx
def qv.drop_take{a:Addr}{vs:fA}(h:qv w a vs)(off n:Nat):qv w (a.add off) ((vs.drop off).take n):=by
 intro j v hv;rw [nV]at hv;split at hv
 ·rw [qt]at hv;rw [zC];exact h _ v hv
 ·cases hv
def Inv.WA(hI:Inv X w0 S F ρ M w){id:Nat}{ks:dZ}{cs:bp}(hb:M[id]?=some (.var ks cs)){hd:Hd}(hh:ρ[id]?=some hd):
 dk ks cs=true∧∃g cur e,hd.v= .slice (some ⟨g,0,none⟩) 1 1∧hd.sz=cs.length∧w.heap[g]?=some (.cells cur e (0,0))∧dt X.K ρ F w cs cur.toList∧qv w ⟨g,0,none⟩ cur.toList∧X.Aw ks e=true:=by
 obtain⟨h1,h2,g,cur,e,hv,hg,hr,hy⟩:=hI.rep id _ hd hb hh;refine⟨h1,g,cur,e,hv,h2,hg,hr,λj v hj=> ?_,hy⟩;rw [oS,IF,cell_of_row w g j cur e (0,0) hg];simpa using hj
def Inv.Ir(hI:Inv X w0 S F ρ M w){id:Nat}{t:TypeId}{xs:aZ}(hb:M[id]?=some (.row t xs)){hd:Hd}(hh:ρ[id]?=some hd){i:Nat}{row:Row}(hi:xs[i]?=some row):
 dk (X.K t) row=true∧hd.sz=(X.K t).length ∧∃g o c cur vs,hd.v= .slice (some ⟨g,o,none⟩) xs.length c∧w.heap[g]?=some (.cells cur t (0,0))∧xs.length<=c∧c<=maxLen∧o+c*hd.sz<=cur.size∧
  dt X.K ρ F w row vs∧qv w ⟨g,o+i*hd.sz,none⟩ vs∧(∀(j:Nat) v,vs[j]?=some v->cur[o+i*hd.sz+j]?=some v):=by
 obtain⟨h1,h2,h3⟩:=hI.rep id _ hd hb hh;have hk:=h2 i row hi;refine⟨hk,h1,?_⟩;rcases h3 with⟨_,he⟩|⟨g,o,c,cur,hv,hg,h4,h5,h6,h7⟩
 ·subst he;simp at hi
 ·have hlen:=iG hk;have fo:∃vs:fA,vs.length=row.length∧∀(j:Nat) x v,row[j]?=some x->vs[j]?=some v->cur[o+i*hd.sz+j]?=some v∧aY X.K ρ F w x v:=by
   refine⟨(List.range row.length).map λj=>cur.getD (o+i*hd.sz+j) undef,by simp,λj x v hx hv=> ?_⟩;obtain⟨u,hu,hr⟩:=h7 i row hi j x hx;have hj:=(eU.1 hx).1;rw [iH,tJ hj]at hv;simp only [kz,Option.some.injEq]at hv;have:cur.getD (o+i*hd.sz+j) undef=u:=by rw [oV,hu];rfl
   rw [this]at hv;subst hv;exact⟨hu,hr⟩
  obtain⟨vs,hl,fo⟩:=fo;have Kf:∀(j:Nat) v,vs[j]?=some v->cur[o+i*hd.sz+j]?=some v:=by
   intro j v hj;have rL:=(eU.1 hj).1;exact(fo j (row[j]'(by omega)) v (dz (by omega)) hj).1
  refine⟨g,o,c,cur,vs,hv,hg,h4,h5,h6,⟨hl,λj x v hx hv=>(fo j x v hx hv).2⟩,λj v hj=> ?_,Kf⟩;rw [oS,cell_of_row w g _ cur t (0,0) hg];exact Kf j v hj
def qW{α:Type}{xs:List α}{i:Nat}{d:α}(h:i<xs.length):xs[i]?=some (xs.getD i d):=by
 simp [List.getD,dz h]
def dt.one{K:TypeId->dZ}{x:AV}{vs:fA}(h:dt K ρ F w [x] vs):∃v,vs=[v]∧aY K ρ F w x v:=by
 obtain⟨h1,h2⟩:=h
 match vs,h1 with
 | [v],_=>exact⟨v,rfl,h2 0 x v rfl rfl⟩
def Iv(hX:X.Okb){t:TypeId}(bB:(X.ti t).ok =true){ks:dZ}{row:Row}(hk:dk ks row=true){a:Addr}{vs:fA}(hr:dt X.K ρ F w row vs)(hc:qv w a vs){off:Nat}
 (hb:off+(X.ti t).size <=ks.length):
 ((X.ti t).u.agg =true->∃v,(Instr.loadAt t (.pointer (some (a.add off)))).run X.P w= .ok v w∧aY X.K ρ F w (.agg (yR ks row off (X.ti t).size)) v)∧
 ((X.ti t).u.agg =false->(X.ti t).size =1->∃v,(Instr.loadAt t (.pointer (some (a.add off)))).run X.P w= .ok v w∧aY X.K ρ F w (row.getD off .top) v):=by
 have hl:=iG hk;have y4:=hr.1;have nM:=hr.drop_take off (X.ti t).size;have zf:=hc.drop_take off (X.ti t).size;have hlen:((vs.drop off).take (X.ti t).size).length =(X.ti t).size :=eh;obtain⟨l1,l2⟩:=az0 (w:=w) hX bB hlen zf;constructor
 ·intro ha;refine⟨_,l1 ha,?_⟩;rw [YM hk _ _ hb];exact .agg _ _ nM.1 nM.2
 ·intro ha h1;have cF:off<row.length:=by omega
  have e:(row.drop off).take (X.ti t).size =[row.getD off .top]:=by
   rw [h1,Xt cF,List.take_succ_cons,Xs];simp only [List.getD,dz cF,oR]
  rw [e]at nM;obtain⟨v,hv,jI⟩:=nM.one;exact⟨v,l2 ha v hv,jI⟩
def aec(hX:X.Okb){t:TypeId}{p:AV}{k:AV->Option R}{r:R}(h:uP X t p M k=some r):
 ∃z,k z=some r∧∀{w0:World} {S:Sc} {F:bT} {ρ:bY} {w:World} {vp:Value},Inv X w0 S F ρ M w->aY X.K ρ F w p vp->∃v,(Instr.loadAt t vp).run X.P w= .ok v w∧aY X.K ρ F w z v:=by
 unfold uP at h;simp only [eY]at h;split at h
 ·rename_i t' row off;replace h:=di h;obtain⟨h1,h⟩:=h;simp only [bS,iY]at h1;split at h
  ·rename_i ha;refine⟨_,h,λ{w0 S F ρ w vp} hI hp=> ?_⟩;cases hp with
   |ij _ _ _ a vs hk hl hc hr=>exact(Iv hX h1.1 hk ⟨hl,hr⟩ (λj v hv=>(hc j v hv).1) h1.2).1 ha
  ·rename_i ha;replace h:=di h;obtain⟨h2,h⟩:=h;refine⟨_,h,λ{w0 S F ρ w vp} hI hp=> ?_⟩;cases hp with
   |ij _ _ _ a vs hk hl hc hr=>
    obtain⟨v,vH,jE⟩:=(Iv hX h1.1 hk ⟨hl,hr⟩ (λj v hv=>(hc j v hv).1) h1.2).2 ha (pU);refine⟨v,vH,?_⟩;have hs:(X.ti t).size =1:=pU;have yw:off<(X.K t').length :=by omega
    rw [aCB yw,EW]
    ·exact jE
    ·have cF:off<row.length:=by rw [iG hk];exact yw
     exact tF hk (dz yw) (qW cF)
 ·rename_i id i off;split at h
  ·rename_i ks cs hb;replace h:=di h;obtain⟨h1,h⟩:=h;simp only [bS,iY,ic]at h1;obtain⟨⟨bB,ze⟩,qR⟩:=h1;subst ze;have core:∀{w0:World} {S:Sc} {F:bT} {ρ:bY} {w:World} {vp:Value},Inv X w0 S F ρ M w->aY X.K ρ F w (.ptr id 0 off) vp->
    dk ks cs=true∧∃a vs,vp= .pointer (some (Addr.add a off))∧dt X.K ρ F w cs vs∧qv w a vs:=by
    intro w0 S F ρ w vp hI hp;cases hp with
    |ptr _ _ _ hd g o n c bA hv=>
     obtain⟨hk,g',cur,e,fN,ei,hg,hr,hc,_⟩:=hI.WA hb bA;rw [hv]at fN;injection fN with h1 h2 h3;injection h1 with h1;injection h1 with h1 h4 h5;subst h1;subst h4;refine⟨hk,⟨g,0,none⟩,cur.toList,?_,hr,hc⟩;simp [oS]
   split at h
   ·exact ajK
   ·rename_i ha;replace h:=di h;obtain⟨h2,h⟩:=h;simp only [bS,ic]at h2;refine⟨_,h,λ{w0 S F ρ w vp} hI hp=> ?_⟩;obtain⟨hk,a,vs,rfl,hr,hc⟩:=core hI hp;obtain⟨v,vH,jE⟩:=(Iv hX bB hk hr hc qR).2 ha h2.1;refine⟨v,vH,?_⟩;have cF:off<cs.length:=by have:=iG hk;omega
    rw [EW (tF hk (aCD h2.2 (by omega)) (qW cF))];exact jE
  ·rename_i t' xs hb;replace h:=di h;obtain⟨h1,h⟩:=h;simp only [bS,iY]at h1;obtain⟨⟨bB,qR⟩,hi⟩:=h1;have core:∀{w0:World} {S:Sc} {F:bT} {ρ:bY} {w:World} {vp:Value},Inv X w0 S F ρ M w->aY X.K ρ F w (.ptr id i off) vp->
    dk (X.K t') (xs.getD i [])=true∧∃a vs,vp= .pointer (some (Addr.add a off))∧dt X.K ρ F w (xs.getD i []) vs∧qv w a vs:=by
    intro w0 S F ρ w vp hI hp;cases hp with
    |ptr _ _ _ hd g o n c bA hv=>
     obtain⟨hk,ei,g',o',c',cur,vs,fN,hg,_,_,_,hr,hc,_⟩:=hI.Ir hb bA (qW (d:=[]) hi);rw [hv]at fN;injection fN with h1 h2 h3;injection h1 with h1;injection h1 with h1 h4 h5;subst h1;subst h4;refine⟨hk,_,vs,?_,hr,hc⟩;simp [oS]
   split at h
   ·exact ajK
   ·rename_i ha;replace h:=di h;obtain⟨h2,h⟩:=h;refine⟨_,h,λ{w0 S F ρ w vp} hI hp=> ?_⟩;obtain⟨hk,a,vs,rfl,hr,hc⟩:=core hI hp;have hs:(X.ti t).size =1:=pU;obtain⟨v,vH,jE⟩:=(Iv hX bB hk hr hc qR).2 ha hs;refine⟨v,vH,?_⟩;have yw:off<(X.K t').length :=by omega
    have cF:off<(xs.getD i []).length :=by rw [iG hk];exact yw
    rw [show(X.K t').getD off .raw =(X.K t')[off]by simp [List.getD,dz yw],EW (tF hk (dz yw) (qW cF))];exact jE
  ·exact bh
 ·cases h
end
end Go.az
namespace Go.az
def JB{p:Prop}(h:p:=by injection hk with hk;subst hk;exact Lj a ha):p:=h
def Jm{p:Prop}(h:p:=by
 rw [pQ,Xc]at this;omega):p:=h
def ajC{p:Prop}(h:p:=by
 simp only [vd]at h;exact⟨_,_,h,rfl,dR.refl _ _,λ{w0 S F ρ w} hI=>⟨F,hI,Grow.refl _ _ _,λ_ hv=>hv⟩⟩):p:=h
def ajz{p:Prop}(h:p:=by
 intro y hy;obtain⟨j,hj⟩:=zA hy;exact aev (agc iX (by omega) hj)):p:=h
def ajn{p:Prop}(h:p:=by
 injection e1 with e1;injection e1 with e1 e4 e5;subst e1;subst e4;exact⟨vs,hr,hc⟩):p:=h
def B5{p:Prop}(h:p:=by simpa using hu):p:=h
def Fw{p:Prop}(h:p:=by simpa using hy):p:=h
def aiP{p:Prop}(h:p:=by
 simp only [IJ,fy,oT,zw,nU];omega):p:=h
def Ja{p:Prop}(h:p:=by simpa using hb):p:=h
def aiB{p:Prop}(h:p:=by exact HI (sU.2 j _ u hy hj) (ak3 _ (mD hy)) hI.one):p:=h
end Go.az
namespace Go.az
def IJ:=@List.size_toArray
def iJ:=@List.append_assoc
def uK:=@List.flatMap_cons
def fy:=@List.length_append
def oT:=@List.length_take
def Xu:=@List.getElem?_toArray
def zA:=@List.getElem?_of_mem
def xF:=@Nat.add_zero
def zx:=@List.length_set
def Ou:=@Go.run_storeCells_at
def Ot:=@Go.setRow_heap
def zw:=@List.length_drop
def rX:=@Nat.mul_le_mul_right
def pQ:=@Nat.add_mul
def Xc:=@Nat.one_mul
end Go.az
namespace Go.az
open Go
noncomputable section
variable {X:Cx} {R:Type}
variable {w0 w:World} {S:Sc} {F:bT} {ρ:bY} {M:aW}
def wg:AV->List Nat| .ptr id _ _=>[id]|_=>[]
def oz:AV->List Nat| .aA id=>[id]|_=>[]
def mi:AV->List Nat| .aA id=>[id]| .vw id _ _=>[id]|_=>[]
def ly(k:Kind)(x:AV)(M:aW)(c:AV->aW->Option R):Option R:=
 match k,x with
 | .slice t,.gE =>c (.ab t []) M
 | .slice t,.aA id=>
   match gm M id with
   |some (.row t' xs)=>aP (t==t') (c (.ab t' xs) (M.set id (.eN t' xs)))
   |some (.eN t' xs)=>aP (t==t') (c (.ab t' xs) M)
   |_=>none
 |_,x=>c x M
def vd:dZ->bp->aW->(bp->aW->Option R)->Option R
 |k::ks,x::xs,M,c=>ly k x M λx' M'=>vd ks xs M' λjA xi=>c (x'::jA) xi
 |_,xs,M,c=>c xs M
def avs(hI:Inv X w0 S F ρ M w){id:Nat}{t:TypeId}{xs:aZ}(hb:M[id]?=some (.row t xs)){hd:Hd}(hh:ρ[id]?=some hd):
 (hd.eC=none∧xs=[]∧hd.v= .slice none 0 0)∨∃g,hd.eC=some g∧∀(F':bT),(∀a,F a->F' a)->(∀a,a.block=g->F' a)->aY X.K ρ F' w (.ab t xs) hd.v:=by
 have jI:=hI.rep id _ hd hb hh;obtain⟨h1,h2,h3⟩:=jI;rcases h3 with⟨h3,h4⟩|⟨g,o,c,cur,hv,hg,h4,h5,h6,h7⟩
 ·exact .inl ⟨by simp [Hd.eC,Value.eC,h3],h4,h3⟩
 ·refine .inr ⟨g,n6,λF' hF hF'=> ?_⟩;rw [hv];have gW:∀i:Nat,i<xs.length->∃vs,dt X.K ρ F w (xs.getD i []) vs∧qv w ⟨g,o+i*hd.sz,none⟩ vs:=by
   intro i hi;obtain⟨_,_,g',o',c',aNs,vs,fN,_,_,_,_,hr,hc,_⟩:=hI.Ir hb hh (qW (d:=[]) hi);rw [hv]at fN;injection fN with e1 e2 e3;exact ajn
  let vss:List fA:=(List.range xs.length).map λi=>if h:i<xs.length then(gW i h).choose else []
  have anA:∀(i:Nat) vs,vss[i]?=some vs->∃h:i<xs.length,vs=(gW i h).choose :=by
   intro i vs fo;have hi:i<xs.length:=by
    have:=(eU.1 fo).1;simpa [vss]using this
   refine⟨hi,?_⟩;simp only [vss,iH,tJ hi,kz,Option.some.injEq,dif_pos hi]at fo;exact fo.symm
  refine .ab t xs ⟨g,o,none⟩ c vss (by simp [vss]) h4 h5 h2 ?_ ?_
  ·intro i vs fo;obtain⟨hi,rfl⟩:=anA i vs fo;obtain⟨hr,hc⟩:=(gW i hi).choose_spec;refine⟨by rw [hr.1,iG (h2 i _ (qW hi))],λj v hj=> ?_⟩;have:=hc j v hj;rw [oS]at this⊢;rw [<-h1];rw [show o+(i*hd.sz+j)=o+i*hd.sz+j by omega];exact⟨this,hF' _ rfl⟩
  ·intro i row vs aEY fo j x v hx fN;obtain⟨hi,rfl⟩:=anA i vs fo;obtain⟨hr,_⟩:=(gW i hi).choose_spec;have e:row=xs.getD i []:=by
    have:=qW (d:=([]:Row)) hi;rw [aEY]at this;injection this
   subst e;exact(hr.2 j x v hx fN).mono (λ_ _ h=>h) hF (λ_ _ _ h=>h)
def Inv.aj8(hI:Inv X w0 S F ρ M w){id:Nat}{b b':ed}{hd:Hd}(hb:M[id]?=some b)(hh:ρ[id]?=some hd)(dQ:hd.eC=none)(jI:jV X ρ F w hd b'):Inv X w0 S F ρ (M.set id b') w where
 os:=hI.os
 tape:=hI.tape
 output:=hI.output
 size:=hI.size
 frame:=hI.frame
 len:=X4
 rep:=λid' c h' hc eo=>by
  by_cases bA:id'=id
  ·exact ako
  ·rw [kh (Ne.symm bA)]at hc;exact hI.rep id' c h' hc eo
 sep:=λid' c h' g' hc lV eo jo=>by
  by_cases bA:id'=id
  ·subst bA;rw [hh]at eo;injection eo with eo;subst eo;rw [dQ]at jo;cases jo
  ·rw [kh (Ne.symm bA)]at hc;exact hI.sep id' c h' g' hc lV eo jo
 iN:=λi j c d hc h' k qj h1 h2 h3 h4 h5 h6 h7=>by
  by_cases hi:i=id
  ·subst hi;rw [hh]at h5;injection h5 with h5;subst h5;rw [dQ]at h7;cases h7
  ·by_cases hj:j=id
   ·subst hj;rw [hh]at h6;injection h6 with h6;subst h6;rw [dQ];simp
   ·rw [kh (Ne.symm hi)]at h1;rw [kh (Ne.symm hj)]at h2;exact hI.iN i j c d hc h' k qj h1 h2 h3 h4 h5 h6 h7
 fz:=hI.fz
 fT:=hI.fT
 one:=hI.one
 fV:=hI.fV
 fin:=hI.fin
def EX{k:Kind}{x:AV}{c:AV->aW->Option R}{r:R}(h:ly k x M c=some r):
 ∃x' M',c x' M'=some r∧M'.length=M.length∧dR (oz x) M M'∧∀{w0:World} {S:Sc} {F:bT} {ρ:bY} {w:World},Inv X w0 S F ρ M w->∃F',Inv X w0 S F' ρ M' w∧Grow F F' ρ ρ w w∧∀v,aY X.K ρ F w x v->aY X.K ρ F' w x' v:=by
 unfold ly at h;simp only [eY]at h;split at h
 ·exact⟨_,_,h,rfl,dR.refl _ _,λ{w0 S F ρ w} hI=>⟨F,hI,Grow.refl _ _ _,λv hv=>by cases hv;exact .kj _⟩⟩
 ·rename_i t id;split at h
  ·rename_i t' xs hb;replace h:=di h;obtain⟨_,h⟩:=h;refine⟨_,_,h,by simp,dR.set _ _ _,λ{w0 S F ρ w} hI=> ?_⟩;have cF:id<ρ.length:=by have:=(eU.1 hb).1;have:=hI.len;omega
   have hh:ρ[id]?=some ρ[id]:=dz cF;rcases avs hI hb hh with⟨h1,h2,h3⟩|⟨g,h1,h2⟩
   ·refine⟨F,hI.aj8 hb hh h1 ?_,Grow.refl _ _ _,λv hv=> ?_⟩
    ·subst h2;show aY _ _ _ _ _ _;rw [h3];exact .kj _
    ·cases hv with
     |aA _ hd bA=>
      rw [hh]at bA;injection bA with bA;subst bA;subst h2;rw [h3];exact .kj _
   ·have hr:=h2 (λa=>F a∨a.block=g) (λ_ h=> .inl h) (λ_ h=> .inr h);refine⟨_,hI.freeze hb rfl hh h1 (b':= .eN t' xs) rfl hr,⟨λ_ h=> .inl h,λ_ _ h=>h,λ_ _=>rfl⟩,λv hv=> ?_⟩;cases hv with
    |aA _ hd bA=>
     rw [hh]at bA;injection bA with bA;subst bA;exact hr
  ·rename_i t' xs hb;replace h:=di h;obtain⟨_,h⟩:=h;refine⟨_,_,h,rfl,dR.refl _ _,λ{w0 S F ρ w} hI=>⟨F,hI,Grow.refl _ _ _,λv hv=> ?_⟩⟩;cases hv with
   |aA _ hd bA=>exact hI.rep id _ hd hb bA
  ·exact bh
 ·exact⟨_,_,h,rfl,dR.refl _ _,λ{w0 S F ρ w} hI=>⟨F,hI,Grow.refl _ _ _,λ_ hv=>hv⟩⟩
def N0:∀(ks:dZ) (xs:bp) (M:aW) {c:bp->aW->Option R} {r:R},vd ks xs M c=some r->
 ∃jA M',c jA M'=some r∧M'.length=M.length∧dR (xs.flatMap oz) M M'∧∀{w0:World} {S:Sc} {F:bT} {ρ:bY} {w:World},Inv X w0 S F ρ M w->∃F',Inv X w0 S F' ρ M' w∧Grow F F' ρ ρ w w∧∀vs,dt X.K ρ F w xs vs->dt X.K ρ F' w jA vs
 | [],xs,M,c,r,h=>ajC
 |k::ks,[],M,c,r,h=>ajC
 |k::ks,x::xs,M,c,r,h=>by
  simp only [vd]at h;obtain⟨x',M1,h,eZ,DD,h1⟩:=EX (X:=X) h;obtain⟨jA,M2,h,fP,ha2,h2⟩:=N0 ks xs M1 h;refine⟨_,_,h,by omega,by rw [uK];exact DD.trans ha2,λ{w0 S F ρ w} hI=> ?_⟩;obtain⟨F1,i1,g1,r1⟩:=h1 hI;obtain⟨F2,i2,g2,r2⟩:=h2 i1;refine⟨F2,i2,g1.trans g2,λvs fo=> ?_⟩
  match vs,fo.1 with
  |v::vs',hl=>
   have hx:aY X.K ρ F w x v:=fo.2 0 x v rfl rfl;have hr:=r2 vs' ⟨oZ,λj y u hy hu=>(fo.2 (j+1) y u (Fw) (B5)).grow g1⟩;refine⟨by simp [hr.1],λj y u hy hu=> ?_⟩;cases j with
   |zero=>simp at hy hu;subst hy;subst hu;exact(r1 v hx).grow g2
   |succ j=>exact hr.2 j y u (Fw) (B5)
def NU(cur:Array Value)(vs:fA)(o:Nat)(hb:o+vs.length<=cur.size)(j:Nat):
 (cur.toList.take o++vs++cur.toList.drop (o+vs.length)).toArray[j]?=if o<=j∧j<o+vs.length then vs[j- o]? else cur[j]?:=by
 simp only [Xu,iJ]
 by_cases h1:j<o
 ·rw [ju (eh),if_neg (by omega),nV,if_pos h1];simp
 ·rw [kv (eh)];have e:(List.take o cur.toList).length =o:=eh;rw [e]
  by_cases h2:j<o+vs.length
  ·rw [if_pos ⟨by omega,h2⟩,ju (by omega)]
  ·rw [if_neg (by omega),kv (by omega),qt];rw [show o+vs.length+(j- o- vs.length)=j by omega];simp
def aep(hX:X.Okb){t:TypeId}(bB:(X.ti t).ok =true){g o:Nat}{cur:Array Value}{e:TypeId}(hg:w.heap[g]?=some (.cells cur e (0,0))){v:Value}(hs:v.cells.size=(X.ti t).size)
 (hb:o+v.cells.size<=cur.size) (h1:∀u∈v.cells.toList,u.oneCell'=true):
 (Instr.storeAt t (.pointer (some ⟨g,o,none⟩)) v).run X.P w= .ok () (w.setRow g (cur.toList.take o++v.cells.toList++cur.toList.drop (o+v.cells.toList.length)).toArray):=by
 obtain⟨i,d,z,f⟩:=hX.facts bB;have eJ:=Ou X.P g o e v.cells.toList 0 cur w hg (Ja) h1;simp only [xF]at eJ;unfold Instr.storeAt Instr.sureAddr storeVar;simp only [fm,ie,gh,f.sizeOf,hs,ne_eq,not_true_eq_false,ng,eJ]
def MJ(w:World)(g:Nat)(cs:Array Value):w.grownBy (w.setRow g cs) (some g):=
 ⟨rfl,rfl,rfl,by simp,λk _ hk=>setRow_other w g k cs (λe=>hk (by rw [e]))⟩
def NC{x:AV}(h:x.plain=true):x.leaf=true∨∃cs,x= .agg cs:=by
 cases x<;>simp_all [AV.plain,AV.leaf]
def Fi(X:Cx)(t:TypeId)(p x:AV)(M:aW)(k:aW->Option R):Option R:=
 match p with
 | .ptr id i off=>
   match gm M id with
   |some (.var ks cs)=>
    aP (x.plain&&(X.ti t).ok &&i==0&&x.cells.length==(X.ti t).size &&decide (off+(X.ti t).size <=ks.length)&&yr ks off x.cells) (k (M.set id (.var ks (setAt cs off x.cells))))
   |some (.row _ _)=>
    aP x.plain (vd (X.ti t).ks x.cells M λxc M1=>
     match gm M1 id with
     |some (.row t' xs)=>
      aP ((X.ti t).ok &&xc.length==(X.ti t).size &&decide (off+(X.ti t).size <=(X.K t').length)&&yr (X.K t') off xc&&decide (i<xs.length)) (k (M1.set id (.row t' (xs.set i (setAt (xs.getD i []) off xc)))))
     |_=>none)
   |_=>none
 |_=>none
def axZ(hX:X.Okb){t:TypeId}{p x:AV}{k:aW->Option R}{r:R}(h:Fi X t p x M k=some r):
 ∃M',k M'=some r∧dR (wg p++x.cells.flatMap oz) M M'∧∀{w0:World} {S:Sc} {F:bT} {ρ:bY} {w:World} {vp vx:Value},Inv X w0 S F ρ M w->aY X.K ρ F w p vp->aY X.K ρ F w x vx->
  ∃w' F',(Instr.storeAt t vp vx).run X.P w= .ok () w'∧Inv X w0 S F' ρ M' w'∧Grow F F' ρ ρ w w':=by
 unfold Fi at h;simp only [eY]at h;split at h
 ·rename_i id i off;split at h
  ·rename_i ks cs hb;replace h:=di h;obtain⟨h1,h⟩:=h;simp only [bS,iY,ic]at h1;obtain⟨⟨⟨⟨⟨y7,bB⟩,ze⟩,hlen⟩,qR⟩,iX⟩:=h1;subst ze;refine⟨_,h,(dR.set _ _ _).mono (by simp [wg]),λ{w0 S F ρ w vp vx} hI hp hx=> ?_⟩;cases hp with
   |ptr _ _ _ hd g o n c bA hv=>
    obtain⟨hk,g',cur,e,fN,ei,hg,hr,hc,hy⟩:=hI.WA hb bA;have jE:=fN;rw [hv]at fN;injection fN with e1 e2 e3;injection e1 with e1;injection e1 with e1 e4 e5;subst e1;subst e4;have ak3:∀y∈x.cells,y.leaf=true:=ajz;have sU:=hx.cells (NC y7) hI.one;have fo:vx.cells.size=(X.ti t).size :=by have:=sU.1;simp at this;omega
    have qi:=iG hk;have eL:=hr.1;simp only [nU]at eL;have oa:∀u∈vx.cells.toList,u.oneCell'=true:=by
     intro u hu;obtain⟨j,hj⟩:=zA hu;have rL:=(eU.1 hj).1;have hl:=sU.1;have hy:x.cells[j]?=some (x.cells[j]'(by omega)):=dz (by omega);exact aiB
    have dB:=aep (w:=w) hX bB (o:=off) hg fo (by omega) oa;have e0:(0+0*hd.sz+off:Nat)=off:=by omega
    rw [e0];have jm:=MJ w g (cur.toList.take off++vx.cells.toList++cur.toList.drop (off+vx.cells.toList.length)).toArray;have Lj:∀a,F a->a.block≠g:=(hI.sep id _ hd g hb rfl bA (n6)).2.2;have kK:Grow F F ρ ρ w (w.setRow g (cur.toList.take off++vx.cells.toList++cur.toList.drop (off+vx.cells.toList.length)).toArray):=
     ⟨λ_ h=>h,λ_ _ h=>h,hI.wV jm (λk hk a ha=>JB)⟩
    refine⟨_,F,dB,hI.write hb rfl bA (n6) jm ?_,kK⟩;refine⟨ae2 hk iX (by omega),by rw [HY];exact ei,g,_,e,jE,Ot w g cur _ e _ hg,⟨?_,λj y u hy hu=> ?_⟩,hy⟩
    ·rw [HY];simp only [fy,oT,zw,nU];omega
    ·rw [ES x.cells cs off (by omega) j]at hy;have nq:(cur.toList.take off++vx.cells.toList++cur.toList.drop (off+vx.cells.toList.length)).toArray[j]?=some u:=B5;rw [NU cur vx.cells.toList off (eh) j]at nq;have el:vx.cells.toList.length=x.cells.length:=sU.1;rw [el]at nq
     by_cases hj:off<=j∧j<off+x.cells.length
     ·rw [if_pos hj]at hy nq;exact(sU.2 _ y u hy nq).grow kK
     ·rw [if_neg hj]at hy nq;exact(hr.2 j y u hy (by simpa using nq)).grow kK
  ·rename_i t0 xs0 Lm;replace h:=di h;obtain⟨y7,h⟩:=h;obtain⟨xc,M1,h,eZ,fK,G3⟩:=N0 (X:=X) _ _ _ h;split at h
   ·rename_i t' xs hb;replace h:=di h;obtain⟨h1,h⟩:=h;simp only [bS,iY,ic]at h1;obtain⟨⟨⟨⟨bB,hlen⟩,qR⟩,iX⟩,hi⟩:=h1;refine⟨_,h,(fK.trans (dR.set _ _ _)).mono (by intro i hi;rw [jO]at hi⊢;rcases hi with h|h;exact .inr h;exact .inl (by simpa [wg]using h)),λ{w0 S F0 ρ w vp vx} oo hp hx=> ?_⟩;obtain⟨F,hI,qk,mU⟩:=G3 oo;cases hp with
    |ptr _ _ _ hd g o n c bA hv=>
     obtain⟨hk,ei,g',o',c',cur,vs,fN,hg,pG,rM,hc3,hr,hc,Kf⟩:=hI.Ir hb bA (qW (d:=[]) hi);have hv3:=fN;rw [hv]at fN;injection fN with e1 e2 e3;injection e1 with e1;injection e1 with e1 e4 e5;subst e1;subst e4;subst e3;have ak3:∀y∈xc,y.leaf=true:=ajz;have qi:=iG hk;have sU:dt X.K ρ F w xc vx.cells.toList:=mU _ (hx.cells (NC y7) oo.one);have fo:vx.cells.size=(X.ti t).size :=by have:=sU.1;simp at this;omega
     have oa:∀u∈vx.cells.toList,u.oneCell'=true:=by
      intro u hu;obtain⟨j,hj⟩:=zA hu;have rL:=(eU.1 hj).1;have hl:=sU.1;have hy:xc[j]?=some (xc[j]'(by omega)):=dz (by omega);exact aiB
     have aNN:o+i*hd.sz+hd.sz<=cur.size:=by
      have:(i+1)*hd.sz<=c*hd.sz:=rX _ (by omega);exact Jm
     have dB:=aep (w:=w) hX bB (o:=o+i*hd.sz+off) hg fo (by omega) oa;have jm:=MJ w g (cur.toList.take (o+i*hd.sz+off)++vx.cells.toList++cur.toList.drop (o+i*hd.sz+off+vx.cells.toList.length)).toArray;have Lj:∀a,F a->a.block≠g:=(hI.sep id _ hd g hb rfl bA (n6)).2.2;have kK:Grow F F ρ ρ w (w.setRow g (cur.toList.take (o+i*hd.sz+off)++vx.cells.toList++cur.toList.drop (o+i*hd.sz+off+vx.cells.toList.length)).toArray):=
      ⟨λ_ h=>h,λ_ _ h=>h,hI.wV jm (λk hk a ha=>JB)⟩
     obtain⟨q1,q2,q3⟩:=hI.rep id _ hd hb bA;have q4:∀(i:Nat) row,xs[i]?=some row->∀(j:Nat) x,row[j]?=some x->∃v,cur[o+i*hd.sz+j]?=some v∧aY X.K ρ F w x v:=by
      rcases q3 with⟨q5,_⟩|⟨g2,o2,c2,aNW,jE,lv,_,_,_,q7⟩
      ·rw [hv]at q5;cases q5
      ·rw [hv]at jE;injection jE with e1 e2 e3;injection e1 with e1;injection e1 with e1 e4 e5;subst e1;subst e4;rw [hg]at lv;injection lv with lv;injection lv with lv;subst lv;exact q7
     have yY:xs[i]?=some (xs.getD i []):=qW hi;refine⟨_,F,dB,hI.write hb rfl bA (n6) jm ?_,qk.trans kK⟩;refine⟨ei,λi' Gj dV=> ?_,.inr ⟨g,o,c,_,by rw [zx];exact hv3,Ot w g cur _ t' _ hg,by rw [zx];exact pG,rM,?_,λi' Gj dV j y hy=> ?_⟩⟩
     ·by_cases G1:i'=i
      ·subst G1;rw [qu hi]at dV;injection dV with dV;subst dV;exact ae2 hk iX (by omega)
      ·rw [kh (Ne.symm G1)]at dV;exact q2 i' Gj dV
     ·exact aiP
     ·have el:vx.cells.toList.length=xc.length:=sU.1;rw [NU cur vx.cells.toList _ (eh) _];have qN:∀(i:Nat) row,xs[i]?=some row->row.length=hd.sz:=λi row h=>by rw [iG (q2 i row h),ei]
      by_cases G1:i'=i
      ·subst G1;rw [qu hi]at dV;injection dV with dV;subst dV;rw [ES xc _ off (by omega) j]at hy
       by_cases hj:off<=j∧j<off+xc.length
       ·rw [if_pos hj]at hy;rw [if_pos (by omega)];have Le:j- off<xc.length:=by omega
        have hu:vx.cells.toList[j- off]?=some (vx.cells.toList[j- off]'(by omega)):=dz (by omega);refine⟨_,by rw [show o+i'*hd.sz+j-(o+i'*hd.sz+off)=j- off by omega];exact hu,(sU.2 _ y _ hy hu).grow kK⟩
       ·rw [if_neg hj]at hy;rw [if_neg (by omega)];obtain⟨u,hu,hru⟩:=q4 i' _ yY j y hy;exact⟨u,hu,hru.grow kK⟩
      ·rw [kh (Ne.symm G1)]at dV;have Ld:j<hd.sz:=by rw [<-qN i' Gj dV];exact(eU.1 hy).1
       have eD:¬(o+i*hd.sz+off<=o+i'*hd.sz+j∧o+i'*hd.sz+j<o+i*hd.sz+off+vx.cells.toList.length):=by
        rcases Nat.lt_or_gt_of_ne G1 with cF|Lf
        ·have:(i'+1)*hd.sz<=i*hd.sz:=rX _ (by omega);exact Jm
        ·have:(i+1)*hd.sz<=i'*hd.sz:=rX _ (by omega);exact Jm
       rw [if_neg eD];obtain⟨u,hu,hru⟩:=q4 i' Gj dV j y hy;exact⟨u,hu,hru.grow kK⟩
   ·exact bh
  ·exact bh
 ·cases h
end
end Go.az
namespace Go.az
def akA{p:Prop}(h:p:=by
 rw [e7,iH]at xb;cases hgs:gs.toList[fi]? with
 |none=>rw [hgs]at xb;cases xb
 |some rQ=>
  rw [hgs]at xb;simp at xb;exact⟨rQ,by simpa using hgs,xb.1,xb.2⟩):p:=h
def FL{p:Prop}(h:p:=by rw [f.zc];exact aAD _ _ _ _ _):p:=h
def zU{p:Prop}(h:p:=by rw [f2.size];exact f2.ks):p:=h
def ajD{p:Prop}(h:p:=by
 cases hv with
 |ij _ _ _ a vs hk hl hc hr=>
  refine⟨_,dB _ _,?_⟩;rw [zC];exact .ij _ _ _ a vs hk hl hc hr):p:=h
def aja{p:Prop}(h:p:=by
 refine⟨_,run_indexAt_slice hX bB hu he h0 h1 w,?_⟩;rw [<-ei];exact hp):p:=h
def zL{p:Prop}(h:p:=by simp at hi):p:=h
end Go.az
namespace Go.az
def E9:=@Go.run_newObj
def E8:=@Go.World.alloc_eq
def Oo:=@Go.heap_alloc_new
def E1:=@Go.World.grownBy_alloc
end Go.az
namespace Go.az
open Go
noncomputable section
variable {X:Cx} {R:Type}
variable {w0 w:World} {S:Sc} {F:bT} {ρ:bY} {M:aW}
variable{i x:AV}{k:AV->Option R}{fi:Nat}{r:R}{t:TypeId}{cs:bp}
def Ar(X:Cx)(M:aW)(x:AV)(M':aW)(hyp:bY->bT->World->Prop)(s:Sem Value):Prop:=
 ∀{w0:World} {S:Sc} {F:bT} {ρ:bY} {w:World},Inv X w0 S F ρ M w->hyp ρ F w->
  ∃v w' ρ' F',s.run X.P w= .ok v w'∧Inv X w0 S F' ρ' M' w'∧Grow F F' ρ ρ' w w'∧aY X.K ρ' F' w' x v
def avp{w:World}{o:Obj}:∀a v,w.cell? a=some v->(w.alloc o).cell? a=some v:=by
 intro a v h;rw [World.cell?_alloc_lt _ _ _ (block_lt_of_cell h)];exact h
def Inv.newVar(hI:Inv X w0 S F ρ M w){ks:dZ}(hk:dk ks cs=true){cur:Array Value}(hr:dt X.K ρ F w cs cur.toList)(e:TypeId)(hy:X.Aw ks e=true):
 Inv X w0 S F (ρ++[⟨.slice (some ⟨w.heap.size,0,none⟩) 1 1,cs.length⟩]) (M++[.var ks cs]) (w.alloc (.cells cur e))∧
 Grow F F ρ (ρ++[⟨.slice (some ⟨w.heap.size,0,none⟩) 1 1,cs.length⟩]) w (w.alloc (.cells cur e)):=by
 have kK:Grow F F ρ (ρ++[⟨.slice (some ⟨w.heap.size,0,none⟩) 1 1,cs.length⟩]) w (w.alloc (.cells cur e)):=
  ⟨λ_ h=>h,λ_ _ h=>ny h,hI.wV (E1 w _ none) (by simp)⟩
 refine⟨hI.push (E1 w _ none) (hd:=⟨.slice (some ⟨w.heap.size,0,none⟩) 1 1,cs.length⟩) ?_ rfl ?_,kK⟩
 ·intro g hg;simp [Hd.eC,Value.eC]at hg;subst hg;simp
 ·exact⟨hk,rfl,_,_,_,rfl,Oo w _,hr.grow kK,hy⟩
def Xl{hd:Hd}{g o n c:Nat}(hl:ρ.length=M.length)(hv:hd.v= .slice (some ⟨g,o,none⟩) n c)(i off:Nat):
 aY X.K (ρ++[hd]) F w (.ptr M.length i off) (.pointer (some ⟨g,o+i*hd.sz+off,none⟩)):=
 .ptr _ _ _ hd g o n c (by rw [<-hl];simp) hv
def oI(X:Cx)(t:TypeId):dZ:=(X.ti t).ks.map Kind.v
def XL(X:Cx)(t:TypeId)(M:aW)(k:AV->aW->Option R):Option R:=
 aP (((X.ti t).ok &&X.Aw (oI X t) t)&&dk (oI X t) (X.ti t).zero) (k (.ptr M.length 0 0) (M++[.var (oI X t) (X.ti t).zero]))
def ax5(hX:X.Okb){k:AV->aW->Option R}(h:XL X t M k=some r):
 ∃x M',k x M'=some r∧dR [] M M'∧Ar X M x M' (λ_ _ _=>True) (Instr.alloc t true (.tuple #[])):=by
 unfold XL at h;replace h:=di h;obtain⟨h1,h⟩:=h;simp only [bS]at h1;obtain⟨i,d,z,f⟩:=hX.facts h1.1.1;refine⟨_,_,h,dR.push _ _ _,λ{w0 S F ρ w} hI _=> ?_⟩;have hr:dt X.K ρ F w (X.ti t).zero z.cells.toList:=FL;obtain⟨dG,hg⟩:=hI.newVar h1.2 hr t h1.1.2;refine⟨.pointer (some ⟨w.heap.size,0,none⟩),_,_,_,?_,dG,hg,?_⟩
 ·simp only [Instr.alloc,fm,f.zeroValue,gh,newVar,newRow,E9,ie,E8]
 ·have:=Xl (X:=X) (F:=F) (w:=w.alloc (.cells z.cells t)) (hd:=⟨.slice (some ⟨w.heap.size,0,none⟩) 1 1,(X.ti t).zero.length⟩) hI.len rfl 0 0;exact se
def Zw(X:Cx)(t:TypeId)(x:AV)(M:aW)(k:AV->aW->Option R):Option R:=
 aP ((x.plain&&X.Aw (oI X t) t)&&dk (oI X t) x.cells) (k (.ptr M.length 0 0) (M++[.var (oI X t) x.cells]))
def azA{k:AV->aW->Option R}(h:Zw X t x M k=some r):
 ∃y M',k y M'=some r∧dR [] M M'∧∀v,Ar X M y M' (λρ F w=>aY X.K ρ F w x v) (Instr.box t v):=by
 unfold Zw at h;replace h:=di h;obtain⟨h1,h⟩:=h;simp only [bS]at h1;refine⟨_,_,h,dR.push _ _ _,λv {w0 S F ρ w} hI hx=> ?_⟩;have hr:=hx.cells (NC h1.1.1) hI.one;obtain⟨dG,hg⟩:=hI.newVar h1.2 hr t h1.1.2;refine⟨.pointer (some ⟨w.heap.size,0,none⟩),_,_,_,?_,dG,hg,?_⟩
 ·simp only [Instr.box,fm,newVar,newRow,E9,ie,gh,E8]
 ·have:=Xl (X:=X) (F:=F) (w:=w.alloc (.cells v.cells t)) (hd:=⟨.slice (some ⟨w.heap.size,0,none⟩) 1 1,x.cells.length⟩) hI.len rfl 0 0;exact se
def Ii(X:Cx)(t:TypeId)(x:AV)(fi:Nat)(k:AV->Option R):Option R:=
 match(X.ti t).ok,(X.ti t).u with
 |true,.struct fs=>
  match fs[fi]? with
  |some (off,ft)=>
   aP ((X.ti ft).ok && !((X.ti ft).size ==0)) (match x with
    | .ptr id i o=>k (.ptr id i (o+off))
    | .ij t' row o=>k (.ij t' row (o+off))
    |_=>none)
  |none=>none
 |_,_=>none
def atK(hX:X.Okb)(h:Ii X t x fi k=some r):
 ∃y,k y=some r∧∀{ρ:bY} {F:bT} {w:World} {v:Value},aY X.K ρ F w x v->∃u,(Instr.fieldAt t v fi).run X.P w= .ok u w∧aY X.K ρ F w y u:=by
 unfold Ii at h;split at h
 ·rename_i fs bB hu;obtain⟨i,d,z,f⟩:=hX.facts bB;obtain⟨gs,dS,e7⟩:=f.struct hu;split at h
  ·rename_i off ft xb;replace h:=di h;obtain⟨h1,h⟩:=h;simp only [bS,dT,beq_eq_false_iff_ne]at h1;obtain⟨i2,d2,z2,f2⟩:=hX.facts h1.1;have hg:∃rQ,gs[fi]?=some rQ∧rQ.offset=off∧rQ.type=ft:=akA;obtain⟨rQ,aav,rfl,rfl⟩:=hg;have dB:∀(w:World) (a:Addr),(Instr.fieldAt t (.pointer (some a)) fi).run X.P w= .ok (.pointer (some (a.add rQ.offset))) w:=by
    intro w a;simp only [Instr.fieldAt,fm,iT dS,gh,aav,Instr.sureAddr,ie,fieldPlace,f2.sizeOf,h1.2,ng]
   split at h
   ·rename_i id i0 o;refine⟨_,h,λ{ρ F w v} hv=> ?_⟩;cases hv with
    |ptr _ _ _ hd g o' n c bA hv=>
     refine⟨_,dB _ _,?_⟩;rw [oS,show o'+i0*hd.sz+o+rQ.offset=o'+i0*hd.sz+(o+rQ.offset)by omega];exact .ptr _ _ _ hd g o' n c bA hv
   ·rename_i t' row o;refine⟨_,h,λ{ρ F w v} hv=> ?_⟩;exact ajD
   ·exact bh
  ·exact bh
 ·cases h
def xx(X:Cx)(t:TypeId)(x i:AV)(M:aW)(k:AV->Option R):Option R:=
 match i with
 | .int _ n=>
   match(X.ti t).ok,(X.ti t).u with
   |true,.slice e=>
    aP ((X.ti e).ok) (match x with
     | .ab t' xs=>aP (e==t'&&(decide (0<=n)&&decide (n<(xs.length:Int)))) (k (.ij t' (xs.getD n.toNat []) 0))
     | .aA id=>
       match gm M id with
       |some (.row t' xs)=>aP (e==t'&&(decide (0<=n)&&decide (n<(xs.length:Int)))) (k (.ptr id n.toNat 0))
       |some (.eN t' xs)=>aP (e==t'&&(decide (0<=n)&&decide (n<(xs.length:Int)))) (k (.ij t' (xs.getD n.toNat []) 0))
       |_=>none
     | .kU id m=>aP (decide (0<=n)&&decide (n<(m:Int))) (k (.ptr id 0 (n.toNat*(X.ti e).size)))
     | .vw id lo m=>
       match gm M id with
       |some (.row t' _)=>aP (e==t'&&(decide (0<=n)&&decide (n<(m:Int)))) (k (.ptr id (lo+n.toNat) 0))
       |_=>none
     |_=>none)
   |true,.array len e=>
    aP ((X.ti e).ok &&(decide (0<=n)&&decide (n<(len:Int)))) (match x with
     | .ptr id j off=>k (.ptr id j (off+n.toNat*(X.ti e).size))
     | .ij t' row off=>k (.ij t' row (off+n.toNat*(X.ti e).size))
     |_=>none)
   |_,_=>none
 |_=>none
def run_indexAt_slice(hX:X.Okb){e:TypeId}(bB:(X.ti t).ok =true)(hu:(X.ti t).u = .slice e)(he:(X.ti e).ok =true){a:Addr}{len cap:Nat}{kk:IntKind}{n:Int}(h0:0<=n)(h1:n<(len:Int))(w:World):
 (Instr.indexAt t (.slice (some a) len cap) (.int kk n)).run X.P w= .ok (.pointer (some (a.add (n.toNat*(X.ti e).size)))) w:=by
 obtain⟨i,d,z,f⟩:=hX.facts bB;obtain⟨i2,d2,z2,f2⟩:=hX.facts he;have dS:=f.slice hu;simp [Instr.indexAt,asIntOf,iT dS,h0,h1,f2.sizeOf]
def aee{xs:aZ}{v:Value}(hv:aY X.K ρ F w (.ab t xs) v){i:Nat}(hi:i<xs.length):
 ∃a cap,v= .slice (some a) xs.length cap∧aY X.K ρ F w (.ij t (xs.getD i []) 0) (.pointer (some (a.add (i*(X.K t).length)))):=by
 cases hv with
 |kj=>exact zL
 |ab _ _ a cap vss hl lj jT hk hc hr=>
  have ko:vss[i]?=some (vss[i]'(by omega)):=dz (by omega);have w9:=qW (d:=([]:Row)) hi;obtain⟨c1,c2⟩:=hc i _ ko;have jI:aY X.K ρ F w (.ij t (xs.getD i []) 0) (.pointer (some ((a.add (i*(X.K t).length)).add 0))):=by
   refine .ij t _ 0 (a.add (i*(X.K t).length)) (vss[i]'(by omega)) (hk i _ w9) ?_ ?_ ?_
   ·rw [c1,iG (hk i _ w9)]
   ·intro j v hj;rw [zC];exact c2 j v hj
   ·exact hr i _ _ w9 ko
  exact⟨a,cap,rfl,by simpa [Addr.add]using jI⟩
def atJ(hX:X.Okb)(h:xx X t x i M k=some r):
 ∃y,k y=some r∧∀{w0:World} {S:Sc} {F:bT} {ρ:bY} {w:World} {v vi:Value},Inv X w0 S F ρ M w->aY X.K ρ F w x v->aY X.K ρ F w i vi->
  ∃u,(Instr.indexAt t v vi).run X.P w= .ok u w∧aY X.K ρ F w y u:=by
 unfold xx at h;simp only [eY]at h;split at h
 ·rename_i kk n;split at h
  ·rename_i e bB hu;replace h:=di h;obtain⟨he,h⟩:=h;obtain⟨i2,d2,z2,f2⟩:=hX.facts he;have ei:(X.K e).length =(X.ti e).size :=zU;split at h
   ·rename_i t' xs;replace h:=di h;obtain⟨h1,h⟩:=h;simp only [bS,iY,ic]at h1;obtain⟨rfl,h0,h1⟩:=h1;refine⟨_,h,λ{w0 S F ρ w v vi} hI hv hi=> ?_⟩;cases hi;obtain⟨a,cap,rfl,hp⟩:=aee hv (i:=n.toNat) (by omega);exact aja
   ·rename_i id;split at h
    ·rename_i t' xs hb;replace h:=di h;obtain⟨h1,h⟩:=h;simp only [bS,iY,ic]at h1;obtain⟨rfl,h0,h1⟩:=h1;refine⟨_,h,λ{w0 S F ρ w v vi} hI hv hi=> ?_⟩;cases hi;cases hv with
     |aA _ hd bA=>
      have oK:n.toNat<xs.length:=by omega
      obtain⟨hk,hs,g,o,c,cur,vs,hv,hg,_⟩:=hI.Ir hb bA (qW (d:=[]) oK);rw [hv];refine⟨_,run_indexAt_slice hX bB hu he h0 h1 w,?_⟩;rw [oS];have:=aY.ptr (K:=X.K) (ρ:=ρ) (F:=F) (w:=w) id n.toNat 0 hd g o xs.length c bA hv;rw [hs,ei]at this;exact se
    ·rename_i t' xs hb;replace h:=di h;obtain⟨h1,h⟩:=h;simp only [bS,iY,ic]at h1;obtain⟨rfl,h0,h1⟩:=h1;refine⟨_,h,λ{w0 S F ρ w v vi} hI hv hi=> ?_⟩;cases hi;cases hv with
     |aA _ hd bA=>
      have hl:aY X.K ρ F w (.ab e xs) hd.v:=hI.rep id _ hd hb bA;obtain⟨a,cap,hv,hp⟩:=aee hl (i:=n.toNat) (by omega);rw [hv];exact aja
    ·exact bh
   ·rename_i id m;replace h:=di h;obtain⟨h1,h⟩:=h;simp only [bS,iY]at h1;refine⟨_,h,λ{w0 S F ρ w v vi} hI hv hi=> ?_⟩;cases hi;cases hv with
    |kU _ _ hd g o n' c cap bA hv=>
     refine⟨_,run_indexAt_slice hX bB hu he h1.1 h1.2 w,?_⟩;rw [oS];have:=aY.ptr (K:=X.K) (ρ:=ρ) (F:=F) (w:=w) id 0 (n.toNat*(X.ti e).size) hd g o n' c bA hv;exact se
   ·rename_i id lo m;split at h
    ·rename_i t' xs hb;replace h:=di h;obtain⟨h1,h⟩:=h;simp only [bS,iY,ic]at h1;obtain⟨rfl,h0,h1⟩:=h1;refine⟨_,h,λ{w0 S F ρ w v vi} hI hv hi=> ?_⟩;cases hi;cases hv with
     |vw _ _ _ hd g o n' c cap bA hv hc qR=>
      obtain⟨q1,_⟩:=hI.rep _ _ hd hb bA;refine⟨_,run_indexAt_slice hX bB hu he h0 h1 w,?_⟩;rw [oS];have:=aY.ptr (K:=X.K) (ρ:=ρ) (F:=F) (w:=w) id (lo+n.toNat) 0 hd g o n' c bA hv;rw [q1,ei]at this⊢;rw [show o+lo*(X.ti e).size +n.toNat*(X.ti e).size =o+(lo+n.toNat)*(X.ti e).size +0 by rw [pQ];omega];exact this
     |sK=>simp at h1;omega
     |sJ=>simp at h1;omega
    ·exact bh
   ·exact bh
  ·rename_i len e bB hu;replace h:=di h;obtain⟨h1,h⟩:=h;simp only [bS,iY]at h1;obtain⟨he,h0,h1⟩:=h1;obtain⟨i1,d1,z1,f1⟩:=hX.facts bB;obtain⟨i2,d2,z2,f2⟩:=hX.facts he;have dS:=f1.array hu;have dB:∀(w:World) (a:Addr),(Instr.indexAt t (.pointer (some a)) (.int kk n)).run X.P w= .ok (.pointer (some (a.add (n.toNat*(X.ti e).size)))) w:=by
    intro w a;simp [Instr.indexAt,asIntOf,iT dS,Instr.sureAddr,h0,h1,f2.sizeOf]
   split at h
   ·rename_i id j off;refine⟨_,h,λ{w0 S F ρ w v vi} hI hv hi=> ?_⟩;cases hi;cases hv with
    |ptr _ _ _ hd g o' n' c bA hv=>
     refine⟨_,dB _ _,?_⟩;rw [oS,show o'+j*hd.sz+off+n.toNat*(X.ti e).size =o'+j*hd.sz+(off+n.toNat*(X.ti e).size)by omega];exact .ptr _ _ _ hd g o' n' c bA hv
   ·rename_i t' row off;refine⟨_,h,λ{w0 S F ρ w v vi} hI hv hi=> ?_⟩;cases hi;exact ajD
   ·exact bh
  ·exact bh
 ·cases h
def FB(X:Cx)(t:TypeId)(cs:bp)(off:Nat)(k:AV->Option R):Option R:=
 aP ((X.ti t).ok &&decide (off+(X.ti t).size <=cs.length)) (match(X.ti t).u.agg with
  |true=>k (.agg ((cs.drop off).take (X.ti t).size))
  |false=>aP ((X.ti t).size ==1) (k (cs.getD off .top)))
def aeb(hX:X.Okb){off:Nat}(h:FB X t cs off k=some r):
 ∃y,k y=some r∧∀{ρ:bY} {F:bT} {w:World} {vs:Array Value},dt X.K ρ F w cs vs.toList->∃u,(part t vs off).run X.P w= .ok u w∧aY X.K ρ F w y u:=by
 unfold FB at h;replace h:=di h;obtain⟨h1,h⟩:=h;simp only [bS,iY]at h1;obtain⟨i,d,z,f⟩:=hX.facts h1.1;split at h
 ·rename_i ha;refine⟨_,h,λ{ρ F w vs} hr=> ?_⟩;refine⟨.agg (vs.extract off (off+(X.ti t).size)),by simp [part,f.isAgg,ha,f.sizeOf],?_⟩;have h2:=hr.drop_take off (X.ti t).size;have e:vs.extract off (off+(X.ti t).size)=((vs.toList.drop off).take (X.ti t).size).toArray :=by
   apply tK;simp [List.extract_eq_take_drop]
  rw [e];exact .agg _ _ h2.1 h2.2
 ·rename_i ha;replace h:=di h;obtain⟨h2,h⟩:=h;have hs:(X.ti t).size =1:=pU;refine⟨_,h,λ{ρ F w vs} hr=> ?_⟩;have cF:off<cs.length:=by omega
  have hl:=hr.1;simp only [nU]at hl;obtain⟨u,hu⟩:∃u,vs[off]?=some u:=⟨vs[off]'(by omega),BP (by omega)⟩;refine⟨u,?_,hr.2 off _ _ (qW cF) (Yl)⟩;simp only [part,fm,f.isAgg,ha,gh,hu,ie,lg,ng]
def IS(X:Cx)(t:TypeId)(x:AV)(fi:Nat)(k:AV->Option R):Option R:=
 match(X.ti t).ok,(X.ti t).u,x with
 |true,.struct fs,.agg cs=>
  match fs[fi]? with
  |some (off,ft)=>FB X ft cs off k
  |none=>none
 |_,_,_=>none
def ax2(hX:X.Okb)(h:IS X t x fi k=some r):
 ∃y,k y=some r∧∀{ρ:bY} {F:bT} {w:World} {v:Value},aY X.K ρ F w x v->∃u,(Instr.field t v fi).run X.P w= .ok u w∧aY X.K ρ F w y u:=by
 unfold IS at h;split at h
 ·rename_i fs cs bB hu;obtain⟨i,d,z,f⟩:=hX.facts bB;obtain⟨gs,dS,e7⟩:=f.struct hu;split at h
  ·rename_i off ft xb;have hg:∃rQ,gs[fi]?=some rQ∧rQ.offset=off∧rQ.type=ft:=akA;obtain⟨rQ,aav,rfl,rfl⟩:=hg;obtain⟨y,hy,dB⟩:=aeb hX h;refine⟨y,hy,λ{ρ F w v} hv=> ?_⟩;cases hv with
   |agg _ vs hl hr=>
    obtain⟨u,h1,h2⟩:=dB (vs:=vs.toArray) ⟨oZ,by simpa using hr⟩;refine⟨u,?_,h2⟩;simp only [Instr.field,fm,iT dS,gh,aav,asAgg,ie,h1]
  ·exact bh
 ·cases h
def IQ(X:Cx)(t:TypeId)(x i:AV)(k:AV->Option R):Option R:=
 match(X.ti t).ok,(X.ti t).u,x,i with
 |true,.array len e,.agg cs,.int _ n=>aP ((X.ti e).ok &&(decide (0<=n)&&decide (n<(len:Int)))) (FB X e cs (n.toNat*(X.ti e).size) k)
 |true,.str,.str s,.int _ n=>aP (decide (0<=n)) (match s[n.toNat]? with|none=>none|some b=>k (.int .u8 b.toNat))
 |_,_,_,_=>none
def ax1(hX:X.Okb)(h:IQ X t x i k=some r):
 ∃y,k y=some r∧∀{ρ:bY} {F:bT} {w:World} {v vi:Value},aY X.K ρ F w x v->aY X.K ρ F w i vi->∃u,(Instr.index t v vi).run X.P w= .ok u w∧aY X.K ρ F w y u:=by
 unfold IQ at h;split at h
 ·rename_i len e cs kk n bB hu;replace h:=di h;obtain⟨h1,h⟩:=h;simp only [bS,iY]at h1;obtain⟨he,h0,h1⟩:=h1;obtain⟨i1,d1,z1,f1⟩:=hX.facts bB;obtain⟨i2,d2,z2,f2⟩:=hX.facts he;have dS:=f1.array hu;obtain⟨y,hy,dB⟩:=aeb hX h;refine⟨y,hy,λ{ρ F w v vi} hv hi=> ?_⟩;cases hi;cases hv with
  |agg _ vs hl hr=>
   obtain⟨u,h3,h4⟩:=dB (vs:=vs.toArray) ⟨oZ,by simpa using hr⟩;refine⟨u,?_,h4⟩;simp only [Instr.index,asIntOf,fm,ie,iT dS,gh,h0,h1,and_self,ow,f2.sizeOf,h3]
 ·rename_i s kk n bB hu;replace h:=di h;obtain⟨h0,h⟩:=h;have h0:=E3 h0;obtain⟨i1,d1,z1,f1⟩:=hX.facts bB;have dS:X.P.underlying t=some .string :=by
   have:=f1.u;rw [hu]at this;cases d1<;>simp [mq]at this;exact f1.jB
  split at h
  ·exact bh
  ·rename_i b hb;refine⟨_,h,λ{ρ F w v vi} hv hi=> ?_⟩;cases hi;cases hv;refine⟨.int .u8 b.toNat,?_,.int _ _⟩;simp only [Instr.index,asIntOf,fm,ie,iT dS,gh,h0,ow,hb]
 ·cases h
end
end Go.az
namespace Go.az
def PW{p:Prop}(h:p:=by
 unfold Builtin.len_;simp [iT dS,goInt]):p:=h
def ajq{p:Prop}(h:p:=by
 simp only [C0,Option.some.injEq]at h;subst h
 match vs,hr.1 with
 | [],_=>rfl):p:=h
def aiN{p:Prop}(h:p:=by
 injection h with h;injection h with _ h;subst h;cases hv;exact⟨_,_,rfl⟩):p:=h
def ah1{p:Prop}(h:p:=by rw [oT,zw,show min m (jA.length- lo)=m by omega]):p:=h
def Fp{p:Prop}(h:p:=by exact⟨_,_,rfl⟩):p:=h
end Go.az
namespace Go.az
def OC:=@Array.getElem?_setIfInBounds_ne
def W9:=@Array.foldl_toList
end Go.az
namespace Go.az
open Go
noncomputable section
variable {X:Cx} {R:Type}
variable {w0 w w':World} {S:Sc} {F:bT} {ρ:bY} {M:aW}
variable{x:AV}{k:AV->Option R}{P:Program}{r:R}{t:TypeId}{K:TypeId->dZ}{v:Value}{xs:aZ}
def rowsOf(M:aW):AV->Option (Option TypeId×aZ)
 | .ab t xs=>some (some t,xs)
 | .gE =>some (none,[])
 | .aA id=>match gm M id with|some (.row t xs)=>some (some t,xs)|some (.eN t xs)=>some (some t,xs)|_=>none
 | .vw id lo m=>match gm M id with|some (.row t xs)=>some (some t,(xs.drop lo).take m)|_=>none
 | .jF =>some (none,[])
 |_=>none
def Wi(hI:Inv X w0 S F ρ M w){o:Option TypeId}(h:rowsOf M x=some (o,xs))(hv:aY X.K ρ F w x v):∃a c,v= .slice a xs.length c:=by
 unfold rowsOf at h;simp only [eY]at h;split at h
 ·injection h with h;injection h with _ h;subst h;cases hv with
  |kj=>exact Fp
  |ab=>exact Fp
 ·exact aiN
 ·split at h
  ·rename_i hb;injection h with h;injection h with _ h;subst h;cases hv with
   |aA _ hd bA=>
    rcases(hI.rep _ _ hd hb bA).2.2 with⟨h1,h2⟩|⟨g,o,c,cur,h1,_⟩
    ·subst h2;exact⟨_,_,h1⟩
    ·exact⟨_,_,h1⟩
  ·rename_i t jA hb;injection h with h;injection h with _ h;subst h;cases hv with
   |aA _ hd bA=>
    have hr:aY X.K ρ F w (.ab t jA) hd.v:=hI.rep _ _ hd hb bA;generalize hd.v=v at hr;cases hr with
    |kj=>exact Fp
    |ab=>exact Fp
  ·exact bh
 ·split at h
  ·rename_i id lo m ob t jA hb;injection h with h;injection h with _ h;subst h;cases hv with
   |vw _ _ _ hd g o n c cap bA hv hc qR=>
    have hlen:n=jA.length:=by
     rcases(hI.rep _ _ hd hb bA).2.2 with⟨h1,h2⟩|⟨g',o',c',cur,h1,_⟩
     ·rw [hv]at h1;cases h1
     ·rw [hv]at h1;injection h1
    refine⟨some ⟨g,o+lo*hd.sz,none⟩,cap,?_⟩;exact ah1
   |sK=>exact Fp
   |sJ=>exact Fp
  ·exact bh
 ·exact aiN
 ·exact bh
def adI(hI:Inv X w0 S F ρ M w)(h:rowsOf M x=some (some t,xs))(hx:∀id lo m,x≠ .vw id lo m)(hv:aY X.K ρ F w x v):
 (∀(i:Nat) row,xs[i]?=some row->dk (X.K t) row=true)∧
 ((v= .slice none 0 0∧xs=[])∨∃a c,v= .slice (some a) xs.length c∧∃vss:List fA,vss.length=xs.length∧
   ∀(i:Nat) row vs,xs[i]?=some row->vss[i]?=some vs->dt X.K ρ F w row vs∧qv w (a.add (i*(X.K t).length)) vs):=by
 have core:∀{v:Value} {t:TypeId} {xs:aZ},aY X.K ρ F w (.ab t xs) v->(∀(i:Nat) row,xs[i]?=some row->dk (X.K t) row=true)∧
  ((v= .slice none 0 0∧xs=[])∨∃a c,v= .slice (some a) xs.length c∧∃vss:List fA,vss.length=xs.length∧
    ∀(i:Nat) row vs,xs[i]?=some row->vss[i]?=some vs->dt X.K ρ F w row vs∧qv w (a.add (i*(X.K t).length)) vs):=by
  intro v t xs hv;cases hv with
  |kj=>exact⟨λi row h=>gM,.inl ⟨rfl,rfl⟩⟩
  |ab _ _ a cap vss hl lj jT hk hc hr=>
   refine⟨hk,.inr ⟨a,cap,rfl,vss,hl,λi row vs hi fo=>⟨⟨?_,hr i row vs hi fo⟩,λj u hj=> ?_⟩⟩⟩
   ·rw [(hc i vs fo).1,iG (hk i row hi)]
   ·rw [zC];exact((hc i vs fo).2 j u hj).1
 unfold rowsOf at h;simp only [eY]at h;split at h
 ·injection h with h;injection h with h1 h2;injection h1 with h1;subst h1;subst h2;exact core hv
 ·injection h with h;injection h with h1 h2;cases h1
 ·split at h
  ·rename_i id t' jA hb;injection h with h;injection h with h1 h2;injection h1 with h1;subst h1;subst h2;cases hv with
   |aA _ hd bA=>
    obtain⟨h1,h2,h3⟩:=hI.rep _ _ hd hb bA;refine⟨h2,?_⟩;rcases h3 with h3|⟨g,o,c,cur,fN,hg,h4,h5,h6,h7⟩
    ·exact .inl h3
    ·have hex:∀i:Nat,i<jA.length->∃vs,dt X.K ρ F w (jA.getD i []) vs∧qv w ⟨g,o+i*hd.sz,none⟩ vs:=by
      intro i hi;obtain⟨_,_,g',o',c',aNs,vs,jE,_,_,_,_,hr,hc,_⟩:=hI.Ir hb bA (qW (d:=[]) hi);rw [fN]at jE;injection jE with e1 e2 e3;exact ajn
     refine .inr ⟨_,c,fN,(List.range jA.length).map λi=>if h:i<jA.length then(hex i h).choose else [],by simp,λi row vs hi fo=> ?_⟩;have qP:=(eU.1 hi).1;simp only [iH,tJ qP,kz,Option.some.injEq,dif_pos qP]at fo;subst fo;have e:row=jA.getD i []:=by
      have:=qW (d:=([]:Row)) qP;rw [hi]at this;injection this
     subst e;obtain⟨hr,hc⟩:=(hex i qP).choose_spec;refine⟨hr,?_⟩;rw [oS,<-h1];exact hc
  ·rename_i id t' jA hb;injection h with h;injection h with h1 h2;injection h1 with h1;subst h1;subst h2;cases hv with
   |aA _ hd bA=>exact core (hI.rep _ _ hd hb bA)
  ·exact bh
 ·exact absurd rfl (hx _ _ _)
 ·injection h with h;injection h with h1 h2;cases h1
 ·cases h
def ad5(hI:Inv X w0 S F ρ M w)(h:rowsOf M x=some (some t,xs))(hv:aY X.K ρ F w x v):
 (∀(i:Nat) row,xs[i]?=some row->dk (X.K t) row=true)∧
 ((v= .slice none 0 0∧xs=[])∨∃a c,v= .slice (some a) xs.length c∧∃vss:List fA,vss.length=xs.length∧
   ∀(i:Nat) row vs,xs[i]?=some row->vss[i]?=some vs->dt X.K ρ F w row vs∧qv w (a.add (i*(X.K t).length)) vs):=by
 by_cases hx:∃id lo m,x= .vw id lo m
 ·obtain⟨id,lo,m,rfl⟩:=hx;unfold rowsOf at h;simp only [eY]at h;split at h
  ·rename_i t' jA hb;injection h with h;injection h with h1 h2;injection h1 with h1;subst h1;subst h2;cases hv with
   |vw _ _ _ hd g o n c cap bA hv hc qR=>
    obtain⟨q1,q2,q3⟩:=hI.rep _ _ hd hb bA;have kp:rowsOf M (.aA id)=some (some t',jA):=by simp [eY,rowsOf,hb]
    obtain⟨hk,om⟩:=adI hI kp (λ_ _ _ e=>by cases e) (.aA id hd bA);have Aj:∀(i:Nat) row,((jA.drop lo).take m)[i]?=some row->i<m∧jA[lo+i]?=some row:=by
     intro i row hi;rw [nV]at hi;split at hi
     ·rename_i Dz;rw [qt]at hi;exact⟨Dz,hi⟩
     ·cases hi
    refine⟨λi row hi=>hk _ row (Aj i row hi).2,?_⟩;rcases om with⟨h1,_⟩|⟨a,c2,h1,vss,hl,fo⟩
    ·rw [hv]at h1;cases h1
    ·rw [hv]at h1;injection h1 with e1 e2 e3;injection e1 with e1;refine .inr ⟨⟨g,o+lo*hd.sz,none⟩,cap,?_,(vss.drop lo).take m,?_,λi row vs hi ko=> ?_⟩
     ·exact ah1
     ·rw [oT,zw,oT,zw,hl]
     ·obtain⟨Dz,hr⟩:=Aj i row hi;have aMK:vss[lo+i]?=some vs:=by
       rw [nV,if_pos Dz,qt]at ko;exact ko
      obtain⟨r1,r2⟩:=fo _ _ _ hr aMK;refine⟨r1,?_⟩;rw [<-e1,oS]at r2;rw [oS,q1,show o+lo*(X.K t').length +i*(X.K t').length =o+(lo+i)*(X.K t').length by rw [pQ];omega];exact r2
   |sK=>exact⟨λi row hi=>zL,.inl ⟨rfl,by simp⟩⟩
   |sJ _ _ a cap=>exact⟨λi row hi=>zL,.inr ⟨a,cap,by simp,[],by simp,λi row vs hi _=>zL⟩⟩
  ·exact bh
 ·exact adI hI h (λid lo m e=>hx ⟨id,lo,m,e⟩) hv
def wL(X:Cx)(t:TypeId)(x:AV)(M:aW)(k:AV->Option R):Option R:=
 match(X.ti t).ok,(X.ti t).u,x with
 |true,.array n _,_=>k (.int .i64 n)
 |true,.str,.str s=>k (.int .i64 s.size)
 |true,.slice _,.kU _ m=>k (.int .i64 m)
 |true,.slice _,.vw _ _ m=>k (.int .i64 m)
 |true,.slice _,x=>match rowsOf M x with|some (_,xs)=>k (.int .i64 xs.length)|none=>none
 |_,_,_=>none
def azy(hX:X.Okb){ty:TypeId}(h:wL X t x M k=some r):
 ∃y,k y=some r∧∀{w0:World} {S:Sc} {F:bT} {ρ:bY} {w:World} {v:Value},Inv X w0 S F ρ M w->aY X.K ρ F w x v->∃u,(Builtin.len_ #[t] ty #[v]).run X.P w= .ok u w∧aY X.K ρ F w y u:=by
 unfold wL at h;split at h
 ·rename_i n e bB hu;obtain⟨i,d,z,f⟩:=hX.facts bB;have dS:=f.array hu;refine⟨_,h,λ{w0 S F ρ w v} hI hv=>⟨.int .i64 n,?_,.int _ _⟩⟩;exact PW
 ·rename_i s bB hu;obtain⟨i,d,z,f⟩:=hX.facts bB;have dS:X.P.underlying t=some .string :=by
   have:=f.u;rw [hu]at this;cases d<;>simp [mq]at this;exact f.jB
  refine⟨_,h,λ{w0 S F ρ w v} hI hv=>⟨.int .i64 s.size,?_,.int _ _⟩⟩;cases hv;exact PW
 ·rename_i e id m bB hu;obtain⟨i,d,z,f⟩:=hX.facts bB;have dS:=f.slice hu;refine⟨_,h,λ{w0 S F ρ w v} hI hv=>⟨.int .i64 m,?_,.int _ _⟩⟩;cases hv;exact PW
 ·rename_i e id lo m bB hu;obtain⟨i,d,z,f⟩:=hX.facts bB;have dS:=f.slice hu;refine⟨_,h,λ{w0 S F ρ w v} hI hv=>⟨.int .i64 m,?_,.int _ _⟩⟩;cases hv<;>(unfold Builtin.len_;simp [iT dS,goInt])
 ·rename_i e bB hu _ _;obtain⟨i,d,z,f⟩:=hX.facts bB;have dS:=f.slice hu;split at h
  ·rename_i o xs gW;refine⟨_,h,λ{w0 S F ρ w v} hI hv=>⟨.int .i64 xs.length,?_,.int _ _⟩⟩;obtain⟨a,c,rfl⟩:=Wi hI gW hv;exact PW
  ·exact bh
 ·cases h
def nk(x y:Int):Int:=if y<x then y else x
def imax(x y:Int):Int:=if y>x then y else x
def C0(f:Int->Int->Int)(k:IntKind):Int->bp->Option Int
 |a,[]=>some a
 |a,.int k' b::rest=>match k==k' with|true=>C0 f k (f a b) rest|false=>none
 |_,_=>none
def zZ(f:Int->Int->Int)(xs:bp)(k:AV->Option R):Option R:=
 match xs with
 | .int kd a::rest=>match C0 f kd a rest with|some n=>k (.int kd n)|none=>none
 |_=>none
def agk{P:Program}{K:TypeId->dZ}:∀(xs:bp) (kd:IntKind) (a n:Int) (vs:fA),C0 nk kd a xs=some n->dt K ρ F w xs vs->(vs.foldlM Builtin.min2 (.int kd a)).run P w= .ok (.int kd n) w
 | [],kd,a,n,vs,h,hr=>ajq
 |x::xs,kd,a,n,vs,h,hr=>by
  cases x<;>simp only [C0]at h<;>try cases h
  rename_i k' b;split at h
  ·match vs,hr.1 with
   |v::vs,hl=>
    have hv:=hr.2 0 _ v rfl rfl;cases hv;rw [List.foldlM_cons,fm];simp only [Builtin.min2,ie,gh];exact agk xs kd _ n vs h ⟨oZ,λj y u hy hu=>hr.2 (j+1) y u (Fw) (B5)⟩
  ·exact bh
def agl{P:Program}{K:TypeId->dZ}:∀(xs:bp) (kd:IntKind) (a n:Int) (vs:fA),C0 imax kd a xs=some n->dt K ρ F w xs vs->(vs.foldlM Builtin.max2 (.int kd a)).run P w= .ok (.int kd n) w
 | [],kd,a,n,vs,h,hr=>ajq
 |x::xs,kd,a,n,vs,h,hr=>by
  cases x<;>simp only [C0]at h<;>try cases h
  rename_i k' b;split at h
  ·match vs,hr.1 with
   |v::vs,hl=>
    have hv:=hr.2 0 _ v rfl rfl;cases hv;rw [List.foldlM_cons,fm];simp only [Builtin.max2,ie,gh];exact agl xs kd _ n vs h ⟨oZ,λj y u hy hu=>hr.2 (j+1) y u (Fw) (B5)⟩
  ·exact bh
def aAK{xs:bp}(h:zZ nk xs k=some r):
 ∃y,k y=some r∧∀{ρ:bY} {F:bT} {w:World} {vs:fA} (ts:Array TypeId) (ty:TypeId),dt K ρ F w xs vs->∃u,(Builtin.min_ ts ty vs.toArray).run P w= .ok u w∧aY K ρ F w y u:=by
 unfold zZ at h;split at h
 ·rename_i kd a rest;split at h
  ·rename_i n hn;refine⟨_,h,λ{ρ F w vs} ts ty hr=> ?_⟩
   match vs,hr.1 with
   |v::vs,hl=>
    have hv:=hr.2 0 _ v rfl rfl;cases hv;exact⟨_,by simpa [Builtin.min_]using agk (P:=P) rest kd a n vs hn ⟨oZ,λj y u hy hu=>hr.2 (j+1) y u (Fw) (B5)⟩,.int _ _⟩
  ·exact bh
 ·cases h
def aAL{xs:bp}(h:zZ imax xs k=some r):
 ∃y,k y=some r∧∀{ρ:bY} {F:bT} {w:World} {vs:fA} (ts:Array TypeId) (ty:TypeId),dt K ρ F w xs vs->∃u,(Builtin.max_ ts ty vs.toArray).run P w= .ok u w∧aY K ρ F w y u:=by
 unfold zZ at h;split at h
 ·rename_i kd a rest;split at h
  ·rename_i n hn;refine⟨_,h,λ{ρ F w vs} ts ty hr=> ?_⟩
   match vs,hr.1 with
   |v::vs,hl=>
    have hv:=hr.2 0 _ v rfl rfl;cases hv;exact⟨_,by simpa [Builtin.max_]using agl (P:=P) rest kd a n vs hn ⟨oZ,λj y u hy hu=>hr.2 (j+1) y u (Fw) (B5)⟩,.int _ _⟩
  ·exact bh
 ·cases h
def wJ(place:Nat->Option (Nat×Nat)):bp->cV->Option bp
 |cells,[]=>some cells
 |cells,(i,x)::rest=>
  match place i with
  |none=>none
  |some (off,size)=>
   match x.plain&&x.cells.length==size&&decide (off+size<=cells.length)with
   |true=>wJ place (setAt cells off x.cells) rest
   |false=>none
def Ve(off:Nat):∀(vs:List (Value×Nat)) (cs:Array Value),(vs.foldl (λcs (x:Value×Nat)=>cs.setIfInBounds (off+x.2) x.1) cs).size =cs.size
 | [],cs=>rfl
 |x::vs,cs=>by simp [Ve off vs]
def adO(off:Nat):∀(vs:fA) (n:Nat) (cs:Array Value),off+n+vs.length<=cs.size->∀j:Nat,
 ((vs.zipIdx n).foldl (λcs (x:Value×Nat)=>cs.setIfInBounds (off+x.2) x.1) cs)[j]?=if off+n<=j∧j<off+n+vs.length then vs[j-(off+n)]? else cs[j]?
 | [],n,cs,_,j=>eh
 |v::vs,n,cs,h,j=>by
  simp only [nc]at h;rw [List.zipIdx_cons,List.foldl_cons,adO off vs (n+1) _ (eh) j]
  by_cases h1:j=off+n
  ·subst h1;rw [if_neg (by omega),if_pos (by simp)];have cF:off+n<cs.size:=by omega
   simp [cF]
  ·by_cases h2:off+(n+1)<=j∧j<off+(n+1)+vs.length
   ·rw [if_pos h2,if_pos (eh),show j-(off+n)=(j-(off+(n+1)))+1 by omega];simp
   ·rw [if_neg h2,if_neg (eh),OC (by omega)]
def EH(oa:∀(id:Nat) hd,ρ[id]?=some hd->hd.v.oneCell'=true){K:TypeId->dZ}{place:Nat->Option (Nat×Nat)}:∀(ps:cV) (cs out:bp) (vs:Array Value) (pv:List (Nat×Value)),wJ place cs ps=some out->dt K ρ F w cs vs.toList->
 pv.length=ps.length->(∀(j:Nat) p q,ps[j]?=some p->pv[j]?=some q->p.1=q.1∧aY K ρ F w p.2 q.2)->∃us,Instr.fill place vs pv=some us∧dt K ρ F w out us.toList
 | [],cs,out,vs,pv,h,hr,hl,_=>by
   simp only [wJ,Option.some.injEq]at h;subst h
   match pv,hl with
   | [],_=>exact⟨vs,rfl,hr⟩
 |(i,x)::ps,cs,out,vs,pv,h,hr,hl,hp=>by
  match pv,hl with
  |(i',v)::pv,hl=>
   obtain⟨e,hx⟩:=hp 0 _ _ rfl rfl;simp only at e hx;subst e;simp only [wJ]at h;split at h
   ·exact bh
   ·rename_i off size y7;split at h
    ·rename_i ak5;simp only [bS,ic,iY]at ak5;obtain⟨⟨aDJ,hlen⟩,hb⟩:=ak5;have sU:=hx.cells (NC aDJ) oa;have y4:=sU.1;have eL:=hr.1;simp only [nU]at y4 eL;have ei:v.cells.size=size:=by omega
     have KY:dt K ρ F w (setAt cs off x.cells) (v.cells.zipIdx.foldl (λcs (x:Value×Nat)=>cs.setIfInBounds (off+x.2) x.1) vs).toList :=by
      rw [<-W9,Array.toList_zipIdx];refine⟨by rw [nU,Ve,HY];exact eL,λj y u hy hu=> ?_⟩;rw [Iy,adO off v.cells.toList 0 vs (eh) j]at hu;rw [ES x.cells cs off (by omega) j]at hy;simp only [xF,nU]at hu;rw [ei]at hu;rw [hlen]at hy
      by_cases hj:off<=j∧j<off+size
      ·rw [if_pos hj]at hy hu;exact sU.2 _ y u hy hu
      ·rw [if_neg hj]at hy hu;exact hr.2 j y u hy (Yl)
     obtain⟨us,h1,h2⟩:=EH oa ps _ out _ pv h KY (oZ) (λj p q AU hq=>hp (j+1) p q (by simpa using AU) (by simpa using hq));refine⟨us,?_,h2⟩;have fo:vs.size=cs.length:=eL;have iZ:¬(v.cells.size≠size∨off+v.cells.size>vs.size):=by omega
     simp only [Instr.fill,y7];rw [if_neg (by simpa using iZ)];exact h1
    ·exact bh
end
end Go.az
namespace Go.az
def sl{p:Prop}(h:p:=by simpa using h1):p:=h
def ajh{p:Prop}(h:p:=by have:=aY.agg (K:=X.K) (ρ:=ρ) (F:=F) (w:=w) cs us.toList hr.1 hr.2;simpa using this):p:=h
end Go.az
namespace Go.az
def eE:=@List.length_map
def zD:=@List.mem_map
def afK:=@Go.RowKit.Below.heap_alloc
def afJ:=@List.drop_drop
def W2:=@List.getElem?_cons_succ
end Go.az
namespace Go.az
open Go
noncomputable section
variable {X:Cx} {R:Type}
variable {w0 w w':World} {S:Sc} {F:bT} {ρ:bY} {M:aW}
variable{t:TypeId}
def NB(X:Cx)(fs:List (Nat×TypeId))(i:Nat):Option (Nat×Nat):=(fs[i]?).map λp=>(p.1,(X.ti p.2).size)
def IT(X:Cx)(t:TypeId)(ps:cV)(k:AV->Option R):Option R:=
 match(X.ti t).ok,(X.ti t).u with
 |true,.struct fs=>aP (fs.all λp=>(X.ti p.2).ok) (match wJ (NB X fs) (X.ti t).zero ps with|some cs=>k (.agg cs)|none=>none)
 |true,.array _ e=>aP ((X.ti e).ok) (match wJ (λi=>some (i*(X.ti e).size,(X.ti e).size)) (X.ti t).zero ps with|some cs=>k (.agg cs)|none=>none)
 |_,_=>none
def acV(hX:X.Okb):∀(fs:List Field),(∀f∈fs,(X.ti f.type).ok =true)->∀w,(fs.mapM λf=>do pure (f.offset,<-sizeOf f.type):Sem (List (Nat×Nat))).run X.P w= .ok (fs.map λf=>(f.offset,(X.ti f.type).size)) w
 | [],_,w=>rfl
 |f::fs,h,w=>by
  obtain⟨i,d,z,ff⟩:=hX.facts (h f (by simp));rw [List.mapM_cons];simp only [fm,ff.sizeOf,gh,ie,acV hX fs (λg hg=>h g (by simp [hg])) w,nf]
def ax4(hX:X.Okb){ps:cV}{k:AV->Option R}{r:R}(h:IT X t ps k=some r):
 ∃y,k y=some r∧∀{w0:World} {S:Sc} {F:bT} {ρ:bY} {w:World} (pv:List (Nat×Value)),Inv X w0 S F ρ M w->pv.length=ps.length->
  (∀(j:Nat) p q,ps[j]?=some p->pv[j]?=some q->p.1=q.1∧aY X.K ρ F w p.2 q.2)->∃u,(Instr.build t pv.toArray).run X.P w= .ok u w∧aY X.K ρ F w y u:=by
 unfold IT at h;split at h
 ·rename_i fs bB hu;replace h:=di h;obtain⟨h1,h⟩:=h;obtain⟨i,d,z,f⟩:=hX.facts bB;obtain⟨gs,dS,e7⟩:=f.struct hu;split at h
  ·rename_i cs tS;refine⟨_,h,λ{w0 S F ρ w} pv hI hl hp=> ?_⟩;have hz:dt X.K ρ F w (X.ti t).zero z.cells.toList:=FL;obtain⟨us,hf,hr⟩:=EH hI.one ps _ cs z.cells pv tS hz hl hp;refine⟨.agg us,?_,ajh⟩;have ja:∀g∈gs.toList,(X.ti g.type).ok =true:=by
    intro g hg;rw [jN]at h1;exact h1 (g.offset,g.type) (by rw [e7];exact zD.2 ⟨g,hg,rfl⟩)
   have y7:(gs.mapM λf=>do pure (f.offset,<-sizeOf f.type):Sem (Array (Nat×Nat))).run X.P w= .ok (gs.toList.map λf=>(f.offset,(X.ti f.type).size)).toArray w:=by
    rw [Array.mapM_eq_mapM_toList,Sem.run_map,acV hX gs.toList ja w];rfl
   have Ca:(λi=>(gs.toList.map λf=>(f.offset,(X.ti f.type).size)).toArray[i]?)=NB X fs:=by
    funext i
    rw [e7];simp [NB];cases gs[i]?<;>rfl
   unfold Instr.build;simp only [fm,f.zeroValue,gh,iT dS,y7];rw [show(λx=>(gs.toList.map λf=>(f.offset,(X.ti f.type).size)).toArray[x]?)=NB X fs from Ca,hf];rfl
  ·exact bh
 ·rename_i n e bB hu;replace h:=di h;obtain⟨h1,h⟩:=h;obtain⟨i,d,z,f⟩:=hX.facts bB;obtain⟨i2,d2,z2,f2⟩:=hX.facts h1;have dS:=f.array hu;split at h
  ·rename_i cs tS;refine⟨_,h,λ{w0 S F ρ w} pv hI hl hp=> ?_⟩;have hz:dt X.K ρ F w (X.ti t).zero z.cells.toList:=FL;obtain⟨us,hf,hr⟩:=EH hI.one ps _ cs z.cells pv tS hz hl hp;refine⟨.agg us,?_,ajh⟩;unfold Instr.build;simp only [fm,f.zeroValue,gh,iT dS,f2.sizeOf];rw [hf];rfl
  ·exact bh
 ·cases h
def chunk(sz:Nat):Nat->bp->aZ
 |0,_=>[]
 |n+1,l=>l.take sz::chunk sz n (l.drop sz)
def By(sz:Nat):∀(n:Nat) (l:bp),(chunk sz n l).length =n
 |0,_=>rfl
 |n+1,l=>by simp [chunk,By sz n]
def afB(sz:Nat):∀(n:Nat) (l:bp) (i:Nat),i<n->(chunk sz n l)[i]?=some ((l.drop (i*sz)).take sz)
 |0,_,_,h=>by omega
 |n+1,l,0,_=>by simp [chunk]
 |n+1,l,i+1,h=>by
  simp only [chunk,W2];rw [afB sz n _ i (by omega),afJ]
  congr 3
  rw [pQ];omega
def zc:Kind->AV->AV| .slice t,.gE => .ab t []|_,x=>x
def mo(X:Cx)(t:TypeId):Row:=List.zipWith zc (X.ti t).ks (X.ti t).zero
def aDi{k:Kind}{K:TypeId->dZ}{x:AV}{v:Value}(h:aY K ρ F w x v):aY K ρ F w (zc k x) v:=by
 unfold zc;split
 ·cases h;exact .kj _
 ·exact h
def WC{i:TypeInfo}{d:TypeDesc}{z:Value}(f:mH X t i d z):dt X.K ρ F w (mo X t) z.cells.toList:=by
 have hz:dt X.K ρ F w (X.ti t).zero z.cells.toList:=FL;have hl:(X.ti t).zero.length =(X.ti t).ks.length :=by rw [f.ks,f.zc,eE,nU,f.zs]
 refine⟨by rw [hz.1];simp [mo,hl],λj x v hx hv=> ?_⟩;unfold mo at hx;rw [List.getElem?_zipWith]at hx;cases hk:(X.ti t).ks[j]? with
 |none=>simp [hk]at hx
 |some k=>
  cases GR:(X.ti t).zero[j]? with
  |none=>simp [hk,GR]at hx
  |some y=>
   simp only [hk,GR,Option.some.injEq]at hx;subst hx;exact aDi (hz.2 j y v GR hv)
def Inv.newRow(hI:Inv X w0 S F ρ M w){xs:aZ}{cur:Array Value}{c:Nat}(hk:∀(i:Nat) row,xs[i]?=some row->dk (X.K t) row=true)(pG:xs.length<=c)(rM:c<=maxLen)
 (Kf:c*(X.K t).length <=cur.size) (hr:∀(i:Nat) row,xs[i]?=some row->∀(j:Nat) x,row[j]?=some x->∃v,cur[i*(X.K t).length +j]?=some v∧aY X.K ρ F w x v) (hg:w.grownBy w' none) (ei:w'.heap.size=w.heap.size):
 Inv X w0 S F (ρ++[⟨.slice (some ⟨w.heap.size,0,none⟩) xs.length c,(X.K t).length⟩]) (M++[.row t xs]) (w'.alloc (.cells cur t))∧
 Grow F F ρ (ρ++[⟨.slice (some ⟨w.heap.size,0,none⟩) xs.length c,(X.K t).length⟩]) w (w'.alloc (.cells cur t)):=by
 have jm:w.grownBy (w'.alloc (.cells cur t)) none:=⟨hg.os,hg.tape,hg.output,eh,λk hk _=>(afK w' _ k (by omega)).trans (hg.block k hk (by simp))⟩;have kK:Grow F F ρ (ρ++[⟨.slice (some ⟨w.heap.size,0,none⟩) xs.length c,(X.K t).length⟩]) w (w'.alloc (.cells cur t)):=
  ⟨λ_ h=>h,λ_ _ h=>ny h,hI.wV jm (by simp)⟩
 refine⟨hI.push jm (hd:=⟨.slice (some ⟨w.heap.size,0,none⟩) xs.length c,(X.K t).length⟩) ?_ rfl ?_,kK⟩
 ·intro g jo;simp [Hd.eC,Value.eC]at jo;subst jo;exact eh
 ·refine⟨rfl,hk,.inr ⟨w.heap.size,0,c,cur,rfl,by rw [<-ei];exact Oo w' _,pG,rM,by simpa using Kf,λi row hi j x hx=> ?_⟩⟩;obtain⟨v,h1,h2⟩:=hr i row hi j x hx;exact⟨v,sl,h2.grow kK⟩
def zz{hd:Hd}(hl:ρ.length=M.length):aY X.K (ρ++[hd]) F w (.aA M.length) hd.v:= .aA _ _ (by rw [<-hl];simp)
def yC(X:Cx)(e:TypeId):cV->aW->(cV->aW->Option R)->Option R
 | [],M,c=>c [] M
 |(i,x)::ps,M,c=>
  match(X.ti e).u.agg,x with
  |true,.agg cs=>vd (X.ti e).ks cs M λLw M'=>yC X e ps M' λmQ xi=>c ((i,.agg Lw)::mQ) xi
  |false,x=>ly ((X.ti e).ks.headD .raw) x M λx' M'=>yC X e ps M' λmQ xi=>c ((i,x')::mQ) xi
  |_,_=>none
def ayG(y:AV)(j:Nat)(hj:j∈oz y):j∈y.cells.flatMap oz:=by
 cases y with
 |aA id=>simpa [AV.cells]using hj
 |_=>exact absurd hj (by simp [oz])
def ae4{e:TypeId}:∀(ps:cV) (M:aW) {c:cV->aW->Option R} {r:R},yC X e ps M c=some r->
 ∃mQ M',c mQ M'=some r∧M'.length=M.length∧mQ.length=ps.length∧dR (ps.flatMap λp=>p.2.cells.flatMap oz) M M'∧∀{w0:World} {S:Sc} {F:bT} {ρ:bY} {w:World},Inv X w0 S F ρ M w->∃F',Inv X w0 S F' ρ M' w∧Grow F F' ρ ρ w w∧
  ∀pv:List (Nat×Value),pv.length=ps.length->(∀(j:Nat) p q,ps[j]?=some p->pv[j]?=some q->p.1=q.1∧aY X.K ρ F w p.2 q.2)->(∀(j:Nat) p q,mQ[j]?=some p->pv[j]?=some q->p.1=q.1∧aY X.K ρ F' w p.2 q.2)
 | [],M,c,r,h=>⟨[],M,h,rfl,rfl,dR.refl _ _,λ{w0 S F ρ w} hI=>⟨F,hI,Grow.refl _ _ _,λ_ _ h=>h⟩⟩
 |(i,x)::ps,M,c,r,h=>by
  simp only [yC]at h;have fin:∀(x':AV) (M1:aW),M1.length=M.length->dR (x.cells.flatMap oz) M M1->(∀{w0:World} {S:Sc} {F:bT} {ρ:bY} {w:World},Inv X w0 S F ρ M w->∃F',Inv X w0 S F' ρ M1 w∧Grow F F' ρ ρ w w∧∀v,aY X.K ρ F w x v->aY X.K ρ F' w x' v)->
   yC X e ps M1 (λmQ xi=>c ((i,x')::mQ) xi)=some r->∃mQ M',c mQ M'=some r∧M'.length=M.length∧mQ.length=((i,x)::ps).length ∧dR (((i,x)::ps).flatMap λp=>p.2.cells.flatMap oz) M M'∧∀{w0:World} {S:Sc} {F:bT} {ρ:bY} {w:World},Inv X w0 S F ρ M w->∃F',Inv X w0 S F' ρ M' w∧Grow F F' ρ ρ w w∧
   ∀pv:List (Nat×Value),pv.length=((i,x)::ps).length ->(∀(j:Nat) p q,((i,x)::ps)[j]?=some p->pv[j]?=some q->p.1=q.1∧aY X.K ρ F w p.2 q.2)->(∀(j:Nat) p q,mQ[j]?=some p->pv[j]?=some q->p.1=q.1∧aY X.K ρ F' w p.2 q.2):=by
   intro x' M1 eZ DD h1 h;obtain⟨mQ,M2,h,fP,mT,ha2,h2⟩:=ae4 ps M1 h;refine⟨_,_,h,by omega,by simp [mT],by rw [uK];exact DD.trans ha2,λ{w0 S F ρ w} hI=> ?_⟩;obtain⟨F1,i1,g1,r1⟩:=h1 hI;obtain⟨F2,i2,g2,r2⟩:=h2 i1;refine⟨F2,i2,g1.trans g2,λpv hl hp=> ?_⟩
   match pv,hl with
   |q0::pv,hl=>
    obtain⟨e0,AO⟩:=hp 0 _ _ rfl rfl;have aEZ:=r2 pv (oZ) (λj p q K6 K1=>by
     obtain⟨a,b⟩:=hp (j+1) p q (by simpa using K6) (by simpa using K1);exact⟨a,b.grow g1⟩)
    intro j p q K6 K1;cases j with
    |zero=>simp at K6 K1;subst K6;subst K1;exact⟨e0,(r1 _ AO).grow g2⟩
    |succ j=>exact aEZ j p q (by simpa using K6) (by simpa using K1)
  split at h
  ·rename_i cs ha;obtain⟨Lw,M1,h,eZ,DD,h1⟩:=N0 (X:=X) _ _ _ h;refine fin (.agg Lw) M1 eZ DD (λ{w0 S F ρ w} hI=> ?_) h;obtain⟨F1,i1,g1,r1⟩:=h1 hI;refine⟨F1,i1,g1,λv hv=> ?_⟩;cases hv with
   |agg _ vs hl hr=>
    have:=r1 vs ⟨hl,hr⟩;exact .agg _ _ this.1 this.2
  ·obtain⟨x',M1,h,eZ,DD,h1⟩:=EX (X:=X) h;refine fin x' M1 eZ (DD.mono λi hi=> ?_) h1 h;exact ayG _ _ hi
  ·exact bh
def H4(X:Cx)(t:TypeId)(len:Nat)(ps:cV)(M:aW)(k:AV->aW->Option R):Option R:=
 match(X.ti t).ok,(X.ti t).u with
 |true,.slice e=>
  aP ((X.ti e).ok &&decide (0<(X.ti e).size)&&decide (len*(X.ti e).size <=16777216))
   (yC X e ps M λmQ M1=>
     match wJ (λi=>some (i*(X.ti e).size,(X.ti e).size)) ((List.replicate len (mo X e)).flatten) mQ with
     |some cs=>
      aP ((chunk (X.ti e).size len cs).all λrow=>dk (X.K e) row) (k (.aA M1.length) (M1++[.row e (chunk (X.ti e).size len cs)]))
     |none=>none)
 |_,_=>none
end
end Go.az
namespace Go.az
def anq{p:Prop}(h:p:=by
 have h1:us.size=len*z2.cells.size:=by
  have aux:∀(pv:List (Nat×Value)) (place:Nat->Option (Nat×Nat)) (a b:Array Value),Instr.fill place a pv=some b->b.size=a.size:=by
   intro pv
   induction pv with
   |nil=>intro place a b h;simp only [Instr.fill,Option.some.injEq]at h;rw [h]
   |cons p pv ih=>
    obtain⟨ix,v⟩:=p;intro place a b h;simp only [Instr.fill]at h;split at h
    ·cases h
    ·split at h
     ·cases h
     ·have:=ih place _ b h;rw [this,<-W9];exact Ve _ _ _
  have:=aux pv _ _ us hf;simpa using this
 have:=hr.1;simp only [nU]at this;rw [<-this,h1,qf]):p:=h
def ano{p:Prop}(h:p:=by
 unfold Instr.buildSlice;simp only [fm,iT dS,gh,f2.sizeOf];rw [if_neg (by omega)]
 by_cases h0:len*(X.ti e).size =0
 ·have e0:(Array.range (len*z2.cells.size)).map (z2.cells[· %z2.cells.size]!)= #[]:=by rw [qf,h0];simp
  rw [e0]at hf;rw [if_pos h0];simp only [fm,ie,gh];have e1:(Array.range (len*(X.ti e).size)).map (λx=>(#[]:Array Value)[x %(#[]:Array Value).size]!)= #[]:=by rw [h0];simp
  rw [e1,hf];simp only [newRow,fm,E9,gh,ie,E8]
 ·rw [if_neg h0];simp only [fm,ie,gh,f2.zeroValue];rw [qf]at hf;rw [qf,hf];simp only [newRow,fm,E9,gh,ie,E8]):p:=h
def Zb{p:Prop}(h:p:=by
 rw [afR z2.cells (by omega)];exact adk (WC f2) len):p:=h
def P0{p:Prop}(h:p:=by have:=(eU.1 hi).1;simpa using this):p:=h
def ai7{p:Prop}(h:p:=by
 rw [ju hj]at hx;rw [ju (by rw [h.1];exact hj)]at hv;exact h.2 j x v hx hv):p:=h
def PI{p:Prop}(h:p:=by rw [f2.size];exact f2.zs):p:=h
def lE{p:Prop}(h:p:=by decide):p:=h
def aiv{p:Prop}(h:p:=by simp [IntKind.wrap,IntKind.bits,IntKind.signed];omega):p:=h
end Go.az
namespace Go.az
def zG:=@List.append_nil
def OY:=@List.ext_getElem?
def BT:=@List.getElem?_eq_none
def OR:=@getElem!_pos
def On:=@Nat.le_mul_of_pos_right
def W8:=@Nat.mod_eq_of_lt
def BJ:=@Int.eq_ofNat_of_zero_le
def W7:=@List.replicate_succ
def BI:=@List.flatten_cons
def afL:=@Nat.add_mul_mod_self_right
def EZ:=@List.getElem?_replicate
end Go.az
namespace Go.az
open Go
noncomputable section
variable {X:Cx} {R:Type}
variable {w0 w w':World} {S:Sc} {F:bT} {ρ:bY} {M:aW}
def Oa{n:Nat}(h:n<=140737488355328):n<=maxLen:=nW h (lE)
def adk{K:TypeId->dZ}{row:Row}{vs:fA}(h:dt K ρ F w row vs):∀n,dt K ρ F w (List.replicate n row).flatten (List.replicate n vs).flatten
 |0=>⟨rfl,λj x v hx _=>wk⟩
 |n+1=>by
  have ih:=adk h n;rw [W7,W7,BI,BI];refine⟨by rw [fy,fy,h.1,ih.1],λj x v hx hv=> ?_⟩
  by_cases hj:j<row.length
  ·exact ai7
  ·rw [kv (by omega)]at hx;rw [kv (by rw [h.1];omega),h.1]at hv;exact ih.2 _ x v hx hv
def afR(vs:Array Value)(hs:0<vs.size):∀n,((Array.range (n*vs.size)).map (vs[· %vs.size]!)).toList =(List.replicate n vs.toList).flatten :=by
 intro n
 induction n with
 |zero=>simp
 |succ n ih=>
  rw [List.replicate_succ',List.flatten_append,<-ih];apply OY;intro j;simp only [Array.toList_map,Array.toList_range,iH,BI,List.flatten_nil,zG];have e:(n+1)*vs.size=n*vs.size+vs.size:=by rw [pQ,Xc]
  by_cases h1:j<n*vs.size
  ·rw [ju (sl),tJ (by omega),iH,tJ h1]
  ·by_cases h2:j<(n+1)*vs.size
   ·rw [kv (eh),tJ h2];simp only [eE,List.length_range,kz];have h3:j %vs.size=j- n*vs.size:=by
     rw [show j=(j- n*vs.size)+n*vs.size by omega,afL,W8 (by omega)];omega
    have h4:j- n*vs.size<vs.size:=by omega
    rw [h3,Iy,BP h4,OR vs _ h4]
   ·rw [kv (eh),BT (eh),BT (eh)];rfl
def afA{K:TypeId->dZ}{cs:bp}{us:fA}(h:dt K ρ F w cs us){sz n:Nat}{i:Nat}{row:Row}(hi:(chunk sz n cs)[i]?=some row){j:Nat}{x:AV}(hx:row[j]?=some x):
 ∃v,us[i*sz+j]?=some v∧aY K ρ F w x v:=by
 have qP:i<n:=by have:=(eU.1 hi).1;rwa [By]at this
 rw [afB sz n cs i qP]at hi;injection hi with hi;subst hi;rw [nV]at hx;split at hx
 ·rw [qt]at hx;have cF:=(eU.1 hx).1;have hl:=h.1;have hu:us[i*sz+j]?=some (us[i*sz+j]'(by omega)):=dz (by omega);exact⟨_,hu,h.2 _ x _ hx hu⟩
 ·cases hx
def aca(hX:X.Okb){t:TypeId}{len:Nat}{ps:cV}{k:AV->aW->Option R}{r:R}(h:H4 X t len ps M k=some r):
 ∃y M',k y M'=some r∧dR (ps.flatMap λp=>p.2.cells.flatMap oz) M M'∧∀{w0:World} {S:Sc} {F:bT} {ρ:bY} {w:World} (pv:List (Nat×Value)),Inv X w0 S F ρ M w->pv.length=ps.length->
  (∀(j:Nat) p q,ps[j]?=some p->pv[j]?=some q->p.1=q.1∧aY X.K ρ F w p.2 q.2)->
  ∃v w' ρ' F',(Instr.buildSlice t len pv.toArray).run X.P w= .ok v w'∧Inv X w0 S F' ρ' M' w'∧Grow F F' ρ ρ' w w'∧aY X.K ρ' F' w' y v∧∀g,g<w.heap.size->w'.heap[g]?=w.heap[g]?:=by
 unfold H4 at h;split at h
 ·rename_i e bB hu;replace h:=di h;obtain⟨h1,h⟩:=h;simp only [bS,iY]at h1;obtain⟨⟨he,n8⟩,jT⟩:=h1;obtain⟨i,d,z,f⟩:=hX.facts bB;obtain⟨i2,d2,z2,f2⟩:=hX.facts he;have dS:=f.slice hu;obtain⟨mQ,M1,h,eZ,fP,fK,G3⟩:=ae4 _ _ h;split at h
  ·rename_i cs tS;replace h:=di h;obtain⟨iX,h⟩:=h;refine⟨_,_,h,(fK.trans (dR.push [] _ _)).mono (by simp),λ{w0 S F0 ρ w} pv oo hl hp=> ?_⟩;obtain⟨F,hI,qk,R9⟩:=G3 oo;have AU:=R9 pv hl hp;have qf:z2.cells.size=(X.ti e).size :=PI;have mL:(X.K e).length =(X.ti e).size :=zU;have hz:dt X.K ρ F w (List.replicate len (mo X e)).flatten ((Array.range (len*z2.cells.size)).map (z2.cells[· %z2.cells.size]!)).toList :=Zb;obtain⟨us,hf,hr⟩:=EH hI.one mQ _ cs _ pv tS hz (by omega) AU;have aM7:cs.length=len*(X.ti e).size :=anq;have JG:=hI.newRow (t:=e) (xs:=chunk (X.ti e).size len cs) (cur:=us) (c:=len) (λi row hi=>by
    rw [jN]at iX;exact iX row (mD hi)) (by rw [By];exact gz _)
    (by
      have:len<=len*(X.ti e).size :=On _ n8;exact Oa (by omega))
    (by have:=hr.1;simp only [nU]at this;rw [mL];omega)
    (λi row hi j x hx=>by
      obtain⟨v,h1,h2⟩:=afA hr hi hx;rw [mL];exact⟨v,by rw [Iy]at h1;exact h1,h2⟩)
    (w':=w) ⟨rfl,rfl,rfl,gz _,λ_ _ _=>rfl⟩ rfl
   refine⟨.slice (some ⟨w.heap.size,0,none⟩) len len,_,_,F,?_,JG.1,qk.trans JG.2,?_,λg hg=>afK w _ g hg⟩
   ·exact ano
   ·have:=zz (X:=X) (F:=F) (w:=w.alloc (.cells us e)) (hd:=⟨.slice (some ⟨w.heap.size,0,none⟩) (chunk (X.ti e).size len cs).length len,(X.K e).length⟩) hI.len;simpa [By]using this
  ·exact bh
 ·cases h
def V9(X:Cx)(t:TypeId)(l c:AV)(M:aW)(k:AV->aW->Option R):Option R:=
 match(X.ti t).ok,(X.ti t).u,l,c with
 |true,.slice e,.int _ l,.int _ c=>
  aP ((X.ti e).ok &&decide (0<(X.ti e).size)&&decide (0<(X.ti e).bytes)&&dk (X.K e) (mo X e)&&(decide (0<=l)&&decide (l<=c)&&decide (c*(X.ti e).bytes <=140737488355328)))
   (k (.aA M.length) (M++[.row e (List.replicate l.toNat (mo X e))]))
 |_,_,_,_=>none
def atI(hX:X.Okb){t:TypeId}{l c:AV}{k:AV->aW->Option R}{r:R}(h:V9 X t l c M k=some r):
 ∃y M',k y M'=some r∧dR [] M M'∧∀{vl vc:Value},Ar X M y M' (λρ F w=>aY X.K ρ F w l vl∧aY X.K ρ F w c vc) (Instr.makeSlice t vl vc):=by
 unfold V9 at h;split at h
 ·rename_i e k1 l k2 c bB hu;replace h:=di h;obtain⟨h1,h⟩:=h;simp only [bS,iY]at h1;obtain⟨⟨⟨⟨he,n8⟩,Sl⟩,AY⟩,⟨Sf,kq⟩,xd⟩:=h1;obtain⟨i,d,z,f⟩:=hX.facts bB;obtain⟨i2,d2,z2,f2⟩:=hX.facts he;have dS:=f.slice hu;have qf:z2.cells.size=(X.ti e).size :=PI;have mL:(X.K e).length =(X.ti e).size :=zU;obtain⟨cn,rfl⟩:=BJ (show 0<=c by omega);obtain⟨ln,rfl⟩:=BJ Sf;have Sk:cn<=140737488355328:=by
   have h2:cn<=cn*(X.ti e).bytes :=On _ Sl;have h3:((cn*(X.ti e).bytes :Nat):Int)<=140737488355328:=by rw [Int.natCast_mul];exact xd
   generalize cn*(X.ti e).bytes =m at*;omega
  have nN:ln<=cn:=by omega
  refine⟨_,_,h,dR.push _ _ _,λ{vl vc w0 S F ρ w} hI hv=> ?_⟩;obtain⟨h1,h2⟩:=hv;cases h1;cases h2;have JG:=hI.newRow (t:=e) (xs:=List.replicate ln (mo X e)) (cur:=(Array.range (cn*(X.ti e).size)).map (z2.cells[· %z2.cells.size]!)) (c:=cn) (λi row hi=>by
   have:=mD hi;rw [List.mem_replicate]at this;rw [this.2];exact AY) (by simpa using nN) (Oa Sk) (by simp [mL])
   (λi row hi j x hx=>by
     have qP:i<ln:=P0;rw [EZ,if_pos qP]at hi;injection hi with hi;subst hi;have KX:=WC (X:=X) (ρ:=ρ) (F:=F) (w:=w) f2;have hj:=(eU.1 hx).1;have fP:=KX.1;simp only [nU]at fP;have Le:j<z2.cells.size:=by omega
     have aM1:i*(X.K e).length +j<cn*(X.ti e).size :=by
      rw [mL];have:(i+1)*(X.ti e).size <=cn*(X.ti e).size :=rX _ (by omega);exact Jm
     have hm:(i*(X.K e).length +j) %z2.cells.size=j:=by
      rw [mL,qf,Nat.add_comm,afL,W8 (by omega)]
     refine⟨z2.cells[j],?_,KX.2 j x _ hx (by simp [Le])⟩;rw [Array.getElem?_map,Array.getElem?_range,if_pos aM1];simp only [kz,hm];rw [OR z2.cells j Le])
   (w':=w) ⟨rfl,rfl,rfl,gz _,λ_ _ _=>rfl⟩ rfl
  refine⟨.slice (some ⟨w.heap.size,0,none⟩) ln cn,_,_,F,?_,JG.1,JG.2,?_⟩
  ·have AP:IntKind.i64.wrap (ln:Int)=ln:=by simp [IntKind.wrap,IntKind.bits,IntKind.signed];omega
   have hwc:IntKind.i64.wrap (cn:Int)=cn:=aiv;have jq:(i2.bytes:Int)*(cn:Int)<=140737488355328:=by rw [<-f2.bytes,Int.mul_comm];exact xd
   have hbl:(i2.bytes:Int)*(ln:Int)<=140737488355328:=by
    have:(i2.bytes:Int)*(ln:Int)<=(i2.bytes:Int)*(cn:Int):=Int.mul_le_mul_of_nonneg_left (by omega) (by omega);omega
   have iZ:¬((((cn:Int)<0∨(281474976710656:Int)<(i2.bytes:Int)*(cn:Int))∨(ln:Int)<0)∨(cn:Int)<(ln:Int)):=by omega
   unfold Instr.makeSlice;simp only [fm,iT dS,gh,asInt,asIntOf,ie,f2.typeInfo,AP,hwc];rw [if_neg (by simpa using iZ)]
   by_cases h0:cn*(X.ti e).size =0
   ·have:cn=0:=by rcases Nat.mul_eq_zero.1 h0 with h|h;exact h;omega
    subst this;have e9:∀g:Nat->Value,(Array.range 0).map g= #[]:=by intro g;simp
    simp [f2.sizeOf,newRow,e9]
   ·simp [f2.sizeOf,newRow,f2.zeroValue,h0]
  ·have:=zz (X:=X) (F:=F) (w:=w.alloc (.cells ((Array.range (cn*(X.ti e).size)).map (z2.cells[· %z2.cells.size]!)) e)) (hd:=⟨.slice (some ⟨w.heap.size,0,none⟩) (List.replicate ln (mo X e)).length cn,(X.K e).length⟩) hI.len;exact se
 ·cases h
end
end Go.az
namespace Go.az
def FA{p:Prop}(h:p:=by rw [<-hI.len];simp):p:=h
def ahy{p:Prop}(h:p:=by rw [ju (eU.1 hb).1];exact hb):p:=h
def ahx{p:Prop}(h:p:=by rw [ju (eU.1 hh).1];exact hh):p:=h
end Go.az
namespace Go.az
def II:=@Nat.sub_self
def Fa:=@List.all_cons
end Go.az
namespace Go.az
open Go
noncomputable section
variable {X:Cx} {R:Type} {M:aW}
variable{len:Nat}{r:R}{t:TypeId}{ps:cV}
def Inv.aFF{w0 w w':World}{S:Sc}{F F':bT}{ρ:bY}{hd:Hd}{b:ed}(hI:Inv X w0 S F ρ M w)(hN:Inv X w0 S F' (ρ++[hd]) (M++[b]) w')(hF:∀a,F a->F' a)(hp:∀g,g<w.heap.size->w'.heap[g]?=w.heap[g]?)(hw:∀a v,F a->w.cell? a=some v->w'.cell? a=some v):
 Inv X w0 S F' ρ M w' where
 os:=hN.os
 tape:=hN.tape
 output:=hN.output
 size:=hN.size
 frame:=hN.frame
 len:=hI.len
 rep:=λid b' dC hb hh=>by
  cases lK:b'.iB with
  |false=>exact(hI.rep id b' dC hb hh).mono (λ_ _ h=>h) hF hw (λg hg=>hp g (hI.sep id b' dC g hb lK hh hg).1)
  |true=>
   have h1:(M++[b])[id]?=some b':=ahy;have h2:(ρ++[hd])[id]?=some dC:=ahx;have hr:=hI.rep id b' dC hb hh;cases b' with
   |dead=>trivial
   |eN t xs=>exact aY.mono (λ_ _ h=>h) hF hw hr
   |_=>simp [ed.iB]at lK
 sep:=λid b' dC g hb lK hh hg=>by
  have h1:(M++[b])[id]?=some b':=ahy;have h2:(ρ++[hd])[id]?=some dC:=ahx;exact hN.sep id b' dC g h1 lK h2 hg
 iN:=hI.iN
 fz:=hN.fz
 fT:=λg=>(hI.fT g).mono (λ_ _ h=>h) hF hw
 one:=hI.one
 fV:=hN.fV
 fin:=hN.fin
def Cm:AV->Bool| .int _ _| .bool _| .str _| .ab _ _=>true|_=>false
def Qs:Bool->AV->Bool|true,.agg cs=>cs.all Cm|false,x=>Cm x|_,_=>false
def aER:AV->Bool| .agg cs=>cs.all Cm|x=>Cm x
def agh{kd:Kind}{x:AV}{c:AV->aW->Option R}(h:Cm x=true):ly kd x M c=c x M:=by
 cases x<;>simp [Cm]at h<;>cases kd<;>rfl
def afo:∀(ks:dZ) (xs:bp) {M:aW} {c:bp->aW->Option R},xs.all Cm=true->vd ks xs M c=c xs M
 | [],xs,M,c,_=>by cases xs<;>rfl
 |_::_,[],M,c,_=>rfl
 |kd::ks,x::xs,M,c,h=>by
  rw [Fa,bS]at h;simp only [vd];rw [agh h.1,afo ks xs h.2]
def WQ{e:TypeId}:∀(ps:cV) {M:aW} {c:cV->aW->Option R},(ps.all λp=>Qs (X.ti e).u.agg p.2)=true->yC X e ps M c=c ps M
 | [],M,c,_=>rfl
 |(i,x)::ps,M,c,h=>by
  rw [Fa,bS]at h;obtain⟨h1,h2⟩:=h;cases ha:(X.ti e).u.agg with
  |true=>
   rw [ha]at h1;cases x<;>simp only [Qs,lg]at h1
   simp only [yC,ha];rw [afo _ _ h1,WQ ps h2]
  |false=>
   rw [ha]at h1;simp only [yC,ha];rw [agh (by simpa [Qs]using h1),WQ ps h2]
def BA(X:Cx)(t:TypeId)(len:Nat)(ps:cV)(k:AV->Option R):Option R:=
 match(X.ti t).ok,(X.ti t).u with
 |true,.slice e=>
  aP ((((X.ti e).ok &&decide (0<(X.ti e).size)&&decide (len*(X.ti e).size <=16777216))&&(ps.all λp=>Qs (X.ti e).u.agg p.2))&&X.pk)
   (match wJ (λi=>some (i*(X.ti e).size,(X.ti e).size)) ((List.replicate len (mo X e)).flatten) ps with
     |some cs=>aP ((chunk (X.ti e).size len cs).all λrow=>dk (X.K e) row) (k (.ab e (chunk (X.ti e).size len cs)))
     |none=>none)
 |_,_=>none
def atL(hX:X.Okb){k:AV->Option R}(h:BA X t len ps k=some r):
 ∃y,k y=some r∧(∀(R':Type) (k':AV->Option R'),BA X t len ps k'=k' y)∧∀{M:aW} {w0:World} {S:Sc} {F:bT} {ρ:bY} {w:World} (pv:List (Nat×Value)),Inv X w0 S F ρ M w->pv.length=ps.length->
  (∀(j:Nat) p q,ps[j]?=some p->pv[j]?=some q->p.1=q.1∧aY X.K ρ F w p.2 q.2)->
  ∃v w' ρ' F',(Instr.buildSlice t len pv.toArray).run X.P w= .ok v w'∧Inv X w0 S F' ρ' M w'∧Grow F F' ρ ρ' w w'∧aY X.K ρ' F' w' y v:=by
 unfold BA at h;split at h
 ·rename_i e bB hu;replace h:=di h;obtain⟨h1,h⟩:=h;split at h
  ·rename_i cs tS;replace h:=di h;obtain⟨iX,h⟩:=h;refine⟨_,h,λR' k'=>by unfold BA;simp only [bB,hu,h1,tS,iX,aP],λ{M w0 S F ρ w} pv hI hl hp=> ?_⟩;obtain⟨h1,K5⟩:=Bool.and_eq_true_iff.1 h1;obtain⟨h1,h3⟩:=Bool.and_eq_true_iff.1 h1;have hb:H4 X t len ps M (λy M'=>some (y,M'))=some (.aA M.length,M++[.row e (chunk (X.ti e).size len cs)]):=by
    unfold H4;simp only [bB,hu,h1,aP];rw [WQ ps h3];simp only [tS,iX,aP]
   obtain⟨y1,M1,he,_,hd⟩:=aca hX hb;injection he with he;injection he with Lk he2;subst Lk;subst he2;obtain⟨v,w',ρ',F1,dB,G5,vO,rK,jS⟩:=hd pv hI hl hp;have gG:∃hd,ρ'=ρ++[hd]:=by
    have eZ:=G5.len;have fP:=hI.len;rw [fy,List.length_singleton]at eZ;have cF:ρ.length<ρ'.length:=by omega
    refine⟨ρ'[ρ.length],OY λj=> ?_⟩
    by_cases hj:j<ρ.length
    ·rw [ju hj,dz hj];exact vO.gG j _ (dz hj)
    ·by_cases Le:j=ρ.length
     ·subst Le;rw [kv (gz _),II,dz cF];rfl
     ·rw [BT (by omega),BT (eh)]
   obtain⟨lV,rfl⟩:=gG;have hz:ly (.slice e) (.aA M.length) (M++[.row e (chunk (X.ti e).size len cs)]) (λx M=>some (x,M))=some (.ab e (chunk (X.ti e).size len cs),M++[.eN e (chunk (X.ti e).size len cs)]):=by
    simp [eY,ly,aP]
   obtain⟨x',M2,he,_,_,G3⟩:=EX (X:=X) hz;injection he with he;injection he with Lk he2;subst Lk;subst he2;obtain⟨F2,uy,lv,hv⟩:=G3 G5;have hg:=vO.trans lv;exact⟨v,w',ρ,F2,dB,hI.aFF uy hg.hF jS (λa v ha hc=>hg.hw a v ha hc),⟨hg.hF,λ_ _ h=>h,hg.hb⟩,(hv v rK).pure (hX.ok K5).kinds rfl⟩
  ·exact bh
 ·cases h
def aMH:AV->Bool| .du _ [] []=>false| .du _ _ _=>true|_=>false
def aEV(ps:cV):Bool:=ps.any λp=>p.2.cells.any aMH
def Ws(X:Cx)(t:TypeId)(len:Nat)(ps:cV)(M:aW)(k:AV->aW->Option R):Option R:=
 match(X.ti t).ok,(X.ti t).u with
 |true,.slice e=>
  aP ((X.ti e).ok &&decide (0<(X.ti e).size)&&decide (len*(X.ti e).size <=16777216))
   (match wJ (λi=>some (i*(X.ti e).size,(X.ti e).size)) ((List.replicate len (mo X e)).flatten) ps with
     |some cs=>aP (dk (List.replicate cs.length .any) cs&&X.Aw (List.replicate cs.length .any) e) (k (.kU M.length len) (M++[.var (List.replicate cs.length .any) cs]))
     |none=>none)
 |_,_=>none
def auQ(hX:X.Okb){k:AV->aW->Option R}(h:Ws X t len ps M k=some r):
 ∃y M',k y M'=some r∧dR [] M M'∧∀{w0:World} {S:Sc} {F:bT} {ρ:bY} {w:World} (pv:List (Nat×Value)),Inv X w0 S F ρ M w->pv.length=ps.length->
  (∀(j:Nat) p q,ps[j]?=some p->pv[j]?=some q->p.1=q.1∧aY X.K ρ F w p.2 q.2)->
  ∃v w' ρ' F',(Instr.buildSlice t len pv.toArray).run X.P w= .ok v w'∧Inv X w0 S F' ρ' M' w'∧Grow F F' ρ ρ' w w'∧aY X.K ρ' F' w' y v:=by
 unfold Ws at h;split at h
 ·rename_i e bB hu;replace h:=di h;obtain⟨h1,h⟩:=h;simp only [bS,iY]at h1;obtain⟨⟨he,n8⟩,jT⟩:=h1;obtain⟨i,d,z,f⟩:=hX.facts bB;obtain⟨i2,d2,z2,f2⟩:=hX.facts he;have dS:=f.slice hu;split at h
  ·rename_i cs tS;replace h:=di h;obtain⟨iX,h⟩:=h;rw [bS]at iX;obtain⟨iX,hyy⟩:=iX;refine⟨_,_,h,dR.push _ _ _,λ{w0 S F ρ w} pv hI hl hp=> ?_⟩;have qf:z2.cells.size=(X.ti e).size :=PI;have hz:dt X.K ρ F w (List.replicate len (mo X e)).flatten ((Array.range (len*z2.cells.size)).map (z2.cells[· %z2.cells.size]!)).toList :=Zb;obtain⟨us,hf,hr⟩:=EH hI.one ps _ cs _ pv tS hz hl hp;obtain⟨dG,hg⟩:=hI.newVar iX hr e hyy;refine⟨.slice (some ⟨w.heap.size,0,none⟩) len len,_,_,F,?_,dG,hg,?_⟩
   ·exact ano
   ·exact .kU _ _ ⟨.slice (some ⟨w.heap.size,0,none⟩) 1 1,cs.length⟩ _ _ 1 1 _ (FA) rfl
  ·exact bh
 ·cases h
end
end Go.az
namespace Go.az
def akQ{p:Prop}(h:p:=by
 intro o v d n hr hb;cases o with
 |none=>cases v with
  |none=>simp only [lY,Option.some.injEq]at hb;exact .inl ⟨rfl,rfl,hb⟩
  |some _=>exact hr.elim
 |some x=>cases v with
  |none=>exact hr.elim
  |some v=>
   cases x<;>simp only [lY]at hb<;>try cases hb
   cases hr;exact .inr ⟨_,rfl,rfl⟩):p:=h
def ai5{p:Prop}(h:p:=by simp [Instr.sliceAt,Instr.slice,hu,Instr.sliceBounds,hs,Instr.sliceBound,asIntOf,h1,h2]):p:=h
end Go.az
namespace Go.az
def xK:=@Nat.zero_le
def sb:=@List.length_nil
def sa:=@Int.le_refl
end Go.az
namespace Go.az
open Go
noncomputable section
variable {X:Cx} {R:Type}
variable {w0 w w':World} {S:Sc} {F:bT} {ρ:bY} {M:aW}
variable{x:AV}{h l:Int}{hi lo mx:Option AV}{r:R}{t:TypeId}{xs:aZ}
def lY(d:Int):Option AV->Option Int
 |none=>some d
 |some (.int _ n)=>some n
 |_=>none
def p7(K:TypeId->dZ)(ρ:bY)(F:bT)(w:World):Option AV->Option Value->Prop
 |none,none=>True
 |some x,some v=>aY K ρ F w x v
 |_,_=>False
def uL(xs:aZ)(lo hi:Option AV):aZ:=
 match lo,hi with
 |none,none=>xs
 |none,some h=>xs.take h.toI.toNat
 |some l,none=>xs.drop l.toI.toNat
 |some l,some h=>(xs.take h.toI.toNat).drop l.toI.toNat
def zI(X:Cx)(t:TypeId)(x:AV)(lo hi mx:Option AV)(M:aW)(k:AV->aW->Option R):Option R:=
 match(X.ti t).ok,(X.ti t).u with
 |true,.slice e=>
  match rowsOf M x with
  |some (_,xs)=>
   match lY 0 lo,lY xs.length hi,lY xs.length mx with
   |some l,some h,some m=>
    aP ((X.ti e).ok && !(mx.isSome&&hi.isNone)&&(decide (0<=l)&&decide (l<=h)&&decide (h<=m)&&decide (m<=(xs.length:Int))))
     (match x with
      | .ab t' xs=>aP (e==t') (k (.ab t' (uL xs lo hi)) M)
      | .gE =>k .gE M
      | .aA id=>
        match gm M id with
        |some (.row t' xs)=>aP (e==t') (k (.aA M.length) (M.set id .dead ++[.row t' (uL xs lo hi)]))
        |some (.eN t' xs)=>aP (e==t') (k (.ab t' (uL xs lo hi)) M)
        |_=>none
      |_=>none)
   |_,_,_=>none
  |none=>none
 |_,_=>none
def H9{P:Program}{e:TypeId}{size:Nat}(dS:P.underlying t=some (.slice e))(hs:∀w,(sizeOf e).run P w= .ok size w){a:Option Addr}{len cap:Nat}{vl vh vm:Option Value}{K:TypeId->dZ}
 (h1:p7 K ρ F w lo vl) (h2:p7 K ρ F w hi vh) (h3:p7 K ρ F w mx vm) {m:Int} (e1:lY 0 lo=some l) (e2:lY len hi=some h) (e3:lY len mx=some m) (oj:¬(mx.isSome=true∧hi.isNone=true)) (b1:0<=l) (b2:l<=h) (b3:h<=m) (b4:m<=len) (b5:len<=cap):
 ∃mm:Nat,h.toNat<=mm∧mm<=cap∧(Instr.sliceAt t (.slice a len cap) vl vh vm).run P w= .ok (.slice (if mm=l.toNat then a else a.map (·.add (l.toNat*size))) (h.toNat- l.toNat) (mm- l.toNat)) w:=by
 obtain⟨ln,rfl⟩:=BJ b1;obtain⟨hn,rfl⟩:=BJ (show 0<=h by omega);obtain⟨mn,rfl⟩:=BJ (show 0<=m by omega);have bound:∀(o:Option AV) (v:Option Value) (d:Int) (n:Nat),p7 K ρ F w o v->lY d o=some (n:Int)->(o=none∧v=none∧d=n)∨∃kd,v=some (.int kd n)∧o.isSome=true:=akQ;have hu:∀w,(underlying t).run P w= .ok (.slice e) w:=λw=>iT dS w;rcases bound lo vl 0 ln h1 e1 with⟨o1,rfl,d1⟩|⟨k1,rfl,s1⟩<;>rcases bound hi vh len hn h2 e2 with⟨o2,rfl,d2⟩|⟨k2,rfl,s2⟩<;>rcases bound mx vm len mn h3 e3 with⟨o3,rfl,d3⟩|⟨k3,rfl,s3⟩
 ·refine⟨cap,by omega,gz _,?_⟩;have e0:ln=0:=by omega
  have DL:hn=len:=by omega
  subst e0;subst DL;simp [Instr.sliceAt,Instr.slice,hu,Instr.sliceBounds,hs]
 ·exact absurd ⟨s3,by rw [o2];rfl⟩ oj
 ·refine⟨cap,by omega,gz _,?_⟩;have e0:ln=0:=by omega
  subst e0;have:hn<=cap:=by omega
  simp [Instr.sliceAt,Instr.slice,hu,Instr.sliceBounds,hs,Instr.sliceBound,asIntOf,this]
 ·refine⟨mn,by omega,by omega,?_⟩;have e0:ln=0:=by omega
  subst e0;have h1:hn<=mn:=by omega
  have h2:mn<=cap:=by omega
  exact ai5
 ·refine⟨cap,by omega,gz _,?_⟩;have DL:hn=len:=by omega
  subst DL;have h1:ln<=hn:=by omega
  simp [Instr.sliceAt,Instr.slice,hu,Instr.sliceBounds,hs,Instr.sliceBound,asIntOf,h1]
 ·exact absurd ⟨s3,by rw [o2];rfl⟩ oj
 ·refine⟨cap,by omega,gz _,?_⟩;have h1:ln<=hn:=by omega
  have h2:hn<=cap:=by omega
  exact ai5
 ·refine⟨mn,by omega,by omega,?_⟩;have h1:ln<=hn:=by omega
  have h2:hn<=mn:=by omega
  have h3:mn<=cap:=by omega
  simp [Instr.sliceAt,Instr.slice,hu,Instr.sliceBounds,hs,Instr.sliceBound,asIntOf,h1,h2,h3]
def Ik(e1:lY 0 lo=some l)(e2:lY xs.length hi=some h):uL xs lo hi=(xs.take h.toNat).drop l.toNat:=by
 cases lo with
 |none=>
  simp only [lY,Option.some.injEq]at e1;subst e1;cases hi with
  |none=>simp only [lY,Option.some.injEq]at e2;subst e2;simp [uL]
  |some x=>cases x<;>simp only [lY]at e2<;>try cases e2
           simp [uL,AV.toI]
 |some y=>
  cases y<;>simp only [lY]at e1<;>try cases e1
  cases hi with
  |none=>simp only [lY,Option.some.injEq]at e2;subst e2;simp [uL,AV.toI]
  |some x=>cases x<;>simp only [lY]at e2<;>try cases e2
           simp [uL,AV.toI]
def aCh{v:Value}(hv:aY X.K ρ F w (.ab t xs) v){l h m:Nat}(b2:l<=h)(b3:h<=xs.length):
 ∀{a:Option Addr} {cap:Nat},v= .slice a xs.length cap->h<=m->m<=cap->aY X.K ρ F w (.ab t ((xs.take h).drop l)) (.slice (if m=l then a else a.map (·.add (l*(X.K t).length))) (h- l) (m- l)):=by
 intro a cap qg uo hm2;cases hv with
 |kj=>
  injection qg with e1 e2 e3;subst e1;subst e3;have h0:h=0:=by simpa using b3
  have l0:l=0:=by omega
  have m0:m=0:=by omega
  subst h0;subst l0;subst m0;exact .kj t
 |ab _ _ a' aNX vss hl lj jT hk hc hr=>
  injection qg with e1 e2 e3;subst e1;subst e3;have e:(if m=l then some a' else(some a').map (·.add (l*(X.K t).length)))=some (if m=l then a' else a'.add (l*(X.K t).length)):=by split<;>rfl
  rw [e];have hlen:((xs.take h).drop l).length =h- l:=eh;have:=aY.ab (K:=X.K) (ρ:=ρ) (F:=F) (w:=w) t ((xs.take h).drop l) (if m=l then a' else a'.add (l*(X.K t).length)) (m- l) ((vss.take h).drop l) (by simp [hl]) (by rw [hlen];omega) (by omega) ?_ ?_ ?_
  ·rw [hlen]at this;exact this
  ·intro i row hi;rw [qt,nV]at hi;split at hi
   ·exact hk _ row hi
   ·cases hi
  ·intro i vs hi;rw [qt,nV]at hi;split at hi
   ·rename_i cF;obtain⟨c1,c2⟩:=hc _ vs hi;refine⟨c1,λj u hj=> ?_⟩;rw [if_neg (by omega),zC];have:=c2 j u hj;rw [show l*(X.K t).length +(i*(X.K t).length +j)=(l+i)*(X.K t).length +j by rw [pQ];omega];exact this
   ·cases hi
  ·intro i row vs hi fo;rw [qt,nV]at hi fo;split at hi
   ·rename_i cF;rw [if_pos cF]at fo;exact hr _ row vs hi fo
   ·cases hi
def ax0(hX:X.Okb){k:AV->aW->Option R}(h:zI X t x lo hi mx M k=some r):
 ∃y M',k y M'=some r∧dR (oz x) M M'∧∀{v:Value} {vl vh vm:Option Value},Ar X M y M' (λρ F w=>aY X.K ρ F w x v∧p7 X.K ρ F w lo vl∧p7 X.K ρ F w hi vh∧p7 X.K ρ F w mx vm) (Instr.sliceAt t v vl vh vm):=by
 unfold zI at h;simp only [eY]at h;split at h
 ·rename_i e bB hu;obtain⟨i,d,z,f⟩:=hX.facts bB;have dS:=f.slice hu;split at h
  ·rename_i o xs gW;split at h
   ·rename_i l h' m e1 e2 e3;replace h:=di h;obtain⟨h1,h⟩:=h;simp only [bS,dT,Bool.and_eq_false_iff,iY]at h1;obtain⟨⟨he,oj⟩,⟨⟨b1,b2⟩,b3⟩,b4⟩:=h1;have aaq:¬(mx.isSome=true∧hi.isNone=true):=by
     rintro⟨p,q⟩;rcases oj with hh|hh
     ·rw [p]at hh;cases hh
     ·rw [q]at hh;cases hh
    obtain⟨i2,d2,z2,f2⟩:=hX.facts he;have ei:(X.K e).length =(X.ti e).size :=zU;have eb:(h':Int)<=xs.length:=by omega
    have core:∀{ρ:bY} {F:bT} {w:World} {v:Value} {vl vh vm:Option Value},aY X.K ρ F w (.ab e xs) v->p7 X.K ρ F w lo vl->p7 X.K ρ F w hi vh->p7 X.K ρ F w mx vm->
     ∃u,(Instr.sliceAt t v vl vh vm).run X.P w= .ok u w∧aY X.K ρ F w (.ab e (uL xs lo hi)) u:=by
     intro ρ F w v vl vh vm hv r1 r2 r3;have qg:∃a cap,v= .slice a xs.length cap∧xs.length<=cap:=by
      cases hv with
      |kj=>exact⟨_,_,rfl,by simp⟩
      |ab _ _ a cap _ _ lj=>exact⟨_,_,rfl,lj⟩
     obtain⟨a,cap,qg,lj⟩:=qg;obtain⟨mm,m1,m2,dB⟩:=H9 (P:=X.P) (size:=(X.ti e).size) dS f2.sizeOf (a:=a) (len:=xs.length) (cap:=cap) r1 r2 r3 e1 e2 e3 aaq b1 b2 b3 b4 lj;rw [qg];refine⟨_,dB,?_⟩;rw [Ik e1 e2,<-ei];exact aCh hv (by omega) (by omega) qg m1 m2
    split at h
    ·rename_i t' jA;replace h:=di h;obtain⟨h2,h⟩:=h;rw [ic]at h2;subst h2;simp only [eY,rowsOf,Option.some.injEq,Prod.mk.injEq]at gW;obtain⟨_,rfl⟩:=gW;refine⟨_,_,h,dR.refl _ _,λ{v vl vh vm w0 S F ρ w} hI hh=> ?_⟩;obtain⟨hv,r1,r2,r3⟩:=hh;obtain⟨u,h3,h4⟩:=core hv r1 r2 r3;exact⟨u,w,ρ,F,h3,hI,Grow.refl _ _ _,h4⟩
    ·simp only [eY,rowsOf,Option.some.injEq,Prod.mk.injEq]at gW;obtain⟨_,rfl⟩:=gW;refine⟨_,_,h,dR.refl _ _,λ{v vl vh vm w0 S F ρ w} hI hh=> ?_⟩;obtain⟨hv,r1,r2,r3⟩:=hh;cases hv;simp only [sb]at eb e2 e3 b4;obtain⟨mm,m1,m2,dB⟩:=H9 (P:=X.P) (size:=(X.ti e).size) dS f2.sizeOf (a:=none) (len:=0) (cap:=0) r1 r2 r3 e1 e2 e3 aaq b1 b2 b3 b4 (gz _);refine⟨_,w,ρ,F,dB,hI,Grow.refl _ _ _,?_⟩;have l0:l.toNat=0:=by omega
     have h0:h'.toNat=0:=by omega
     have m0:mm=0:=by omega
     rw [l0,h0,m0];exact .gE
    ·rename_i id;split at h
     ·rename_i t' jA hb;replace h:=di h;obtain⟨h2,h⟩:=h;rw [ic]at h2;subst h2;simp only [eY,rowsOf,hb,Option.some.injEq,Prod.mk.injEq]at gW;obtain⟨_,rfl⟩:=gW;refine⟨_,_,h,((dR.set _ _ _).trans (dR.push [] _ _)).mono (by simp [oz]),λ{v vl vh vm w0 S F ρ w} hI hh=> ?_⟩;obtain⟨hv,r1,r2,r3⟩:=hh;cases hv with
      |aA _ hd bA=>
       obtain⟨q1,q2,q3⟩:=hI.rep id _ hd hb bA;have qg:∃a cap,hd.v= .slice a jA.length cap∧jA.length<=cap:=by
        rcases q3 with⟨q3,q4⟩|⟨g,o,c,cur,q3,_,q4,_⟩
        ·subst q4;exact⟨_,_,q3,gz _⟩
        ·exact⟨_,_,q3,q4⟩
       obtain⟨a,cap,qg,lj⟩:=qg;obtain⟨mm,m1,m2,dB⟩:=H9 (P:=X.P) (size:=(X.ti e).size) dS f2.sizeOf (a:=a) (len:=jA.length) (cap:=cap) r1 r2 r3 e1 e2 e3 aaq b1 b2 b3 b4 lj;rw [qg];have hlen:(uL jA lo hi).length =h'.toNat- l.toNat:=by rw [Ik e1 e2];simp;omega
       have CW:∀dC:Hd,dC.v= .slice (if mm=l.toNat then a else a.map (·.add (l.toNat*(X.ti e).size))) (h'.toNat- l.toNat) (mm- l.toNat)->dC.sz=(X.K e).length ->
        Inv X w0 S F (ρ++[dC]) (M.set id .dead ++[.row e (uL jA lo hi)]) w:=by
        intro dC fN dm;have yy:∀g,dC.eC=some g->hd.eC=some g:=by
         intro g hg;simp only [Hd.eC,fN,qg]at hg⊢;cases a with
         |none=>split at hg<;>simp [Value.eC]at hg
         |some a=>
          split at hg
          ·exact hg
          ·simp only [kz,Value.eC,Option.some.injEq]at hg⊢;rw [<-hg];unfold Addr.add;split<;>rfl
        refine hI.move hb rfl bA (w':=w) (row:=none) ⟨rfl,rfl,rfl,gz _,λ_ _ _=>rfl⟩ (.inl rfl) (λg hg=>⟨(hI.sep id _ hd g hb rfl bA (yy g hg)).1,.inl (yy g hg)⟩) (by rw [fN];rfl) ?_;refine⟨dm,λi row dV=> ?_,?_⟩
        ·rw [Ik e1 e2,qt,nV]at dV;split at dV
         ·exact q2 _ row dV
         ·cases dV
        ·rcases q3 with⟨q3,q4⟩|⟨g,o,c,cur,q3,hg,q4,q5,q6,q7⟩
         ·subst q4;rw [q3]at qg;injection qg with a1 a2 a3;subst a1;subst a3;simp only [sb]at b4 eb;have l0:l.toNat=0:=by omega
          have h0:h'.toNat=0:=by omega
          have m0:mm=0:=by omega
          refine .inl ⟨?_,by rw [Ik e1 e2];simp⟩;rw [fN,l0,h0,m0];rfl
         ·rw [q3]at qg;injection qg with a1 a2 a3;subst a1;subst a3;refine .inr ⟨g,if mm=l.toNat then o else o+l.toNat*(X.ti e).size,mm- l.toNat,cur,?_,hg,by rw [hlen];omega,by omega,?_,λi row dV j y hy=> ?_⟩
          ·rw [fN,hlen];split
           ·rfl
           ·rw [kz,oS]
          ·rw [dm,ei];rw [q1,ei]at q6;split
           ·rename_i heq;rw [heq,II,Nat.zero_mul];have:=xK (c*(X.ti e).size);omega
           ·have k1:l.toNat+(mm- l.toNat)<=c:=by omega
            have k2:=rX (X.ti e).size k1;rw [pQ]at k2;omega
          ·have qP:=(eU.1 dV).1;rw [hlen]at qP;rw [Ik e1 e2,qt,nV]at dV;split at dV
           ·obtain⟨u,vI,kg⟩:=q7 _ row dV j y hy;refine⟨u,?_,kg.mono (λ_ _ h=>ny h) (λ_ h=>h) (λ_ _ _ h=>h)⟩;rw [if_neg (by omega),dm,ei];rw [q1,ei]at vI;rw [show o+l.toNat*(X.ti e).size +i*(X.ti e).size +j=o+(l.toNat+i)*(X.ti e).size +j by rw [pQ];omega];exact vI
           ·cases dV
       refine⟨_,w,_,F,dB,CW ⟨_,(X.K e).length⟩ rfl rfl,⟨λ_ h=>h,λ_ _ h=>ny h,λ_ _=>rfl⟩,?_⟩;exact zz (M:=M) (hd:=⟨_,(X.K e).length⟩) hI.len
     ·rename_i t' jA hb;replace h:=di h;obtain⟨h2,h⟩:=h;rw [ic]at h2;subst h2;simp only [eY,rowsOf,hb,Option.some.injEq,Prod.mk.injEq]at gW;obtain⟨_,rfl⟩:=gW;refine⟨_,_,h,dR.refl _ _,λ{v vl vh vm w0 S F ρ w} hI hh=> ?_⟩;obtain⟨hv,r1,r2,r3⟩:=hh;cases hv with
      |aA _ hd bA=>
       obtain⟨u,h3,h4⟩:=core (hI.rep id _ hd hb bA) r1 r2 r3;exact⟨u,w,ρ,F,h3,hI,Grow.refl _ _ _,h4⟩
     ·exact bh
    ·exact bh
   ·exact bh
  ·exact bh
 ·cases h
def Cd(X:Cx)(t:TypeId)(x:AV)(lo hi:Option AV)(M:aW)(k:AV->Option R):Option R:=
 match x with
 | .aA id=>
   match(X.ti t).ok,(X.ti t).u with
   |true,.slice e=>
    match gm M id with
    |some (.row t' xs)=>
     match lY 0 lo,lY xs.length hi with
     |some l,some h=>aP (((X.ti e).ok &&e==t')&&(decide (0<=l)&&decide (l<=h)&&decide (h<=(xs.length:Int)))) (k (.vw id l.toNat (h.toNat- l.toNat)))
     |_,_=>none
    |_=>none
   |_,_=>none
 |_=>none
def ayK(hX:X.Okb){k:AV->Option R}(h:Cd X t x lo hi M k=some r):
 ∃y,k y=some r∧∀{w0:World} {S:Sc} {F:bT} {ρ:bY} {w:World} {v:Value} {vl vh:Option Value},Inv X w0 S F ρ M w->aY X.K ρ F w x v->p7 X.K ρ F w lo vl->p7 X.K ρ F w hi vh->
  ∃u,(Instr.sliceAt t v vl vh none).run X.P w= .ok u w∧aY X.K ρ F w y u:=by
 unfold Cd at h;simp only [eY]at h;split at h
 ·rename_i id;split at h
  ·rename_i e bB hu;obtain⟨i,d,z,f⟩:=hX.facts bB;have dS:=f.slice hu;split at h
   ·rename_i t' xs hb;split at h
    ·rename_i l h' e1 e2;replace h:=di h;obtain⟨h1,h⟩:=h;simp only [bS,iY,ic]at h1;obtain⟨⟨he,rfl⟩,⟨b1,b2⟩,b3⟩:=h1;obtain⟨i2,d2,z2,f2⟩:=hX.facts he;have ei:(X.K e).length =(X.ti e).size :=zU;refine⟨_,h,λ{w0 S F ρ w v vl vh} hI hv r1 r2=> ?_⟩;cases hv with
     |aA _ hd bA=>
      obtain⟨q1,q2,q3⟩:=hI.rep id _ hd hb bA;rcases q3 with⟨q3,q4⟩|⟨g,o,c,cur,q3,_,q4,_⟩
      ·subst q4;simp only [sb]at b3 e2;obtain⟨mm,m1,m2,dB⟩:=H9 (P:=X.P) (K:=X.K) (ρ:=ρ) (F:=F) (w:=w) (mx:=none) (vm:=none) (size:=(X.ti e).size) dS f2.sizeOf (a:=none) (len:=0) (cap:=0) r1 r2 trivial e1 e2 rfl (by simp) b1 b2 b3 (sa _) (gz _);rw [q3];refine⟨_,dB,?_⟩;have l0:l.toNat=0:=by omega
       have h0:h'.toNat=0:=by omega
       have m0:mm=0:=by omega
       rw [l0,h0,m0];exact .sK id 0
      ·obtain⟨mm,m1,m2,dB⟩:=H9 (P:=X.P) (K:=X.K) (ρ:=ρ) (F:=F) (w:=w) (mx:=none) (vm:=none) (size:=(X.ti e).size) dS f2.sizeOf (a:=some ⟨g,o,none⟩) (len:=xs.length) (cap:=c) r1 r2 trivial e1 e2 rfl (by simp) b1 b2 b3 (sa _) q4;rw [q3];refine⟨_,dB,?_⟩
       by_cases hm:mm=l.toNat
       ·rw [if_pos hm,show h'.toNat- l.toNat=0 by omega];exact .sJ id _ _ _
       ·rw [if_neg hm,kz,oS,<-ei,<-q1];exact .vw id l.toNat _ hd g o xs.length c _ bA q3 (by omega) (by omega)
    ·exact bh
   ·exact bh
  ·exact bh
 ·cases h
end
end Go.az
namespace Go.az
def ann{p:Prop}(h:p:=by
 intro k u G0;have qi:=(eU.1 G0).1;rw [s6]at qi;have hi:k/(X.K e).length <vss.length:=Nat.div_lt_of_lt_mul (by rw [afH];exact qi);have hj:k %(X.K e).length <(X.K e).length :=Nat.mod_lt _ n8;have lU:k=k/(X.K e).length *(X.K e).length +k %(X.K e).length :=by rw [afH];exact(Nat.div_add_mod k _).symm
 have ko:vss[k/(X.K e).length]?=some (vss[k/(X.K e).length]'hi):=dz hi;have KR:ys[k/(X.K e).length]?=some (ys[k/(X.K e).length]'(by omega)):=dz (by omega);have hg:=OM vss hlen _ (k %(X.K e).length) _ ko hj;rw [<-lU]at hg;rw [G0]at hg;have qN:=iG (hk _ _ KR);exact⟨_,_,_,_,_,lU,KR,ko,dz (by rw [qN];exact hj),hg.symm⟩):p:=h
def akS{p:Prop}(h:p:=by
 have ko:vss[i]?=some (vss[i]'(by omega)):=dz (by omega);have hj:=(eU.1 hy).1;have qN:=iG (hk i row hi);obtain⟨⟨r1,r2⟩,_⟩:=fo i row _ hi ko;have hu:(vss[i]'(by omega))[j]?=some ((vss[i]'(by omega))[j]'(by omega)):=dz (by omega);exact⟨_,by rw [OM vss hlen i j _ ko (by omega)];exact hu,r2 j y _ hy hu⟩):p:=h
def akv{p:Prop}(h:p:=by
 intro i vs hi;have qP:=(eU.1 hi).1;obtain⟨⟨r1,_⟩,_⟩:=fo i (ys[i]'(by omega)) vs (dz (by omega)) hi;rw [r1,iG (hk i _ (dz (by omega)))]):p:=h
def akl{p:Prop}(h:p:=by
 simp only [sb,IF,mb]at mU dB;refine⟨_,_,_,F,dB,mU.1,mU.2,?_⟩;exact zz (M:=M) (hd:=⟨_,(X.K e).length⟩) hI.len):p:=h
def ajJ{p:Prop}(h:p:=by
 cases o with
 |none=>exact .inr ⟨rfl,by simpa using Sa⟩
 |some e'=>left;simp only [ic]at Sa;rw [Sa]):p:=h
def YD{p:Prop}(h:p:=by cases a<;>simp [Builtin.firstCells,loadCells,loadCellsFrom]):p:=h
def PQ{p:Prop}(h:p:=by simp [Hd.eC,Value.eC]at hg):p:=h
def ajd{p:Prop}(h:p:=by
 have:xs.length*(X.K e).length <=i*(X.K e).length :=rX _ (by omega);omega):p:=h
def PK{p:Prop}(h:p:=by simp [Builtin.firstCells]):p:=h
def PD{p:Prop}(h:p:=by exact⟨u,vI,kg.grow kK⟩):p:=h
def Yr{p:Prop}(h:p:=by simp [Hd.eC,Value.eC,q3]):p:=h
def aiu{p:Prop}(h:p:=by exact zz (M:=M) (hd:=⟨.slice none 0 0,(X.K e).length⟩) hI.len):p:=h
end Go.az
namespace Go.az
def IK:=@Array.getElem?_append_left
def mb:=@List.nil_append
def BL:=@List.eq_nil_of_length_eq_zero
def E2:=@List.getElem?_cons_zero
def afH:=@Nat.mul_comm
end Go.az
namespace Go.az
open Go
noncomputable section
variable {X:Cx} {R:Type}
variable {w0 w w':World} {S:Sc} {F:bT} {ρ:bY} {M:aW}
variable{x:AV}{c m n:Nat}{P:Program}{e t ty u:TypeId}{i:TypeInfo}{v:Value}{ys:aZ}{news:fA}
def OM{α:Type}{sz:Nat}:∀(vss:List (List α)),(∀(i:Nat) vs,vss[i]?=some vs->vs.length=sz)->∀(i j:Nat) vs,vss[i]?=some vs->j<sz->vss.flatten[i*sz+j]?=vs[j]?
 | [],_,i,j,vs,h,_=>gM
 |v::vss,hl,0,j,vs,h,hj=>by
  simp at h;subst h;have:=hl 0 v rfl;rw [BI,ju (by omega)];simp
 |v::vss,hl,i+1,j,vs,h,hj=>by
  have h0:=hl 0 v rfl;rw [BI,kv (by rw [h0,pQ];omega),h0];rw [show(i+1)*sz+j- sz=i*sz+j by rw [pQ];omega];exact OM vss (λi vs h=>hl (i+1) vs (lJ)) i j vs (lJ) hj
def NK{α:Type}{sz:Nat}:∀(vss:List (List α)),(∀(i:Nat) vs,vss[i]?=some vs->vs.length=sz)->vss.flatten.length=vss.length*sz
 | [],_=>by simp
 |v::vss,hl=>by
  rw [BI,fy,hl 0 v rfl,NK vss (λi vs h=>hl (i+1) vs (lJ)),nc,pQ];omega
def aeL(hI:Inv X w0 S F ρ M w){o:Option TypeId}(h:rowsOf M x=some (o,ys))(ho:o=some e∨(o=none∧ys=[]))(hv:aY X.K ρ F w x v)(n8:0<(X.K e).length):
 (∀(i:Nat) row,ys[i]?=some row->dk (X.K e) row=true)∧
 ∃a c,v= .slice a ys.length c∧∃news:fA,news.length=ys.length*(X.K e).length ∧(∀u∈news,u.oneCell'=true)∧
  (∀w2:World,w2.heap=w.heap->(Builtin.firstCells (X.K e).length ys.length v).run X.P w2= .ok news.toArray w2)∧
  ∀(i:Nat) row,ys[i]?=some row->∀(j:Nat) y,row[j]?=some y->∃u,news[i*(X.K e).length +j]?=some u∧aY X.K ρ F w y u:=by
 rcases ho with rfl|⟨rfl,rfl⟩
 ·obtain⟨hk,hc⟩:=ad5 hI h hv;refine⟨hk,?_⟩;rcases hc with⟨rfl,rfl⟩|⟨a,c,rfl,vss,hl,fo⟩
  ·exact⟨none,0,rfl,[],by simp,by simp,λw2 _=>PK,λi row h=>gM⟩
  ·have hlen:∀(i:Nat) vs,vss[i]?=some vs->vs.length=(X.K e).length :=akv;have s6:=NK vss hlen;have Ca:∀(k:Nat) u,vss.flatten[k]?=some u->∃i j,∃(row:Row) (vs:fA) (y:AV),k=i*(X.K e).length +j∧ys[i]?=some row∧vss[i]?=some vs∧row[j]?=some y∧vs[j]?=some u:=ann;refine⟨some a,c,rfl,vss.flatten,by rw [s6,hl],λu hu=> ?_,λw2 hw2=> ?_,λi row hi j y hy=> ?_⟩
   ·obtain⟨k,oL⟩:=zA hu;obtain⟨i,j,row,vs,y,_,h1,h2,h3,h4⟩:=Ca k u oL;exact HI ((fo i row vs h1 h2).1.2 j y u h3 h4) (WK (hk i row h1) h3) hI.one
   ·have:=run_firstCells_some (P:=X.P) w2 (X.K e).length ys.length a ys.length c vss.flatten (by rw [s6,hl]) (λk u G0=>by
     obtain⟨i,j,row,vs,y,lU,h1,h2,h3,h4⟩:=Ca k u G0;have hc:=(fo i row vs h1 h2).2 j u h4;rw [zC,<-lU]at hc;unfold World.cell? at hc⊢;rw [hw2];exact hc)
    exact this
   ·have qP:=(eU.1 hi).1;exact akS
 ·obtain⟨a,c,rfl⟩:=Wi hI h hv;refine⟨λi row h=>gM,a,c,rfl,[],by simp,by simp,λw2 _=> ?_,λi row h=>gM⟩;simp only [sb];exact YD
def Jr(s:ByteArray):aZ:=s.data.toList.map λb=>[.int .u8 b.toNat]
def Qg:vT->AV->Bool
 | .str,.str _=>true
 | .slice _,.str _=>false
 | .slice _,_=>true
 |_,_=>false
def Qh(X:Cx)(M:aW)(e:TypeId)(x:AV):Option aZ:=
 match x with
 | .str s=>(match X.K e with| [.int .u8]=>some (Jr s)|_=>none)
 |x=>match rowsOf M x with
  |some (o,ys)=>(match(match o with|some e'=>e==e'|none=>ys.isEmpty)with|true=>some ys|false=>none)
  |none=>none
def afV{t:vT}(h:Qg t x=true):t= .str ∨∃e,t= .slice e:=by
 unfold Qg at h;split at h
 ·exact .inl rfl
 ·exact bh
 ·exact .inr ⟨_,rfl⟩
 ·exact bh
def agT{d:TypeDesc}(h:mq d= .str ∨∃e,mq d= .slice e):d= .string ∨∃e,d= .slice e:=by
 cases d<;>first
  |exact .inl rfl
  |exact .inr ⟨_,rfl⟩
  |(rcases h with h|⟨e,h⟩<;>cases h)
structure aNK(X:Cx)(ρ:bY)(F:bT)(w:World)(e u:TypeId)(ys:aZ)(v:Value):Prop where
 len:Builtin.lenOf v=pure ys.length
 ty:∃d,X.P.underlying u=some d∧(d= .string ∨∃e,d= .slice e)
 ks:∀(i:Nat) row,ys[i]?=some row->dk (X.K e) row=true
 news:∃news:fA,news.length=ys.length*(X.K e).length ∧(∀u∈news,u.oneCell'=true)∧
  (∀w2:World,w2.heap=w.heap->(Builtin.firstCells (X.K e).length ys.length v).run X.P w2= .ok news.toArray w2)∧
  ∀(i:Nat) row,ys[i]?=some row->∀(j:Nat) y,row[j]?=some y->∃u,news[i*(X.K e).length +j]?=some u∧aY X.K ρ F w y u
def afU(hX:X.Okb)(hI:Inv X w0 S F ρ M w)(hu:(X.ti u).ok =true)(hs:Qg (X.ti u).u x=true)(h:Qh X M e x=some ys)(hv:aY X.K ρ F w x v)(n8:0<(X.K e).length):aNK X ρ F w e u ys v:=by
 obtain⟨i1,d1,z1,f1⟩:=hX.facts hu;have KW:=f1.jB;have Dt:=f1.u
 by_cases anC:∃s,x= .str s
 ·obtain⟨s,rfl⟩:=anC;cases hv;simp only [Qh]at h;split at h
  ·rename_i hK;injection h with h;subst h;have hl:(Jr s).length =s.size:=by rw [Jr,eE,nU];rfl
   have hg:∀(i:Nat) row,(Jr s)[i]?=some row->∃b,s.data.toList[i]?=some b∧row=[.int .u8 b.toNat]:=by
    intro i row hi;unfold Jr at hi;rw [iH]at hi;cases hb:s.data.toList[i]? with
    |none=>rw [hb]at hi;cases hi
    |some b=>rw [hb]at hi;injection hi with hi;exact⟨b,rfl,hi.symm⟩
   refine⟨by rw [hl];rfl,⟨d1,KW,?_⟩,λi row hi=> ?_,s.data.toList.map λb=> .int .u8 b.toNat,by rw [hl,hK,eE,nU];exact(Nat.mul_one _).symm,λu hu=> ?_,λw2 _=> ?_,λi row hi j y hy=> ?_⟩
   ·exact agT (Dt▸afV hs)
   ·obtain⟨b,_,rfl⟩:=hg i row hi;rw [hK];rfl
   ·obtain⟨b,_,rfl⟩:=zD.1 hu;rfl
   ·rw [hl];show(pure ((s.extract 0 s.size).data.map λb=>Value.int .u8 b.toNat):Sem (Array Value)).run X.P w2=_;rw [ByteArray.extract_zero_size,ie]
    congr 1
    apply tK;simp
   ·obtain⟨b,hb,rfl⟩:=hg i row hi;cases j with
    |zero=>
     simp only [E2,Option.some.injEq]at hy;subst hy;exact⟨.int .u8 b.toNat,by rw [hK];simp [hb],.int _ _⟩
    |succ j=>simp at hy
  ·exact bh
 ·have hx:Qh X M e x=(match rowsOf M x with|some (o,ys)=>(match(match o with|some e'=>e==e'|none=>ys.isEmpty)with|true=>some ys|false=>none)|none=>none):=by
   cases x<;>first
    |rfl
    |exact absurd ⟨_,rfl⟩ anC
  rw [hx]at h;split at h
  ·rename_i o ys' gW;split at h
   ·rename_i Sa;injection h with h;subst h;have ho:o=some e∨(o=none∧ys'=[]):=ajJ;obtain⟨hk,a,c,rfl,news,h1,h2,h3,h4⟩:=aeL hI gW ho hv n8;refine⟨rfl,⟨d1,KW,?_⟩,hk,news,h1,h2,h3,h4⟩;exact agT (Dt▸afV hs)
   ·exact bh
  ·exact bh
def Xp(X:Cx)(ts:pT)(s x:AV)(M:aW)(k:AV->aW->Option R):Option R:=
 match ts with
 | [t,u]=>
   match(X.ti t).ok,(X.ti t).u,(X.ti u).ok,Qg (X.ti u).u x with
   |true,.slice e,true,true=>
    match Qh X M e x with
    |some ys=>
     aP ((X.ti e).ok &&decide (0<(X.ti e).size)&&decide (0<(X.ti e).bytes))
      (match s with
       | .gE =>aP (decide (ys.length*(X.ti e).bytes <=140737488355328)) (k (.aA M.length) (M++[.row e ys]))
       | .aA id=>
         match gm M id with
         |some (.row e' xs)=>aP (e==e'&&decide ((xs.length+ys.length)*(X.ti e).bytes <=140737488355328)) (k (.aA M.length) (M.set id .dead ++[.row e (xs++ys)]))
         |_=>none
       |_=>none)
    |none=>none
   |_,_,_,_=>none
 |_=>none
def axG(ht:P.underlying t=some (.slice e))(hu:∃d,P.underlying u=some d∧(d= .string ∨∃e,d= .slice e))(hi:P.info? e=some i)
 {g o:Nat} {cur:Array Value} (hg:w.heap[g]?=some (.cells cur e (0,0)))   (hlen:Builtin.lenOf v=pure m)  (hl:news.length=m*i.size)
 (hf:(Builtin.firstCells i.size m v).run P w= .ok news.toArray w) (h1:∀u∈news,u.oneCell'=true) (FP:n+m<=c) (p0:o+n*i.size+news.length<=cur.size):
 (Builtin.append_ #[t,u] ty #[.slice (some ⟨g,o,none⟩) n c,v]).run P w=
   .ok (.slice (some ⟨g,o,none⟩) (n+m) c) (w.setRow g (cur.toList.take (o+n*i.size)++news++cur.toList.drop (o+n*i.size+news.length)).toArray):=by
 have eJ:=Ou P g (o+n*i.size) e news 0 cur w hg (by simpa using p0) h1;simp only [xF]at eJ;obtain⟨d,hd,rfl|⟨e2,rfl⟩⟩:=hu<;>simp [Builtin.append_,iT ht,iT hd,sizeOf,typeInfo,hi,hlen,FP,hf,oS,eJ]
def ab9(ht:P.underlying t=some (.slice e))(hu:∃d,P.underlying u=some d∧(d= .string ∨∃e,d= .slice e))(hi:P.info? e=some i)(hlen:Builtin.lenOf v=pure 0)
 (hf:(Builtin.firstCells i.size 0 v).run P w= .ok #[] w):
 (Builtin.append_ #[t,u] ty #[.slice none 0 0,v]).run P w= .ok (.slice none 0 0) w:=by
 obtain⟨d,hd,rfl|⟨e2,rfl⟩⟩:=hu<;>simp [Builtin.append_,iT ht,iT hd,sizeOf,typeInfo,hi,hlen,hf]
def Vb{z:Value}(ht:P.underlying t=some (.slice e))(hu:∃d,P.underlying u=some d∧(d= .string ∨∃e,d= .slice e))(hi:P.info? e=some i)(hz:i.zero=some z)
 {b:Option Addr}  {olds:fA} (nO:(Builtin.firstCells i.size n (.slice b n c)).run P w.drew= .ok olds.toArray w.drew)
   (hlen:Builtin.lenOf v=pure m)  (hf:(Builtin.firstCells i.size m v).run P w.drew= .ok news.toArray w.drew) (hn:¬n+m<=c) (h63:n+m<=maxLen)
 (p0:Builtin.nextslicecap (n+m) c*i.bytes<=281474976710656):
 (Builtin.append_ #[t,u] ty #[.slice b n c,v]).run P w=
   .ok (.slice (some ⟨w.heap.size,0,none⟩) (n+m) (grownCap w (n+m) c e))
    (w.drew.alloc (.cells (olds.toArray++news.toArray++Builtin.zeroCells z.cells (grownCap w (n+m) c e-(n+m))) e)):=by
 have aaA:¬(9223372036854775807<((n:Int)+(m:Int))):=by simp only [maxLen]at h63;omega
 have aNe:¬(281474976710656<Builtin.nextslicecap (n+m) c*i.bytes):=by omega
 obtain⟨d,hd,rfl|⟨e2,rfl⟩⟩:=hu<;>(
  simp [Builtin.append_,iT ht,iT hd,sizeOf,typeInfo,zeroValue,hi,hz,hlen,hn,aaA,aNe,Question.forced,hf,nO,newRow,grownCap]
  congr 2
  apply tK;simp [iJ])
def aw9(hX:X.Okb){ts:pT}{s:AV}{k:AV->aW->Option R}{r:R}(h:Xp X ts s x M k=some r):
 ∃y M',k y M'=some r∧dR (oz s) M M'∧∀{vs vx:Value},Ar X M y M' (λρ F w=>aY X.K ρ F w s vs∧aY X.K ρ F w x vx) (Builtin.append_ ts.toArray ty #[vs,vx]):=by
 unfold Xp at h;simp only [eY]at h;split at h
 ·rename_i t u;split at h
  ·rename_i e bB hu yv hsk;split at h
   ·rename_i ys gW;replace h:=di h;obtain⟨h1,h⟩:=h;simp only [bS,iY]at h1;obtain⟨⟨he,n8⟩,Sl⟩:=h1;obtain⟨i,d,z,f⟩:=hX.facts bB;obtain⟨i2,d2,z2,f2⟩:=hX.facts he;have ht:=f.slice hu;have mL:(X.K e).length =i2.size:=f2.ks;have Zn:0<(X.K e).length :=by rw [mL,<-f2.size];exact n8
    have aNU:0<i2.bytes:=by rw [<-f2.bytes];exact Sl
    have qf:z2.cells.size=i2.size:=f2.zs;have bound:∀n:Nat,n*(X.ti e).bytes <=140737488355328->n<=maxLen:=by
     intro n hn;refine Oa (nW ?_ hn);exact On _ Sl
    have fresh:∀{w0:World} {S:Sc} {F:bT} {ρ:bY} {w:World} {M2:aW} (xs:aZ) (olds news:fA) (c:Nat),Inv X w0 S F ρ M2 w->
     (∀(i:Nat) row,(xs++ys)[i]?=some row->dk (X.K e) row=true)->olds.length=xs.length*(X.K e).length ->news.length=ys.length*(X.K e).length ->
     (∀(i:Nat) row,xs[i]?=some row->∀(j:Nat) y,row[j]?=some y->∃u,olds[i*(X.K e).length +j]?=some u∧aY X.K ρ F w y u)->
     (∀(i:Nat) row,ys[i]?=some row->∀(j:Nat) y,row[j]?=some y->∃u,news[i*(X.K e).length +j]?=some u∧aY X.K ρ F w y u)->xs.length+ys.length<=maxLen->
     Inv X w0 S F (ρ++[⟨.slice (some ⟨w.heap.size,0,none⟩) (xs.length+ys.length) (grownCap w (xs.length+ys.length) c e),(X.K e).length⟩]) (M2++[.row e (xs++ys)])
      (w.drew.alloc (.cells (olds.toArray++news.toArray++Builtin.zeroCells z2.cells (grownCap w (xs.length+ys.length) c e-(xs.length+ys.length))) e))∧
     Grow F F ρ (ρ++[⟨.slice (some ⟨w.heap.size,0,none⟩) (xs.length+ys.length) (grownCap w (xs.length+ys.length) c e),(X.K e).length⟩]) w
      (w.drew.alloc (.cells (olds.toArray++news.toArray++Builtin.zeroCells z2.cells (grownCap w (xs.length+ys.length) c e-(xs.length+ys.length))) e)):=by
     intro w0 S F ρ w M2 xs olds news c hI hk La nN kp vL jT;have lj:=grownCap_ge w (xs.length+ys.length) c e;have:=hI.newRow (t:=e) (xs:=xs++ys) (cur:=olds.toArray++news.toArray++Builtin.zeroCells z2.cells (grownCap w (xs.length+ys.length) c e-(xs.length+ys.length))) (c:=grownCap w (xs.length+ys.length) c e)
      hk (by rw [fy];exact lj) (grownCap_le_maxLen w _ c e jT)
      (by
        simp only [Array.size_append,IJ,size_zeroCells,La,nN,qf,<-mL,<-pQ];rw [show xs.length+ys.length+(grownCap w (xs.length+ys.length) c e-(xs.length+ys.length))=grownCap w (xs.length+ys.length) c e by omega];exact gz _)
      (λi row hi j y hy=>by
        have hj:=(eU.1 hy).1;have qN:=iG (hk i row hi)
        by_cases vN:i<xs.length
        ·rw [ju vN]at hi;obtain⟨u,h1,h2⟩:=kp i row hi j y hy;have cF:=(eU.1 h1).1;refine⟨u,?_,h2⟩;rw [Array.append_assoc,IK (by simpa using cF)];exact sl
        ·rw [kv (by omega)]at hi;obtain⟨u,h1,h2⟩:=vL (i- xs.length) row hi j y hy;have cF:=(eU.1 h1).1;refine⟨u,?_,h2⟩;have e0:i*(X.K e).length +j- olds.length=(i- xs.length)*(X.K e).length +j:=by
          rw [La,Nat.sub_mul];exact ajd
         have DA:olds.length<=i*(X.K e).length +j:=by
          rw [La];exact ajd
         rw [Array.append_assoc,Array.getElem?_append_right (by simpa using DA)];simp only [IJ];rw [e0,IK (by simpa using cF)];simpa using h1)
      (w':=w.drew) ⟨rfl,rfl,rfl,gz _,λ_ _ _=>rfl⟩ rfl
     rw [fy]at this;exact this
    split at h
    ·replace h:=di h;obtain⟨hb,h⟩:=h;simp only [iY]at hb;refine⟨_,_,h,dR.push _ _ _,λ{vs vx w0 S F ρ w} hI hh=> ?_⟩;obtain⟨hs,hx⟩:=hh;cases hs;obtain⟨hlen,nq,hk,news,oK,oa,DC,vL⟩:=afU hX hI yv hsk gW hx Zn
     by_cases hm:ys.length=0
     ·have hys:ys=[]:=BL hm;subst hys;have y9:news=[]:=BL (by simpa using oK);subst y9;have nP:=DC w rfl;rw [mL]at nP;have dB:=ab9 (w:=w) (ty:=ty) ht nq f2.info hlen nP;refine⟨_,w,ρ++[⟨.slice none 0 0,(X.K e).length⟩],F,dB,hI.Cg (λg hg=>PQ) rfl ⟨rfl,λi row h=>gM,.inl ⟨rfl,rfl⟩⟩,⟨λ_ h=>h,λ_ _ h=>ny h,λ_ _=>rfl⟩,?_⟩;exact aiu
     ·have jT:=bound _ hb;have nP:=DC w.drew rfl;rw [mL]at nP;have dB:=Vb (w:=w) (ty:=ty) ht nq f2.info f2.zero (b:=none) (n:=0) (c:=0) (olds:=[]) (PK) hlen nP (by omega) (by omega) (by rw [IF,nextslicecap_zero (by omega),<-f2.bytes];omega);have mU:=fresh [] [] news 0 hI (I9) (by simp) oK (λi row h=>gM) vL (by simpa using jT);exact akl
    ·rename_i id;split at h
     ·rename_i e' xs hb;replace h:=di h;obtain⟨h2,h⟩:=h;simp only [bS,ic,iY]at h2;obtain⟨rfl,qR⟩:=h2;refine⟨_,_,h,((dR.set _ _ _).trans (dR.push [] _ _)).mono (by simp [oz]),λ{vs vx w0 S F ρ w} hI hh=> ?_⟩;obtain⟨hs,hx⟩:=hh;cases hs with
      |aA _ hd bA=>
       obtain⟨hlen,nq,hk,news,oK,oa,DC,vL⟩:=afU hX hI yv hsk gW hx Zn;obtain⟨q1,q2,q3⟩:=hI.rep id _ hd hb bA;have lU:∀(i:Nat) row,(xs++ys)[i]?=some row->dk (X.K e) row=true:=by
        intro i row hi
        by_cases vN:i<xs.length
        ·rw [ju vN]at hi;exact q2 i row hi
        ·rw [kv (by omega)]at hi;exact hk _ row hi
       have jT:=bound _ qR;have dead:∀{w:World},Inv X w0 S F ρ M w->Inv X w0 S F ρ (M.set id .dead) w:=by
        intro w hI;cases dQ:hd.eC with
        |none=>exact hI.aj8 hb bA dQ trivial
        |some g=>exact hI.write hb rfl bA dQ ⟨rfl,rfl,rfl,gz _,λ_ _ _=>rfl⟩ trivial
       rcases q3 with⟨q3,q4⟩|⟨g,o',c,cur,q3,hg,q4,q5,q6,q7⟩
       ·subst q4;rw [q3]
        by_cases hm:ys.length=0
        ·have hys:ys=[]:=BL hm;subst hys;have y9:news=[]:=BL (by simpa using oK);subst y9;have nP:=DC w rfl;rw [mL]at nP;have dB:=ab9 (w:=w) (ty:=ty) ht nq f2.info hlen nP;refine⟨_,w,ρ++[⟨.slice none 0 0,(X.K e).length⟩],F,dB,(dead hI).Cg (λg hg=>PQ) rfl ⟨rfl,λi row h=>gM,.inl ⟨rfl,rfl⟩⟩,⟨λ_ h=>h,λ_ _ h=>ny h,λ_ _=>rfl⟩,?_⟩;exact aiu
        ·have nP:=DC w.drew rfl;rw [mL]at nP;have dB:=Vb (w:=w) (ty:=ty) ht nq f2.info f2.zero (b:=none) (n:=0) (c:=0) (olds:=[]) (PK) hlen nP (by omega) (by simpa using jT) (by rw [IF,nextslicecap_zero (by omega),<-f2.bytes];simp at qR;omega);have mU:=fresh [] [] news 0 (dead hI) (I9) (by simp) oK (λi row h=>gM) vL (by simpa using jT);exact akl
       ·rw [q3]
        by_cases FP:xs.length+ys.length<=c
        ·have p0:o'+xs.length*i2.size+news.length<=cur.size:=by
          rw [oK,mL];rw [q1,mL]at q6;have:=rX i2.size FP;rw [pQ]at this;omega
         have nP:=DC w rfl;rw [mL]at nP;have dB:=axG (w:=w) (ty:=ty) ht nq f2.info hg hlen (by rw [oK,mL]) nP oa FP p0;have jm:=MJ w g (cur.toList.take (o'+xs.length*i2.size)++news++cur.toList.drop (o'+xs.length*i2.size+news.length)).toArray;have dQ:hd.eC=some g:=Yr;have Lj:∀a,F a->a.block≠g:=(hI.sep id _ hd g hb rfl bA dQ).2.2;have kK:Grow F F ρ (ρ++[⟨.slice (some ⟨g,o',none⟩) (xs.length+ys.length) c,(X.K e).length⟩]) w (w.setRow g (cur.toList.take (o'+xs.length*i2.size)++news++cur.toList.drop (o'+xs.length*i2.size+news.length)).toArray):=
          ⟨λ_ h=>h,λ_ _ h=>ny h,hI.wV jm (λk hk a ha=>JB)⟩
         refine⟨_,_,ρ++[⟨.slice (some ⟨g,o',none⟩) (xs.length+ys.length) c,(X.K e).length⟩],F,dB,hI.move hb rfl bA (row:=some g) jm (.inr dQ.symm) (λg' jo=> ?_) rfl ?_,kK,zz (M:=M) (hd:=⟨_,(X.K e).length⟩) hI.len⟩
         ·simp [Hd.eC,Value.eC]at jo;subst jo;exact⟨by rw [size_setRow];exact(hI.sep id _ hd g hb rfl bA dQ).1,.inl dQ⟩
         ·refine⟨rfl,lU,.inr ⟨g,o',c,_,by rw [fy],Ot w g cur _ e _ hg,by rw [fy];exact FP,q5,?_,λi row hi j y hy=> ?_⟩⟩
          ·rw [q1]at q6;exact aiP
          ·have hj:=(eU.1 hy).1;have qN:=iG (lU i row hi);rw [NU cur news _ p0];simp only [mL]at*
           by_cases vN:i<xs.length
           ·rw [ju vN]at hi;obtain⟨u,vI,kg⟩:=q7 i row hi j y hy;rw [q1]at vI;have:(i+1)*i2.size<=xs.length*i2.size:=rX _ (by omega);rw [pQ,Xc]at this;rw [if_neg (by omega)];exact PD
           ·rw [kv (by omega)]at hi;obtain⟨u,vI,kg⟩:=vL (i- xs.length) row hi j y hy;have cF:=(eU.1 vI).1;have e0:(i- xs.length)*i2.size=i*i2.size- xs.length*i2.size:=Nat.sub_mul _ _ _;have DA:xs.length*i2.size<=i*i2.size:=rX _ (by omega);rw [if_pos (by omega)];rw [show o'+i*i2.size+j-(o'+xs.length*i2.size)=(i- xs.length)*i2.size+j by omega];exact PD
        ·have kp:∃olds:fA,olds.length=xs.length*(X.K e).length ∧(∀w2:World,w2.heap=w.heap->(Builtin.firstCells (X.K e).length xs.length hd.v).run X.P w2= .ok olds.toArray w2)∧
          ∀(i:Nat) row,xs[i]?=some row->∀(j:Nat) y,row[j]?=some y->∃u,olds[i*(X.K e).length +j]?=some u∧aY X.K ρ F w y u:=by
          obtain⟨_,a',c',fN,olds,h1,_,h3,h4⟩:=aeL (e:=e) hI (x:= .aA id) (o:=some e) (ys:=xs) (by simp [eY,rowsOf,hb]) (.inl rfl) (.aA _ hd bA) Zn;exact⟨olds,h1,h3,h4⟩
         obtain⟨olds,La,nO,kp⟩:=kp;have nP:=DC w.drew rfl;have hf1:=nO w.drew rfl;rw [q3]at hf1;rw [mL]at nP hf1;have dB:=Vb (w:=w) (ty:=ty) ht nq f2.info f2.zero hf1 hlen nP FP (by omega) (growslice_fits (by omega) (by rw [<-f2.bytes];exact qR));have mU:=fresh xs olds news c (dead hI) lU La oK kp vL jT;refine⟨_,_,_,F,dB,mU.1,mU.2,?_⟩;have:=zz (X:=X) (M:=M) (F:=F) (w:=w.drew.alloc (.cells (olds.toArray++news.toArray++Builtin.zeroCells z2.cells (grownCap w (xs.length+ys.length) c e-(xs.length+ys.length))) e))
          (hd:=⟨.slice (some ⟨w.heap.size,0,none⟩) (xs.length+ys.length) (grownCap w (xs.length+ys.length) c e),(X.K e).length⟩) hI.len
         exact this
     ·exact bh
    ·exact bh
   ·exact bh
  ·exact bh
 ·cases h
end
end Go.az
namespace Go.az
def xQ{p:Prop}(h:p:=by simpa using he):p:=h
def Jc{p:Prop}(h:p:=by simpa using ei):p:=h
def Po{p:Prop}(h:p:=by simpa using hm):p:=h
end Go.az
namespace Go.az
def re:=@Go.World.putObj_heap_other
def gD:=@List.drop_zero
def BS:=@List.take_of_length_le
def OQ:=@Array.getElem?_modify
def v7:=@Array.getElem?_eq_some_iff
def zu:=@List.getElem?_set
def W4:=@Go.World.putObj_heap_same
def Ol:=@Go.MapKept.run_getObj_map
def afF:=@Go.MapKept.run_setObj_map
end Go.az
namespace Go.az
open Go Go.MapKept
noncomputable section
variable {X:Cx} {R:Type}
variable {w0 w w':World} {S:Sc} {F:bT} {ρ:bY} {M:aW}
variable{i x:AV}{k:AV->Option R}{ok:Bool}{kd:Kind}{r:R}{t:TypeId}
def sS:AV->AV->Bool
 | .int _ a,.int _ b=>a==b
 | .bool a,.bool b=>a==b
 | .str a,.str b=>a==b
 |_,_=>false
def dM:List (AV×AV)->AV->Option AV
 | [],_=>none
 |e::es,x=>match sS x e.1 with|true=>some e.2|false=>dM es x
def iK:List (AV×AV)->AV->AV->List (AV×AV)
 | [],x,y=>[(x,y)]
 |e::es,x,y=>match sS x e.1 with|true=>(x,y)::es|false=>e::iK es x y
def Ai:vT->Option Kind
 | .int k=>some (.int k)
 | .bool =>some .bool
 | .str =>some .str
 |_=>none
def mH.map{t k e:TypeId}{i:TypeInfo}{d:TypeDesc}{z:Value}(f:mH X t i d z)(h:(X.ti t).u = .map k e):X.P.underlying t=some (.map k e):=by
 have h1:=f.jB;have h2:=f.u;rw [h]at h2;cases d<;>simp_all [mq]
structure aoj(X:Cx)(kt:TypeId)(kd:Kind)(d:TypeDesc):Prop where
 jB:X.P.underlying kt=some d
 ne:kd≠ .any
 key:∀{ρ:bY} {F:bT} {w:World} {x:AV} {v:Value},iA kd x=true->aY X.K ρ F w x v->IsKey d v
 same:∀{ρ:bY} {F:bT} {w:World} {x y:AV} {v u:Value},iA kd x=true->iA kd y=true->aY X.K ρ F w x v->aY X.K ρ F w y u->Instr.sameNow d v u=some (sS x y)∧(sS x y=true->u=v)
def anv(hX:X.Okb){kt:TypeId}(bB:(X.ti kt).ok =true)(h:Ai (X.ti kt).u =some kd):∃d,aoj X kt kd d:=by
 obtain⟨i,d,z,f⟩:=hX.facts bB;refine⟨d,f.jB,?_,?_,?_⟩
 all_goals rw [f.u]at h
 ·rintro rfl;cases d<;>simp [mq,Ai]at h
 ·intro ρ F w x v hx hr;cases d<;>simp [mq,Ai]at h<;>subst h<;>cases x<;>simp [iA]at hx<;>cases hr<;>simp [IsKey,hx]
 ·intro ρ F w x y v u hx hy hr hs;cases d<;>simp [mq,Ai]at h<;>subst h<;>cases x<;>simp [iA]at hx<;>cases y<;>simp [iA]at hy<;>cases hr<;>cases hs<;>simp_all [Instr.sameNow,sS]
  all_goals (intro hb;exact((bytes_beq _ _).1 hb).symm)
def Gx(X:Cx)(ρ:bY)(F:bT)(w:World)(kd:Kind)(ag:Bool)(ks:dZ)(es:List (AV×AV))(mes:List MapEntry):Prop:=
 mes.length=es.length∧∀(i:Nat) e me,es[i]?=some e->mes[i]?=some me->(iA kd e.1=true∧dk ks e.2.cells=true∧e.2.shape ag=true)∧aY X.K ρ F w e.1 me.key∧aY X.K ρ F w e.2 me.val
def Gx.tail{ag:Bool}{ks:dZ}{e:AV×AV}{es:List (AV×AV)}{me:MapEntry}{mes:List MapEntry}(h:Gx X ρ F w kd ag ks (e::es) (me::mes)):Gx X ρ F w kd ag ks es mes:=
 ⟨by simpa using h.1,λi e' KG he hm=>h.2 (i+1) e' KG (xQ) (Po)⟩
def find_spec{kt:TypeId}{kd:Kind}{d:TypeDesc}(hk:aoj X kt kd d){ag:Bool}{ks:dZ}{x:AV}{v:Value}(hx:iA kd x=true)(hr:aY X.K ρ F w x v):∀(es:List (AV×AV)) (mes:List MapEntry) (n:Nat),Gx X ρ F w kd ag ks es mes->
 (dM es x=none∧Instr.findNow d v mes n=some none∧(∀y,iK es x y=es++[(x,y)]))∨
 ∃i e me,es[i]?=some e∧mes[i]?=some me∧dM es x=some e.2∧Instr.findNow d v mes n=some (some (n+i,me.val))∧me.key=v∧∀y,iK es x y=es.set i (x,y)
 | [],[],n,_=> .inl ⟨rfl,rfl,λ_=>rfl⟩
 | [],_::_,n,h=>by have:=h.1;simp at this
 |_::_,[],n,h=>by have:=h.1;simp at this
 |e::es,me::mes,n,h=>by
  obtain⟨⟨a1,a2,a3⟩,r1,r2⟩:=h.2 0 e me rfl rfl;obtain⟨s1,s2⟩:=hk.same hx a1 hr r1;cases hq:sS x e.1 with
  |true=>
   refine .inr ⟨0,e,me,rfl,rfl,by simp [dM,hq],?_,s2 hq,λy=>by simp [iK,hq]⟩;rw [hq]at s1;simp [Instr.findNow,s1]
  |false=>
   rw [hq]at s1;rcases find_spec hk hx hr es mes (n+1) h.tail with⟨h1,h2,h3⟩|⟨i,e',KG,h1,h2,h3,h4,h5,h6⟩
   ·exact .inl ⟨by simp [dM,hq,h1],by simp [Instr.findNow,s1,h2],λy=>by simp [iK,hq,h3]⟩
   ·exact .inr ⟨i+1,e',KG,sl,pU,by simp [dM,hq,h3],by simp [Instr.findNow,s1,h4];omega,h5,λy=>by simp [iK,hq,h6]⟩
def WS(X:Cx)(t:TypeId)(M:aW)(k:AV->aW->Option R):Option R:=
 match(X.ti t).ok,(X.ti t).u with
 |true,.map kt et=>match Ai (X.ti kt).u with|some kd=>k (.mp M.length) (M++[.map kd (X.ti et).u.agg (oI X et) []])|none=>none
 |_,_=>none
def av3(hX:X.Okb){k:AV->aW->Option R}(h:WS X t M k=some r):
 ∃y M',k y M'=some r∧dR [] M M'∧Ar X M y M' (λ_ _ _=>True) (Instr.makeMap t none):=by
 unfold WS at h;split at h
 case h_2=>cases h
 rename_i kt et _ _;split at h
 case h_2=>cases h
 rename_i kd nu;have eD:kd≠ .any :=by rintro rfl;cases hu:(X.ti kt).u <;>simp [hu,Ai]at nu
 refine⟨_,_,h,dR.push _ _ _,λ{w0 S F ρ w} hI _=> ?_⟩;have jm:w.grownBy (w.alloc (.map #[] 0)) none:=E1 w _ none;have cF:w.heap.size<(w.alloc (.map #[] 0)).heap.size :=by simp
 refine⟨.map (some w.heap.size),w.alloc (.map #[] 0),ρ++[⟨.map (some w.heap.size),0⟩],F,rfl,?_,⟨λ_ h=>h,λ_ _ h=>ny h,λa ha=>jm.block _ (hI.fz a ha) (by simp)⟩,?_⟩
 ·refine hI.push (hd:=⟨.map (some w.heap.size),0⟩) jm (λg hg=> ?_) rfl ⟨eD,w.heap.size,#[],0,rfl,(MapKept.heap_alloc w _).1,rfl,λi e me he _=>by simp at he⟩;simp only [Hd.eC,Value.eC,Option.some.injEq]at hg;subst hg;exact⟨gz _,cF⟩
 ·exact aY.mp (K:=X.K) _ ⟨.map (some w.heap.size),0⟩ (FA)
def Gm(X:Cx)(t:TypeId)(x:AV):AV:=
 match(X.ti t).u.agg with
 |true=> .agg (yR (oI X t) x.cells 0 (X.ti t).size)
 |false=>ld ((oI X t).headD .raw) x
def JR(X:Cx)(t:TypeId):AV:=
 match(X.ti t).u.agg with
 |true=> .agg (X.ti t).zero
 |false=>(X.ti t).zero.headD .top
def wH(X:Cx)(et:TypeId)(ok:Bool)(k:AV->Option R)(o:Option AV):Option R:=
 match o with
 |some x=>(match ok with|true=>k (.ep [Gm X et x,.bool true])|false=>k (Gm X et x))
 |none=>(match ok with|true=>k (.ep [JR X et,.bool false])|false=>k (JR X et))
def akY(X:Cx)(et:TypeId)(o:Option AV):AV:=match o with|some x=>Gm X et x|none=>JR X et
def aEM(ok:Bool)(x:AV)(b:Bool):AV:=match ok with|true=> .ep [x,.bool b]|false=>x
def Qa:List (AV×AV)->AV->(Option AV->Option R)->Option R
 | [],_,k=>k none
 |e::es,x,k=>match sS x e.1 with|true=>k (some e.2)|false=>Qa es x k
def Og:∀(es:List (AV×AV)) (x:AV) (k:Option AV->Option R),Qa es x k=k (dM es x)
 | [],_,_=>rfl
 |e::es,x,k=>by
  simp only [Qa,dM];cases sS x e.1 with
  |true=>rfl
  |false=>exact Og es x k
def aD3(ks:dZ):Bool:=ks.all λk=>match k with| .any =>false|_=>true
def xI(X:Cx)(t:TypeId)(x i:AV)(ok:Bool)(M:aW)(k:AV->Option R):Option R:=
 match(X.ti t).ok,(X.ti t).u with
 |true,.map kt et=>
  match Ai (X.ti kt).u with
  |some kd=>
   aP ((X.ti kt).ok &&(X.ti et).ok &&iA kd i)
    (match x with
     | .lG =>wH X et ok k none
     | .mp id=>
       match gm M id with
       |some (.map vG ag ks es)=>
        aP (vG==kd&&ag==(X.ti et).u.agg &&ks==oI X et) (match aD3 ks with
         |true=>(match dM es i with|some y=>wH X et ok k (some y)|none=>wH X et ok k none)
         |false=>Qa es i (wH X et ok k))
       |_=>none
     |_=>none)
  |none=>none
 |_,_=>none
def azX(hX:X.Okb)(bB:(X.ti t).ok =true):(oI X t).length =(X.ti t).size :=by
 obtain⟨i,d,z,f⟩:=hX.facts bB;simp [oI,f.ks,f.size]
def aCv(hX:X.Okb)(bB:(X.ti t).ok =true)(hk:dk (oI X t) x.cells=true)(hp:x.shape (X.ti t).u.agg =true):Gm X t x=x:=by
 have hl:=azX hX bB;unfold Gm;cases ha:(X.ti t).u.agg with
 |true=>
  rw [ha]at hp;cases x<;>simp [AV.shape]at hp
  rename_i cs;simp only [AV.cells]at hk⊢;rw [YM hk _ _ (by omega)];have:=iG hk;rw [gD,BS (by omega)]
 |false=>
  rw [ha]at hp;have hc:x.cells=[x]:=by cases x<;>simp_all [AV.shape,AV.leaf,AV.cells]
  rw [hc]at hk;cases hv:oI X t with
  |nil=>rw [hv]at hk;simp [dk]at hk
  |cons q qs=>
   rw [hv]at hk;simp only [dk,bS]at hk;exact EW hk.1
def aAZ(hX:X.Okb)(bB:(X.ti t).ok =true):∃z,(∀w,(zeroValue t).run X.P w= .ok z w)∧∀{ρ:bY} {F:bT} {w:World},aY X.K ρ F w (JR X t) z:=by
 obtain⟨i,d,z,f⟩:=hX.facts bB;refine⟨z,f.zeroValue,λ{ρ F w}=> ?_⟩;have hz:dt X.K ρ F w (X.ti t).zero z.cells.toList:=FL;have fK:=f.zag;unfold JR;cases ha:(X.ti t).u.agg with
 |true=>
  rw [ha]at fK;cases z<;>simp [RG]at fK
  rename_i cs;have:=aY.agg (K:=X.K) (ρ:=ρ) (F:=F) (w:=w) _ _ hz.1 hz.2;simpa [Value.cells]using this
 |false=>
  rw [ha]at fK;have h1:z.cells.toList=[z]:=by cases z<;>simp_all [RG,Value.cells]
  rw [h1]at hz;have hl:=hz.1;cases GR:(X.ti t).zero with
  |nil=>rw [GR]at hl;simp at hl
  |cons y ys=>exact hz.2 0 y z (by rw [GR];rfl) rfl
def ae0{et:TypeId}{o:Option AV}(h:wH X et ok k o=some r):k (aEM ok (akY X et o) o.isSome)=some r:=by
 unfold wH at h;cases o<;>cases ok<;>exact h
def aw8(hX:X.Okb)(h:xI X t x i ok M k=some r):
 ∃y,k y=some r∧∀{w0:World} {S:Sc} {F:bT} {ρ:bY} {w:World} {v vi:Value},Inv X w0 S F ρ M w->aY X.K ρ F w x v->aY X.K ρ F w i vi->
  ∃u,(Instr.lookup t v vi ok).run X.P w= .ok u w∧aY X.K ρ F w y u:=by
 unfold xI at h;simp only [eY]at h;split at h
 case h_2=>cases h
 rename_i kt et xa AS;split at h
 case h_2=>cases h
 rename_i kd nu;replace h:=di h;obtain⟨hc,h⟩:=h;simp only [bS]at hc;obtain⟨⟨aau,anO⟩,hi⟩:=hc;obtain⟨ti,td,tz,tf⟩:=hX.facts xa;have dS:=tf.map AS;obtain⟨d,oc⟩:=anv hX aau nu;obtain⟨z,hz,hzr⟩:=aAZ hX anO;have out:∀{o:Option AV} {r:R},wH X et ok k o=some r->∃y,k y=some r∧∀{ρ:bY} {F:bT} {w:World} {vo:Option Value} {mes:List MapEntry} {v vi:Value},(match o,vo with|some a,some b=>aY X.K ρ F w (Gm X et a) b|none,none=>True|_,_=>False)->
  (∀w1:World,(Instr.lookup t v vi ok).run X.P w= .ok (match ok with|true=> .tuple #[vo.getD z,.bool vo.isSome]|false=>vo.getD z) w)->∃u,(Instr.lookup t v vi ok).run X.P w= .ok u w∧aY X.K ρ F w y u:=by
  intro o r h;refine⟨_,ae0 h,λ{ρ F w vo mes v vi} hm dB=>⟨_,dB w,?_⟩⟩;have Gq:aY X.K ρ F w (akY X et o) (vo.getD z):=by
   cases o with
   |none=>cases vo with|none=>exact hzr|some b=>exact hm.elim
   |some a=>cases vo with|none=>exact hm.elim|some b=>exact hm
  have hs:o.isSome=vo.isSome:=by
   cases o with
   |none=>cases vo with|none=>rfl|some b=>exact hm.elim
   |some a=>cases vo with|none=>exact hm.elim|some b=>rfl
  cases ok with
  |false=>exact Gq
  |true=>
   refine .ep _ [_,_] rfl λj y u hy hu=> ?_
   match j with
   |0=>simp at hy hu;subst hy;subst hu;exact Gq
   |1=>simp at hy hu;subst hy;subst hu;rw [hs];exact .bool _
   |j+2=>simp at hy
 cases x<;>simp only at h<;>try (cases h;done)
 case lG=>
  obtain⟨y,h,hd⟩:=out h;refine⟨y,h,λ{w0 S F ρ w v vi} hI hv ko=> ?_⟩;cases hv;refine hd (vo:=none) (mes:=[]) trivial λ_=> ?_;have hf:Instr.findNow d vi [] 0=some none:=rfl;cases ok<;>simp [Instr.lookup,iT dS,Result.andThen,run_checkKey oc.jB (oc.key hi ko),run_findKey oc.jB hf,hz]
 case mp id=>
  split at h
  case h_2=>cases h
  rename_i vG ag ks es hb;replace h:=di h;obtain⟨hc,h⟩:=h;simp only [bS,ic]at hc;obtain⟨⟨rfl,rfl⟩,rfl⟩:=hc;have h':wH X et ok k (dM es i)=some r:=by
   split at h
   ·split at h
    ·rename_i y hy;rw [hy];exact h
    ·rename_i hy;rw [hy];exact h
   ·rw [Og]at h;exact h
  obtain⟨y,h,hd⟩:=out h';refine⟨y,h,λ{w0 S F ρ w v vi} hI hv ko=> ?_⟩;cases hv with
  |mp _ dC bA=>
  obtain⟨_,g,mes,clock,hv,hh,ei,uw⟩:=hI.rep _ _ _ hb bA;rw [hv];have Qv:Gx X ρ F w vG (X.ti et).u.agg (oI X et) es mes.toList:=⟨Jc,λj e me he hm=>uw j e me he (Po)⟩;rcases find_spec oc hi ko es mes.toList 0 Qv with⟨f1,f2,_⟩|⟨j,e,me,e1,e2,f1,f2,_,_⟩
  ·refine hd (vo:=none) (mes:=[]) (by rw [f1];trivial) λ_=> ?_;cases ok<;>simp [Instr.lookup,iT dS,Ol hh,Result.andThen,run_checkKey oc.jB (oc.key hi ko),run_findKey oc.jB f2,hz]
  ·obtain⟨⟨a1,a2,a3⟩,r1,r2⟩:=Qv.2 j e me e1 e2;refine hd (vo:=some me.val) (mes:=[]) (by rw [f1];show aY _ _ _ _ _ _;rw [aCv hX anO a2 a3];exact r2) λ_=> ?_;cases ok<;>simp [Instr.lookup,iT dS,Ol hh,Result.andThen,run_checkKey oc.jB (oc.key hi ko),run_findKey oc.jB f2]
def Cj:AV->List Nat| .mp id=>[id]|_=>[]
def NL(X:Cx)(t:TypeId)(m i x:AV)(M:aW)(k:aW->Option R):Option R:=
 match(X.ti t).ok,(X.ti t).u,m with
 |true,.map kt et,.mp id=>
  match Ai (X.ti kt).u with
  |some kd=>
   match gm M id with
   |some (.map vG ag ks es)=>
    aP ((X.ti kt).ok &&iA kd i&&vG==kd&&x.shape ag&&dk ks x.cells) (k (M.set id (.map vG ag ks (iK es i x))))
   |_=>none
  |none=>none
 |_,_,_=>none
def aco(hX:X.Okb){m:AV}{k:aW->Option R}(h:NL X t m i x M k=some r):
 ∃M',k M'=some r∧dR (Cj m) M M'∧∀{w0:World} {S:Sc} {F:bT} {ρ:bY} {w:World} {vm vi vx:Value},Inv X w0 S F ρ M w->aY X.K ρ F w m vm->aY X.K ρ F w i vi->aY X.K ρ F w x vx->
  ∃w' F',(Instr.mapUpdate t vm vi vx).run X.P w= .ok () w'∧Inv X w0 S F' ρ M' w'∧Grow F F' ρ ρ w w':=by
 unfold NL at h;simp only [eY]at h;split at h
 case h_2=>cases h
 rename_i kt et id xa AS;split at h
 case h_2=>cases h
 rename_i kd nu;split at h
 case h_2=>cases h
 rename_i vG ag ks es hb;replace h:=di h;obtain⟨hc,h⟩:=h;simp only [bS,ic]at hc;obtain⟨⟨⟨⟨aau,hi⟩,rfl⟩,y5⟩,iX⟩:=hc;obtain⟨ti,td,tz,tf⟩:=hX.facts xa;have dS:=tf.map AS;obtain⟨d,oc⟩:=anv hX aau nu;refine⟨_,h,dR.set _ _ _,λ{w0 S F ρ w vm vi vx} hI hm ko GW=> ?_⟩;cases hm with
 |mp _ hd bA=>
 obtain⟨eD,g,mes,clock,hv,hh,ei,uw⟩:=hI.rep _ _ _ hb bA;have yy:hd.eC=some g:=n6;have cF:g<w.heap.size:=(v7.1 hh).1;have Kb:=hI.sep _ _ _ _ hb rfl bA yy;rw [hv];have Qv:Gx X ρ F w vG ag ks es mes.toList:=⟨Jc,λj e me he hm=>uw j e me he (Po)⟩;have kK:∀o:Obj,w.grownBy (w.putObj g o) (some g):=λo=>⟨rfl,rfl,rfl,by simp,λq hq eD=>re (λe=>eD (by rw [e]))⟩;have hG:∀o:Obj,Grow F F ρ ρ w (w.putObj g o):=λo=>⟨λ_ h=>h,λ_ _ h=>h,λa ha=>re (Kb.2.2 a ha)⟩;have done:∀(J8:Array MapEntry) (YY:Nat),J8.size=(iK es i x).length ->(∀(j:Nat) e me,(iK es i x)[j]?=some e->J8[j]?=some me->(iA vG e.1=true∧dk ks e.2.cells=true∧e.2.shape ag=true)∧aY X.K ρ F w e.1 me.key∧aY X.K ρ F w e.2 me.val)->
  Inv X w0 S F ρ (M.set id (.map vG ag ks (iK es i x))) (w.putObj g (.map J8 YY)):=λJ8 YY h1 h2=>
  hI.write hb rfl bA yy (kK _) ⟨eD,g,J8,YY,hv,W4 cF,h1,λj e me he qO=>let⟨a,r1,r2⟩:=h2 j e me he qO;⟨a,r1.grow (hG _),r2.grow (hG _)⟩⟩
 rcases find_spec oc hi ko es mes.toList 0 Qv with⟨f1,f2,f3⟩|⟨j,e,me,e1,e2,f1,f2,f4,f3⟩
 ·refine⟨w.putObj g (.map (mes.push {key:=vi,val:=vx,born:=clock}) (clock+1)),F,?_,done _ _ (by rw [f3];simp [ei]) λq e me he qO=> ?_,hG _⟩
  ·simp [Instr.mapUpdate,iT dS,Ol hh,run_checkKey oc.jB (oc.key hi ko),run_findKey oc.jB f2,afF _ hh,Result.andThen,World.putObj]
  ·rw [f3]at he
   by_cases hq:q<es.length
   ·rw [ju hq]at he;rw [Array.getElem?_push,if_neg (by omega)]at qO;exact uw q e me he qO
   ·have hq':q=es.length:=by have:=(eU.1 he).1;simp at this;omega
    subst hq';rw [kv (gz _)]at he;simp at he;rw [<-ei,Array.getElem?_push,if_pos rfl]at qO;injection qO with qO;subst he;subst qO;exact⟨⟨hi,iX,y5⟩,ko,GW⟩
 ·have zd:mes[j]?=some me:=by simpa using e2
  have aNT:j<mes.size:=(v7.1 zd).1;refine⟨w.putObj g (.map (mes.modify j λe=>{e with key:=vi,val:=vx}) clock),F,?_,done _ _ (by rw [f3];simp [ei]) λq e' KG he qO=> ?_,hG _⟩
  ·have lU:me.key=vi:=f4;simp [Instr.mapUpdate,iT dS,Ol hh,run_checkKey oc.jB (oc.key hi ko),run_findKey oc.jB f2,zd,lU,run_keyThatStays (oc.key hi ko),afF _ hh,Result.andThen,World.putObj]
  ·rw [f3,zu]at he;rw [OQ]at qO;split at he
   ·rename_i ej;subst ej;split at he
    ·injection he with he;subst he;rw [if_pos rfl,zd]at qO;simp at qO;subst qO;exact⟨⟨hi,iX,y5⟩,ko,GW⟩
    ·cases he
   ·rename_i ej;rw [if_neg ej]at qO;exact uw q e' KG he qO
end
end Go.az
namespace Go.az
def akX{p:Prop}(h:p:=by
 refine(dR.set M id _).mono (λj hj=> ?_);simp only [BK]at hj;subst hj;unfold KC at rJ;split at rJ
 ·split at rJ
  ·simp only [Option.some.injEq,Prod.mk.injEq]at rJ;simp [mi,rJ.1]
  ·cases rJ
 ·split at rJ
  ·simp only [Option.some.injEq,Prod.mk.injEq]at rJ;simp [mi,rJ.1]
  ·cases rJ
 ·cases rJ):p:=h
def akp{p:Prop}(h:p:=by
 refine OY λj=> ?_;rw [zu];split
 ·rename_i hj;subst hj;have:=(eU.1 hb).1;rw [if_pos this,hb]
 ·rfl):p:=h
def X9{p:Prop}(h:p:=by rw [oT];omega):p:=h
end Go.az
namespace Go.az
def BK:=@List.mem_singleton
end Go.az
namespace Go.az
open Go
noncomputable section
variable {X:Cx} {R:Type}
variable {w0 w w':World} {S:Sc} {F:bT} {ρ:bY} {M:aW}
variable{x:AV}{k:AV->aW->Option R}{cur:Array Value}{c c2 cap g id l lo m p size:Nat}{a:Option Addr}{P:Program}{r:R}{e e0 t ty u:TypeId}{ts:pT}{xs zs:aZ}{news:fA}
def aAF{ys:aZ}{vss:List fA}{a:Addr}{len:Nat}(hk:∀(i:Nat) row,ys[i]?=some row->dk (X.K e) row=true)(hl:vss.length=ys.length)
 (fo:∀(i:Nat) row vs,ys[i]?=some row->vss[i]?=some vs->dt X.K ρ F w row vs∧qv w (a.add (i*(X.K e).length)) vs) (oa:∀(id:Nat) hd,ρ[id]?=some hd->hd.v.oneCell'=true) (n8:0<(X.K e).length):
 ∃news:fA,news.length=ys.length*(X.K e).length ∧(∀u∈news,u.oneCell'=true)∧
  (∀w2:World,w2.heap=w.heap->(Builtin.firstCells (X.K e).length ys.length (.slice (some a) len c)).run X.P w2= .ok news.toArray w2)∧
  ∀(i:Nat) row,ys[i]?=some row->∀(j:Nat) y,row[j]?=some y->∃u,news[i*(X.K e).length +j]?=some u∧aY X.K ρ F w y u:=by
 have hlen:∀(i:Nat) vs,vss[i]?=some vs->vs.length=(X.K e).length :=akv;have s6:=NK vss hlen;have Ca:∀(k:Nat) u,vss.flatten[k]?=some u->∃i j,∃(row:Row) (vs:fA) (y:AV),k=i*(X.K e).length +j∧ys[i]?=some row∧vss[i]?=some vs∧row[j]?=some y∧vs[j]?=some u:=ann;refine⟨vss.flatten,by rw [s6,hl],λu hu=> ?_,λw2 hw2=> ?_,λi row hi j y hy=> ?_⟩
 ·obtain⟨k,oL⟩:=zA hu;obtain⟨i,j,row,vs,y,_,h1,h2,h3,h4⟩:=Ca k u oL;exact HI ((fo i row vs h1 h2).1.2 j y u h3 h4) (WK (hk i row h1) h3) oa
 ·have:=run_firstCells_some (P:=X.P) w2 (X.K e).length ys.length a len c vss.flatten (by rw [s6,hl]) (λk u G0=>by
   obtain⟨i,j,row,vs,y,lU,h1,h2,h3,h4⟩:=Ca k u G0;have hc:=(fo i row vs h1 h2).2 j u h4;rw [zC,<-lU]at hc;unfold World.cell? at hc⊢;rw [hw2];exact hc)
  exact this
 ·have qP:=(eU.1 hi).1;exact akS
def sN(xs:aZ)(lo:Nat)(zs:aZ):aZ:=xs.take lo++zs++xs.drop (lo+zs.length)
def aeQ(h:lo+zs.length<=xs.length):(sN xs lo zs).length =xs.length:=by
 simp [sN];omega
def agB(h:lo+zs.length<=xs.length){i:Nat}{row:Row}(hi:(sN xs lo zs)[i]?=some row):
 (lo<=i∧i<lo+zs.length∧zs[i- lo]?=some row)∨((i<lo∨lo+zs.length<=i)∧xs[i]?=some row):=by
 unfold sN at hi
 by_cases h1:i<lo
 ·rw [iJ,ju (eh),nV,if_pos h1]at hi;exact .inr ⟨.inl h1,hi⟩
 ·by_cases h2:i<lo+zs.length
  ·rw [iJ,kv (eh),ju (eh)]at hi;simp only [oT]at hi;rw [show i- min lo xs.length=i- lo by omega]at hi;exact .inl ⟨by omega,h2,hi⟩
  ·rw [kv (eh)]at hi;simp only [fy,oT,qt]at hi;rw [show lo+zs.length+(i-(min lo xs.length+zs.length))=i by omega]at hi;exact .inr ⟨.inr (by omega),hi⟩
def aeT(hI:Inv X w0 S F ρ M w)(hb:M[id]?=some (.row e xs)){hd:Hd}(bA:ρ[id]?=some hd){o:Nat}(hv:hd.v= .slice (some ⟨g,o,none⟩) xs.length c)(hg:w.heap[g]?=some (.cells cur e (0,0)))
 (pG:xs.length<=c) (rM:c<=maxLen) (om:o+c*hd.sz<=cur.size) (Jo:∀(i:Nat) row,xs[i]?=some row->∀(j:Nat) x,row[j]?=some x->∃v,cur[o+i*hd.sz+j]?=some v∧aY X.K ρ F w x v)
    (hq:lo+zs.length<=xs.length) (AY:∀(i:Nat) row,zs[i]?=some row->dk (X.K e) row=true) (oK:news.length=zs.length*(X.K e).length)
 (vL:∀(i:Nat) row,zs[i]?=some row->∀(j:Nat) y,row[j]?=some y->∃u,news[i*(X.K e).length +j]?=some u∧aY X.K ρ F w y u):
 o+lo*hd.sz+news.length<=cur.size∧
 Inv X w0 S F ρ (M.set id (.row e (sN xs lo zs))) (w.setRow g (cur.toList.take (o+lo*hd.sz)++news++cur.toList.drop (o+lo*hd.sz+news.length)).toArray)∧
 Grow F F ρ ρ w (w.setRow g (cur.toList.take (o+lo*hd.sz)++news++cur.toList.drop (o+lo*hd.sz+news.length)).toArray):=by
 obtain⟨q1,q2,_⟩:=hI.rep id _ hd hb bA;have dQ:hd.eC=some g:=n6;have Lj:∀a,F a->a.block≠g:=(hI.sep id _ hd g hb rfl bA dQ).2.2;have jm:=MJ w g (cur.toList.take (o+lo*hd.sz)++news++cur.toList.drop (o+lo*hd.sz+news.length)).toArray;have kK:Grow F F ρ ρ w (w.setRow g (cur.toList.take (o+lo*hd.sz)++news++cur.toList.drop (o+lo*hd.sz+news.length)).toArray):=
  ⟨λ_ h=>h,λ_ _ h=>h,hI.wV jm (λk hk a ha=>JB)⟩
 have p0:o+lo*hd.sz+news.length<=cur.size:=by
  rw [oK,<-q1];have h1:(lo+zs.length)*hd.sz<=c*hd.sz:=rX _ (by omega);rw [pQ]at h1;omega
 refine⟨p0,hI.write hb rfl bA dQ jm ?_,kK⟩;have lU:∀(i:Nat) row,(sN xs lo zs)[i]?=some row->dk (X.K e) row=true:=by
  intro i row hi;rcases agB hq hi with⟨_,_,h⟩|⟨_,h⟩
  ·exact AY _ row h
  ·exact q2 _ row h
 refine⟨q1,lU,.inr ⟨g,o,c,_,by rw [aeQ hq];exact hv,Ot w g cur _ e _ hg,by rw [aeQ hq];exact pG,rM,?_,λi row hi j y hy=> ?_⟩⟩
 ·simp only [IJ,fy,oT,zw,nU];omega
 ·have hj:=(eU.1 hy).1;have qN:=iG (lU i row hi);rw [<-q1]at qN;rw [NU cur news _ p0];rcases agB hq hi with⟨h1,h2,h⟩|⟨h1,h⟩
  ·obtain⟨u,vI,kg⟩:=vL _ row h j y hy;have cF:=(eU.1 vI).1;rw [<-q1]at vI cF;have e0:(i- lo)*hd.sz=i*hd.sz- lo*hd.sz:=Nat.sub_mul _ _ _;have DA:lo*hd.sz<=i*hd.sz:=rX _ h1;rw [if_pos (by omega),show o+i*hd.sz+j-(o+lo*hd.sz)=(i- lo)*hd.sz+j by omega];exact PD
  ·obtain⟨u,vI,kg⟩:=Jo i row h j y hy;rw [if_neg]
   ·exact PD
   ·rintro⟨g1,g2⟩;rw [oK,<-q1]at g2;rcases h1 with h1|h1
    ·have:(i+1)*hd.sz<=lo*hd.sz:=rX _ (by omega);exact Jm
    ·have:(lo+zs.length)*hd.sz<=i*hd.sz:=rX _ h1;rw [pQ]at this;omega
def tj(xs:aZ)(lo nd:Nat)(ys:aZ):aZ:=sN xs lo (ys.take nd)
def pI(z:Row)(xs:aZ)(lo n:Nat):aZ:=sN xs lo (List.replicate n z)
def aBZ(xs:aZ)(lo:Nat)(ys:aZ):tj xs lo 0 ys=xs:=by simp [tj,sN]
def aB1(z:Row)(xs:aZ)(lo:Nat):pI z xs lo 0=xs:=by simp [pI,sN]
def KC(M:aW):AV->Option (Nat×Nat×Nat×TypeId×aZ)
 | .aA id=>match gm M id with|some (.row t xs)=>some (id,0,xs.length,t,xs)|_=>none
 | .vw id lo m=>match gm M id with|some (.row t xs)=>some (id,lo,m,t,xs)|_=>none
 |_=>none
def afT(hI:Inv X w0 S F ρ M w)(h:KC M x=some (id,lo,m,t,xs)){v:Value}(hv:aY X.K ρ F w x v):
 M[id]?=some (.row t xs)∧mi x=[id]∧((m=0∧((∃c,v= .slice none 0 c)∨∃a c,v= .slice (some a) 0 c))∨
  ∃hd g o c cur cap,ρ[id]?=some hd∧lo+m<=xs.length∧v= .slice (some ⟨g,o+lo*hd.sz,none⟩) m cap∧hd.v= .slice (some ⟨g,o,none⟩) xs.length c∧w.heap[g]?=some (.cells cur t (0,0))∧xs.length<=c∧c<=maxLen∧o+c*hd.sz<=cur.size∧
   ∀(i:Nat) row,xs[i]?=some row->∀(j:Nat) x,row[j]?=some x->∃v,cur[o+i*hd.sz+j]?=some v∧aY X.K ρ F w x v):=by
 unfold KC at h;simp only [eY]at h;split at h
 ·split at h
  ·rename_i hb;simp only [Option.some.injEq,Prod.mk.injEq]at h;obtain⟨rfl,rfl,rfl,rfl,rfl⟩:=h;cases hv with
   |aA _ hd bA=>
    refine⟨hb,rfl,?_⟩;rcases(hI.rep _ _ hd hb bA).2.2 with⟨h1,h2⟩|⟨g,o,c,cur,h1,h2,h3,h4,h5,h6⟩
    ·subst h2;exact .inl ⟨rfl,.inl ⟨_,h1⟩⟩
    ·exact .inr ⟨hd,g,o,c,cur,c,bA,by omega,sl,h1,h2,h3,h4,h5,h6⟩
  ·exact bh
 ·split at h
  ·rename_i hb;simp only [Option.some.injEq,Prod.mk.injEq]at h;obtain⟨rfl,rfl,rfl,rfl,rfl⟩:=h;refine⟨hb,rfl,?_⟩;cases hv with
   |vw _ _ _ hd g o n c cap bA hv hc qR=>
    rcases(hI.rep _ _ hd hb bA).2.2 with⟨h1,h2⟩|⟨g',o',c',cur,h1,h2,h3,h4,h5,h6⟩
    ·rw [hv]at h1;cases h1
    ·have qU:=h1;rw [hv]at h1;injection h1 with e1 e2 e3;injection e1 with e1;injection e1 with e1 e4 e5;subst e1;subst e4;subst e2;exact .inr ⟨hd,_,_,_,cur,cap,bA,qR,rfl,qU,h2,h3,h4,h5,h6⟩
   |sK=>exact .inl ⟨rfl,.inl ⟨_,rfl⟩⟩
   |sJ _ _ a cap=>exact .inl ⟨rfl,.inr ⟨a,cap,rfl⟩⟩
  ·exact bh
 ·cases h
def YW(X:Cx)(ts:pT)(x y:AV)(M:aW)(k:AV->aW->Option R):Option R:=
 match ts with
 | [t,_]=>
   match(X.ti t).ok,(X.ti t).u with
   |true,.slice e=>
    match rowsOf M y with
    |some (o,ys)=>
     match KC M x with
     |some (id,lo,m,t',xs)=>
      aP ((X.ti e).ok &&decide (0<(X.ti e).size)&&(match o with|some e'=>e==e'|none=>ys.isEmpty)&&(e==t')) (k (.int .i64 ((min ys.length m:Nat):Int)) (M.set id (.row t' (tj xs lo m ys))))
     |none=>none
    |none=>none
   |_,_=>none
 |_=>none
def aBm(ht:P.underlying t=some (.slice e))(hs:∀w,(sizeOf e).run P w= .ok size w)
 (hg:w.heap[g]?=some (.cells cur e0 (0,0))) (hf:(Builtin.firstCells size (min l m) (.slice a l c2)).run P w= .ok news.toArray w) (h1:∀u∈news,u.oneCell'=true) (p0:p+news.length<=cur.size):
 (Builtin.copy_ #[t,u] ty #[.slice (some ⟨g,p,none⟩) m cap,.slice a l c2]).run P w= .ok (.int .i64 ((min l m:Nat):Int)) (w.setRow g (cur.toList.take p++news++cur.toList.drop (p+news.length)).toArray):=by
 have eJ:=Ou P g p e0 news 0 cur w hg (by simpa using p0) h1;simp only [xF]at eJ;have hf':(Builtin.firstCells size (Nat.min l m) (.slice a l c2)).run P w= .ok news.toArray w:=hf;simp [Builtin.copy_,iT ht,Builtin.lenOf,hs,hf',eJ,goInt]
def run_copy_none(ht:P.underlying t=some (.slice e))(hs:∀w,(sizeOf e).run P w= .ok size w){b:Option Addr}:
 (Builtin.copy_ #[t,u] ty #[.slice b 0 cap,.slice a l c2]).run P w= .ok (.int .i64 0) w:=by
 have hf:(Builtin.firstCells size 0 (.slice a l c2)).run P w= .ok #[] w:=YD;have hz:Nat.min l 0=0:=Nat.min_zero l;cases b<;>simp [Builtin.copy_,iT ht,Builtin.lenOf,hs,hz,hf,goInt,storeCells]
def ayL(hX:X.Okb){y:AV}(h:YW X ts x y M k=some r):
 ∃z M',k z M'=some r∧dR (mi x) M M'∧∀{vx vy:Value},Ar X M z M' (λρ F w=>aY X.K ρ F w x vx∧aY X.K ρ F w y vy) (Builtin.copy_ ts.toArray ty #[vx,vy]):=by
 unfold YW at h;split at h
 ·rename_i t u;split at h
  ·rename_i e bB hu;split at h
   ·rename_i o ys gW;split at h
    ·rename_i id lo m t' xs rJ;replace h:=di h;obtain⟨h1,h⟩:=h;simp only [bS,iY,ic]at h1;obtain⟨⟨⟨he,n8⟩,Sa⟩,rfl⟩:=h1;obtain⟨i,d,z,f⟩:=hX.facts bB;obtain⟨i2,d2,z2,f2⟩:=hX.facts he;have ht:=f.slice hu;have ei:(X.K e).length =(X.ti e).size :=zU;have ho:o=some e∨(o=none∧ys=[]):=ajJ;have fK:dR (mi x) M (M.set id (.row e (tj xs lo m ys))):=akX;refine⟨_,_,h,fK,λ{vx vy w0 S F ρ w} hI hh=> ?_⟩;obtain⟨GW,hvy⟩:=hh;obtain⟨hb,_,Qw⟩:=afT hI rJ GW;have Cn:tj xs lo m ys=xs->M.set id (.row e (tj xs lo m ys))=M:=by
      intro e1;rw [e1];exact akp
     have hls:∃a c2,vy= .slice a ys.length c2:=Wi hI gW hvy;obtain⟨a,c2,rfl⟩:=hls;rcases Qw with⟨rfl,hv⟩|⟨hd,g,o',c,cur,cap,bA,hlm,rfl,hdv,hg,h3,h4,h5,h6⟩
     ·have e1:=aBZ xs lo ys;rw [Cn e1];refine⟨.int .i64 0,w,ρ,F,?_,hI,Grow.refl _ _ _,by simpa using aY.int .i64 0⟩;rcases hv with⟨c,rfl⟩|⟨a',c,rfl⟩
      ·exact run_copy_none ht f2.sizeOf
      ·exact run_copy_none ht f2.sizeOf
     ·
      have aE0:∃news:fA,news.length=(ys.take m).length *(X.K e).length ∧(∀u∈news,u.oneCell'=true)∧(Builtin.firstCells (X.K e).length (min ys.length m) (.slice a ys.length c2)).run X.P w= .ok news.toArray w∧
       (∀(i:Nat) row,(ys.take m)[i]?=some row->dk (X.K e) row=true)∧∀(i:Nat) row,(ys.take m)[i]?=some row->∀(j:Nat) y,row[j]?=some y->∃u,news[i*(X.K e).length +j]?=some u∧aY X.K ρ F w y u:=by
       have aMW:(ys.take m).length =min ys.length m:=by rw [oT,Nat.min_comm]
       have AT:∀(i:Nat) row,(ys.take m)[i]?=some row->i<m∧ys[i]?=some row:=by
        intro i row hi;rw [nV]at hi;split at hi
        ·exact⟨by assumption,hi⟩
        ·cases hi
       rcases ho with rfl|⟨rfl,rfl⟩
       ·obtain⟨hk,hc⟩:=ad5 hI gW hvy;rcases hc with⟨hv,rfl⟩|⟨a',c',hv,vss,hl,fo⟩
        ·injection hv with e1 e2 e3;subst e1;exact⟨[],by simp,by simp,PK,λi row hi=>zL,λi row hi=>zL⟩
        ·injection hv with e1 e2 e3;subst e1;obtain⟨news,n1,n2,n3,n4⟩:=aAF (X:=X) (ρ:=ρ) (F:=F) (w:=w) (e:=e) (ys:=ys.take m) (vss:=vss.take m) (a:=a') (len:=ys.length) (c:=c2) (λi row hi=>hk i row (AT i row hi).2) (by rw [oT,oT,hl])
          (λi row vs hi ko=>by
            obtain⟨Dz,dV⟩:=AT i row hi;rw [nV,if_pos Dz]at ko;exact fo i row vs dV ko) hI.one (by rw [ei];exact n8)
         rw [aMW]at n3;exact⟨news,n1,n2,n3 w rfl,λi row hi=>hk i row (AT i row hi).2,n4⟩
       ·refine⟨[],by simp,by simp,?_,λi row hi=>zL,λi row hi=>zL⟩;simp only [sb,Nat.zero_min];exact YD
      obtain⟨news,n1,n2,n3,n4,n5⟩:=aE0;have hq:lo+(ys.take m).length <=xs.length:=X9;obtain⟨p0,i1,g1⟩:=aeT hI hb bA hdv hg h3 h4 h5 h6 hq n4 n1 n5;rw [ei]at n3;exact⟨_,_,ρ,F,aBm ht f2.sizeOf hg n3 n2 p0,i1,g1,.int _ _⟩
    ·exact bh
   ·exact bh
  ·exact bh
 ·cases h
def XK(X:Cx)(ts:pT)(x:AV)(M:aW)(k:AV->aW->Option R):Option R:=
 match ts with
 | [t]=>
   match(X.ti t).ok,(X.ti t).u with
   |true,.slice e=>
    match KC M x with
    |some (id,lo,m,t',xs)=>aP ((X.ti e).ok &&decide (0<(X.ti e).size)&&dk (X.K e) (mo X e)&&(e==t')) (k (.ep []) (M.set id (.row t' (pI (mo X e) xs lo m))))
    |none=>none
   |_,_=>none
 |_=>none
def aAC{z:Value}(ht:P.underlying t=some (.slice e))(hz:∀w,(zeroValue e).run P w= .ok z w)
 (hg:w.heap[g]?=some (.cells cur e0 (0,0))) (hm:0<m) (h1:∀u∈(Builtin.zeroCells z.cells m).toList,u.oneCell'=true) (p0:p+(Builtin.zeroCells z.cells m).toList.length <=cur.size):
 (Builtin.clear_ #[t] ty #[.slice (some ⟨g,p,none⟩) m cap]).run P w= .ok (.tuple #[]) (w.setRow g (cur.toList.take p++(Builtin.zeroCells z.cells m).toList ++cur.toList.drop (p+(Builtin.zeroCells z.cells m).toList.length)).toArray):=by
 have eJ:=Ou P g p e0 (Builtin.zeroCells z.cells m).toList 0 cur w hg (by simpa using p0) h1;simp only [xF]at eJ;obtain⟨n,rfl⟩:=Nat.exists_eq_succ_of_ne_zero (Nat.pos_iff_ne_zero.1 hm);simp only [Builtin.clear_,Xu,E2,fm,iT ht,gh,hz,eJ,ie]
def ax3(hX:X.Okb)(h:XK X ts x M k=some r):
 ∃z M',k z M'=some r∧dR (mi x) M M'∧∀{vx:Value},Ar X M z M' (λρ F w=>aY X.K ρ F w x vx) (Builtin.clear_ ts.toArray ty #[vx]):=by
 unfold XK at h;split at h
 ·rename_i t;split at h
  ·rename_i e bB hu;split at h
   ·rename_i id lo m t' xs rJ;replace h:=di h;obtain⟨h1,h⟩:=h;simp only [bS,iY,ic]at h1;obtain⟨⟨⟨he,n8⟩,AY⟩,rfl⟩:=h1;obtain⟨i,d,z,f⟩:=hX.facts bB;obtain⟨i2,d2,z2,f2⟩:=hX.facts he;have ht:=f.slice hu;have ei:(X.K e).length =(X.ti e).size :=zU;have fK:dR (mi x) M (M.set id (.row e (pI (mo X e) xs lo m))):=akX;have vK:∀{ρ:bY} {F:bT} {w:World},aY X.K ρ F w (.ep []) (.tuple #[]):= .ep [] [] rfl (λj x v h _=>gM);refine⟨_,_,h,fK,λ{vx w0 S F ρ w} hI GW=> ?_⟩;obtain⟨hb,_,Qw⟩:=afT hI rJ GW;have hzero:∀{b:Option Addr} {cap:Nat},(Builtin.clear_ #[t] ty #[.slice b 0 cap]).run X.P w= .ok (.tuple #[]) w:=by
     intro b cap;cases b<;>simp [Builtin.clear_,iT ht]
    by_cases hm:m=0
    ·subst hm;have Cn:M.set id (.row e (pI (mo X e) xs lo 0))=M:=by
      rw [aB1];exact akp
     rw [Cn];refine⟨.tuple #[],w,ρ,F,?_,hI,Grow.refl _ _ _,vK⟩;rcases Qw with⟨_,⟨c,rfl⟩|⟨a,c,rfl⟩⟩|⟨hd,g,o',c,cur,cap,bA,hlm,rfl,_⟩
     ·exact hzero
     ·exact hzero
     ·exact hzero
    ·rcases Qw with⟨e0,_⟩|⟨hd,g,o',c,cur,cap,bA,hlm,rfl,hdv,hg,h3,h4,h5,h6⟩
     ·exact absurd e0 hm
     ·have qf:z2.cells.size=i2.size:=f2.zs;have hzl:z2.cells.toList.length=(X.K e).length :=by rw [ei,f2.size,<-qf];simp
      have YP:(Builtin.zeroCells z2.cells m).toList =(List.replicate m z2.cells.toList).flatten :=afR z2.cells (by rw [qf,<-f2.size];exact n8) m;have KX:dt X.K ρ F w (mo X e) z2.cells.toList:=WC f2;have y4:∀(i:Nat) vs,(List.replicate m z2.cells.toList)[i]?=some vs->vs.length=(X.K e).length :=by
       intro i vs hi;rw [EZ]at hi;split at hi
       ·injection hi with hi;subst hi;exact hzl
       ·cases hi
      have oK:(Builtin.zeroCells z2.cells m).toList.length =(List.replicate m (mo X e)).length *(X.K e).length :=by
       rw [YP,NK _ y4];simp
      have oa:∀u∈(Builtin.zeroCells z2.cells m).toList,u.oneCell'=true:=by
       intro u hu;rw [YP]at hu;obtain⟨l,hl,hul⟩:=List.mem_flatten.1 hu;rw [Xb hl]at hul;obtain⟨j,hj⟩:=zA hul;have Ld:=(eU.1 hj).1;have hx:(mo X e)[j]?=some ((mo X e)[j]'(by rw [iG AY,<-hzl];exact Ld)):=dz _;exact HI (KX.2 j _ u hx hj) (WK AY hx) hI.one
      have hq:lo+(List.replicate m (mo X e)).length <=xs.length:=by simpa using hlm
      obtain⟨p0,i1,g1⟩:=aeT hI hb bA hdv hg h3 h4 h5 h6 hq (λi row hi=>by
       rw [EZ]at hi;split at hi
       ·injection hi with hi;subst hi;exact AY
       ·cases hi) oK (λi row hi j y hy=>by
       rw [EZ]at hi;split at hi
       ·rename_i Dz;injection hi with hi;subst hi;have hj:=(eU.1 hy).1;have qN:=iG AY;have hv:z2.cells.toList[j]?=some (z2.cells.toList[j]'(by omega)):=dz (by omega);refine⟨_,?_,KX.2 j y _ hy hv⟩;rw [YP,OM _ y4 i j z2.cells.toList (by rw [EZ,if_pos Dz]) (by omega)];exact hv
       ·cases hi)
      exact⟨_,_,ρ,F,aAC ht f2.zeroValue hg (Nat.pos_of_ne_zero hm) oa p0,i1,g1,vK⟩
   ·exact bh
  ·exact bh
 ·cases h
end
end Go.az
namespace Go.az
def ans{p:Prop}(h:p:=by
 have wI:dt X.K ρ F w (first++c.args.toList.map e++fG) (v1++c.args.toList.map act.eval++v2):=(dt.append ⟨eZ,r1⟩ (E6 hr _)).append ⟨fP,r2⟩;have yc:=rM hI wI;have e1:(v1.toArray++c.args.map act.eval)++v2.toArray=(v1++c.args.toList.map act.eval++v2).toArray :=by apply tK;simp
 refine⟨λ_ _=>trivial,?_⟩;rw [OV _ _ _ (by simp [ho])];have dB:(execOp act.eval o).run X.P w= .ok (.enter g (v1++c.args.toList.map act.eval++v2).toArray) w:=by
  simp only [execOp,ho,resolve,mv,hv,Deferred.ofValue,fm,ie,gh,invoke];rw [e1];exact pG _ _
 rw [dB];refine⟨λhd=>by simp [kY,Fence.wide]at hd,?_⟩;have dX:CallsIn Fence.wide (n- 1) X.P g (v1++c.args.toList.map act.eval++v2).toArray w (λe w'=>∃v ρ' F',e= .returned v∧Inv X w0 S F' ρ' M' w'∧Grow F F' ρ ρ' w w'∧aY X.K ρ' F' w' x v):=XQ.2 yc;have jJ:CallsIn (kY rd) (n- 1) X.P g (v1++c.args.toList.map act.eval++v2).toArray w (λe w'=>∃v ρ' F',e= .returned v∧Inv X w0 S F' ρ' M' w'∧Grow F F' ρ ρ' w w'∧aY X.K ρ' F' w' x v):=dX;refine jJ.mono ?_;rintro en w' ⟨v,ρ',F',rfl,h3,h4,h5⟩;exact hn v w' ρ' F' h3 h4 h5):p:=h
def ya{p:Prop}(h:p:=by simp only [oX,ho,Option.some.injEq]at hi;subst hi;exact fK):p:=h
def jQ{p:Prop}(h:p:=by simp [execOp,ho]):p:=h
def gj{p:Prop}(h:p:=by simp [ho]):p:=h
def oD{p:Prop}(h:p:=by simp [oX,ho]at hi):p:=h
def uV{p:Prop}(h:p:=by apply tK;simp):p:=h
def P3{p:Prop}(h:p:=by simp [execOp,ho,resolve,mv,invoke,builtin,e2]):p:=h
def YJ{p:Prop}(h:p:=by simp only [oX,ho,mv,hx,Option.some.injEq]at hi;subst hi;exact fK):p:=h
def PO{p:Prop}(h:p:=by apply tK;simpa using hx):p:=h
def aiR{p:Prop}(h:p:=by exact core (λ{ρ F w v} hv=>by rw [hx]at hv;cases hv;exact .inl ⟨_,rfl⟩) h):p:=h
def aih{p:Prop}(h:p:=by simp [execOp,ho,resolve,mv,invoke,builtin,e1,e2]):p:=h
def Yo{p:Prop}(h:p:=by simp [oX,ho,mv]at hi):p:=h
def Yn{p:Prop}(h:p:=by
 split
 ·exact XI _ _ _
 ·rfl):p:=h
def ah0{p:Prop}(h:p:=by simp [execOp,ho,resolve,mv,invoke,builtin]):p:=h
def I2{p:Prop}(h:p:=by rw [hj]at hp;cases hp):p:=h
end Go.az
namespace Go.az
def XQ:=@Go.callsIn_wide
def tL:=@Nat.le_of_ble_eq_true
def OV:=@Go.Oper.semAt_eq
def zF:=@List.mem_range
end Go.az
namespace Go.az
open Go
noncomputable section
variable {X:Cx} {R:Type}
variable {w0 w w':World} {S:Sc} {F:bT} {ρ:bY} {M:aW}
variable{s:(Operand->Value)->Sem Value}{x:AV}{a:Act}{next:Act->World->Prop}{Q:Exit->Act->World->Prop}{n:Nat}{o:Oper}{e:Operand->AV}{ρe:Operand->Value}{rd:Option Nat}
def kY(rd:Option Nat):Fence:={Fence.wide with round:=rd}
def fF(X:Cx)(o:Oper)(e:Operand->AV)(M:aW)(x:AV)(M':aW):Prop:=
 ∀{rd:Option Nat} {n:Nat} {w0:World} {S:Sc} {F:bT} {ρ:bY} {w:World} {a:Act} {next:Act->World->Prop} {Q:Exit->Act->World->Prop},Inv X w0 S F ρ M w->(∀y,aY X.K ρ F w (e y) (a.eval y))->
  (∀v w' ρ' F',Inv X w0 S F' ρ' M' w'->Grow F F' ρ ρ' w w'->aY X.K ρ' F' w' x v->next (a.put o.dst v) w')->o.wpIn (kY rd) n X.P a w next Q
def lh(X:Cx)(f:FuncId)(args:bp)(M:aW)(x:AV)(M':aW):Prop:=
 (∀(vs:Array Value) (w:World),(callFunc f vs).run X.P w= .ok (.enter f vs) w)∧
 ∀{w0:World} {S:Sc} {F:bT} {ρ:bY} {w:World} {vs:fA},Inv X w0 S F ρ M w->dt X.K ρ F w args vs->
  Calls X.P f vs.toArray w (λe w'=>∃v ρ' F',e= .returned v∧Inv X w0 S F' ρ' M' w'∧Grow F F' ρ ρ' w w'∧aY X.K ρ' F' w' x v)
def Pa(X:Cx)(id:Nat)(args:bp)(M:aW)(x:AV)(M':aW):Prop:=
 ∀{rd:Option Nat} {n:Nat} {w0:World} {S:Sc} {F:bT} {ρ:bY} {w:World} {vs:fA} {hd:Hd} {g:Nat},Inv X w0 S F ρ M w->dt X.K ρ F w args vs->ρ[id]?=some hd->hd.v= .pointer (some ⟨g,0,none⟩)->
  ∃f tmps ag body,(Instr.yield g vs.toArray).run X.P w= .ok (.round g f tmps ag body) w∧
   RoundIn (kY rd) n X.P g f tmps ag body w (λe w'=>∃v ρ' F',e= .returned v∧Inv X w0 S F' ρ' M' w'∧Grow F F' ρ ρ' w w'∧aY X.K ρ' F' w' x v)
structure Nt where
 n:Nat
 mask:Nat
structure ia(R:Type) where
 nt:Nt
 wr:FuncId->bp->aW->Option dI
 call:FuncId->bp->aW->(AV->aW->Option R)->Option R
 yield:Nat->bp->aW->(AV->aW->Option R)->Option R
structure ia.nX(X:Cx)(T:ia R):Prop where
 call:∀{f args M k r},T.call f args M k=some r->∃x M',lh X f args M x M'∧k x M'=some r∧∀ids,T.wr f args M=some ids->dR ids M M'
 yield:∀{id args M k r},T.yield id args M k=some r->∃x M',Pa X id args M x M'∧k x M'=some r
def ku(X:Cx)(env:cV):Operand->AV
 | .tmp t=>look env t
 | .const v=>XN v
 | .global g=>X.fT g
 | .func f=> .du f [] []
def zH(hI:Inv X w0 S F ρ M w){env:cV}(h:iU X ρ F w env a.tmps)(y:Operand):aY X.K ρ F w (ku X env y) (a.eval y):=by
 cases y with
 |tmp t=>exact h t
 |const v=>exact azl _ _ _ _ v
 |global g=>exact hI.fT g
 |func f=>exact .du f [] [] [] [] rfl rfl (λj x v h _=>gM) (λj x v h _=>gM)
def Ru(op:UnOp)(x:AV)(k:AV->Option R):Option R:=
 match op,x with
 | .not,.bool b=>k (.bool (!b))
 | .neg,.int kd n=>k (.int kd (kd.wrap (0- n)))
 |_,_=>none
def Qb(X:Cx)(s d:TypeId)(x:AV)(k:AV->Option R):Option R:=
 match(X.ti s).ok,(X.ti d).ok,(X.ti d).u,x with
 |true,true,.int kd,.int _ n=>k (.int kd (kd.wrap n))
 |_,_,_,_=>none
def N2(x:AV)(k:AV->Option R):Option R:=
 match x with
 | .ptr _ _ _=>k x
 | .ij _ _ _=>k x
 | .du _ _ _=>k x
 |_=>none
def ZG(X:Cx)(o:Oper)(x:AV)(mx:Option Operand):Bool:=match x,o.dst,mx with| .aA _,some d,none=>X.vw d o.type|_,_,_=>false
def pf(X:Cx)(T:ia R)(e:Operand->AV)(o:Oper)(M:aW)(k:AV->aW->Option R):Option R:=
 match o.op with
 | .move x=>k (e x) M
 | .assign x=>k (e x) M
 | .pick c a b=>match e c with| .bool t=>(match t with|true=>k (e a) M|false=>k (e b) M)|_=>none
 | .alloc t=>XL X t M k
 | .box t x=>Zw X t (e x) M k
 | .build t ps=>IT X t (ps.toList.map λp=>(p.1,e p.2)) λy=>k y M
 | .buildSlice t n ps=>match aEV (ps.toList.map λp=>(p.1,e p.2))with|true=>Ws X t n (ps.toList.map λp=>(p.1,e p.2)) M k|false=>H4 X t n (ps.toList.map λp=>(p.1,e p.2)) M k
 | .load t x=>uP X t (e x) M λy=>k y M
 | .store t x y=>Fi X t (e x) (e y) M λM'=>k (.ep []) M'
 | .nilCheck x=>N2 (e x) λy=>k y M
 | .binOp op t x y _=>JK X op t (e x) (e y) λz=>k z M
 | .unOp op _ x=>Ru op (e x) λz=>k z M
 | .convert s d x=>Qb X s d (e x) λz=>k z M
 | .fieldAddr t x f=>Ii X t (e x) f λy=>k y M
 | .field t x f=>IS X t (e x) f λy=>k y M
 | .indexAddr t x i=>xx X t (e x) (e i) M λy=>k y M
 | .index t x i=>IQ X t (e x) (e i) λy=>k y M
 | .slice t x lo hi mx=>match ZG X o (e x) mx with|true=>Cd X t (e x) (lo.map e) (hi.map e) M λy=>k y M|false=>zI X t (e x) (lo.map e) (hi.map e) (mx.map e) M k
 | .makeSlice t l c=>V9 X t (e l) (e c) M k
 | .extract x i=>match e x with| .ep vs=>(match vs[i]? with|some y=>k y M|none=>none)|_=>none
 | .makeFunc (.func f) first fG=>k (.du f (first.toList.map e) (fG.toList.map e)) M
 | .call c=>
   match c.callee with
   | .value f=>
     match e f with
     | .du g first fG=>T.call g (first++c.args.toList.map e++fG) M k
     | .ik id=>T.yield id (c.args.toList.map e) M λx M'=>aP (Nat.ble M.length M'.length) (k x M')
     |_=>none
   | .builtin .len =>match c.argTypes.toList,c.args.toList with| [t],[x]=>wL X t (e x) M λy=>k y M|_,_=>none
   | .builtin .min =>zZ nk (c.args.toList.map e) λy=>k y M
   | .builtin .max =>zZ imax (c.args.toList.map e) λy=>k y M
   | .builtin .append =>match c.args.toList with| [s,x]=>Xp X c.argTypes.toList (e s) (e x) M k|_=>none
   | .builtin .copy =>match c.args.toList with| [s,x]=>YW X c.argTypes.toList (e s) (e x) M k|_=>none
   | .builtin .clear =>match c.args.toList with| [s]=>XK X c.argTypes.toList (e s) M k|_=>none
   |_=>none
 | .makeMap t r=>match r with|none=>WS X t M k|some _=>none
 | .lookup t x i ok=>xI X t (e x) (e i) ok M λy=>k y M
 | .mapUpdate t m i x=>NL X t (e m) (e i) (e x) M λM'=>k (.ep []) M'
 | .insert t m i x=>NL X t (e m) (e i) (e x) M λM'=>k (.ep []) M'
 |_=>none
def oX(T:ia R)(e:Operand->AV)(o:Oper)(M:aW):Option dI:=
 match o.op with
 | .alloc _=>some []
 | .box _ _=>some []
 | .makeSlice _ _ _=>some []
 | .buildSlice _ _ ps=>some ((ps.toList.map λp=>(p.1,e p.2)).flatMap λp=>p.2.cells.flatMap oz)
 | .store _ x y=>some (wg (e x)++(e y).cells.flatMap oz)
 | .slice _ x _ _ _=>some (oz (e x))
 | .call c=>
   match c.callee with
   | .value f=>
     match e f with
     | .du g first fG=>T.wr g (first++c.args.toList.map e++fG) M
     | .ik _=>some (List.range M.length)
     |_=>none
   | .builtin .append =>match c.args.toList with| [s,_]=>some (oz (e s))|_=>none
   | .builtin .copy =>match c.args.toList with| [s,_]=>some (mi (e s))|_=>none
   | .builtin .clear =>match c.args.toList with| [s]=>some (mi (e s))|_=>none
   | .builtin .unsafeSliceData =>some []
   | .builtin .unsafeString =>match c.args.toList with| [p,_]=>some (wg (e p))|_=>none
   |_=>none
 | .makeMap _ _=>some []
 | .mapUpdate _ m _ _=>some (Cj (e m))
 | .insert _ m _ _=>some (Cj (e m))
 |_=>none
def zn(hd:∀c,o.op≠ .defer c){v:Value}(h:(execOp a.eval o).run X.P w= .ok (.value v) w')(hn:next (a.put o.dst v) w'):
 o.wpIn (kY rd) n X.P a w next Q:=by
 refine⟨λ_ _=>trivial,?_⟩;rw [OV _ _ _ hd,h];exact hn
def VN(hd:∀c,o.op≠ .defer c)(h:(execOp a.eval o).run X.P w= .ok .skip w')(hn:next (a.put o.dst undef) w'):
 o.wpIn (kY rd) n X.P a w next Q:=by
 refine⟨λ_ _=>trivial,?_⟩;rw [OV _ _ _ hd,h];exact hn
def fF.mg(hd:∀c,o.op≠ .defer c)(hs:∀ρe,execOp ρe o=(do pure (.value (<-s ρe)):Sem Next))
 (h:∀{w0:World} {S:Sc} {F:bT} {ρ:bY} {w:World} {ρe:Operand->Value},Inv X w0 S F ρ M w->(∀y,aY X.K ρ F w (e y) (ρe y))->∃v,(s ρe).run X.P w= .ok v w∧aY X.K ρ F w x v):fF X o e M x M:=by
 intro rd n w0 S F ρ w a next Q hI hr hn;obtain⟨v,h1,h2⟩:=h hI hr;exact zn hd (by rw [hs,fm,h1];rfl) (hn v w ρ F hI (Grow.refl _ _ _) h2)
def fF.tO(hd:∀c,o.op≠ .defer c){M':aW}(hs:∀ρe,execOp ρe o=(do pure (.value (<-s ρe)):Sem Next))
 (h:∀{w0:World} {S:Sc} {F:bT} {ρ:bY} {w:World} {ρe:Operand->Value},Inv X w0 S F ρ M w->(∀y,aY X.K ρ F w (e y) (ρe y))->∃v w' ρ' F',(s ρe).run X.P w= .ok v w'∧Inv X w0 S F' ρ' M' w'∧Grow F F' ρ ρ' w w'∧aY X.K ρ' F' w' x v):fF X o e M x M':=by
 intro rd n w0 S F ρ w a next Q hI hr hn;obtain⟨v,w',ρ',F',h1,h2,h3,h4⟩:=h hI hr;exact zn hd (by rw [hs,fm,h1];rfl) (hn v w' ρ' F' h2 h3 h4)
def E6(hr:∀y,aY X.K ρ F w (e y) (ρe y))(xs:List Operand):dt X.K ρ F w (xs.map e) (xs.map ρe):=by
 refine⟨by simp,λj x v hx hv=> ?_⟩;rw [iH]at hx hv;cases h:xs[j]? with
 |none=>rw [h]at hx;cases hx
 |some y=>
  rw [h]at hx hv;simp only [kz,Option.some.injEq]at hx hv;subst hx;subst hv;exact hr y
def dt.append{xs ys:bp}{vs us:fA}(h:dt X.K ρ F w xs vs)(k:dt X.K ρ F w ys us):dt X.K ρ F w (xs++ys) (vs++us):=by
 refine⟨by simp [h.1,k.1],λj x v hx hv=> ?_⟩
 by_cases hj:j<xs.length
 ·exact ai7
 ·rw [kv (by omega)]at hx;rw [kv (by rw [h.1];omega),h.1]at hv;exact k.2 _ x v hx hv
def BN(hr:∀y,aY X.K ρ F w (e y) (ρe y))(o:Option Operand):p7 X.K ρ F w (o.map e) (o.map ρe):=by
 cases o with
 |none=>trivial
 |some y=>exact hr y
set_option maxHeartbeats 1600000 in
def aez(hX:X.Okb){T:ia R}(hT:T.nX X){k:AV->aW->Option R}{r:R}(h:pf X T e o M k=some r):
 ∃x M',fF X o e M x M'∧k x M'=some r∧∀ids,oX T e o M=some ids->dR ids M M':=by
 unfold pf at h;split at h
 ·rename_i x ho;exact⟨_,_,fF.mg (s:=λρe=>pure (ρe x)) (gj) (λρe=>jQ) (λ{w0 S F ρ w ρe} hI hr=>⟨_,rfl,hr x⟩),h,λids hi=>oD⟩
 ·rename_i x ho;exact⟨_,_,fF.mg (s:=λρe=>pure (ρe x)) (gj) (λρe=>jQ) (λ{w0 S F ρ w ρe} hI hr=>⟨_,rfl,hr x⟩),h,λids hi=>oD⟩
 ·rename_i c a b ho;split at h
  ·rename_i t hc;have anE:∀ρe,execOp ρe o=(do pure (.value (if<-asBool (ρe c)then ρe a else ρe b)):Sem Next):=λρe=>jQ;split at h
   ·refine⟨_,_,λ{rd n w0 S F ρ w act next Q} hI hr hn=> ?_,h,λids hi=>oD⟩;have h1:=hr c;rw [hc]at h1;generalize hv:act.eval c=vc at h1;cases h1;exact zn (gj) (by rw [anE,hv];rfl) (hn _ w ρ F hI (Grow.refl _ _ _) (hr a))
   ·refine⟨_,_,λ{rd n w0 S F ρ w act next Q} hI hr hn=> ?_,h,λids hi=>oD⟩;have h1:=hr c;rw [hc]at h1;generalize hv:act.eval c=vc at h1;cases h1;exact zn (gj) (by rw [anE,hv];rfl) (hn _ w ρ F hI (Grow.refl _ _ _) (hr b))
  ·exact bh
 ·rename_i t ho;obtain⟨x,M',h,fK,hd⟩:=ax5 hX h;exact⟨x,M',fF.tO (s:=λ_=>Instr.alloc t true (.tuple #[])) (gj) (λρe=>jQ) (λ{w0 S F ρ w ρe} hI hr=>hd hI trivial),h,λids hi=>ya⟩
 ·rename_i t x ho;obtain⟨y,M',h,fK,hd⟩:=azA h;exact⟨y,M',fF.tO (s:=λρe=>Instr.box t (ρe x)) (gj) (λρe=>jQ) (λ{w0 S F ρ w ρe} hI hr=>hd (ρe x) hI (hr x)),h,λids hi=>ya⟩
 ·rename_i t ps ho;obtain⟨y,h,hd⟩:=ax4 (M:=M) hX h;refine⟨y,M,fF.mg (s:=λρe=>Instr.build t (ps.map λ(i,x)=>(i,ρe x))) (gj) (λρe=>jQ) (λ{w0 S F ρ w ρe} hI hr=> ?_),h,λids hi=>oD⟩;obtain⟨u,h1,h2⟩:=hd (ps.toList.map λp=>(p.1,ρe p.2)) hI (by simp) (λj p q hp hq=>by
   rw [iH]at hp hq;cases hj:ps.toList[j]? with
   |none=>exact I2
   |some z=>
    rw [hj]at hp hq;simp only [kz,Option.some.injEq]at hp hq;subst hp;subst hq;exact⟨rfl,hr z.2⟩)
  refine⟨u,?_,h2⟩;have:(ps.map λ(i,x)=>(i,ρe x))=(ps.toList.map λp=>(p.1,ρe p.2)).toArray :=uV;rw [this];exact h1
 ·rename_i t n ps ho;split at h
  ·obtain⟨y,M',h,fK,hd⟩:=auQ hX h;refine⟨y,M',fF.tO (s:=λρe=>Instr.buildSlice t n (ps.map λ(i,x)=>(i,ρe x))) (gj) (λρe=>jQ) (λ{w0 S F ρ w ρe} hI hr=> ?_),h,λids hi=>by simp only [oX,ho,Option.some.injEq]at hi;subst hi;exact fK.mono (λi hi=>by cases hi)⟩;have:=hd (ps.toList.map λp=>(p.1,ρe p.2)) hI (by simp) (λj p q hp hq=>by
    rw [iH]at hp hq;cases hj:ps.toList[j]? with
    |none=>exact I2
    |some z=>
     rw [hj]at hp hq;simp only [kz,Option.some.injEq]at hp hq;subst hp;subst hq;exact⟨rfl,hr z.2⟩)
   have e1:(ps.map λ(i,x)=>(i,ρe x))=(ps.toList.map λp=>(p.1,ρe p.2)).toArray :=uV;rw [e1];exact this
  ·obtain⟨y,M',h,fK,hd⟩:=aca hX h;refine⟨y,M',fF.tO (s:=λρe=>Instr.buildSlice t n (ps.map λ(i,x)=>(i,ρe x))) (gj) (λρe=>jQ) (λ{w0 S F ρ w ρe} hI hr=> ?_),h,λids hi=>ya⟩;have:=hd (ps.toList.map λp=>(p.1,ρe p.2)) hI (by simp) (λj p q hp hq=>by
    rw [iH]at hp hq;cases hj:ps.toList[j]? with
    |none=>exact I2
    |some z=>
     rw [hj]at hp hq;simp only [kz,Option.some.injEq]at hp hq;subst hp;subst hq;exact⟨rfl,hr z.2⟩)
   have e1:(ps.map λ(i,x)=>(i,ρe x))=(ps.toList.map λp=>(p.1,ρe p.2)).toArray :=uV;rw [e1];obtain⟨v,w',ρ',F',h1,h2,h3,h4,_⟩:=this;exact⟨v,w',ρ',F',h1,h2,h3,h4⟩
 ·rename_i t x ho;obtain⟨y,h,hd⟩:=aec hX h;exact⟨y,M,fF.mg (s:=λρe=>Instr.loadAt t (ρe x)) (gj) (λρe=>jQ) (λ{w0 S F ρ w ρe} hI hr=>hd hI (hr x)),h,λids hi=>oD⟩
 ·rename_i t x y ho;obtain⟨M',h,fK,hd⟩:=axZ hX h;refine⟨_,M',λ{rd n w0 S F ρ w act next Q} hI hr hn=> ?_,h,λids hi=>ya⟩;obtain⟨w',F',h1,h2,h3⟩:=hd hI (hr x) (hr y);refine VN (gj) (w':=w') ?_ (hn undef w' ρ F' h2 h3 (.ep [] [] rfl (λj x v h _=>gM)));simp [execOp,ho,h1]
 ·rename_i x ho;unfold N2 at h;have core:∀(hp:∀{ρ:bY} {F:bT} {w:World} {v:Value},aY X.K ρ F w (e x) v->(∃a,v= .pointer (some a))∨∃f c1 c2,v= .func (.func f) c1 c2),k (e x) M=some r->∃y M',fF X o e M y M'∧k y M'=some r∧∀ids,oX T e o M=some ids->dR ids M M':=by
   intro hp h;refine⟨_,_,λ{rd n w0 S F ρ w act next Q} hI hr hn=> ?_,h,λids hi=>oD⟩;have h1:=hr x;refine zn (gj) (v:=act.eval x) (w':=w) ?_ (hn _ w ρ F hI (Grow.refl _ _ _) h1);rcases hp h1 with⟨a,hv⟩|⟨f,c1,c2,hv⟩<;>simp [execOp,ho,hv]
  split at h
  ·rename_i id i off hx;exact aiR
  ·rename_i t row off hx;exact aiR
  ·rename_i f c1 c2 hx;exact core (λ{ρ F w v} hv=>by rw [hx]at hv;cases hv;exact .inr ⟨_,_,_,rfl⟩) h
  ·exact bh
 ·rename_i op t x y u ho;obtain⟨z,h,hd⟩:=azB (a:=x) (b:=y) (u:=u) hX h;exact⟨z,M,fF.mg (s:=λρe=>(do eqGuard op t x y (ρe x) (ρe y);binOp op t (ρe x) (ρe y))) (gj) (λρe=>jQ) (λ{w0 S F ρ w ρe} hI hr=>hd ρ F w _ _ (hr x) (hr y)),h,λids hi=>oD⟩
 ·rename_i op t x ho;unfold Ru at h;split at h
  ·rename_i b hx;refine⟨_,M,fF.mg (s:=λρe=>Op.unary .not (ρe x)) (gj) (λρe=>jQ) (λ{w0 S F ρ w ρe} hI hr=> ?_),h,λids hi=>oD⟩;have h1:=hr x;rw [hx]at h1;generalize ρe x=vx at h1;cases h1;exact⟨_,rfl,.bool _⟩
  ·rename_i kd n hx;refine⟨_,M,fF.mg (s:=λρe=>Op.unary .neg (ρe x)) (gj) (λρe=>jQ) (λ{w0 S F ρ w ρe} hI hr=> ?_),h,λids hi=>oD⟩;have h1:=hr x;rw [hx]at h1;generalize ρe x=vx at h1;cases h1;exact⟨_,rfl,.int _ _⟩
  ·exact bh
 ·rename_i s d x ho;unfold Qb at h;split at h
  ·rename_i kd k0 n h1 h2 h3 hx;obtain⟨i1,d1,z1,f1⟩:=hX.facts h1;obtain⟨i2,d2,z2,f2⟩:=hX.facts h2;have dS:=f2.anx h3;refine⟨_,M,fF.mg (s:=λρe=>convert s d (ρe x)) (gj) (λρe=>jQ) (λ{w0 S F ρ w ρe} hI hr=> ?_),h,λids hi=>oD⟩;have h4:=hr x;rw [hx]at h4;generalize ρe x=vx at h4;cases h4;refine⟨.int kd (kd.wrap n),?_,.int _ _⟩;unfold convert;simp only [fm,iT f1.jB,iT dS,gh,Conv.intToInt,ie]
  ·exact bh
 ·rename_i t x f ho;obtain⟨y,h,hd⟩:=atK hX h;exact⟨y,M,fF.mg (s:=λρe=>Instr.fieldAt t (ρe x) f) (gj) (λρe=>jQ) (λ{w0 S F ρ w ρe} hI hr=>hd (hr x)),h,λids hi=>oD⟩
 ·rename_i t x f ho;obtain⟨y,h,hd⟩:=ax2 hX h;exact⟨y,M,fF.mg (s:=λρe=>Instr.field t (ρe x) f) (gj) (λρe=>jQ) (λ{w0 S F ρ w ρe} hI hr=>hd (hr x)),h,λids hi=>oD⟩
 ·rename_i t x i ho;obtain⟨y,h,hd⟩:=atJ hX h;exact⟨y,M,fF.mg (s:=λρe=>Instr.indexAt t (ρe x) (ρe i)) (gj) (λρe=>jQ) (λ{w0 S F ρ w ρe} hI hr=>hd hI (hr x) (hr i)),h,λids hi=>oD⟩
 ·rename_i t x i ho;obtain⟨y,h,hd⟩:=ax1 hX h;exact⟨y,M,fF.mg (s:=λρe=>Instr.index t (ρe x) (ρe i)) (gj) (λρe=>jQ) (λ{w0 S F ρ w ρe} hI hr=>hd (hr x) (hr i)),h,λids hi=>oD⟩
 ·rename_i t x lo hi mx ho;split at h
  ·rename_i y0;have Dw:mx=none:=by
    unfold ZG at y0;split at y0
    ·rfl
    ·cases y0
   obtain⟨y,h,hd⟩:=ayK hX h;exact⟨y,M,fF.mg (s:=λρe=>Instr.sliceAt t (ρe x) (lo.map ρe) (hi.map ρe) none) (gj) (λρe=>by simp [execOp,ho,Dw]) (λ{w0 S F ρ w ρe} hI hr=>hd hI (hr x) (BN hr lo) (BN hr hi)),h,λids hi=>dR.refl _ _⟩
  obtain⟨y,M',h,fK,hd⟩:=ax0 hX h;exact⟨y,M',fF.tO (s:=λρe=>Instr.sliceAt t (ρe x) (lo.map ρe) (hi.map ρe) (mx.map ρe)) (gj) (λρe=>jQ) (λ{w0 S F ρ w ρe} hI hr=>hd hI ⟨hr x,BN hr lo,BN hr hi,BN hr mx⟩),h,λids hi=>ya⟩
 ·rename_i t l c ho;obtain⟨y,M',h,fK,hd⟩:=atI hX h;exact⟨y,M',fF.tO (s:=λρe=>Instr.makeSlice t (ρe l) (ρe c)) (gj) (λρe=>jQ) (λ{w0 S F ρ w ρe} hI hr=>hd hI ⟨hr l,hr c⟩),h,λids hi=>ya⟩
 ·rename_i x i ho;split at h
  ·rename_i vs hx;split at h
   ·rename_i y hy;refine⟨y,M,fF.mg (s:=λρe=>Instr.extract (ρe x) i) (gj) (λρe=>jQ) (λ{w0 S F ρ w ρe} hI hr=> ?_),h,λids hi=>oD⟩;have h1:=hr x;rw [hx]at h1;generalize ρe x=vx at h1;cases h1 with
    |ep _ us hl hu=>
     have hi:=(eU.1 hy).1;have Dt:us[i]?=some (us[i]'(by omega)):=dz (by omega);refine⟨us[i]'(by omega),?_,hu i y _ hy Dt⟩;unfold Instr.extract;simp only [Xu,Dt,ie]
   ·exact bh
  ·exact bh
 ·rename_i f first fG ho
  refine⟨_,M,fF.mg (s:=λρe=>Instr.makeFunc (.func f) (first.map ρe) (fG.map ρe)) (gj) (λρe=>jQ) (λ{w0 S F ρ w ρe} hI hr=>⟨_,rfl,?_⟩),h,λids hi=>oD⟩;have h1:=E6 hr first.toList
  have h2:=E6 hr fG.toList;have:=aY.du (K:=X.K) (ρ:=ρ) (F:=F) (w:=w) f _ _ _ _ h1.1 h2.1 h1.2 h2.2;have e1:(first.toList.map ρe).toArray =first.map ρe:=uV
  have e2:(fG.toList.map ρe).toArray =fG.map ρe:=uV;rw [e1,e2]at this;exact this
 ·rename_i c ho;split at h
  ·rename_i f mv;split at h
   ·rename_i g first fG hf
    obtain⟨x,M',⟨pG,rM⟩,h,fK⟩:=hT.call h;refine⟨x,M',λ{rd n w0 S F ρ w act next Q} hI hr hn=> ?_,h,λids hi=>fK ids (by simpa only [oX,ho,mv,hf]using hi)⟩;have h1:=hr f;rw [hf]at h1;generalize hv:act.eval f=vf at h1;cases h1 with
    |du _ _ _ v1 v2 eZ fP r1 r2=>
     exact ans
   ·rename_i id hf;obtain⟨x,M',hy,h⟩:=hT.yield h;replace h:=di h;obtain⟨aM9,h⟩:=h;refine⟨x,M',λ{rd n w0 S F ρ w act next Q} hI hr hn=> ?_,h,λids hi=>by
     simp only [oX,ho,mv,hf,Option.some.injEq]at hi;subst hi;exact⟨tL aM9,λi hi hn=>absurd (zF.2 hi) hn⟩⟩
    have h1:=hr f;rw [hf]at h1;generalize hv:act.eval f=vf at h1;cases h1 with
    |ik _ hd g bA G2=>
     obtain⟨fn,tmps,ag,body,h2,h3⟩:=hy (rd:=rd) (n:=n- 1) hI (E6 hr c.args.toList) bA G2;refine⟨λ_ _=>trivial,?_⟩;rw [OV _ _ _ (gj)];have dB:(execOp act.eval o).run X.P w= .ok (.round g fn tmps ag body) w:=by
      simp only [execOp,ho,resolve,mv,hv,Deferred.ofValue,fm,ie,gh,invoke];have e1: #[]++c.args.map act.eval=(c.args.toList.map act.eval).toArray :=uV;rw [e1];exact h2
     rw [dB];refine⟨λhd=>by simp [kY,Fence.wide]at hd,?_⟩;refine h3.mono ?_;rintro en w' ⟨v,ρ',F',rfl,h4,h5,h6⟩;exact hn v w' ρ' F' h4 h5 h6
   ·exact bh
  ·rename_i mv;split at h
   ·rename_i t x ht hx;have e1:c.argTypes= #[t]:=by apply tK;simpa using ht
    have e2:c.args= #[x]:=PO;obtain⟨y,h,hd⟩:=azy (ty:=o.type) hX h;exact⟨y,M,fF.mg (s:=λρe=>Builtin.len_ #[t] o.type #[ρe x]) (gj) (λρe=>aih) (λ{w0 S F ρ w ρe} hI hr=>hd hI (hr x)),h,λids hi=>Yo⟩
   ·exact bh
  ·rename_i mv;obtain⟨y,h,hd⟩:=aAK (P:=X.P) (K:=X.K) h;refine⟨y,M,fF.mg (s:=λρe=>Builtin.min_ c.argTypes o.type (c.args.map ρe)) (gj) (λρe=>ah0) (λ{w0 S F ρ w ρe} hI hr=> ?_),h,λids hi=>Yo⟩;have e1:c.args.map ρe=(c.args.toList.map ρe).toArray :=uV;rw [e1];exact hd _ _ (E6 hr _)
  ·rename_i mv;obtain⟨y,h,hd⟩:=aAL (P:=X.P) (K:=X.K) h;refine⟨y,M,fF.mg (s:=λρe=>Builtin.max_ c.argTypes o.type (c.args.map ρe)) (gj) (λρe=>ah0) (λ{w0 S F ρ w ρe} hI hr=> ?_),h,λids hi=>Yo⟩;have e1:c.args.map ρe=(c.args.toList.map ρe).toArray :=uV;rw [e1];exact hd _ _ (E6 hr _)
  ·rename_i mv;split at h
   ·rename_i s x hx;have e2:c.args= #[s,x]:=PO;obtain⟨y,M',h,fK,hd⟩:=aw9 (ty:=o.type) hX h;refine⟨y,M',fF.tO (s:=λρe=>Builtin.append_ c.argTypes o.type #[ρe s,ρe x]) (gj) (λρe=>P3) (λ{w0 S F ρ w ρe} hI hr=> ?_),h,λids hi=>YJ⟩;have:=hd hI ⟨hr s,hr x⟩;exact se
   ·exact bh
  ·rename_i mv;split at h
   ·rename_i s x hx;have e2:c.args= #[s,x]:=PO;obtain⟨y,M',h,fK,hd⟩:=ayL (ty:=o.type) hX h;refine⟨y,M',fF.tO (s:=λρe=>Builtin.copy_ c.argTypes o.type #[ρe s,ρe x]) (gj) (λρe=>P3) (λ{w0 S F ρ w ρe} hI hr=> ?_),h,λids hi=>YJ⟩;have:=hd hI ⟨hr s,hr x⟩;exact se
   ·exact bh
  ·rename_i mv;split at h
   ·rename_i s hx;have e2:c.args= #[s]:=PO;obtain⟨y,M',h,fK,hd⟩:=ax3 (ty:=o.type) hX h;refine⟨y,M',fF.tO (s:=λρe=>Builtin.clear_ c.argTypes o.type #[ρe s]) (gj) (λρe=>P3) (λ{w0 S F ρ w ρe} hI hr=> ?_),h,λids hi=>YJ⟩;have:=hd hI (hr s);exact se
   ·exact bh
  ·exact bh
 ·rename_i t r' ho;split at h
  ·obtain⟨x,M',h,fK,hd⟩:=av3 hX h;exact⟨x,M',fF.tO (s:=λ_=>Instr.makeMap t none) (gj) (λρe=>jQ) (λ{w0 S F ρ w ρe} hI hr=>hd hI trivial),h,λids hi=>ya⟩
  ·exact bh
 ·rename_i t x i ok ho;obtain⟨y,h,hd⟩:=aw8 hX h;exact⟨y,M,fF.mg (s:=λρe=>Instr.lookup t (ρe x) (ρe i) ok) (gj) (λρe=>jQ) (λ{w0 S F ρ w ρe} hI hr=>hd hI (hr x) (hr i)),h,λids hi=>oD⟩
 ·rename_i t m i x ho;obtain⟨M',h,fK,hd⟩:=aco hX h;refine⟨_,M',λ{rd n w0 S F ρ w act next Q} hI hr hn=> ?_,h,λids hi=>ya⟩;obtain⟨w',F',h1,h2,h3⟩:=hd hI (hr m) (hr i) (hr x);refine VN (gj) (w':=w') ?_ (hn undef w' ρ F' h2 h3 (.ep [] [] rfl (λj x v h _=>gM)));simp [execOp,ho,h1]
 ·rename_i t m i x ho;obtain⟨M',h,fK,hd⟩:=aco hX h;refine⟨_,M',λ{rd n w0 S F ρ w act next Q} hI hr hn=> ?_,h,λids hi=>ya⟩;obtain⟨w',F',h1,h2,h3⟩:=hd hI (hr m) (hr i) (hr x);refine VN (gj) (w':=w') ?_ (hn undef w' ρ F' h2 h3 (.ep [] [] rfl (λj x v h _=>gM)));simp [execOp,ho,h1]
 ·cases h
section
variable {α:Type}
def qm(n:Nat)(k:Nat->Option R):Option R:=match n with|0=>k 0|m+1=>k (Nat.succ m)
def fzI(n:Int)(k:Int->Option R):Option R:=match n with| .ofNat m=>qm m λm=>k (.ofNat m)| .negSucc m=>qm m λm=>k (.negSucc m)
def P8(n:Nat)(k:Nat->Option R):qm n k=k n:=by cases n<;>rfl
def aDQ(n:Int)(k:Int->Option R):fzI n k=k n:=by cases n<;>(unfold fzI;exact P8 _ λ_=>_)
noncomputable def rP (f:α->(α->Option R)->Option R) (l:List α):(List α->Option R)->Option R:=
 List.rec (motive:=λ_=>(List α->Option R)->Option R) (λk=>k []) (λx _ ih k=>f x λx'=>ih λl'=>k (x'::l')) l
def sg{f:α->(α->Option R)->Option R}(hf:∀x k,f x k=k x):∀(l:List α) (k:List α->Option R),rP f l k=k l
 | [],_=>rfl
 |x::l,k=>by
  show f x (λx'=>rP f l λl'=>k (x'::l'))=k (x::l);rw [hf,sg hf l]
def DJ(x:AV)(k:AV->Option R):Option R:=
 match x with
 | .int kd n=>fzI n λn=>k (.int kd n)
 | .bool b=>(match b with|true=>k (.bool true)|false=>k (.bool false))
 | .ptr id i off=>qm id λid=>qm i λi=>qm off λoff=>k (.ptr id i off)
 | .aA id=>qm id λid=>k (.aA id)
 | .ik id=>qm id λid=>k (.ik id)
 | .mp id=>qm id λid=>k (.mp id)
 | .kU id n=>qm id λid=>qm n λn=>k (.kU id n)
 | .vw id lo n=>qm id λid=>qm lo λlo=>qm n λn=>k (.vw id lo n)
 |x=>k x
def Jp(x:AV)(k:AV->Option R):DJ x k=k x:=by
 cases x<;>simp only [DJ,aDQ,P8]
 split<;>rfl
noncomputable def zh (x:AV) (k:AV->Option R):Option R:=
 match x with
 | .agg cs=>rP DJ cs λcs=>k (.agg cs)
 | .du f a b=>rP DJ a λa=>rP DJ b λb=>k (.du f a b)
 |x=>DJ x k
def Cb(x:AV)(k:AV->Option R):zh x k=k x:=by
 unfold zh;split
 ·exact sg Jp _ _
 ·rw [sg Jp,sg Jp]
 ·exact Jp _ _
noncomputable def uz (x:AV) (k:AV->Option R):Option R:=
 match x with
 | .ep cs=>rP zh cs λcs=>k (.ep cs)
 |x=>zh x k
def P9(x:AV)(k:AV->Option R):uz x k=k x:=by
 unfold uz;split
 ·exact sg Cb _ _
 ·exact Cb _ _
noncomputable def fzE (e:AV×AV) (k:AV×AV->Option R):Option R:=DJ e.1 λa=>zh e.2 λb=>k (a,b)
def aDR(e:AV×AV)(k:AV×AV->Option R):fzE e k=k e:=by unfold fzE;rw [Jp,Cb]
noncomputable def DI (b:ed) (k:ed->Option R):Option R:=
 match b with
 | .var ks cs=>rP zh cs λcs=>k (.var ks cs)
 | .row t xs=>rP (rP zh) xs λxs=>k (.row t xs)
 | .map kd ag ks es=>rP fzE es λes=>k (.map kd ag ks es)
 |b=>k b
def YS(b:ed)(k:ed->Option R):DI b k=k b:=by
 unfold DI;split
 ·exact sg Cb _ _
 ·exact sg (λ_ _=>sg Cb _ _) _ _
 ·exact sg aDR _ _
 ·rfl
noncomputable def Gt (M:aW) (id:Nat) (k:aW->Option R):Option R:=
 List.rec (motive:=λ_=>Nat->(aW->Option R)->Option R) (λ_ k=>k []) (λb tl ih n k=>Nat.rec (motive:=λ_=>Option R) (DI b λb=>k (b::tl)) (λm _=>ih m λl=>k (b::l)) n) M id k
def XI:∀(M:aW) (id:Nat) (k:aW->Option R),Gt M id k=k M
 | [],_,_=>rfl
 |b::M,0,k=>by
  show(DI b λb=>k (b::M))=_;rw [YS]
 |b::M,n+1,k=>by
  show(Gt M n λl=>k (b::l))=_;rw [XI M n]
noncomputable def ye (M:aW) (k:aW->Option R):Option R:=
 List.rec (motive:=λ_=>(aW->Option R)->Option R) (λk=>k []) (λb tl ih k=>List.rec (motive:=λ_=>Option R) (DI b λb=>k [b]) (λ_ _ _=>ih λl=>k (b::l)) tl) M k
def Xo:∀(M:aW) (k:aW->Option R),ye M k=k M
 | [],_=>rfl
 | [b],k=>by
   show(DI b λb=>k [b])=_;rw [YS]
 |b::c::M,k=>by
  show(ye (c::M) λl=>k (b::l))=_;rw [Xo (c::M)]
noncomputable def Ro (e:Operand->AV) (o:Oper) (k:AV->aW->Option R) (x:AV) (M:aW):Option R:=
 match o.op with
 | .store _ p _=>(match e p with| .ptr id _ _=>Gt M id λM=>k x M|_=>k x M)
 | .mapUpdate _ m _ _=>(match e m with| .mp id=>Gt M id λM=>k x M|_=>k x M)
 | .insert _ m _ _=>(match e m with| .mp id=>Gt M id λM=>k x M|_=>k x M)
 | .alloc _=>uz x λx=>ye M λM=>k x M
 | .box _ _=>uz x λx=>ye M λM=>k x M
 | .makeSlice _ _ _=>uz x λx=>ye M λM=>k x M
 | .buildSlice _ _ _=>uz x λx=>ye M λM=>k x M
 | .makeMap _ _=>uz x λx=>ye M λM=>k x M
 | .slice _ _ _ _ _=>uz x λx=>ye M λM=>k x M
 | .call c=>(match c.callee with| .value _=>k x M| .builtin .append =>uz x λx=>ye M λM=>k x M|_=>uz x λx=>k x M)
 |_=>uz x λx=>k x M
def aCJ(e:Operand->AV)(o:Oper)(k:AV->aW->Option R)(x:AV)(M:aW):Ro e o k x M=k x M:=by
 unfold Ro;split<;>try (simp only [P9,Xo];done)
 ·exact Yn
 ·exact Yn
 ·exact Yn
 ·split
  ·rfl
  ·simp only [P9,Xo]
  ·exact P9 _ _
end
end
end Go.az
namespace Go.az
def akk{p:Prop}(h:p:=by
 have kg:=f.u;rw [hu]at kg;have:=f.jB;cases d<;>simp [mq]at kg
 subst kg;exact this):p:=h
def aiX{p:Prop}(h:p:=by
 injection h with h;subst h;cases h2;cases h1;exact key _ rfl rfl rfl):p:=h
def Ys{p:Prop}(h:p:=by apply tK;simpa using ha):p:=h
def aij{p:Prop}(h:p:=by
 rw [afE,fm,ie,gh];simp [binOp,Op.stringOp]):p:=h
end Go.az
namespace Go.az
def mE:=@Int.toNat_natCast
def afE:=@Go.eqGuard_at_string
def Oj:=@Go.eqGuard_at_pointer
end Go.az
namespace Go.az
open Go
noncomputable section
variable {X:Cx} {R:Type}
variable {w0 w w':World} {S:Sc} {F:bT} {ρ:bY} {M:aW}
variable{x:AV}{k:AV->aW->Option R}{op:BinOp}{o:Oper}{e:Operand->AV}{P:Program}{r:R}{T:ia R}{d s t:TypeId}{v:Value}
def KK:List UInt8->List UInt8->Bool
 | [],[]=>true
 |x::xs,y::ys=>Nat.beq x.toNat y.toNat&&KK xs ys
 |_,_=>false
def YN:∀(a b:List UInt8),KK a b=(a==b)
 | [],[]=>rfl
 | [],_::_=>rfl
 |_::_,[]=>rfl
 |x::xs,y::ys=>by
  have w8:Nat.beq x.toNat y.toNat=(x==y):=by
   cases h:Nat.beq x.toNat y.toNat with
   |true=>have:=UInt8.toNat_inj.1 (dE h);simp [this]
   |false=>
    have:x≠y:=λe=>by rw [e]at h;simp at h
    simp [this]
  simp only [KK,List.cons_beq_cons,YN xs ys,w8]
def ZE(op:BinOp)(a b:ByteArray):Option AV:=
 match op with
 | .add =>(match decide (a.data.toList.length+b.data.toList.length<=1000000)with|true=>some (.str ⟨⟨a.data.toList++b.data.toList⟩⟩)|false=>none)
 | .eql =>some (.bool (KK a.data.toList b.data.toList))
 | .neq =>some (.bool (!KK a.data.toList b.data.toList))
 |_=>none
def ZF(X:Cx)(t:TypeId)(x y:AV):Option Bool:=
 match(X.ti t).ok,(X.ti t).u with
 |true,.ptr e=>
  match x,y with
  | .iw,.iw =>some true
  | .ptr _ _ _,.iw =>some false
  | .ij _ _ _,.iw =>some false
  | .ptr a i o,.ptr b j p=>(match(X.ti e).ok &&(Nat.beq a b&&(Nat.beq i j&&Nat.beq o p))with|true=>some true|false=>none)
  |_,_=>none
 |_,_=>none
def Ga(X:Cx)(s d:TypeId):Bool:=match X.ub with|none=>false|some u=>(Nat.beq s u.pt&&Nat.beq d u.up)||(Nat.beq s u.up&&Nat.beq d u.pt)
def ZN(X:Cx)(x:AV)(M:aW):Bool:=
 match X.ub with
 |none=>false
 |some u=>match x with
  | .ptr id 0 0=>(match gm M id with|some (.var ks _)=>decide (ks=u.ks)|_=>false)
  |_=>false
def isNe(X:Cx)(g:FuncId):Bool:=match X.ub with|none=>false|some u=>Nat.beq g u.ne
def byteOf(row:Row):Option UInt8:=match row with| [.int .u8 (.ofNat n)]=>(match Nat.blt n 256 with|true=>some (UInt8.ofNat n)|false=>none)|_=>none
def bytesOf:Nat->aZ->Option (List UInt8)
 |0,_=>some []
 |n+1,row::xs=>(match byteOf row with|some b=>(match bytesOf n xs with|some l=>some (b::l)|none=>none)|none=>none)
 |_+1,[]=>none
def KP(X:Cx)(e:Operand->AV)(o:Oper):Bool:=
 match o.op with
 | .binOp _ _ x y _=>
   (match e x with
    | .str _=>(match e y with| .str _=>true|_=>false)
    | .iw =>(match e y with| .iw =>true|_=>false)
    | .ij _ _ _=>(match e y with| .iw =>true|_=>false)
    | .ptr _ _ _=>(match e y with| .iw =>true| .ptr _ _ _=>true|_=>false)
    |_=>false)
 | .convert s d _=>Ga X s d
 | .slice _ x _ _ _=>(match e x with| .str _=>true|_=>false)
 | .call c=>
   match c.callee with
   | .builtin .unsafeSliceData =>true
   | .builtin .unsafeString =>true
   | .value f=>(match e f with| .du g [] []=>isNe X g|_=>false)
   |_=>false
 |_=>false
def strOf:AV->Option ByteArray| .str s=>some s|_=>none
def Wh{s:ByteArray}(h:strOf x=some s):x= .str s:=by
 cases x<;>simp [strOf]at h
 rw [h]
def alm(X:Cx)(op:BinOp)(t:TypeId)(x y:AV):Option AV:=
 match strOf x,strOf y with
 |some a,some b=>ZE op a b
 |_,_=>match ZF X t x y,op with
  |some b,.eql =>some (.bool b)
  |some b,.neq =>some (.bool (!b))
  |_,_=>none
def alk(X:Cx)(t:TypeId)(x:AV)(lo hi:Option AV):Option AV:=
 match strOf x with
 |some s=>
  (match(X.ti t).ok,(X.ti t).u,lY 0 lo,lY s.data.toList.length hi with
   |true,.str,some l,some h=>(match decide (0<=l)&&decide (l<=h)&&decide (h<=(s.data.toList.length:Int))with
    |true=>some (.str ⟨⟨(s.data.toList.take h.toNat).drop l.toNat⟩⟩)
    |false=>none)
   |_,_,_,_=>none)
 |none=>none
def Gy(X:Cx)(e:Operand->AV)(o:Oper)(M:aW):Option (AV×aW):=
 match o.op with
 | .binOp op t x y _=>(match alm X op t (e x) (e y)with|some z=>some (z,M)|none=>none)
 | .convert _ _ x=>(match ZN X (e x) M with|true=>some (e x,M)|false=>none)
 | .slice t x lo hi mx=>(match mx,alk X t (e x) (lo.map e) (hi.map e)with|none,some z=>some (z,M)|_,_=>none)
 | .call c=>
   match c.callee with
   | .builtin .unsafeSliceData =>
     (match c.args.toList with
      | [x]=>(match e x with
        | .aA id=>(match gm M id with|some (.row _ (_::_))=>some (.ptr id 0 0,M)|_=>none)
        |_=>none)
      |_=>none)
   | .builtin .unsafeString =>
     (match c.argTypes.toList,c.args.toList with
      | [pt,_],[p,n]=>(match e p,e n with
        | .ptr id 0 0,.int .i64 (.ofNat m)=>(match gm M id with
          |some (.row t xs)=>(match(X.ti pt).ok,(X.ti pt).u,(X.ti t).ok with
           |true,.ptr t',true=>(match Nat.beq t' t&&(Nat.beq (X.ti t).size 1&&(Nat.blt 0 m&&Nat.ble m 1000000))with
            |true=>(match bytesOf m xs with|some l=>some (.str ⟨⟨l⟩⟩,M.set id .dead)|none=>none)
            |false=>none)
           |_,_,_=>none)
          |_=>none)
        |_,_=>none)
      |_,_=>none)
   | .value f=>(match e f with| .du g [] []=>(match isNe X g,c.args.toList with|true,[x]=>some (e x,M)|_,_=>none)|_=>none)
   |_=>none
 |_=>none
def azW{row:Row}{b:UInt8}(h:byteOf row=some b):row=[.int .u8 b.toNat]:=by
 unfold byteOf at h;split at h
 ·rename_i n;split at h
  ·rename_i hn;have:n<256:=by simpa [Nat.blt_eq]using hn
   injection h with h;subst h;have e:(UInt8.ofNat n).toNat =n:=eh;rw [e];rfl
  ·exact bh
 ·exact bh
def aem:∀{n:Nat} {xs:aZ} {l:List UInt8},bytesOf n xs=some l->l.length=n∧∀(j:Nat) b,l[j]?=some b->xs[j]?=some [.int .u8 b.toNat]
 |0,_,l,h=>by
  simp only [bytesOf,Option.some.injEq]at h;subst h;exact⟨rfl,λj b h=>gM⟩
 |n+1,[],l,h=>by simp [bytesOf]at h
 |n+1,row::xs,l,h=>by
  simp only [bytesOf]at h;split at h
  ·rename_i b hb;split at h
   ·rename_i l' hl;injection h with h;subst h;obtain⟨h1,h2⟩:=aem hl;refine⟨by simp [h1],λj b' hj=> ?_⟩;cases j with
    |zero=>simp only [E2,Option.some.injEq]at hj⊢;subst hj;exact azW hb
    |succ j=>simp only [W2]at hj⊢;exact h2 j b' hj
   ·exact bh
  ·exact bh
def aBl{a b:ByteArray}{z:AV}(h:ZE op a b=some z)(x y:Operand)(w:World):
 ∃v,(do eqGuard op t x y (.string a) (.string b);binOp op t (.string a) (.string b):Sem Value).run X.P w= .ok v w∧aY X.K ρ F w z v:=by
 have tl:∀s:ByteArray,s.toList=s.data.toList:=λs=>ByteArray.toList_eq s;unfold ZE at h;split at h
 ·split at h
  ·rename_i hl;injection h with h;subst h;have hs:a.size+b.size<=9223372036854775807:=by
    have:=E3 hl;simp only [nU]at this;show a.data.size+b.data.size<=_;omega
   refine⟨.string (a++b),?_,?_⟩
   ·rw [afE,fm,ie,gh];show(Op.stringOp .add a b).run X.P w=_;exact run_string_add_sum w a b hs
   ·have:(a++b)=⟨⟨a.data.toList++b.data.toList⟩⟩:=by
     apply ByteArray.ext;apply tK;simp
    rw [this];exact .str _
  ·exact bh
 ·injection h with h;subst h;refine⟨.bool (a.toList==b.toList),?_,by rw [YN,tl,tl];exact .bool _⟩;exact aij
 ·injection h with h;subst h;refine⟨.bool (!(a.toList==b.toList)),?_,by rw [YN,tl,tl];exact .bool _⟩;exact aij
 ·cases h
def af0(hX:X.Okb){p q:AV}{b:Bool}(h:ZF X t p q=some b){u:Value}(h1:aY X.K ρ F w p v)(h2:aY X.K ρ F w q u)(x y:Operand):
 (op= .eql ->(do eqGuard op t x y v u;binOp op t v u:Sem Value).run X.P w= .ok (.bool b) w)∧(op= .neq ->(do eqGuard op t x y v u;binOp op t v u:Sem Value).run X.P w= .ok (.bool (!b)) w):=by
 unfold ZF at h;split at h
 ·rename_i e bB hu;obtain⟨i,d,z,f⟩:=hX.facts bB;have dS:X.P.underlying t=some (.pointer e):=akk;have hpt:X.P.underlying t=some (.pointer (X.P.pointee t)):=by
   rw [dS];simp [Program.pointee,dS]
  have key:∀(p:Option Addr),v= .pointer p->u= .pointer none->p.isNone=b->(op= .eql ->(do eqGuard op t x y v u;binOp op t v u:Sem Value).run X.P w= .ok (.bool b) w)∧(op= .neq ->(do eqGuard op t x y v u;binOp op t v u:Sem Value).run X.P w= .ok (.bool (!b)) w):=by
   rintro p rfl rfl rfl;constructor
   ·rintro rfl;rw [Oj,fm,ie,gh];exact run_eql_pointer_nil w t p hpt
   ·rintro rfl;rw [Oj,fm,ie,gh];exact run_neq_pointer_nil w t p hpt
  split at h
  ·injection h with h;subst h;cases h1;cases h2;exact key _ rfl rfl rfl
  ·exact aiX
  ·exact aiX
  ·rename_i a i' o b' j p';split at h
   ·rename_i hb;injection h with h;subst h;simp only [bS]at hb;obtain⟨he,e1,e2,e3⟩:=hb;have e1:=dE e1;have e2:=dE e2;have e3:=dE e3;subst e1;subst e2;subst e3;obtain⟨i2,d2,z2,f2⟩:=hX.facts he;cases h1 with
    |ptr _ _ _ hd g o' n c bA hv=>
     cases h2 with
     |ptr _ _ _ lV g2 o2 n2 c2 Gr jE=>
      rw [bA]at Gr;injection Gr with Gr;subst Gr;rw [hv]at jE;injection jE with q1 q2 q3;injection q1 with q1;injection q1 with q4 q5 q6;subst q4;subst q5;constructor
      ·rintro rfl;rw [Oj,fm,ie,gh];exact run_eql_ptr_same w _ dS f2.info
      ·rintro rfl;rw [Oj,fm,ie,gh];exact Lib.run_neq_ptr_same w _ dS f2.info
   ·exact bh
  ·exact bh
 ·cases h
def azs{e:TypeId}(hc:P.cellsOf e=1)(count off n:Nat)(hn:off+n<=count):liesAt P P.depth e count off e n=true:=by
 have hd:P.depth=(2*(P.types.size+Made.depth)+1)+1:=rfl;rw [hd];simp only [liesAt,zy];left;rw [hd];simp [rowAt,hc,hn,sameLayout,Nat.mod_one]
def arE{w:World}(pt it ty e:TypeId)(hp:P.underlying pt=some (.pointer e))(hc:P.cellsOf e=1)(g o cells:Nat)(y5:w.shape? g=some (e,cells))(l:List UInt8)(h0:l≠ [])(hn:o+l.length<=cells)(h63:l.length<=9223372036854775807)
 (rk:∀j x,l[j]?=some x->w.cell? ((⟨g,o,none⟩:Addr).add j)=some (.int .u8 x.toNat)):
 (Builtin.unsafeString_ #[pt,it] ty #[.pointer (some ⟨g,o,none⟩),.int .i64 l.length]).run P w= .ok (.string ⟨l.toArray⟩) (w.freeze ⟨g,o,none⟩ l.length):=by
 have hl:l.length≠0:=by simpa using h0
 have Lb:=Lib.run_loadBytes (P:=P) w l ⟨g,o,none⟩ .empty rk;have aE1:=azs (P:=P) hc (cells/P.cellsOf e) o l.length (by rw [hc];simpa using hn);have aaA:¬(9223372036854775807:Int)<(l.length:Int):=by omega
 have jT:IntKind.i64.max=9223372036854775807:=rfl;have aMS:¬(l.length:Int)<0:=by omega
 change (asInt (.int .i64 l.length)>>= _).run P w=_
 simp [asInt,asIntOf,jT,aaA,aMS,hl,variablesAt,y5,elemOf,iT hp,aE1,Lb]
def aw7(w:World)(g o n:Nat):w.grownBy (w.freeze ⟨g,o,none⟩ n) (some g):=by
 unfold World.freeze;split
 ·exact⟨rfl,rfl,rfl,gz _,λ_ _ _=>rfl⟩
 ·refine⟨rfl,rfl,rfl,by simp,λk hk eD=> ?_⟩;have:k≠g:=λe=>eD (by rw [e]);simp [OQ,Ne.symm this]
def azZ{w:World}(dS:P.underlying t=some .string)(s:ByteArray){lo hi:Option AV}{vl vh:Option Value}{K:TypeId->dZ}(h1:p7 K ρ F w lo vl)(h2:p7 K ρ F w hi vh){l h:Int}(e1:lY 0 lo=some l)(e2:lY s.data.toList.length hi=some h)
 (b1:0<=l) (b2:l<=h) (b3:h<=s.data.toList.length):(Instr.sliceAt t (.string s) vl vh none).run P w= .ok (.string ⟨⟨(s.data.toList.take h.toNat).drop l.toNat⟩⟩) w:=by
 obtain⟨ln,rfl⟩:=BJ b1;obtain⟨hn,rfl⟩:=BJ (show 0<=h by omega);have bound:∀(o:Option AV) (v:Option Value) (d:Int) (n:Nat),p7 K ρ F w o v->lY d o=some (n:Int)->(o=none∧v=none∧d=n)∨∃kd,v=some (.int kd n)∧o.isSome=true:=akQ;have hu:∀w,(underlying t).run P w= .ok .string w:=λw=>iT dS w;have ei:s.size=s.data.toList.length:=by rw [nU];rfl
 have hs:∀a b:Nat,b<=s.size->s.extract a b=⟨⟨(s.data.toList.take b).drop a⟩⟩:=by
  intro a b hb;apply ByteArray.ext;rw [ByteArray.data_extract];apply tK;rw [Array.toList_extract,List.extract_eq_drop_take];rw [List.drop_take]
 have CW:(⟨⟨(s.data.toList.take hn).drop ln⟩⟩:ByteArray)=s.extract ln hn:=(hs ln hn (by omega)).symm;simp only [mE];rw [CW];rcases bound lo vl 0 ln h1 e1 with⟨o1,rfl,d1⟩|⟨k1,rfl,s1⟩<;>rcases bound hi vh s.data.toList.length hn h2 e2 with⟨o2,rfl,d2⟩|⟨k2,rfl,s2⟩
 ·have e0:ln=0:=by omega
  have DL:hn=s.size:=by omega
  subst e0;subst DL;simp [Instr.sliceAt,Instr.slice,hu,Instr.sliceBounds]
 ·have e0:ln=0:=by omega
  subst e0;have:hn<=s.size:=by omega
  simp [Instr.sliceAt,Instr.slice,hu,Instr.sliceBounds,Instr.sliceBound,asIntOf,this]
 ·have DL:hn=s.size:=by omega
  subst DL;have h1:ln<=s.size:=by omega
  simp [Instr.sliceAt,Instr.slice,hu,Instr.sliceBounds,Instr.sliceBound,asIntOf,h1]
 ·have h1:ln<=hn:=by omega
  have h2:hn<=s.size:=by omega
  simp [Instr.sliceAt,Instr.slice,hu,Instr.sliceBounds,Instr.sliceBound,asIntOf,h1,h2]
def aAu(h:Ga X s d=true):∃u,X.ub=some u∧(s=u.pt∧d=u.up∨s=u.up∧d=u.pt):=by
 unfold Ga at h;split at h
 ·exact bh
 ·rename_i u hu;rw [zy,bS,bS]at h;rcases h with⟨a,b⟩|⟨a,b⟩
  ·exact⟨u,hu,.inl ⟨dE a,dE b⟩⟩
  ·exact⟨u,hu,.inr ⟨dE a,dE b⟩⟩
def aA1(hX:X.Okb)(hty:Ga X s d=true)(h:ZN X x M=true)(hI:Inv X w0 S F ρ M w)(hv:aY X.K ρ F w x v):(convert s d v).run X.P w= .ok v w:=by
 obtain⟨u,hu,hsd⟩:=aAu hty;have bB:=hX.ub u hu;unfold ZN at h;rw [hu]at h;simp only at h;split at h
 ·rename_i id;split at h
  ·rename_i ks cs hb;rw [eY]at hb;have iX:=E3 h;cases hv with
   |ptr _ _ _ hd g o n c bA hhv=>
    obtain⟨hk,g',cur,e,fN,ei,hg,hr,hc,hy⟩:=hI.WA hb bA;rw [hhv]at fN;injection fN with e1 e2 e3;injection e1 with e1;injection e1 with e1 e4 e5;subst e1;subst e4;have hye:e=u.e:=by
     unfold Cx.Aw at hy;rw [hu]at hy;simp only [iX,decide_true]at hy;exact dE hy
    subst hye;have aML:cur.size=u.ks.length:=by
     have h1:=hr.1;simp only [nU]at h1;rw [h1,iG hk,iX]
    have y5:w.shape? g=some (u.e,u.ks.length):=by simp [World.shape?,hg,aML]
    obtain⟨j,hj,hj0⟩:=bB.bt;have e0:(⟨g,0+0*hd.sz+0,none⟩:Addr)=⟨g,0,none⟩:=by simp
    rw [e0];rcases hsd with⟨rfl,rfl⟩|⟨rfl,rfl⟩
    ·exact Lib.run_to_unsafe w ⟨g,0,none⟩ bB.pt bB.up hj hj0 y5 bB.ks
    ·exact Lib.run_from_unsafe w ⟨g,0,none⟩ bB.up bB.pt hj y5 bB.aMv
  ·exact bh
 ·exact bh
def aAr(hX:X.Okb){M':aW}(hi:KP X e o=true)(h:Gy X e o M=some (x,M')):
 fF X o e M x M'∧∀ids,oX T e o M=some ids->dR ids M M':=by
 unfold Gy at h;split at h
 ·rename_i op t a b u ho;refine⟨?_,λids bA=>by simp [oX,ho]at bA⟩;split at h
  ·rename_i z hz;injection h with h;injection h with h3 h4;subst h3;subst h4;intro rd n w0 S F ρ w act next Q hI hr hn;refine fF.mg (o:=o) (e:=e) (x:=z) (M:=M) (s:=λρe=>(do eqGuard op t a b (ρe a) (ρe b);binOp op t (ρe a) (ρe b))) (gj) (λρe=>jQ) (λ{w0 S F ρ w ρe} hI hr=> ?_) hI hr hn;unfold alm at hz;split at hz
   ·rename_i s1 s2 h1 h2;have r1:=hr a;have r2:=hr b;rw [Wh h1]at r1;rw [Wh h2]at r2;generalize ρe a=va at r1;generalize ρe b=vb at r2;cases r1;cases r2;exact aBl hz a b w
   ·split at hz
    ·rename_i bb hb;injection hz with hz;subst hz;exact⟨_,(af0 hX (op:= .eql) hb (hr a) (hr b) a b).1 rfl,.bool _⟩
    ·rename_i bb hb;injection hz with hz;subst hz;exact⟨_,(af0 hX (op:= .neq) hb (hr a) (hr b) a b).2 rfl,.bool _⟩
    ·cases hz
  ·exact bh
 ·rename_i s d a ho;refine⟨?_,λids bA=>by simp [oX,ho]at bA⟩;split at h
  ·rename_i eM;injection h with h;injection h with h3 h4;subst h3;subst h4;have hty:Ga X s d=true:=by
    unfold KP at hi;simp only [ho]at hi;exact hi
   intro rd n w0 S F ρ w act next Q hI hr hn;refine fF.mg (o:=o) (e:=e) (x:=e a) (M:=M) (s:=λρe=>convert s d (ρe a)) (gj) (λρe=>jQ) (λ{w0 S F ρ w ρe} hI hr=> ?_) hI hr hn;exact⟨_,aA1 hX hty eM hI (hr a),hr a⟩
  ·exact bh
 ·rename_i t a lo hi2 mx ho;split at h
  ·rename_i z hz;injection h with h;injection h with h3 h4;subst h3;subst h4;refine⟨?_,λids bA=>dR.refl _ _⟩;unfold alk at hz;split at hz
   ·rename_i s hs;split at hz
    ·rename_i l hh bB hu e1 e2;split at hz
     ·rename_i hb;injection hz with hz;subst hz;simp only [bS,iY]at hb;obtain⟨⟨b1,b2⟩,b3⟩:=hb;obtain⟨i,d,z,f⟩:=hX.facts bB;have dS:X.P.underlying t=some .string :=by
       have kg:=f.u;rw [hu]at kg;have:=f.jB;cases d<;>simp [mq]at kg
       exact this
      intro rd n w0 S F ρ w act next Q hI hr hn;refine fF.mg (o:=o) (e:=e) (M:=M) (x:= .str ⟨⟨(s.data.toList.take hh.toNat).drop l.toNat⟩⟩) (s:=λρe=>Instr.sliceAt t (ρe a) (lo.map ρe) (hi2.map ρe) none) (gj) (λρe=>jQ) (λ{w0 S F ρ w ρe} hI hr=> ?_) hI hr hn;have r1:=hr a;rw [Wh hs]at r1;generalize ρe a=va at r1;cases r1;exact⟨_,azZ dS s (BN hr lo) (BN hr hi2) e1 e2 b1 b2 b3,.str _⟩
     ·cases hz
    ·cases hz
   ·cases hz
  ·exact bh
 ·rename_i c ho;split at h
  ·rename_i mv;split at h
   ·rename_i a ha;split at h
    ·rename_i id bA;split at h
     ·rename_i t r rs hb;injection h with h;injection h with h3 h4;subst h3;subst h4;rw [eY]at hb;have e2:c.args= #[a]:=Ys;refine⟨fF.mg (s:=λρe=>Builtin.unsafeSliceData_ c.argTypes o.type #[ρe a]) (gj) (λρe=>P3) (λ{w0 S F ρ w ρe} hI hr=> ?_),λids bA=>dR.refl _ _⟩;have r1:=hr a;rw [bA]at r1;generalize ρe a=va at r1;cases r1 with
      |aA _ hd hh=>
       obtain⟨q1,q2,q3⟩:=hI.rep id _ hd hb hh;rcases q3 with⟨_,q4⟩|⟨g,o',c',cur,q3,hg,q4,q5,q6,q7⟩
       ·cases q4
       ·rw [q3];refine⟨.pointer (some ⟨g,o',none⟩),Lib.run_unsafeSliceData_row w _ _ _ _ _ (by simp at q4;omega),?_⟩;have:=aY.ptr (K:=X.K) (F:=F) (w:=w) id 0 0 hd g o' _ _ hh q3;exact se
     ·exact bh
    ·exact bh
   ·exact bh
  ·rename_i mv;split at h
   ·rename_i pt it p n ht ha;split at h
    ·rename_i id m hp hn;split at h
     ·rename_i t xs hb;split at h
      ·rename_i t' bB hu yv;split at h
       ·rename_i hc;split at h
        ·rename_i l hl;injection h with h;injection h with h3 h4;subst h3;subst h4;rw [eY]at hb;simp only [bS]at hc;obtain⟨c1,c2,c3,c4⟩:=hc;have c1:=dE c1;subst c1;have c2:=dE c2;have c3:0<m:=by simpa [Nat.blt_eq]using c3
         have c4:=tL c4;obtain⟨l1,l2⟩:=aem hl;have e1:c.argTypes= #[pt,it]:=by apply tK;simpa using ht
         have e2:c.args= #[p,n]:=Ys;obtain⟨i,d,z,f⟩:=hX.facts bB;obtain⟨i2,d2,z2,f2⟩:=hX.facts yv;have dS:X.P.underlying pt=some (.pointer t'):=akk;have Jo:X.P.cellsOf t'=1:=by
          have h1:=f2.size;rw [c2]at h1;simp [Program.cellsOf,f2.info,<-h1]
         refine⟨fF.tO (s:=λρe=>Builtin.unsafeString_ #[pt,it] o.type #[ρe p,ρe n]) (gj) (λρe=>aih) (λ{w0 S F ρ w ρe} hI hr=> ?_),λids bA=> ?_⟩
         ·have r1:=hr p;have r2:=hr n;rw [hp]at r1;rw [hn]at r2;generalize ρe p=vp at r1;generalize ρe n=vn at r2;cases r2;cases r1 with
          |ptr _ _ _ hd g0 o0 n0 c0 hh hv=>
           obtain⟨q1,q2,q3⟩:=hI.rep id _ hd hb hh;rcases q3 with⟨q3,_⟩|⟨g,o',c',cur,q3,hg,q4,q5,q6,q7⟩
           ·rw [hv]at q3;cases q3
           ·have q3':=q3;rw [hv]at q3';injection q3' with k1 k2 k3;injection k1 with k1;injection k1 with k4 k5 k6;subst k4;subst k5;subst k3;have ei:hd.sz=1:=by
             rw [q1];show(X.K t').length =1;have:(X.K t').length =i2.size:=f2.ks;rw [this,<-f2.size,c2]
            rw [ei]at q6 q7;have hm:m<=xs.length:=by
             have:=(eU.1 (l2 (m- 1) (l[m- 1]'(by omega)) (dz (by omega)))).1;omega
            have y5:w.shape? g0=some (t',cur.size):=by simp [World.shape?,hg]
            have rk:∀j x,l[j]?=some x->w.cell? ((⟨g0,o0,none⟩:Addr).add j)=some (.int .u8 x.toNat):=by
             intro j x hj;obtain⟨v,vH,jE⟩:=q7 j _ (l2 j x hj) 0 _ rfl;cases jE;rw [oS,cell_of_row w g0 (o0+j) cur _ (0,0) hg];simpa using vH
            have dB:=arE (P:=X.P) (w:=w) pt it o.type t' dS Jo g0 o0 cur.size y5 l (λe=>by rw [e]at l1;simp at l1;omega) (by omega) (by omega) rk;have dQ:hd.eC=some g0:=n6;have jm:=aw7 w g0 o0 l.length;have Lj:∀a,F a->a.block≠g0:=(hI.sep id _ hd g0 hb rfl hh dQ).2.2;refine⟨.string ⟨l.toArray⟩,w.freeze ⟨g0,o0,none⟩ l.length,ρ,F,?_,hI.write hb rfl hh dQ jm trivial,⟨λ_ h=>h,λ_ _ h=>h,hI.wV jm (λk hk a ha=>JB)⟩,.str _⟩;rw [<-l1];simpa using dB
         ·simp only [oX,ho,mv]at bA;rw [ha]at bA;simp only [Option.some.injEq]at bA;subst bA;rw [hp];exact dR.set _ _ _
        ·exact bh
       ·exact bh
      ·exact bh
     ·exact bh
    ·exact bh
   ·exact bh
  ·rename_i f mv;split at h
   ·rename_i g hf;split at h
    ·rename_i a eD ha;injection h with h;injection h with h3 h4;subst h3;subst h4;refine⟨?_,λids bA=>dR.refl _ _⟩;unfold isNe at eD;split at eD
     ·cases eD
     ·rename_i u AQ;have hg:=dE eD;subst hg;obtain⟨fn,f1,f2,f3,f4,f5⟩:=(hX.ub u AQ).ne;have e2:c.args= #[a]:=Ys;intro rd n w0 S F ρ w act next Q hI hr hn;have h1:=hr f;rw [hf]at h1;generalize hv:act.eval f=vf at h1;cases h1 with
      |du _ _ _ v1 v2 eZ fP r1 r2=>
       have vH:v1=[]:=by simpa using eZ
       have jE:v2=[]:=by simpa using fP
       subst vH;subst jE;refine zn (gj) (v:=act.eval a) (w':=w) ?_ (hn _ w ρ F hI (Grow.refl _ _ _) (hr a));simp only [execOp,ho,resolve,mv,hv,Deferred.ofValue,fm,ie,gh,invoke,e2];have e1:(#[]:Array Value)++ #[a].map act.eval++ #[]= #[act.eval a]:=by simp
       have h5:=run_callFunc_extern f1 f2 f3 f4 f5 #[act.eval a] w;rw [Lib.run_noEscape,gh]at h5;rw [e1];exact h5
    ·exact bh
   ·exact bh
  ·exact bh
 ·cases h
def fzU(b:UInt8)(k:UInt8->Option R):Option R:=qm b.toNat λn=>k (UInt8.ofNat n)
def aDP(b:UInt8)(k:UInt8->Option R):fzU b k=k b:=by unfold fzU;rw [P8,UInt8.ofNat_toNat]
noncomputable def fzX (x:AV) (k:AV->Option R):Option R:=
 match x with
 | .str s=>rP fzU s.data.toList λl=>k (.str ⟨⟨l⟩⟩)
 |x=>k x
def YR(x:AV)(k:AV->Option R):fzX x k=k x:=by
 unfold fzX;split
 ·rw [sg aDP]
 ·rfl
noncomputable def wK (X:Cx) (T:ia R) (e:Operand->AV) (o:Oper) (M:aW) (k:AV->aW->Option R):Option R:=
 match KP X e o with
 |true=>(match Gy X e o M with|some (x,M')=>fzX x λx=>k x M'|none=>none)
 |false=>pf X T e o M k
noncomputable def rC (X:Cx) (T:ia R) (e:Operand->AV) (o:Oper) (M:aW) (k:AV->aW->Option R):Option R:=
 match X.pk with
 |true=>wK X T e o M k
 |false=>wK X T e o M (Ro e o k)
def XJ(X:Cx)(T:ia R)(e:Operand->AV)(o:Oper)(M:aW)(k:AV->aW->Option R):rC X T e o M k=wK X T e o M k:=by
 unfold rC;split
 ·rfl
 ·rw [show Ro e o k=k from funext λx=>funext λM=>aCJ e o k x M]
def azx(hX:X.Okb)(hT:T.nX X)(h:wK X T e o M k=some r):
 ∃x M',fF X o e M x M'∧k x M'=some r∧∀ids,oX T e o M=some ids->dR ids M M':=by
 unfold wK at h;split at h
 ·rename_i hi;split at h
  ·rename_i x M' hx;rw [YR]at h;obtain⟨h1,h2⟩:=aAr (T:=T) hX hi hx;exact⟨x,M',@h1,h,h2⟩
  ·exact bh
 ·exact aez hX hT h
def Ip(hX:X.Okb)(hT:T.nX X)(h:rC X T e o M k=some r):
 ∃x M',fF X o e M x M'∧k x M'=some r∧∀ids,oX T e o M=some ids->dR ids M M':=azx hX hT (by rwa [XJ]at h)
end
end Go.az
namespace Go.az
def aiq{p:Prop}(h:p:=by
 intro a v e hc;subst e;simp [World.cell?,h]at hc):p:=h
end Go.az
namespace Go.az
open Go
noncomputable section
variable {X:Cx} {R:Type}
variable{D:Nat}{w:World}
def less(F:bT)(D:Nat)(a:Addr):Prop:=F a∧a.block≠D
def aY.shrink{K:TypeId->dZ}{ρ:bY}{F:bT}(hD:∀a v,a.block=D->w.cell? a≠some v){x:AV}{v:Value}(h:aY K ρ F w x v):aY K ρ (less F D) w x v:=by
 induction h with
 |top v=>exact .top v
 |int k n=>exact .int k n
 |bool b=>exact .bool b
 |str s=>exact .str s
 |agg cs vs hl _ ih=>exact .agg cs vs hl ih
 |ep cs vs hl _ ih=>exact .ep cs vs hl ih
 |iw=>exact .iw
 |ij t row off a vs hk hl hc _ ih=>exact .ij t row off a vs hk hl (λj v hv=>⟨(hc j v hv).1,(hc j v hv).2,λe=>hD _ v e (hc j v hv).1⟩) ih
 |ptr id i off hd g o n c bA hv=>exact .ptr id i off hd g o n c bA hv
 |kj t=>exact .kj t
 |ab t xs a cap vss hl lj jT hk hc _ ih=>
  exact .ab t xs a cap vss hl lj jT hk (λi vs fo=>⟨(hc i vs fo).1,λj v hv=>⟨((hc i vs fo).2 j v hv).1,((hc i vs fo).2 j v hv).2,λe=>hD _ v e ((hc i vs fo).2 j v hv).1⟩⟩) ih
 |aA id hd bA=>exact .aA id hd bA
 |gE=>exact .gE
 |du f first fG vf vc hf hc _ _ kn fb=>exact .du f first fG vf vc hf hc kn fb
 |jP=>exact .jP
 |ik id hd g bA hv=>exact .ik id hd g bA hv
 |mp id hd bA=>exact .mp id hd bA
 |lG=>exact .lG
 |kU id m hd g o n c cap bA hv=>exact .kU id m hd g o n c cap bA hv
 |vw id lo m hd g o n c cap bA hv hc hb=>exact .vw id lo m hd g o n c cap bA hv hc hb
 |sK id lo=>exact .sK id lo
 |sJ id lo a cap=>exact .sJ id lo a cap
 |jF a cap=>exact .jF a cap
def HJ{lp:Loop}(h:w.heap[D]?=some (.loop lp)):∀(a:Addr) v,a.block=D->w.cell? a≠some v:=aiq
def asr{ds:Option (List Deferred)}(h:w.heap[D]?=some (.deferred ds)):∀(a:Addr) v,a.block=D->w.cell? a≠some v:=aiq
def azT{o:Obj}{a:Addr}(h:a.block≠D):(w.putObj D o).cell? a=w.cell? a:=by
 unfold World.cell?;rw [re h]
def aY.less{K:TypeId->dZ}{ρ:bY}{F:bT}{w:World}{D:Nat}(hD:∀a v,a.block=D->w.cell? a≠some v)(o:Obj){x:AV}{v:Value}(h:aY K ρ F w x v):aY K ρ (less F D) (w.putObj D o) x v:=
 (h.shrink hD).mono (λ_ _ h=>h) (λ_ h=>h) (λa v ha hc=>by rw [azT ha.2];exact hc)
def iU.less{ρ:bY}{F:bT}{w:World}{D:Nat}(hD:∀a v,a.block=D->w.cell? a≠some v)(o:Obj){env:cV}{tmps:Array Value}(h:iU X ρ F w env tmps):iU X ρ (less F D) (w.putObj D o) env tmps:=
 λt=>(h t).less hD o
def jV.less{ρ:bY}{F:bT}{w:World}{D:Nat}(hD:∀a v,a.block=D->w.cell? a≠some v)(o:Obj){hd:Hd}{b:ed}(eD:b.iB=false->∀g,hd.eC=some g->g≠D)(h:jV X ρ F w hd b):jV X ρ (less F D) (w.putObj D o) hd b:=by
 cases b with
 |var ks cs=>
  obtain⟨h1,h2,g,cur,e,hv,hh,hr,hy⟩:=h;exact⟨h1,h2,g,cur,e,hv,by rw [re (eD rfl g (n6))];exact hh,⟨hr.1,λj x v hx hv=>(hr.2 j x v hx hv).less hD o⟩,hy⟩
 |row t xs=>
  obtain⟨h1,h2,h3⟩:=h;refine⟨h1,h2,?_⟩;rcases h3 with h3|⟨g,of,c,cur,hv,hh,h4,h5,h6,h7⟩
  ·exact .inl h3
  ·refine .inr ⟨g,of,c,cur,hv,by rw [re (eD rfl g (n6))];exact hh,h4,h5,h6,λi row hi j x hx=> ?_⟩;obtain⟨v,kr,hr⟩:=h7 i row hi j x hx;exact⟨v,kr,hr.less hD o⟩
 |map kd ag ks es=>
  obtain⟨nu,g,mes,clock,hv,hh,ei,uw⟩:=h;exact⟨nu,g,mes,clock,hv,by rw [re (eD rfl g (n6))];exact hh,ei,λi e me he hm=>let⟨a,r1,r2⟩:=uw i e me he hm;⟨a,r1.less hD o,r2.less hD o⟩⟩
 |loop s env busy wQ=>
  obtain⟨g,lp,hv,hh,h1,h2,h3,h4,h5,h6⟩:=h;exact⟨g,lp,hv,by rw [re (eD rfl g (n6))];exact hh,h1,h2,h3,h4,h5.less hD o,h6⟩
 |G9=>
  obtain⟨g,hv,hh⟩:=h;exact⟨g,hv,by rw [re (eD rfl g (n6))];exact hh⟩
 |eN t xs=>exact aY.less (K:=X.K) hD o h
 |dead=>trivial
def Inv.NS{w0 w:World}{S:Sc}{F:bT}{ρ:bY}{M:aW}(hI:Inv X w0 S F ρ M w){D:Nat}(hF:F ⟨D,0,none⟩)(hD:∀a v,a.block=D->w.cell? a≠some v)(hN:∀a,S.F0 a->a.block≠D)(o:Obj):
 Inv X w0 S (less F D) ρ M (w.putObj D o) where
 os:=hI.os
 tape:=hI.tape
 output:=hI.output
 size:=by simpa using hI.size
 frame:=λg h1 h2=>by
  have eD:g≠D:=by
   rintro rfl;rcases hI.fV _ hF with h|h|h
   ·exact hN _ h rfl
   ·exact h2 h
   ·simp only at h;omega
  rw [re eD];exact hI.frame g h1 h2
 len:=hI.len
 rep:=λid b hd hb hh=>(hI.rep id b hd hb hh).less hD o (λeK g dQ e=>(hI.sep id b hd g hb eK hh dQ).2.2 _ hF e.symm)
 sep:=λid b hd g hb eK hh dQ=>let⟨a1,a2,a3⟩:=hI.sep id b hd g hb eK hh dQ;⟨by simpa using a1,a2,λa ha=>a3 a ha.1⟩
 iN:=hI.iN
 fz:=λa ha=>by simpa using hI.fz a ha.1
 fT:=λg=>(hI.fT g).less hD o
 one:=hI.one
 fV:=λa ha=>hI.fV a ha.1
 fin:=λa ha=>⟨hI.fin a ha,hN a ha⟩
def Inv.aDh{w0 w:World}{S:Sc}{F:bT}{ρ:bY}{M:aW}(hI:Inv X w0 S F ρ M w){id:Nat}{b:ed}{hd:Hd}{g:Nat}(lK:M[id]?=some .dead)(hh:ρ[id]?=some hd)(dQ:hd.eC=some g)
 (h1:g<w.heap.size) (h2:S g∨w0.heap.size<=g) (h3:∀a,F a->a.block≠g) (h4:∀(id':Nat) b' dC,M[id']?=some b'->b'.iB=false->ρ[id']?=some dC->dC.eC≠some g) (jI:jV X ρ F w hd b):
 Inv X w0 S F ρ (M.set id b) w where
 os:=hI.os
 tape:=hI.tape
 output:=hI.output
 size:=hI.size
 frame:=hI.frame
 len:=by simp [hI.len]
 rep:=λi b' dC hb eo=>by
  rw [zu]at hb;split at hb
  ·rename_i e;subst e;split at hb
   ·injection hb with hb;subst hb;rw [hh]at eo;injection eo with eo;subst eo;exact jI
   ·cases hb
  ·exact hI.rep i b' dC hb eo
 sep:=λi b' dC g' hb eK eo kQ=>by
  rw [zu]at hb;split at hb
  ·rename_i e;subst e;rw [hh]at eo;injection eo with eo;subst eo;rw [dQ]at kQ;injection kQ with e;subst e;exact⟨h1,h2,h3⟩
  ·exact hI.sep i b' dC g' hb eK eo kQ
 iN:=λi j b1 b2 tc lV g' qj vQ jq anR anQ uu uq vO lv=>by
  rw [zu]at vQ jq;split at vQ
  ·rename_i e;subst e;rw [if_neg qj]at jq;rw [hh]at uu;injection uu with uu;subst uu;rw [dQ]at vO;injection vO with e;subst e;exact h4 j b2 lV jq anQ uq lv
  ·split at jq
   ·rename_i e;subst e;rw [hh]at uq;injection uq with uq;subst uq;rw [dQ]at lv;injection lv with e;subst e;exact h4 i b1 tc vQ anR uu vO
   ·exact hI.iN i j b1 b2 tc lV g' qj vQ jq anR anQ uu uq vO lv
 fz:=hI.fz
 fT:=hI.fT
 one:=hI.one
 fV:=hI.fV
 fin:=hI.fin
end
end Go.az
namespace Go.az
def Yj{p:Prop}(h:p:=by simp [Act.put,oV,OC eD]):p:=h
end Go.az
namespace Go.az
def v8:=@List.nodup_nil
def Oz:=@List.map_map
def zv:=@Option.bind_some
def WZ:=@beq_self_eq_true
end Go.az
namespace Go.az
open Go
noncomputable section
variable {X:Cx} {R:Type}
variable{x:AV}{a:Act}{ops:Array Oper}{tmps:Array Value}{d j:Nat}{nt:Nt}{o:Oper}{r:R}{v:Value}{w w':World}{F F' db:bT}{ρ:bY}
inductive Rd where
 |out
 |sM
 |at(id:Nat)
 deriving Inhabited,DecidableEq
structure Cy where
 r:Option Nat
 db:bT
 tv:Nat->Value
structure St where
 env:cV
 mem:aW
 iF:dI
 rd:Rd
variable{st bl stg:St}{k:St->Option R}
def Marks(F:bT)(w:World)(db:bT)(ds:List Deferred):Prop:=
 (∀a,db a->F a)∧∃ms:dI,ds=ms.map (λD=>({target:= .collected D,args:= #[]}:Deferred))∧ms.Nodup∧∀D∈ms,(∀a,db a->a.block≠D)∧F ⟨D,0,none⟩∧w.heap[D]?=some (.deferred (some []))
def Qd(F:bT)(w:World)(db:bT):dI->List Deferred->Prop
 | [],ds=>Marks F w db ds
 |_::_,_=>False
def JO(F:bT)(w:World)(rdc:Option Nat):Prop:=rdc=none∨∃g r,rdc=some g∧F ⟨g,0,none⟩∧w.heap[g]?=some (.loop r)
def Marks.nil(F:bT)(w:World)(h:∀a,db a->F a):Marks F w db []:=⟨h,[],rfl,v8,λ_ h=>gM⟩
def Marks.mono(hF:∀a,F a->F' a)(hb:∀a,F a->w'.heap[a.block]?=w.heap[a.block]?){ds:List Deferred}(h:Marks F w db ds):Marks F' w' db ds:=by
 obtain⟨h0,ms,h1,h2,h3⟩:=h;exact⟨λa ha=>hF _ (h0 a ha),ms,h1,h2,λD hD=>⟨(h3 D hD).1,hF _ (h3 D hD).2.1,(hb _ (h3 D hD).2.1).trans (h3 D hD).2.2⟩⟩
def Qd.mono{F F':bT}{w w':World}{db:bT}(hF:∀a,F a->F' a)(hb:∀a,F a->w'.heap[a.block]?=w.heap[a.block]?):∀{ids:dI} {ds:List Deferred},Qd F w db ids ds->Qd F' w' db ids ds
 | [],_,hd=>Marks.mono hF hb hd
def JO.mono(hF:∀a,F a->F' a)(hb:∀a,F a->w'.heap[a.block]?=w.heap[a.block]?){rdc:Option Nat}(hr:JO F w rdc):JO F' w' rdc:=by
 rcases hr with h|⟨g,r,h1,h2,h3⟩
 ·exact .inl h
 ·exact .inr ⟨g,r,h1,hF _ h2,(hb _ h2).trans h3⟩
structure gg(X:Cx)(nt:Nt)(st:St)(rdc:Cy)(F:bT)(ρ:bY)(a:Act)(w:World):Prop where
 env:iU X ρ F w st.env a.tmps
 size:a.tmps.size=nt.n
 defs:Qd F w rdc.db st.iF a.defers
 rd:JO F w rdc.r
 kept:∀t,nt.mask.testBit t=false->a.tmps.getD t undef=rdc.tv t
def gg.grow{nt:Nt}{st:St}{rdc:Cy}{F F':bT}{ρ ρ':bY}{a:Act}{w w':World}(h:gg X nt st rdc F ρ a w)(g:Grow F F' ρ ρ' w w'):gg X nt st rdc F' ρ' a w':=
 ⟨h.env.grow g,h.size,h.defs.mono g.hF g.hb,h.rd.mono g.hF g.hb,h.kept⟩
def pS(X:Cx)(nt:Nt)(c:Code)(st:St)(e:Exit)(bl:St):Prop:=
 ∀{rdc:Cy} {n:Nat} {w0:World} {S:Sc} {F:bT} {ρ:bY} {a:Act} {w:World} {Q:Exit->Act->World->Prop},Inv X w0 S F ρ st.mem w->gg X nt st rdc F ρ a w->
  (∀a' w' F' ρ',Inv X w0 S F' ρ' bl.mem w'->gg X nt bl rdc F' ρ' a' w'->Grow F F' ρ ρ' w w'->Q e a' w')->c.wpIn (kY rdc.r) n X.P Q a w
def lO(nt:Nt)(st:St)(dst:Option Tmp)(x:AV)(M:aW)(k:St->Option R):Option R:=
 match dst with
 |none=>k {st with mem:=M}
 |some d=>aP (Nat.blt d nt.n&&nt.mask.testBit d) (k {st with env:=(d,x)::st.env,mem:=M})
def iU.put{env:cV}(h:iU X ρ F w env tmps)(hd:d<tmps.size)(hx:aY X.K ρ F w x v):
 iU X ρ F w ((d,x)::env) (tmps.setIfInBounds d v):=by
 intro t;simp only [pN,look_nil]
 by_cases ht:t=d
 ·subst ht;simp only [WZ,ow];have:(tmps.setIfInBounds t v).getD t undef=v:=by simp [oV,hd]
  rw [this];exact hx
 ·have:(t==d)=false:=by simpa using ht
  simp only [this,lg,ng];have e:(tmps.setIfInBounds d v).getD t undef=tmps.getD t undef:=by simp [oV,OC (Ne.symm ht)]
  rw [e];exact h t
def agd{mask:Nat}(hd:mask.testBit d=true){tv:Nat->Value}(h:∀t,mask.testBit t=false->a.tmps.getD t undef=tv t):∀t,mask.testBit t=false->(a.put (some d) v).tmps.getD t undef=tv t:=by
 intro t ht;have eD:d≠t:=λe=>by subst e;rw [hd]at ht;cases ht
 rw [<-h t ht];exact Yj
def N6{dst:Option Tmp}{M:aW}(hk:lO nt st dst x M k=some r):
 ∃bl,k bl=some r∧bl.mem=M∧∀{rdc:Cy} {F:bT} {ρ:bY} {a:Act} {w:World} {v:Value},gg X nt st rdc F ρ a w->aY X.K ρ F w x v->gg X nt bl rdc F ρ (a.put dst v) w:=by
 unfold lO at hk;cases dst with
 |none=>exact⟨_,hk,rfl,λ{rdc F ρ a w v} h _=>⟨h.env,h.size,h.defs,h.rd,h.kept⟩⟩
 |some d=>
  replace hk:=di hk;obtain⟨hd,hk⟩:=hk;refine⟨_,hk,rfl,λ{rdc F ρ a w v} h hx=>⟨h.env.put (by rw [h.size];simp only [bS]at hd;simpa using hd.1) hx,by simp [Act.put,h.size],h.defs,h.rd,agd (by simp only [bS]at hd;exact hd.2) h.kept⟩⟩
def zX(ops:Array Oper)(j:Nat):Option Nat:=(ops[j]?).bind (·.dst)
def qy(X:Cx)(T:ia R)(ops:Array Oper):List Oper->St->(St->Option R)->Option R
 | [],st,k=>k st
 |o::rest,st,k=>
  match o.guard with
  |none=>rC X T (ku X st.env) o st.mem λx M=>lO T.nt st o.dst x M λbl=>qy X T ops rest bl k
  |some (j,want)=>
   match zX ops j with
   |none=>none
   |some d=>
    match look st.env d with
    | .bool b=>
      match b with
      |true=>match want with
       |true=>rC X T (ku X ((d,.bool true)::st.env)) o st.mem λx M=>lO T.nt {st with env:=(d,.bool true)::st.env} o.dst x M λbl=>qy X T ops rest bl k
       |false=>lO T.nt {st with env:=(d,.bool true)::st.env} o.dst (.ep []) st.mem λbl=>qy X T ops rest bl k
      |false=>match want with
       |false=>rC X T (ku X ((d,.bool false)::st.env)) o st.mem λx M=>lO T.nt {st with env:=(d,.bool false)::st.env} o.dst x M λbl=>qy X T ops rest bl k
       |true=>lO T.nt {st with env:=(d,.bool false)::st.env} o.dst (.ep []) st.mem λbl=>qy X T ops rest bl k
    | .ep []=>lO T.nt st o.dst (.ep []) st.mem λbl=>qy X T ops rest bl k
    |_=>none
def WB{K:TypeId->dZ}:aY K ρ F w (.ep []) undef:= .ep [] [] rfl (λj x v h _=>gM)
def aeN(hd:zX ops j=some d){b:Bool}(h:tmps.getD d undef= .bool b):yielded ops tmps j=some b:=by
 unfold yielded;unfold zX at hd;rw [hd];simp only [zv];rw [oV]at h;cases ht:tmps[d]? with
 |none=>rw [ht]at h;simp [undef]at h
 |some v=>rw [ht]at h;simp only [oR]at h;rw [h]
def adH(hd:zX ops j=some d)(h:tmps.getD d undef=undef):yielded ops tmps j=none:=by
 unfold yielded;unfold zX at hd;rw [hd];simp only [zv];rw [oV]at h;cases ht:tmps[d]? with
 |none=>rfl
 |some v=>rw [ht]at h;simp only [oR]at h;rw [h];rfl
def axD{rdc:Cy}{n:Nat}{Q:Exit->Act->World->Prop}{i:Nat}{rest:dI}(ho:ops[i]?=some o)
 (h:wpOpIn (kY rdc.r) n X.P ops Q i (wpOpsIn (kY rdc.r) n X.P ops Q rest) a w):wpOpsIn (kY rdc.r) n X.P ops Q (i::rest) a w:=by
 rw [wpOpsIn_cons];exact h
def IU(X:Cx)(nt:Nt)(ops:Array Oper)(o:Oper)(st bl:St):Prop:=
 ∀{rdc:Cy} {n:Nat} {w0:World} {S:Sc} {F:bT} {ρ:bY} {a:Act} {w:World} {Q:Exit->Act->World->Prop} {K:Act->World->Prop},Inv X w0 S F ρ st.mem w->gg X nt st rdc F ρ a w->
  (∀a' w' F' ρ',Inv X w0 S F' ρ' bl.mem w'->gg X nt bl rdc F' ρ' a' w'->Grow F F' ρ ρ' w w'->K a' w')->
  ∀i,ops[i]?=some o->wpOpIn (kY rdc.r) n X.P ops Q i K a w
def agL{M':aW}(K7:fF X o (ku X stg.env) st.mem x M')
 (hg:∀{rdc:Cy} {F:bT} {ρ:bY} {a:Act} {w:World},gg X nt st rdc F ρ a w->gg X nt stg rdc F ρ a w∧Region.wanted o (yielded ops a.tmps)=true)
 (hm:bl.mem=M') (hp:∀{rdc:Cy} {F:bT} {ρ:bY} {a:Act} {w:World} {v:Value},gg X nt stg rdc F ρ a w->aY X.K ρ F w x v->gg X nt bl rdc F ρ (a.put o.dst v) w):IU X nt ops o st bl:=by
 intro rdc n w0 S F ρ a w Q K hI hs hk i hi;obtain⟨dm,hw⟩:=hg hs;unfold wpOpIn;simp only [hi,hw,ow];refine K7 hI (λy=>zH hI dm.env y) ?_;intro v w' ρ' F' dG jm hx;exact hk _ w' F' ρ' (hm▸dG) (hp (dm.grow jm) hx) jm
def af5
 (hg:∀{rdc:Cy} {F:bT} {ρ:bY} {a:Act} {w:World},gg X nt st rdc F ρ a w->gg X nt stg rdc F ρ a w∧Region.wanted o (yielded ops a.tmps)=false)
 (hm:bl.mem=st.mem) (hp:∀{rdc:Cy} {F:bT} {ρ:bY} {a:Act} {w:World} {v:Value},gg X nt stg rdc F ρ a w->aY X.K ρ F w (.ep []) v->gg X nt bl rdc F ρ (a.put o.dst v) w):IU X nt ops o st bl:=by
 intro rdc n w0 S F ρ a w Q K hI hs hk i hi;obtain⟨dm,hw⟩:=hg hs;unfold wpOpIn;simp only [hi,hw,lg,ng];exact⟨λ_ _=>trivial,hk _ w F ρ (hm▸hI) (hp dm WB) (Grow.refl _ _ _)⟩
def VZ(h:o.guard=none)(y:Nat->Option Bool):Region.wanted o y=true:=by unfold Region.wanted;rw [h]
def H8{want:Bool}(h:o.guard=some (j,want))(y:Nat->Option Bool):Region.wanted o y=(y j==some want):=by unfold Region.wanted;rw [h]
def gg.refine{nt:Nt}{st:St}{rdc:Cy}{F:bT}{ρ:bY}{a:Act}{w:World}(h:gg X nt st rdc F ρ a w){d:Nat}{x:AV}(hx:look st.env d=x):gg X nt {st with env:=(d,x)::st.env} rdc F ρ a w:=by
 refine⟨λt=> ?_,h.size,h.defs,h.rd,h.kept⟩;simp only [pN,look_nil]
 by_cases ht:t=d
 ·subst ht;simp only [WZ,ow];rw [<-hx];exact h.env t
 ·have:(t==d)=false:=by simpa using ht
  simp only [this,lg,ng];exact h.env t
def az9(hX:X.Okb){T:ia R}(hT:T.nX X){rest:List Oper}(h:qy X T ops (o::rest) st k=some r):
 ∃bl,IU X T.nt ops o st bl∧qy X T ops rest bl k=some r:=by
 simp only [qy]at h;split at h
 ·rename_i Lh;obtain⟨x,M',K7,h,_⟩:=Ip hX hT h;obtain⟨bl,h,hm,hp⟩:=N6 (X:=X) h;exact⟨bl,agL (stg:=st) K7 (λ{rdc F ρ a w} hs=>⟨hs,VZ Lh _⟩) hm hp,h⟩
 ·rename_i j want Lh;split at h
  ·exact bh
  ·rename_i d hd;have aj2:∀{b:Bool},look st.env d= .bool b->∀{rdc:Cy} {F:bT} {ρ:bY} {a:Act} {w:World},gg X T.nt st rdc F ρ a w->yielded ops a.tmps j=some b:=by
    intro b hb rdc F ρ a w hs;have:=hs.env d;rw [hb]at this;generalize hv:a.tmps.getD d undef=v at this;cases this;exact aeN hd hv
   have run:∀(b:Bool),look st.env d= .bool b->want=b->(rC X T (ku X ((d,.bool b)::st.env)) o st.mem λx M=>lO T.nt {st with env:=(d,.bool b)::st.env} o.dst x M λbl=>qy X T ops rest bl k)=some r->
    ∃bl,IU X T.nt ops o st bl∧qy X T ops rest bl k=some r:=by
    intro b hb KT h;obtain⟨x,M',K7,h,_⟩:=Ip hX hT h;obtain⟨bl,h,hm,hp⟩:=N6 (X:=X) h;refine⟨bl,agL (stg:={st with env:=(d,.bool b)::st.env}) K7 (λ{rdc F ρ a w} hs=>⟨hs.refine hb,?_⟩) hm hp,h⟩;rw [H8 Lh,aj2 hb hs,KT];simp
   have skip:∀(b:Bool),look st.env d= .bool b->want≠b->(lO T.nt {st with env:=(d,.bool b)::st.env} o.dst (.ep []) st.mem λbl=>qy X T ops rest bl k)=some r->
    ∃bl,IU X T.nt ops o st bl∧qy X T ops rest bl k=some r:=by
    intro b hb KT h;obtain⟨bl,h,hm,hp⟩:=N6 (X:=X) h;refine⟨bl,af5 (stg:={st with env:=(d,.bool b)::st.env}) (λ{rdc F ρ a w} hs=>⟨hs.refine hb,?_⟩) hm hp,h⟩;rw [H8 Lh,aj2 hb hs];simp only [beq_eq_false_iff_ne,ne_eq,Option.some.injEq];exact λe=>KT e.symm
   split at h
   ·rename_i b hb;split at h
    ·split at h
     ·exact run true hb rfl h
     ·exact skip true hb (by simp) h
    ·split at h
     ·exact run false hb rfl h
     ·exact skip false hb (by simp) h
   ·rename_i hb;obtain⟨bl,h,hm,hp⟩:=N6 (X:=X) h;refine⟨bl,af5 (stg:=st) (λ{rdc F ρ a w} hs=>⟨hs,?_⟩) hm hp,h⟩;have:=hs.env d;rw [hb]at this;generalize hv:a.tmps.getD d undef=v at this;have hu:v=undef:=by
     cases this with
     |ep _ vs hl _=>have:vs=[]:=BL (oZ);subst this;rfl
    rw [H8 Lh,adH hd (hv.trans hu)];simp
   ·exact bh
def aey(hX:X.Okb){T:ia R}(hT:T.nX X){ops:Array Oper}:∀(rest:List Oper) (m:Nat) {st:St} {k:St->Option R} {r:R},(∀(i:Nat),rest[i]?=ops[m+i]?)->qy X T ops rest st k=some r->
 ∃bl,k bl=some r∧∀{rdc:Cy} {n:Nat} {w0:World} {S:Sc} {F:bT} {ρ:bY} {a:Act} {w:World} {Q:Exit->Act->World->Prop},Inv X w0 S F ρ st.mem w->gg X T.nt st rdc F ρ a w->
  (∀a' w' F' ρ',Inv X w0 S F' ρ' bl.mem w'->gg X T.nt bl rdc F' ρ' a' w'->Grow F F' ρ ρ' w w'->Q .normal a' w')->wpOpsIn (kY rdc.r) n X.P ops Q ((List.range rest.length).map (m+ ·)) a w
 | [],m,st,k,r,_,h=>⟨st,h,λ{rdc n w0 S F ρ a w Q} hI hs hq=>hq a w F ρ hI hs (Grow.refl _ _ _)⟩
 |o::rest,m,st,k,r,hr,h=>by
  obtain⟨cY,h1,h⟩:=az9 hX hT h;obtain⟨ke,h,h2⟩:=aey hX hT rest (m+1) (λi=>by have:=hr (i+1);rw [show m+1+i=m+(i+1)by omega];simpa using this) h;refine⟨ke,h,λ{rdc n w0 S F ρ a w Q} hI hs hq=> ?_⟩;have ho:ops[m]?=some o:=by have:=hr 0;simpa using this.symm
  have hl:(List.range (o::rest).length).map (m+ ·)=m::(List.range rest.length).map ((m+1)+ ·):=by
   rw [nc,List.range_succ_eq_map,nf,Oz]
   congr 1
   apply List.map_congr_left;intro i _;exact eh
  rw [hl];refine axD ho (h1 hI hs ?_ m ho);intro a' w' F' ρ' dG dm hg;exact h2 dG dm (λDN p8 tu sw CY CU Kd=>hq DN p8 tu sw CY CU (hg.trans Kd))
end
end Go.az

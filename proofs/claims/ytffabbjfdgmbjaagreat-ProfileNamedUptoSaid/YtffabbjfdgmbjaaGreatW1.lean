/-
  The engine, part Lb: copy, clear.
-/
import Derived.RangeFuncRecord
import Derived.WalkKit
import Derived.Below
import Derived.DataElems
import Derived.ChangeKeysEq
import Derived.Laws.StructEq
import Derived.WalkSpells
import Derived.MapKept
set_option linter.all false
set_option linter.deprecated false
set_option maxHeartbeats 4000000
namespace Go.ah
def jY{p:Prop}(h:p:=by simp at h):p:=h
def sY{p:Prop}(h:p:=by simpa using hl):p:=h
def O1{p:Prop}(h:p:=by have:=(dX.1 hx).1;omega):p:=h
def G3{p:Prop}(h:p:=by simp [dq]at h):p:=h
def Kw{p:Prop}(h:p:=by simpa using hk):p:=h
def Kv{p:Prop}(h:p:=by simpa using hx):p:=h
def aeL{p:Prop}(h:p:=by have:=(dX.1 hy).1;omega):p:=h
def OP{p:Prop}(h:p:=by simp at h;subst h;simp):p:=h
end Go.ah
namespace Go.ah
def dX:=@List.getElem?_eq_some_iff
def bA:=@Bool.and_eq_true
def cY:=@List.getElem_mem
def c8:=@List.getElem?_eq_getElem
def Uq:=@List.eq_of_mem_replicate
def ov:=@List.mem_flatMap
end Go.ah
namespace Go.ah
open Go
variable{F:Addr->Prop}{v:Value}{w:World}
inductive Kind where
 |int(k:IntKind)
 |bool
 |str
 |slice(t:TypeId)
 |raw
 |any
 deriving DecidableEq,Inhabited
variable{k:Kind}{ks:List Kind}
inductive AV where
 |top
 |int(k:IntKind)(n:Int)
 |bool(b:Bool)
 |str(s:ByteArray)
 |agg(cs:List AV)
 |gw(vs:List AV)
 |oI
 |iO(t:TypeId)(row:List AV)(off:Nat)
 |ptr(id i off:Nat)
 |aj(t:TypeId)(xs:List (List AV))
 |ak(id:Nat)
 |jX
 |gM(f:FuncId)(first iP:List AV)
 |oE
 |lM(id:Nat)
 |mp(id:Nat)
 |qW
 |p8(id n:Nat)
 |vw(id lo n:Nat)
 |oh
 |sub(t:TypeId)(xs:List (List AV))
 deriving Inhabited
variable{x:AV}
abbrev Row:=List AV
variable{row:Row}
def AV.toI:AV->Int| .int _ n=>n|_=>0
def AV.toB:AV->Bool| .bool b=>b|_=>false
def AV.toS:AV->ByteArray| .str s=>s|_=>ByteArray.empty
def AV.rows:AV->List Row| .aj _ xs=>xs| .sub _ xs=>xs|_=>[]
def AV.cells:AV->List AV| .agg cs=>cs|x=>[x]
def AV.pure:AV->Bool| .int _ _| .bool _| .str _| .oI | .iO _ _ _| .aj _ _| .jX | .oE | .qW | .oh | .gM _ [] []=>true|_=>false
def AV.vlo:AV->Nat| .vw _ lo _=>lo|_=>0
def AV.vn:AV->Nat| .vw _ _ n=>n|_=>0
def AV.plain:AV->Bool| .top | .gw _=>false|_=>true
def AV.leaf:AV->Bool| .agg _| .gw _| .top =>false|_=>true
def AV.shape:Bool->AV->Bool|true,.agg _=>true|false,x=>x.leaf|_,_=>false
def js:Kind->AV->Bool
 | .int k,.int k' _=>k==k'
 | .bool,.bool _=>true
 | .str,.str _=>true
 | .slice t,.aj t' _=>t==t'
 | .raw,x=>x.leaf&&x.pure
 | .any,x=>x.leaf
 |_,_=>false
def ld:Kind->AV->AV
 | .int k,x=> .int k x.toI
 | .bool,x=> .bool x.toB
 | .str,x=> .str x.toS
 | .slice t,x=> .aj t x.rows
 | .raw,x=>x
 | .any,x=>x
def GD(h:js k x=true):ld k x=x:=by
 cases k<;>cases x<;>simp_all [js,ld,AV.toI,AV.toB,AV.toS,AV.rows]
def abU(h:js k x=true):x.leaf=true:=by
 cases k<;>cases x<;>simp_all [js,AV.leaf]
def dq:List Kind->Row->Bool
 | [],[]=>true
 |k::ks,x::xs=>js k x&&dq ks xs
 |_,_=>false
def JM(hk:k≠ .any)(h:js k x=true):x.pure=true:=by
 cases k<;>cases x<;>simp_all [js,AV.leaf,AV.pure]
def lQ:∀{ks:List Kind} {row:Row},dq ks row=true->row.length=ks.length
 | [],[],_=>rfl
 | [],_::_,h=>G3
 |_::_,[],h=>G3
 |k::ks,x::xs,h=>by
  simp only [dq,bA]at h;simp [lQ h.2]
def wN:∀{ks:List Kind} {row:Row},dq ks row=true->∀{j:Nat} {k:Kind} {x:AV},ks[j]?=some k->row[j]?=some x->js k x=true
 | [],[],_,j,k,x,h,_=>jY
 | [],_::_,h,_,_,_,_,_=>G3
 |_::_,[],h,_,_,_,_,_=>G3
 |k::ks,x::xs,h,j,k',x',hk,hx=>by
  simp only [dq,bA]at h;cases j with
  |zero=>simp at hk hx;subst hk;subst hx;exact h.1
  |succ j=>simp at hk hx;exact wN h.2 hk hx
def acy(h:dq ks row=true){j:Nat}(hx:row[j]?=some x):x.leaf=true:=by
 have hl:=lQ h;have hj:j<ks.length:=O1;exact abU (wN h (c8 hj) hx)
def Ov(hl:row.length=ks.length)(h:∀(j:Nat) (k:Kind) (x:AV),ks[j]?=some k->row[j]?=some x->js k x=true):dq ks row=true:=by
 induction ks generalizing row with
 |nil=>cases row with|nil=>rfl|cons x xs=>simp at hl
 |cons k ks ih=>
  cases row with
  |nil=>simp at hl
  |cons x xs=>
   simp only [dq,bA];exact⟨h 0 k x rfl rfl,ih (sY) λj k' x' hk hx=>h (j+1) k' x' (Kw) (Kv)⟩
structure Hd where
 v:Value
 sz:Nat
variable{ρ ρ':List Hd}
def Value.dE:Value->Option Nat
 | .slice (some a) _ _=>some a.block
 | .map (some g)=>some g
 | .pointer (some a)=>some a.block
 |_=>none
def Hd.dE(h:Hd):Option Nat:=Value.dE h.v
inductive aR(K:TypeId->List Kind)(ρ:List Hd)(F:Addr->Prop)(w:World):AV->Value->Prop
 |top(v:Value):aR K ρ F w .top v
 |int(k:IntKind)(n:Int):aR K ρ F w (.int k n) (.int k n)
 |bool(b:Bool):aR K ρ F w (.bool b) (.bool b)
 |str(s:ByteArray):aR K ρ F w (.str s) (.string s)
 |agg(cs:List AV)(vs:List Value)(hl:vs.length=cs.length)(h:∀(j:Nat) x v,cs[j]?=some x->vs[j]?=some v->aR K ρ F w x v):aR K ρ F w (.agg cs) (.agg vs.toArray)
 |gw(cs:List AV)(vs:List Value)(hl:vs.length=cs.length)(h:∀(j:Nat) x v,cs[j]?=some x->vs[j]?=some v->aR K ρ F w x v):aR K ρ F w (.gw cs) (.tuple vs.toArray)
 |oI:aR K ρ F w .oI (.pointer none)
 |iO(t:TypeId)(row:Row)(off:Nat)(a:Addr)(vs:List Value)(hk:dq (K t) row=true)(hl:vs.length=row.length)
   (hc:∀(j:Nat) v,vs[j]?=some v->w.cell? (a.add j)=some v/\F (a.add j))
   (h:∀(j:Nat) x v,row[j]?=some x->vs[j]?=some v->aR K ρ F w x v):aR K ρ F w (.iO t row off) (.pointer (some (a.add off)))
 |ptr(id i off:Nat)(hd:Hd)(g o n c:Nat)(bf:ρ[id]?=some hd)(hv:hd.v= .slice (some ⟨g,o,none⟩) n c):aR K ρ F w (.ptr id i off) (.pointer (some ⟨g,o+i*hd.sz+off,none⟩))
 |n7(t:TypeId):aR K ρ F w (.aj t []) (.slice none 0 0)
 |aj(t:TypeId)(xs:List Row)(a:Addr)(cap:Nat)(vss:List (List Value))(hl:vss.length=xs.length)(pG:xs.length<=cap)(oJ:cap<=maxLen)
   (hk:∀(i:Nat) row,xs[i]?=some row->dq (K t) row=true)
   (hc:∀(i:Nat) vs,vss[i]?=some vs->vs.length=(K t).length /\∀(j:Nat) v,vs[j]?=some v->w.cell? (a.add (i*(K t).length +j))=some v/\F (a.add (i*(K t).length +j)))
   (h:∀(i:Nat) row vs,xs[i]?=some row->vss[i]?=some vs->∀(j:Nat) x v,row[j]?=some x->vs[j]?=some v->aR K ρ F w x v):
   aR K ρ F w (.aj t xs) (.slice (some a) xs.length cap)
 |ak(id:Nat)(hd:Hd)(bf:ρ[id]?=some hd):aR K ρ F w (.ak id) hd.v
 |jX:aR K ρ F w .jX (.slice none 0 0)
 |gM(f:FuncId)(first iP:List AV)(vf vc:List Value)(hf:vf.length=first.length)(hc:vc.length=iP.length)
   (h1:∀(j:Nat) x v,first[j]?=some x->vf[j]?=some v->aR K ρ F w x v) (h2:∀(j:Nat) x v,iP[j]?=some x->vc[j]?=some v->aR K ρ F w x v):
   aR K ρ F w (.gM f first iP) (.func (.func f) vf.toArray vc.toArray)
 |oE:aR K ρ F w .oE .nilFunc
 |lM(id:Nat)(hd:Hd)(g:Nat)(bf:ρ[id]?=some hd)(hv:hd.v= .pointer (some ⟨g,0,none⟩)):aR K ρ F w (.lM id) (.func (.yield g) #[] #[])
 |mp(id:Nat)(hd:Hd)(bf:ρ[id]?=some hd):aR K ρ F w (.mp id) hd.v
 |qW:aR K ρ F w .qW (.map none)
 |p8(id m:Nat)(hd:Hd)(g o n c cap:Nat)(bf:ρ[id]?=some hd)(hv:hd.v= .slice (some ⟨g,o,none⟩) n c):aR K ρ F w (.p8 id m) (.slice (some ⟨g,o,none⟩) m cap)
 |vw(id lo m:Nat)(hd:Hd)(g o n c cap:Nat)(bf:ρ[id]?=some hd)(hv:hd.v= .slice (some ⟨g,o,none⟩) n c)(pG:m<=cap/\cap<=maxLen)(hb:lo+m<=n):aR K ρ F w (.vw id lo m) (.slice (some ⟨g,o+lo*hd.sz,none⟩) m cap)
 |zu(id lo:Nat):aR K ρ F w (.vw id lo 0) (.slice none 0 0)
 |zt(id lo:Nat)(a:Addr)(cap:Nat):aR K ρ F w (.vw id lo 0) (.slice (some a) 0 cap)
 |oh(a:Addr)(cap:Nat):aR K ρ F w .oh (.slice (some a) 0 cap)
variable {K:TypeId->List Kind}
def aR.mono{F':Addr->Prop}{w':World}(gP:∀(id:Nat) hd,ρ[id]?=some hd->ρ'[id]?=some hd)(hF:∀a,F a->F' a)
 (hw:∀a v,F a->w.cell? a=some v->w'.cell? a=some v)   (h:aR K ρ F w x v):aR K ρ' F' w' x v:=by
 induction h with
 |top v=>exact .top v
 |int k n=>exact .int k n
 |bool b=>exact .bool b
 |str s=>exact .str s
 |agg cs vs hl _ ih=>exact .agg cs vs hl ih
 |gw cs vs hl _ ih=>exact .gw cs vs hl ih
 |oI=>exact .oI
 |iO t row off a vs hk hl hc _ ih=>exact .iO t row off a vs hk hl (λj v hv=>⟨hw _ _ (hc j v hv).2 (hc j v hv).1,hF _ (hc j v hv).2⟩) ih
 |ptr id i off hd g o n c bf hv=>exact .ptr id i off hd g o n c (gP _ _ bf) hv
 |n7 t=>exact .n7 t
 |aj t xs a cap vss hl pG oJ hk hc _ ih=>
  exact .aj t xs a cap vss hl pG oJ hk (λi vs gE=>⟨(hc i vs gE).1,λj v hv=>⟨hw _ _ ((hc i vs gE).2 j v hv).2 ((hc i vs gE).2 j v hv).1,hF _ ((hc i vs gE).2 j v hv).2⟩⟩) ih
 |ak id hd bf=>exact .ak id hd (gP _ _ bf)
 |jX=>exact .jX
 |gM f first iP vf vc hf hc _ _ oO gN=>exact .gM f first iP vf vc hf hc oO gN
 |oE=>exact .oE
 |lM id hd g bf hv=>exact .lM id hd g (gP _ _ bf) hv
 |mp id hd bf=>exact .mp id hd (gP _ _ bf)
 |qW=>exact .qW
 |p8 id m hd g o n c cap bf hv=>exact .p8 id m hd g o n c cap (gP _ _ bf) hv
 |vw id lo m hd g o n c cap bf hv hc hb=>exact .vw id lo m hd g o n c cap (gP _ _ bf) hv hc hb
 |zu id lo=>exact .zu id lo
 |zt id lo a cap=>exact .zt id lo a cap
 |oh a cap=>exact .oh a cap
def aR.pure{ρ ρ':List Hd}{F:Addr->Prop}{w:World}(hK:∀t,∀k∈K t,k≠ .any){x:AV}{v:Value}(h:aR K ρ F w x v):x.pure=true->aR K ρ' F w x v:=by
 have cell:∀{t:TypeId} {row:Row},dq (K t) row=true->∀{j:Nat} {y:AV},row[j]?=some y->y.pure=true:=by
  intro t row hk j y hy;have hl:=lQ hk;have hj:j<(K t).length :=aeL;exact JM (hK t _ (cY hj)) (wN hk (c8 hj) hy)
 induction h with
 |int k n=>exact λ_=> .int k n
 |bool b=>exact λ_=> .bool b
 |str s=>exact λ_=> .str s
 |oI=>exact λ_=> .oI
 |iO t row off a vs hk hl hc _ ih=>exact λ_=> .iO t row off a vs hk hl hc (λj y v hy hv=>ih j y v hy hv (cell hk hy))
 |n7 t=>exact λ_=> .n7 t
 |aj t xs a cap vss hl pG oJ hk hc _ ih=>exact λ_=> .aj t xs a cap vss hl pG oJ hk hc (λi row vs hi hv j y v hy jC=>ih i row vs hi hv j y v hy jC (cell (hk i row hi) hy))
 |jX=>exact λ_=> .jX
 |gM f first iP vf vc hf hc _ _ _ _=>
  intro hp;cases first with
  |cons a b=>simp [AV.pure]at hp
  |nil=>
   cases iP with
   |cons a b=>simp [AV.pure]at hp
   |nil=>exact .gM f [] [] vf vc hf hc (λj y v hy _=>by simp at hy) (λj y v hy _=>by simp at hy)
 |oE=>exact λ_=> .oE
 |qW=>exact λ_=> .qW
 |oh a cap=>exact λ_=> .oh a cap
 |_=>intro hp;simp [AV.pure]at hp
def aR.aKp(hK:∀t,∀k∈K t,k≠ .any)(h:aR K ρ F w x v)(hp:x= .top ∨x.pure=true):aR K ρ' F w x v:=by
 rcases hp with rfl|hp
 ·exact .top v
 ·exact h.pure hK hp
def dZ(K:TypeId->List Kind)(ρ:List Hd)(F:Addr->Prop)(w:World)(xs:List AV)(vs:List Value):Prop:=
 vs.length=xs.length/\∀(j:Nat) x v,xs[j]?=some x->vs[j]?=some v->aR K ρ F w x v
inductive Ex where
 |normal
 |exit(id:Nat)
 |ret
 deriving DecidableEq,Inhabited
inductive eH where
 |var(ks:List Kind)(cs:List AV)
 |row(t:TypeId)(xs:List Row)
 |map(k:Kind)(ag:Bool)(ks:List Kind)(es:List (AV×AV))
 |loop(site:Nat)(env:List (Nat×AV))(busy:Bool)(Dl:Option Ex)
 |Yr
 |fx(t:TypeId)(xs:List Row)
 |dead
 |bD(t:TypeId)(xs:List Row)(op:Option (Nat×Nat×Nat))
 deriving Inhabited
inductive AU where
 |int(k:IntKind)
 |bool
 |str
 |slice(e:TypeId)
 |array(n:Nat)(e:TypeId)
 |struct(fs:List (Nat×TypeId))
 |ptr(e:TypeId)
 |map(k e:TypeId)
 |other
 deriving Inhabited
structure TI where
 ok:Bool
 u:AU
 size:Nat
 bytes:Nat
 zero:List AV
 ks:List Kind
 deriving Inhabited
def AU.agg:AU->Bool| .struct _| .array _ _=>true|_=>false
def EK:Value->AV
 | .bool b=> .bool b
 | .int k n=> .int k n
 | .string s=> .str s
 | .pointer none=> .oI
 | .slice none 0 0=> .jX
 | .map none=> .qW
 | .nilFunc => .oE
 |_=> .top
def adX:Value->AV
 | .agg cs=> .agg (cs.toList.map EK)
 | .tuple cs=>match cs.toList with| []=> .gw []|_=> .top
 |v=>EK v
def GV(P:Program):Nat->TypeId->List Kind
 |0,_=>[.raw]
 |n+1,t=>
  match P.underlying t with
  |some (.int k)=>[.int k]
  |some .bool =>[.bool]
  |some .string =>[.str]
  |some (.slice e)=>[.slice e]
  |some (.struct fs)=>fs.toList.flatMap λf=>GV P n f.type
  |some (.array m e)=>(List.replicate m (GV P n e)).flatten
  |_=>[.raw]
def abW(P:Program):∀(n:Nat) (t:TypeId),∀k∈GV P n t,k≠ .any
 |0,t,k,h=>by simp [GV]at h;subst h;simp
 |n+1,t,k,h=>by
  unfold GV at h;split at h
  ·exact OP
  ·exact OP
  ·exact OP
  ·exact OP
  ·obtain⟨f,_,hf⟩:=ov.1 h;exact abW P n _ k hf
  ·obtain⟨l,hl,hk⟩:=List.mem_flatten.1 h;rw [Uq hl]at hk;exact abW P n _ k hk
  ·exact OP
def rP:TypeDesc->AU
 | .int k=> .int k
 | .bool => .bool
 | .string => .str
 | .slice e=> .slice e
 | .array n e=> .array n e
 | .struct fs=> .struct (fs.toList.map λf=>(f.offset,f.type))
 | .pointer e=> .ptr e
 | .map k e=> .map k e
 |_=> .other
def XC:Value->Bool| .agg _=>true|_=>false
def E9(P:Program)(t:TypeId):TI:=
 match P.info? t,P.underlying t with
 |some i,some d=>
  match i.zero with
  |some z=>⟨z.cells.size==i.size&&(GV P 12 t).length ==i.size&&(XC z==(rP d).agg),rP d,i.size,i.bytes,z.cells.toList.map EK,GV P 12 t⟩
  |none=>⟨false,.other,0,0,[],[]⟩
 |_,_=>⟨false,.other,0,0,[],[]⟩
end Go.ah
namespace Go.ah
open Go
abbrev aq:Type:=List AV
abbrev aE:Type:=List Row
abbrev aL:Type:=List eH
abbrev dy:Type:=List Nat
abbrev cf:Type:=List (Nat×AV)
abbrev bF:Type:=List Hd
abbrev bC:=Addr->Prop
abbrev cj:Type:=List Int
abbrev fh:Type:=List Kind
abbrev jb:Type:=List Value
abbrev vg:Type:=List TypeId
end Go.ah
namespace Go.ah
def qx{p:Prop}(h:p:=by simp [Hd.dE,Value.dE,hv]):p:=h
def V4{p:Prop}(h:p:=by subst hi;rw [oV bI]at hc;injection hc with hc;subst hc;simp [eH.kq]at wB):p:=h
def aso{p:Prop}(h:p:=by
 by_cases bf:i=id
 ·subst bf;have bI:=(dX.1 hb).1;rw [oV bI]at hc;injection hc with hc;subst hc;rw [hn]at sb;cases sb
 ·rw [mw (Ne.symm bf)]at hc;exact hc):p:=h
def asi{p:Prop}(h:p:=by
 have L9:=hM id _ hb rfl;have hl:id<ρ.length:=by rw [hlen];exact(dX.1 L9).1
 have h0:=c8 hl;have:=gP id _ h0 (dX.1 hh).1;rw [hh]at this;exact⟨L9,by rw [h0,this]⟩):p:=h
def asc{p:Prop}(h:p:=by
 subst bf;have bI:=(dX.1 hb).1;rw [oV bI]at hc;injection hc with hc;subst hc;rw [hh]at dm;injection dm with dm;subst dm;exact nw):p:=h
def Vz{p:Prop}(h:p:=by rw [kV (dX.1 h).1];exact h):p:=h
def aq3{p:Prop}(h:p:=by
 simp only [cellOf,hv];rw [oX,zZ w g _ cur t (0,0) hh,<-tF];exact kj):p:=h
def Ky{p:Prop}(h:p:=by simpa using hI.len):p:=h
def Bb{p:Prop}(h:p:=by simp at hx):p:=h
def aqO{p:Prop}(h:p:=by
 have hl:=(dX.1 hb).1;rw [kV (by omega)]at hh;exact .sub hb hh hi hj ho hc hg):p:=h
def aqF{p:Prop}(h:p:=by
 cases hh with
 |out hb _ _=>exact(no hb).elim
 |sub hb _ _ _ _ _ _=>exact(no hb).elim):p:=h
def aqz{p:Prop}(h:p:=by
 have hl:=(dX.1 hb).1;rw [kV (by omega)]at hh;exact .out hb hh hg):p:=h
def ap9{p:Prop}(h:p:=by
 have:=(dX.1 hc).1;simp at this;omega):p:=h
def aeJ{p:Prop}(h:p:=by rw [mw (Ne.symm hi)]at hc;exact hc):p:=h
def apS{p:Prop}(h:p:=by rw [mw (Ne.symm bf)]at q1;exact h4 ⟨i,c,hc,q1,q2,q3,q4⟩):p:=h
def Va{p:Prop}(h:p:=by simp [wY]at h):p:=h
def apN{p:Prop}(h:p:=by injection hk with hk;subst hk;exact hs.2.2 a hF):p:=h
end Go.ah
namespace Go.ah
def oX:=@Go.Addr.add_lit
def tF:=@Nat.add_assoc
def fk:=@Nat.eq_of_beq_eq_true
def zZ:=@Go.cell_of_row
def gQ:=@Nat.le_refl
def pz:=@Nat.le_trans
def nA:=@List.mem_append
def nT:=@List.getElem?_append_right
def kV:=@List.getElem?_append_left
def oV:=@List.getElem?_set_self
def mw:=@List.getElem?_set_ne
def qk:=@List.mem_of_getElem?
def qQ:=@Nat.lt_of_lt_of_le
def amU:=@Nat.ne_of_beq_eq_false
end Go.ah
namespace Go.ah
open Go
noncomputable section
variable{b:eH}{hd:Hd}{g id:Nat}{p:Option (Nat×Nat)}{row:Option Nat}{v:Value}{yp:World}{F':bC}{M':aL}{ids XV:dy}{ρ':bF}
structure Site where
 nt:Nat
 params:Array Tmp
 assign:Code
 body:Code
structure Ub where
 ks:fh
 e:TypeId
 bt:TypeId
 pt:TypeId
 up:TypeId
 ne:FuncId
structure Cx where
 P:Program
 ti:TypeId->TI
 site:Nat->Site
 jH:Nat->AV
 eqs:TypeId->Bool
 pk:Bool
 vw:Nat->TypeId->Bool
 ub:Option Ub
def Cx.H4(X:Cx)(ks:fh)(e:TypeId):Bool:=match X.ub with|none=>true|some u=>match decide (ks=u.ks)with|true=>Nat.beq e u.e|false=>true
def Cx.K(X:Cx)(t:TypeId):fh:=(X.ti t).ks
def look(env:cf)(u:Nat):AV:=List.rec (motive:=λ_=>AV) .top (λp _ ih=>Bool.rec (motive:=λ_=>AV) ih p.2 (Nat.beq u p.1)) env
def look_nil(u:Nat):look [] u= .top :=rfl
def ug(t:Nat)(x:AV)(env:cf)(u:Nat):look ((t,x)::env) u=if u==t then x else look env u:=by
 show Bool.rec (motive:=λ_=>AV) (look env u) x (Nat.beq u t)=_;cases hb:Nat.beq u t with
 |true=>
  have:=fk hb;subst this;show x=_;simp
 |false=>
  have:u≠t:=amU hb;show look env u=_;simp [this]
def gm(M:aL)(i:Nat):Option eH:=List.rec (motive:=λ_=>Nat->Option eH) (λ_=>none) (λb _ ih n=>Nat.rec (motive:=λ_=>Option eH) (some b) (λm _=>ih m) n) M i
def fF:∀(M:aL) (i:Nat),gm M i=M[i]?
 | [],_=>rfl
 |_::_,0=>rfl
 |b::M,n+1=>by
  show gm M n=_;rw [fF M n];rfl
def Ex.code:Ex->Option Code
 | .normal =>none
 | .exit id=>some (.exit id)
 | .ret =>some .ret
def eH.kq:eH->Bool| .dead | .fx _ _| .bD _ _ _=>true|_=>false
def eH.oj:eH->Bool| .bD _ _ _=>true|_=>false
variable {X:Cx}
def mA(X:Cx)(ρ:bF)(F:bC)(w:World)(env:cf)(tmps:Array Value):Prop:=
 ∀t,aR X.K ρ F w (look env t) (tmps.getD t undef)
def nx(X:Cx)(ρ:bF)(F:bC)(w:World)(hd:Hd):eH->Prop
 | .var ks cs=>dq ks cs=true/\hd.sz=cs.length/\∃g cur e,hd.v= .slice (some ⟨g,0,none⟩) 1 1/\w.heap[g]?=some (.cells cur e (0,0))/\dZ X.K ρ F w cs cur.toList/\X.H4 ks e=true
 | .row t xs=>hd.sz=(X.K t).length /\(∀(i:Nat) row,xs[i]?=some row->dq (X.K t) row=true)/\
    ((hd.v= .slice none 0 0/\xs=[])∨∃g o c cur,hd.v= .slice (some ⟨g,o,none⟩) xs.length c/\w.heap[g]?=some (.cells cur t (0,0))/\xs.length<=c/\c<=maxLen/\o+c*hd.sz<=cur.size/\
      ∀(i:Nat) row,xs[i]?=some row->∀(j:Nat) x,row[j]?=some x->∃v,cur[o+i*hd.sz+j]?=some v/\aR X.K ρ F w x v)
 | .map kd ag ks es=>kd≠ .any /\∃g mes clock,hd.v= .map (some g)/\w.heap[g]?=some (.map mes clock)/\mes.size=es.length/\
    ∀(i:Nat) e me,es[i]?=some e->mes[i]?=some me->(js kd e.1=true/\dq ks e.2.cells=true/\e.2.shape ag=true)/\aR X.K ρ F w e.1 me.key/\aR X.K ρ F w e.2 me.val
 | .loop s env busy Dl=>∃g lp,hd.v= .pointer (some ⟨g,0,none⟩)/\w.heap[g]?=some (.loop lp)/\lp.params=(X.site s).params /\lp.assign=(X.site s).assign /\lp.body=(X.site s).body /\
    lp.tmps.size=(X.site s).nt /\mA X ρ F w env lp.tmps/\(busy=true->lp.state= .busy)/\(busy=false->Dl=none->lp.state= .ready)/\(busy=false->Dl≠none->lp.state= .done)/\
    lp.pending=Dl.bind Ex.code/\Dl≠some .normal
 | .Yr =>∃g,hd.v= .pointer (some ⟨g,0,none⟩)/\w.heap[g]?=some (.deferred (some []))
 | .fx t xs=>aR X.K ρ F w (.aj t xs) hd.v
 | .dead =>True
 | .bD _ _ _=>True
structure Sc where
 S:Nat->Prop
 F0:bC
variable{S':Sc}
instance:CoeFun Sc (λ_=>Nat->Prop):=⟨Sc.S⟩
def w9:Kind->AV->Bool
 | .slice t,.sub t' _=>t==t'
 |k,x=>js k x
def wY:fh->Row->Bool
 | [],[]=>true
 |k::ks,x::xs=>w9 k x&&wY ks xs
 |_,_=>false
def GF:∀{ks:fh} {row:Row},wY ks row=true->∀{j:Nat} {x:AV},row[j]?=some x->∃k,ks[j]?=some k/\w9 k x=true
 | [],[],_,j,x,hx=>Bb
 | [],_::_,h,_,_,_=>Va
 |_::_,[],h,_,_,_=>Va
 |k::ks,y::xs,h,j,x,hx=>by
  simp only [wY,bA]at h;cases j with
  |zero=>simp at hx;subst hx;exact⟨k,rfl,h.1⟩
  |succ j=>simp at hx;exact GF h.2 hx
def Ed:∀{ks:fh} {row:Row},wY ks row=true->row.length=ks.length
 | [],[],_=>rfl
 | [],_::_,h=>Va
 |_::_,[],h=>Va
 |k::ks,x::xs,h=>by
  simp only [wY,bA]at h;simp [Ed h.2]
def cellOf(w:World)(hd:Hd)(i j:Nat):Option Value:=match hd.v with| .slice (some a) _ _=>w.cell? (a.add (i*hd.sz+j))|_=>none
def jQ(op:Option (Nat×Nat×Nat))(i j:Nat):Option Nat:=match op with|some (i',j',k)=>if i'=i/\j'=j then some k else none|none=>none
def zg(X:Cx)(ρ:bF)(F:bC)(w:World)(x:AV)(v:Value):Prop:=
 match x with
 | .sub e ys=>nx X ρ F w ⟨v,(X.K e).length⟩ (.row e ys)/\v.oneCell'=true
 |x=>aR X.K ρ F w x v
def pZ(X:Cx)(ρ:bF)(F:bC)(w:World)(hd:Hd)(t:TypeId)(xs:aE)(op:Option (Nat×Nat×Nat)):Prop:=
 (∀t,∀k∈X.K t,k≠ .any)/\hd.sz=(X.K t).length /\(∀(i:Nat) row,xs[i]?=some row->wY (X.K t) row=true)/\(∀i j k,op=some (i,j,k)->i<xs.length/\j<(X.K t).length)/\
   ((hd.v= .slice none 0 0/\xs=[])∨∃g o c cur,hd.v= .slice (some ⟨g,o,none⟩) xs.length c/\w.heap[g]?=some (.cells cur t (0,0))/\xs.length<=c/\c<=maxLen/\o+c*hd.sz<=cur.size/\
     ∀(i:Nat) row,xs[i]?=some row->∀(j:Nat) x,row[j]?=some x->∃v,cur[o+i*hd.sz+j]?=some v/\(∀k,jQ op i j=some k->∃h,ρ[k]?=some h/\v=h.v)/\(jQ op i j=none->zg X ρ F w x v))
inductive Hid(w:World)(ρ:bF)(M:aL):Nat->Option (Nat×Nat)->Nat->Prop
 |out{id:Nat}{t:TypeId}{xs:aE}{op:Option (Nat×Nat×Nat)}{hd:Hd}{g:Nat}(hb:M[id]?=some (.bD t xs op))(hh:ρ[id]?=some hd)(hg:hd.dE=some g):Hid w ρ M id none g
 |sub{id:Nat}{t:TypeId}{xs:aE}{op:Option (Nat×Nat×Nat)}{hd:Hd}{i j:Nat}{row:Row}{e:TypeId}{ys:aE}{v:Value}{g:Nat}(hb:M[id]?=some (.bD t xs op))(hh:ρ[id]?=some hd)
   (hi:xs[i]?=some row) (hj:row[j]?=some (.sub e ys)) (ho:jQ op i j=none) (hc:cellOf w hd i j=some v) (hg:Value.dE v=some g):Hid w ρ M id (some (i,j)) g
def rW(ρ:bF)(M:aL)(g:Nat):Prop:=∃(id:Nat) (b:eH) (hd:Hd),M[id]?=some b/\b.kq=false/\ρ[id]?=some hd/\hd.dE=some g
structure qN(X:Cx)(w0:World)(S:Sc)(F:bC)(ρ:bF)(M:aL)(w:World):Prop where
 ak:∀{id:Nat} {p:Option (Nat×Nat)} {g:Nat},Hid w ρ M id p g->g<w.heap.size/\(S g∨w0.heap.size<=g)/\(∀a,F a->a.block≠g)/\¬rW ρ M g
 inj:∀{id id':Nat} {p p':Option (Nat×Nat)} {g:Nat},Hid w ρ M id p g->Hid w ρ M id' p' g->id=id'/\p=p'
 rep:∀{id:Nat} {t:TypeId} {xs:aE} {op:Option (Nat×Nat×Nat)} {hd:Hd},M[id]?=some (.bD t xs op)->ρ[id]?=some hd->pZ X ρ F w hd t xs op
structure Inv(X:Cx)(w0:World)(S:Sc)(F:bC)(ρ:bF)(M:aL)(w:World):Prop where
 os:w.os=w0.os
 tape:w.tape=w0.tape
 output:w.output=w0.output
 size:w0.heap.size<=w.heap.size
 frame:∀g,g<w0.heap.size->¬S g->w.heap[g]?=w0.heap[g]?
 len:ρ.length=M.length
 rep:∀(id:Nat) b hd,M[id]?=some b->ρ[id]?=some hd->nx X ρ F w hd b
 sep:∀(id:Nat) b hd g,M[id]?=some b->b.kq=false->ρ[id]?=some hd->hd.dE=some g->g<w.heap.size/\(S g∨w0.heap.size<=g)/\∀a,F a->a.block≠g
 k5:∀(id id':Nat) b b' hd du g,id≠id'->M[id]?=some b->M[id']?=some b'->b.kq=false->b'.kq=false->ρ[id]?=some hd->ρ[id']?=some du->
  hd.dE=some g->du.dE≠some g
 fz:∀a,F a->a.block<w.heap.size
 jH:∀g,aR X.K ρ F w (X.jH g) (.pointer (some ⟨g,0,none⟩))
 one:∀(id:Nat) hd,ρ[id]?=some hd->hd.v.oneCell'=true
 iw:∀a,F a->S.F0 a∨S a.block∨w0.heap.size<=a.block
 fin:∀a,S.F0 a->F a
 bD:qN X w0 S F ρ M w
def mA.mono{ρ ρ':bF}{F F':bC}{w w':World}(gP:∀(id:Nat) hd,ρ[id]?=some hd->ρ'[id]?=some hd)(hF:∀a,F a->F' a)
 (hw:∀a v,F a->w.cell? a=some v->w'.cell? a=some v) {env:cf} {tmps:Array Value} (h:mA X ρ F w env tmps):mA X ρ' F' w' env tmps:=
 λt=>(h t).mono gP hF hw
def nx.mono{ρ ρ':bF}{F F':bC}{w w':World}(gP:∀(id:Nat) hd,ρ[id]?=some hd->ρ'[id]?=some hd)(hF:∀a,F a->F' a)
 (hw:∀a v,F a->w.cell? a=some v->w'.cell? a=some v) {hd:Hd} {b:eH} (hg:∀g,hd.dE=some g->w'.heap[g]?=w.heap[g]?) (h:nx X ρ F w hd b):nx X ρ' F' w' hd b:=by
 cases b with
 |var ks cs=>
  obtain⟨h1,h2,g,cur,e,hv,hh,hr,hy⟩:=h;exact⟨h1,h2,g,cur,e,hv,by rw [hg g (qx)];exact hh,⟨hr.1,λj x v hx hv=>(hr.2 j x v hx hv).mono gP hF hw⟩,hy⟩
 |row t xs=>
  obtain⟨h1,h2,h3⟩:=h;refine⟨h1,h2,?_⟩;rcases h3 with h3|⟨g,o,c,cur,hv,hh,h4,h5,h6,h7⟩
  ·exact .inl h3
  ·refine .inr ⟨g,o,c,cur,hv,by rw [hg g (qx)];exact hh,h4,h5,h6,λi row hi j x hx=> ?_⟩;obtain⟨v,kj,hr⟩:=h7 i row hi j x hx;exact⟨v,kj,hr.mono gP hF hw⟩
 |map kd ag ks es=>
  obtain⟨qe,g,mes,clock,hv,hh,fU,zM⟩:=h;exact⟨qe,g,mes,clock,hv,by rw [hg g (qx)];exact hh,fU,λi e me he hm=>let⟨a,r1,r2⟩:=zM i e me he hm;⟨a,r1.mono gP hF hw,r2.mono gP hF hw⟩⟩
 |loop s env busy Dl=>
  obtain⟨g,lp,hv,hh,h1,h2,h3,h4,h5,h6⟩:=h;exact⟨g,lp,hv,by rw [hg g (qx)];exact hh,h1,h2,h3,h4,h5.mono gP hF hw,h6⟩
 |Yr=>
  obtain⟨g,hv,hh⟩:=h;exact⟨g,hv,by rw [hg g (qx)];exact hh⟩
 |fx t xs=>exact aR.mono gP hF hw h
 |dead=>trivial
 |bD _ _ _=>trivial
def nx.TC{ρ:bF}{F:bC}{w w':World}(gP:∀(id:Nat) hd,ρ[id]?=some hd->ρ'[id]?=some hd)(hF:∀a,F a->F' a)
 (hw:∀a v,F a->w.cell? a=some v->w'.cell? a=some v)   (hb:b.kq=true) (h:nx X ρ F w hd b):nx X ρ' F' w' hd b:=by
 cases b with
 |fx t xs=>exact aR.mono gP hF hw h
 |dead=>trivial
 |bD _ _ _=>trivial
 |_=>simp [eH.kq]at hb
def aKh{w w':World}(h:∀g,hd.dE=some g->w'.heap[g]?=w.heap[g]?)(i j:Nat):cellOf w' hd i j=cellOf w hd i j:=by
 unfold cellOf;split
 ·rename_i a n c hv;have e:∀m,(a.add m).block =a.block:=λm=>by unfold Addr.add;split<;>rfl
  unfold World.cell?;rw [e,h a.block (qx)]
 ·rfl
def pZ.mono{ρ ρ':bF}{F F':bC}{w w':World}(gP:∀(id:Nat) hd,ρ[id]?=some hd->ρ'[id]?=some hd)(hF:∀a,F a->F' a)
 (hw:∀a v,F a->w.cell? a=some v->w'.cell? a=some v) {hd:Hd} {t:TypeId} {xs:aE} {op:Option (Nat×Nat×Nat)} (hg:∀g,hd.dE=some g->w'.heap[g]?=w.heap[g]?)
 (hs:∀(i j:Nat) row e ys v g,xs[i]?=some row->row[j]?=some (.sub e ys)->jQ op i j=none->cellOf w hd i j=some v->Value.dE v=some g->w'.heap[g]?=w.heap[g]?)
 (h:pZ X ρ F w hd t xs op):pZ X ρ' F' w' hd t xs op:=by
 obtain⟨h0,h1,h2,h3,h4⟩:=h;refine⟨h0,h1,h2,h3,?_⟩;rcases h4 with h4|⟨g,o,c,cur,hv,hh,h5,h6,h7,h8⟩
 ·exact .inl h4
 ·refine .inr ⟨g,o,c,cur,hv,by rw [hg g (qx)];exact hh,h5,h6,h7,λi row hi j x hx=> ?_⟩;obtain⟨v,kj,ho,hr⟩:=h8 i row hi j x hx;refine⟨v,kj,λk hk=>let⟨h',e1,e2⟩:=ho k hk;⟨h',gP _ _ e1,e2⟩,λhk=> ?_⟩;have hr:=hr hk;have pT:cellOf w hd i j=some v:=aq3;unfold zg at hr⊢;split at hr
  ·exact⟨hr.1.mono gP hF hw (λg' lx=>hs i j row _ _ v g' hi hx hk pT lx),hr.2⟩
  ·exact hr.mono gP hF hw
def Hid.pop{w:World}{ρ:bF}{M:aL}(hlen:ρ.length=M.length)(hn:b.oj=false)(hh:Hid w (ρ++[hd]) (M++[b]) id p g):Hid w ρ M id p g:=by
 have pV:∀{c:eH},(M++[b])[id]?=some c->c.oj=true->M[id]?=some c:=λ{c} hc sb=>by
  by_cases hi:id<M.length
  ·rw [kV hi]at hc;exact hc
  ·rw [nT (by omega)]at hc;have:id- M.length=0:=ap9;rw [this]at hc;simp at hc;subst hc;rw [hn]at sb;cases sb
 cases hh with
 |out hb hh hg=>
  have hb:=pV hb rfl;exact aqz
 |sub hb hh hi hj ho hc hg=>
  have hb:=pV hb rfl;exact aqO
def Hid.af7{w w':World}{ρ:bF}{M:aL}(hlen:ρ.length=M.length)
 (hM:∀(id:Nat) b,M'[id]?=some b->b.oj=true->M[id]?=some b) (gP:∀(id:Nat) hd,ρ[id]?=some hd->id<ρ'.length->ρ'[id]?=some hd)
 (bf:∀g,(∃id p,Hid w ρ M id p g/\∃b,M'[id]?=some b/\b.oj=true)->w'.heap[g]?=w.heap[g]?)    (hh:Hid w' ρ' M' id p g):Hid w ρ M id p g:=by
 have back:∀{id:Nat} {t:TypeId} {xs:aE} {op:Option (Nat×Nat×Nat)} {hd:Hd},M'[id]?=some (.bD t xs op)->ρ'[id]?=some hd->M[id]?=some (.bD t xs op)/\ρ[id]?=some hd:=by
  intro id t xs op hd hb hh;exact asi
 cases hh with
 |out hb hh hg=>
  obtain⟨b1,b2⟩:=back hb hh;exact .out b1 b2 hg
 |sub hb hh hi hj ho hc hg=>
  obtain⟨b1,b2⟩:=back hb hh;refine .sub b1 b2 hi hj ho ?_ hg;unfold cellOf at hc⊢;split at hc
  ·rename_i a n c hv;have hp:=bf a.block ⟨_,_,.out b1 b2 (g:=a.block) (qx),_,hb,rfl⟩;have e:∀m,(a.add m).block =a.block:=λm=>by unfold Addr.add;split<;>rfl
   unfold World.cell? at hc⊢;rw [e]at hc⊢;rw [<-hp];exact hc
  ·cases hc
def Hid.back{w0 w w':World}{S:Sc}{F:bC}{ρ:bF}{M:aL}(h:qN X w0 S F ρ M w)(hlen:ρ.length=M.length)
 (hM:∀(id:Nat) b,M'[id]?=some b->b.oj=true->M[id]?=some b) (gP:∀(id:Nat) hd,ρ[id]?=some hd->id<ρ'.length->ρ'[id]?=some hd)
 (bf:∀g,g<w.heap.size->(S g∨w0.heap.size<=g)->(∀a,F a->a.block≠g)->¬rW ρ M g->w'.heap[g]?=w.heap[g]?)    (hh:Hid w' ρ' M' id p g):Hid w ρ M id p g:=
 hh.af7 (w:=w) hlen hM gP λg ⟨_,_,hg,_⟩=>let⟨a1,a2,a3,a4⟩:=h.ak hg;bf g a1 a2 a3 a4
def qN.arL{w0 w w':World}{S:Sc}{F:bC}{ρ:bF}{M:aL}(h:qN X w0 S F ρ M w)(hlen:ρ.length=M.length)
 (hM:∀(id:Nat) b,M'[id]?=some b->b.oj=true->M[id]?=some b) (gP:∀(id:Nat) hd,ρ[id]?=some hd->id<ρ'.length->ρ'[id]?=some hd)
 (hrp:∀{id:Nat} {t:TypeId} {xs:aE} {op:Option (Nat×Nat×Nat)} {hd:Hd},M'[id]?=some (.bD t xs op)->ρ'[id]?=some hd->pZ X ρ F w hd t xs op->(∀g,hd.dE=some g->w'.heap[g]?=w.heap[g]?)->
   (∀(i j:Nat) row e ys v g,xs[i]?=some row->row[j]?=some (.sub e ys)->jQ op i j=none->cellOf w hd i j=some v->Value.dE v=some g->w'.heap[g]?=w.heap[g]?)->pZ X ρ' F' w' hd t xs op)
 (bf:∀g,(∃id p,Hid w ρ M id p g/\∃b,M'[id]?=some b/\b.oj=true)->g<w'.heap.size/\(S' g∨yp.heap.size<=g)/\w'.heap[g]?=w.heap[g]?/\(∀a,F' a->a.block≠g)/\¬rW ρ' M' g):
 qN X yp S' F' ρ' M' w':=by
 have back:∀{id:Nat} {t:TypeId} {xs:aE} {op:Option (Nat×Nat×Nat)} {hd:Hd},M'[id]?=some (.bD t xs op)->ρ'[id]?=some hd->M[id]?=some (.bD t xs op)/\ρ[id]?=some hd:=by
  intro id t xs op hd hb hh;exact asi
 have out:∀{id:Nat} {t:TypeId} {xs:aE} {op:Option (Nat×Nat×Nat)} {hd:Hd} {g:Nat},M[id]?=some (.bD t xs op)->ρ[id]?=some hd->(∃b,M'[id]?=some b/\b.oj=true)->hd.dE=some g->w'.heap[g]?=w.heap[g]?:=by
  intro id t xs op hd g hb hh h' hg;exact(bf g ⟨_,_,.out hb hh hg,h'⟩).2.2.1
 have hb:∀{id:Nat} {p:Option (Nat×Nat)} {g:Nat},Hid w' ρ' M' id p g->Hid w ρ M id p g:=λhh=>hh.af7 hlen hM gP λg hg=>(bf g hg).2.2.1;refine⟨λhh=> ?_,λh1 h2=>h.inj (hb h1) (hb h2),λ{id t xs op hd} mv hh=> ?_⟩
 ·obtain⟨c1,c2,_,c3,c4⟩:=bf _ ⟨_,_,hb hh,by cases hh with|out h _ _=>exact⟨_,h,rfl⟩|sub h _ _ _ _ _ _=>exact⟨_,h,rfl⟩⟩;exact⟨c1,c2,c3,c4⟩
 ·obtain⟨b1,b2⟩:=back mv hh;exact hrp mv hh (h.rep b1 b2) (λg hg=>out b1 b2 ⟨_,mv,rfl⟩ hg) λi j row e ys v g hi hx ho hc hg=>(bf _ ⟨_,_,.sub b1 b2 hi hx ho hc hg,_,mv,rfl⟩).2.2.1
def qN.step{w0 w w':World}{S:Sc}{F:bC}{ρ:bF}{M:aL}(h:qN X w0 S F ρ M w)(hlen:ρ.length=M.length)
 (hM:∀(id:Nat) b,M'[id]?=some b->b.oj=true->M[id]?=some b) (gP:∀(id:Nat) hd,ρ[id]?=some hd->id<ρ'.length->ρ'[id]?=some hd)
 (hrp:∀{id:Nat} {t:TypeId} {xs:aE} {op:Option (Nat×Nat×Nat)} {hd:Hd},M'[id]?=some (.bD t xs op)->ρ'[id]?=some hd->pZ X ρ F w hd t xs op->(∀g,hd.dE=some g->w'.heap[g]?=w.heap[g]?)->
   (∀(i j:Nat) row e ys v g,xs[i]?=some row->row[j]?=some (.sub e ys)->jQ op i j=none->cellOf w hd i j=some v->Value.dE v=some g->w'.heap[g]?=w.heap[g]?)->pZ X ρ' F' w' hd t xs op)
 (bf:∀g,g<w.heap.size->(S g∨w0.heap.size<=g)->(∀a,F a->a.block≠g)->¬rW ρ M g->g<w'.heap.size/\(S' g∨yp.heap.size<=g)/\w'.heap[g]?=w.heap[g]?/\(∀a,F' a->a.block≠g)/\¬rW ρ' M' g):
 qN X yp S' F' ρ' M' w':=
 h.arL hlen hM gP hrp λg ⟨_,_,hg,_⟩=>let⟨a1,a2,a3,a4⟩:=h.ak hg;bf g a1 a2 a3 a4
def qN.stay{w0 w w':World}{S:Sc}{F:bC}{ρ:bF}{M:aL}(h:qN X w0 S F ρ M w)(hlen:ρ.length=M.length)
 (hM:∀(id:Nat) b,M'[id]?=some b->b.oj=true->M[id]?=some b) (gP:∀(id:Nat) hd,ρ[id]?=some hd->ρ'[id]?=some hd) (hF:∀a,F a->F' a) (hw:∀a v,F a->w.cell? a=some v->w'.cell? a=some v)
 (bf:∀g,g<w.heap.size->(S g∨w0.heap.size<=g)->(∀a,F a->a.block≠g)->¬rW ρ M g->g<w'.heap.size/\(S' g∨yp.heap.size<=g)/\w'.heap[g]?=w.heap[g]?/\(∀a,F' a->a.block≠g)/\¬rW ρ' M' g):
 qN X yp S' F' ρ' M' w':=
 h.step hlen hM (λid hd hh _=>gP id hd hh) (λ_ _ hr h1 h2=>hr.mono gP hF hw h1 h2) bf
def qN.set{w0 w:World}{S:Sc}{F:bC}{ρ:bF}{M:aL}(h:qN X w0 S F ρ M w){id:Nat}{b:eH}(hn:b.oj=false)
 (ho:∀g hd,b.kq=false->ρ[id]?=some hd->hd.dE=some g->rW ρ M g∨∀i p,¬Hid w ρ M i p g):qN X w0 S F ρ (M.set id b) w:=by
 have pV:∀(i:Nat) c,(M.set id b)[i]?=some c->c.oj=true->M[i]?=some c:=λi c hc sb=>by
  by_cases hi:i=id
  ·subst hi;have bI:i<M.length:=by have:=(dX.1 hc).1;simpa using this
   rw [oV bI]at hc;injection hc with hc;subst hc;rw [hn]at sb;cases sb
  ·exact aeJ
 have back:∀{i:Nat} {p:Option (Nat×Nat)} {g:Nat},Hid w ρ (M.set id b) i p g->Hid w ρ M i p g:=by
  intro i p g hh;cases hh with
  |out hb hh hg=>exact .out (pV _ _ hb rfl) hh hg
  |sub hb hh hi hj ho hc hg=>exact .sub (pV _ _ hb rfl) hh hi hj ho hc hg
 refine⟨λhh=> ?_,λh1 h2=>h.inj (back h1) (back h2),λhb hh=>h.rep (pV _ _ hb rfl) hh⟩;obtain⟨a1,a2,a3,a4⟩:=h.ak (back hh);refine⟨a1,a2,a3,?_⟩;rintro⟨i,c,hc,q1,q2,q3,q4⟩
 by_cases hi:i=id
 ·subst hi;have bI:i<M.length:=by have:=(dX.1 q1).1;simpa using this
  rw [oV bI]at q1;injection q1 with q1;subst q1;rcases ho _ _ q2 q3 q4 with h|h
  ·exact a4 h
  ·exact h _ _ (back hh)
 ·rw [mw (Ne.symm hi)]at q1;exact a4 ⟨i,c,hc,q1,q2,q3,q4⟩
def qN.none{w0 w:World}{S:Sc}{F:bC}{ρ:bF}{M:aL}(h:∀b∈M,b.oj=false):qN X w0 S F ρ M w:=by
 have no:∀{id:Nat} {t:TypeId} {xs:aE} {op:Option (Nat×Nat×Nat)},M[id]?=some (.bD t xs op)->False:=λhb=>by have:=h _ (qk hb);cases this
 refine⟨λhh=> ?_,λhh _=> ?_,λhb _=>(no hb).elim⟩
 ·exact aqF
 ·exact aqF
section
variable {w0 w w':World} {S:Sc} {F:bC} {ρ:bF} {M:aL}
def Inv.cells(hI:Inv X w0 S F ρ M w)(hg:w.grownBy w' row)(ia:∀k,row=some k->∀a,F a->a.block≠k):
 ∀a v,F a->w.cell? a=some v->w'.cell? a=some v:=by
 intro a v hF hc;refine hg.cell hc ?_;intro e;exact ia _ e.symm a hF rfl
def ou{α:Type}{l:List α}{x y:α}{i:Nat}(h:l[i]?=some y):(l++[x])[i]?=some y:=Vz
def Inv.grown(hI:Inv X w0 S F ρ M w)(hg:w.grownBy w' none):Inv X w0 S F ρ M w' where
 os:=hg.os.trans hI.os
 tape:=hg.tape.trans hI.tape
 output:=hg.output.trans hI.output
 size:=pz hI.size hg.size
 frame:=λg h1 h2=>(hg.block g (qQ h1 hI.size) (by simp)).trans (hI.frame g h1 h2)
 len:=hI.len
 rep:=λid b hd hb hh=>by
  by_cases du:b.kq=true
  ·exact(hI.rep id b hd hb hh).TC (λ_ _ h=>h) (λ_ h=>h) (hI.cells hg (by simp)) du
  ·refine(hI.rep id b hd hb hh).mono (λ_ _ h=>h) (λ_ h=>h) (hI.cells hg (by simp)) ?_;intro g cX;exact hg.block g (hI.sep id b hd g hb (by simpa using du) hh cX).1 (by simp)
 sep:=λid b hd g hb dT hh cX=>let⟨a1,a2,a3⟩:=hI.sep id b hd g hb dT hh cX;⟨qQ a1 hg.size,a2,a3⟩
 k5:=hI.k5
 fz:=λa ha=>qQ (hI.fz a ha) hg.size
 jH:=λg=>(hI.jH g).mono (λ_ _ h=>h) (λ_ h=>h) (hI.cells hg (by simp))
 one:=hI.one
 iw:=hI.iw
 fin:=hI.fin
 bD:=hI.bD.stay hI.len (λ_ _ h _=>h) (λ_ _ h=>h) (λ_ h=>h) (hI.cells hg (by simp)) λg h1 h2 h3 h4=>⟨qQ h1 hg.size,h2,hg.block g h1 (by simp),h3,h4⟩
def Inv.write(hI:Inv X w0 S F ρ M w){id:Nat}{b b':eH}{hd:Hd}{g:Nat}(hb:M[id]?=some b)(nG:b.kq=false)(hh:ρ[id]?=some hd)(cX:hd.dE=some g)
 (hg:w.grownBy w' (some g)) (nw:nx X ρ F w' hd b') (hn:b'.oj=false:=by rfl):Inv X w0 S F ρ (M.set id b') w' where
 os:=hg.os.trans hI.os
 tape:=hg.tape.trans hI.tape
 output:=hg.output.trans hI.output
 size:=pz hI.size hg.size
 frame:=λk h1 h2=>by
  have hs:=hI.sep id b hd g hb nG hh cX;refine(hg.block k (qQ h1 hI.size) ?_).trans (hI.frame k h1 h2);intro e;injection e with e;subst e;rcases hs.2.1 with h|h
  ·exact h2 h
  ·omega
 len:=Ky
 rep:=λid' c du hc dm=>by
  by_cases bf:id'=id
  ·subst bf;rw [hh]at dm;injection dm with dm;subst dm;have bI:=(dX.1 hb).1;rw [oV bI]at hc;injection hc with hc;subst hc;exact nw
  ·rw [mw (Ne.symm bf)]at hc;have hs:=hI.sep id b hd g hb nG hh cX
   by_cases qH:c.kq=true
   ·exact(hI.rep id' c du hc dm).TC (λ_ _ h=>h) (λ_ h=>h) (hI.cells hg (λk hk a hF=>apN)) qH
   ·refine(hI.rep id' c du hc dm).mono (λ_ _ h=>h) (λ_ h=>h) (hI.cells hg ?_) ?_
    ·intro k hk a hF;injection hk with hk;subst hk;exact hs.2.2 a hF
    ·intro g' lx;refine hg.block g' (hI.sep id' c du g' hc (by simpa using qH) dm lx).1 ?_;intro e;injection e with e;subst e;exact hI.k5 id' id c b du hd g' bf hc hb (by simpa using qH) nG dm hh lx cX
 sep:=λid' c du g' hc qH dm lx=>by
  by_cases bf:id'=id
  ·subst bf;rw [hh]at dm;injection dm with dm;subst dm;obtain⟨a1,a2,a3⟩:=hI.sep id' b hd g' hb nG hh lx;exact⟨qQ a1 hg.size,a2,a3⟩
  ·rw [mw (Ne.symm bf)]at hc;obtain⟨a1,a2,a3⟩:=hI.sep id' c du g' hc qH dm lx;exact⟨qQ a1 hg.size,a2,a3⟩
 k5:=λi j c d hc du k sI h1 h2 h3 h4 h5 h6 h7=>by
  have key:∀(i:Nat) c,(M.set id b')[i]?=some c->c.kq=false->∃c0,M[i]?=some c0/\c0.kq=false:=by
   intro i c hc wB
   by_cases bf:i=id
   ·subst bf;exact⟨b,hb,nG⟩
   ·rw [mw (Ne.symm bf)]at hc;exact⟨c,hc,wB⟩
  obtain⟨c0,a1,a2⟩:=key i c h1 h3;obtain⟨d0,b1,b2⟩:=key j d h2 h4;exact hI.k5 i j c0 d0 hc du k sI a1 b1 a2 b2 h5 h6 h7
 fz:=λa ha=>qQ (hI.fz a ha) hg.size
 jH:=λk=>(hI.jH k).mono (λ_ _ h=>h) (λ_ h=>h) (hI.cells hg (λj hj a hF=>by injection hj with hj;subst hj;exact(hI.sep id b hd g hb nG hh cX).2.2 a hF))
 one:=hI.one
 iw:=hI.iw
 fin:=hI.fin
 bD:=by
  have hs:=hI.sep id b hd g hb nG hh cX;refine hI.bD.stay hI.len (λi c hc sb=> ?_) (λ_ _ h=>h) (λ_ h=>h) (hI.cells hg (λk hk a hF=>apN)) λk h1 h2 h3 h4=>⟨qQ h1 hg.size,h2,hg.block k h1 ?_,h3,?_⟩
  ·exact aso
  ·intro e;injection e with e;subst e;exact h4 ⟨id,b,hd,hb,nG,hh,cX⟩
  ·rintro⟨i,c,hc,q1,q2,q3,q4⟩
   by_cases bf:i=id
   ·subst bf;rw [hh]at q3;injection q3 with q3;subst q3;exact h4 ⟨i,b,hd,hb,nG,hh,q4⟩
   ·exact apS
def Inv.EP(hI:Inv X w0 S F ρ M w)(BE:∀g,hd.dE=some g->g<w.heap.size/\(S g∨w0.heap.size<=g)/\(∀a,F a->a.block≠g)/\
 (∀(id:Nat) b' du,M[id]?=some b'->b'.kq=false->ρ[id]?=some du->du.dE≠some g)/\∀id p,¬Hid w ρ M id p g)
 (h1:hd.v.oneCell'=true) (nw:nx X (ρ++[hd]) F w hd b) (hn:b.oj=false:=by rfl):Inv X w0 S F (ρ++[hd]) (M++[b]) w:=by
 have hlen:=hI.len;have split:∀(i:Nat) c,(M++[b])[i]?=some c->(i<M.length/\M[i]?=some c)∨(i=M.length/\c=b):=by
  intro i c hc
  by_cases hi:i<M.length
  ·rw [kV hi]at hc;exact .inl ⟨hi,hc⟩
  ·rw [nT (by omega)]at hc;have:i- M.length=0:=ap9;rw [this]at hc;simp at hc;exact .inr ⟨by omega,hc.symm⟩
 have xZ:∀(i:Nat) h,(ρ++[hd])[i]?=some h->(i<M.length/\ρ[i]?=some h)∨(i=M.length/\h=hd):=by
  intro i h hh
  by_cases hi:i<ρ.length
  ·rw [kV hi]at hh;exact .inl ⟨by omega,hh⟩
  ·rw [nT (by omega)]at hh;have:i- ρ.length=0:=by
    have:=(dX.1 hh).1;simp at this;omega
   rw [this]at hh;simp at hh;exact .inr ⟨by omega,hh.symm⟩
 have P2:qN X w0 S F (ρ++[hd]) (M++[b]) w:=by
  have pV:∀(id:Nat) c,(M++[b])[id]?=some c->c.oj=true->M[id]?=some c:=λid c hc sb=>by
   rcases split id c hc with⟨_,hc⟩|⟨_,rfl⟩
   ·exact hc
   ·rw [hn]at sb;cases sb
  have back:∀{id p g},Hid w (ρ++[hd]) (M++[b]) id p g->Hid w ρ M id p g:=by
   intro id p g hh;cases hh with
   |out hb hh hg=>
    have hb:=pV _ _ hb rfl;exact aqz
   |sub hb hh hi hj ho hc hg=>
    have hb:=pV _ _ hb rfl;exact aqO
  refine⟨λhh=> ?_,λh1 h2=>hI.bD.inj (back h1) (back h2),λ{id t xs op h} hb hh=> ?_⟩
  ·obtain⟨a1,a2,a3,a4⟩:=hI.bD.ak (back hh);refine⟨a1,a2,a3,?_⟩;rintro⟨i,c,hc,q1,q2,q3,q4⟩;rcases split i c q1 with⟨_,m1⟩|⟨hi,e1⟩
   ·rcases xZ i hc q3 with⟨_,m3⟩|⟨_,_⟩
    ·exact a4 ⟨i,c,hc,m1,q2,m3,q4⟩
    ·omega
   ·rcases xZ i hc q3 with⟨_,_⟩|⟨_,e3⟩
    ·omega
    ·exact(BE _ (e3▸q4)).2.2.2.2 _ _ (back hh)
  ·have hb:=pV _ _ hb rfl;have hl:=(dX.1 hb).1;rw [kV (by omega)]at hh;exact(hI.bD.rep hb hh).mono (λ_ _ h=>ou h) (λ_ h=>h) (λ_ _ _ h=>h) (λ_ _=>rfl) (λ_ _ _ _ _ _ _ _ _ _ _ _=>rfl)
 refine⟨hI.os,hI.tape,hI.output,hI.size,hI.frame,by simp [hlen],?_,?_,?_,hI.fz,λg=>(hI.jH g).mono (λ_ _ h=>ou h) (λ_ h=>h) (λ_ _ _ h=>h),λid h hh=>by
  rcases xZ id h hh with⟨_,hh⟩|⟨_,rfl⟩
  ·exact hI.one id h hh
  ·exact h1,hI.iw,hI.fin,P2⟩
 ·intro id c h hc hh;rcases split id c hc with⟨hi,hc⟩|⟨hi,rfl⟩
  ·rcases xZ id h hh with⟨_,hh⟩|⟨h2,_⟩
   ·exact(hI.rep id c h hc hh).mono (λ_ _ h=>ou h) (λ_ h=>h) (λ_ _ _ h=>h) (λ_ _=>rfl)
   ·omega
  ·rcases xZ id h hh with⟨h2,_⟩|⟨_,rfl⟩
   ·omega
   ·exact nw
 ·intro id c h g hc dT hh cX;rcases split id c hc with⟨hi,hc⟩|⟨hi,rfl⟩
  ·rcases xZ id h hh with⟨_,hh⟩|⟨h2,_⟩
   ·exact hI.sep id c h g hc dT hh cX
   ·omega
  ·rcases xZ id h hh with⟨h2,_⟩|⟨_,rfl⟩
   ·omega
   ·obtain⟨a1,a2,a3,_⟩:=BE g cX;exact⟨a1,a2,a3⟩
 ·intro i j c d hc du k sI h1 h2 h3 h4 h5 h6 h7 h8;rcases split i c h1 with⟨hi,m1⟩|⟨hi,e1⟩<;>rcases split j d h2 with⟨hj,m2⟩|⟨hj,e2⟩
  ·rcases xZ i hc h5 with⟨_,m5⟩|⟨_,_⟩
   ·rcases xZ j du h6 with⟨_,m6⟩|⟨_,_⟩
    ·exact hI.k5 i j c d hc du k sI m1 m2 h3 h4 m5 m6 h7 h8
    ·omega
   ·omega
  ·rcases xZ i hc h5 with⟨_,m5⟩|⟨_,_⟩
   ·rcases xZ j du h6 with⟨_,_⟩|⟨_,e6⟩
    ·omega
    ·exact(BE k (e6▸h8)).2.2.2.1 i c hc m1 h3 m5 h7
   ·omega
  ·rcases xZ i hc h5 with⟨_,_⟩|⟨_,e5⟩
   ·omega
   ·rcases xZ j du h6 with⟨_,m6⟩|⟨_,_⟩
    ·exact(BE k (e5▸h7)).2.2.2.1 j d du m2 h4 m6 h8
    ·omega
  ·omega
def Inv.push(hI:Inv X w0 S F ρ M w)(hg:w.grownBy w' none)(BE:∀g,hd.dE=some g->w.heap.size<=g/\g<w'.heap.size)
 (h1:hd.v.oneCell'=true) (nw:nx X (ρ++[hd]) F w' hd b) (hn:b.oj=false:=by rfl):Inv X w0 S F (ρ++[hd]) (M++[b]) w':=by
 refine(hI.grown hg).EP (λg cX=> ?_) h1 nw hn;obtain⟨h2,h3⟩:=BE g cX;refine⟨h3,.inr (pz hI.size h2),λa ha e=> ?_,λid b' du mv dT hh oq=> ?_,λid p hh=> ?_⟩
 ·have:=hI.fz a ha;omega
 ·have:=(hI.sep id b' du g mv dT hh oq).1;omega
 ·have:=(hI.bD.ak (hh.back hI.bD hI.len (λ_ _ h _=>h) (λ_ _ h _=>h) λk h1 _ _ _=>hg.block k h1 (by simp))).1;omega
def Inv.move(hI:Inv X w0 S F ρ M w){b':eH}{du:Hd}(hb:M[id]?=some b)(nG:b.kq=false)(hh:ρ[id]?=some hd)
 (hg:w.grownBy w' row) (ia:row=none∨row=hd.dE) (BE:∀g,du.dE=some g->g<w'.heap.size/\(hd.dE=some g∨w.heap.size<=g))
 (h1:du.v.oneCell'=true) (nw:nx X (ρ++[du]) F w' du b') (hn:b'.oj=false:=by rfl):Inv X w0 S F (ρ++[du]) (M.set id .dead ++[b']) w':=by
 have bI:=(dX.1 hb).1;have sK:Inv X w0 S F ρ (M.set id .dead) w':=by
  cases cX:hd.dE with
  |none=>
   have uU:w.grownBy w' none:=by
    rcases ia with h|h
    ·rw [h]at hg;exact hg
    ·rw [h,cX]at hg;exact hg
   have qg:=hI.grown uU;refine⟨qg.os,qg.tape,qg.output,qg.size,qg.frame,by simpa using qg.len,?_,?_,?_,qg.fz,qg.jH,qg.one,qg.iw,qg.fin,qg.bD.set rfl (λg hd pq=>by cases pq)⟩
   ·intro i c h hc dm
    by_cases hi:i=id
    ·subst hi;rw [oV bI]at hc;injection hc with hc;subst hc;trivial
    ·rw [mw (Ne.symm hi)]at hc;exact qg.rep i c h hc dm
   ·intro i c h g hc wB dm oq
    by_cases hi:i=id
    ·exact V4
    ·rw [mw (Ne.symm hi)]at hc;exact qg.sep i c h g hc wB dm oq
   ·intro i j c d h h' g sI hc qH wB dT dm aZc oq;have key:∀(i:Nat) c,(M.set id .dead)[i]?=some c->c.kq=false->M[i]?=some c:=by
     intro i c hc wB
     by_cases hi:i=id
     ·exact V4
     ·exact aeJ
    exact qg.k5 i j c d h h' g sI (key i c hc wB) (key j d qH dT) wB dT dm aZc oq
  |some g=>
   have AN:w.grownBy w' (some g):=by
    rcases ia with h|h
    ·rw [h]at hg;exact⟨hg.os,hg.tape,hg.output,hg.size,λk hk _=>hg.block k hk (by simp)⟩
    ·rw [h,cX]at hg;exact hg
   exact hI.write hb nG hh cX AN (b':= .dead) trivial
 have avS:∀{i p g},Hid w' ρ (M.set id .dead) i p g->Hid w ρ M i p g:=by
  intro i p g dm;refine dm.back hI.bD hI.len (λi c hc sb=> ?_) (λ_ _ h _=>h) λk q1 _ _ q4=>hg.block k q1 ?_
  ·by_cases hi:i=id
   ·subst hi;rw [oV bI]at hc;injection hc with hc;subst hc;cases sb
   ·exact aeJ
  ·rcases ia with h|h
   ·rw [h];simp
   ·rw [h];exact λe=>q4 ⟨id,b,hd,hb,nG,hh,e.symm⟩
 refine sK.EP (λg cX=> ?_) h1 nw hn;obtain⟨h2,h3⟩:=BE g cX;rcases h3 with h3|h3
 ·obtain⟨s1,s2,s3⟩:=hI.sep id b hd g hb nG hh h3;refine⟨h2,s2,s3,λi c h hc wB dm oq=> ?_,λi p hp=>(hI.bD.ak (avS hp)).2.2.2 ⟨id,b,hd,hb,nG,hh,h3⟩⟩
  by_cases hi:i=id
  ·exact V4
  ·rw [mw (Ne.symm hi)]at hc;exact hI.k5 i id c b h hd g hi hc hb wB nG dm hh oq h3
 ·refine⟨h2,.inr (pz hI.size h3),λa ha e=> ?_,λi c h hc wB dm oq=> ?_,λi p hp=> ?_⟩
  ·have:=hI.fz a ha;omega
  rotate_left
  ·have:=(hI.bD.ak (avS hp)).1;omega
  ·by_cases hi:i=id
   ·exact V4
   ·rw [mw (Ne.symm hi)]at hc;have:=(hI.sep i c h g hc wB dm oq).1;omega
def Inv.freeze(hI:Inv X w0 S F ρ M w){id:Nat}{b:eH}{hd:Hd}{g:Nat}(hb:M[id]?=some b)(nG:b.kq=false)(hh:ρ[id]?=some hd)(cX:hd.dE=some g)
 {b':eH} (du:b'.kq=true) (nw:nx X ρ (λa=>F a∨a.block=g) w hd b') (hn:b'.oj=false:=by rfl):Inv X w0 S (λa=>F a∨a.block=g) ρ (M.set id b') w where
 os:=hI.os
 tape:=hI.tape
 output:=hI.output
 size:=hI.size
 frame:=hI.frame
 len:=Ky
 rep:=λid' c h' hc dm=>by
  by_cases bf:id'=id
  ·exact asc
  ·rw [mw (Ne.symm bf)]at hc;exact(hI.rep id' c h' hc dm).mono (λ_ _ h=>h) (λ_ h=> .inl h) (λ_ _ _ h=>h) (λ_ _=>rfl)
 sep:=λid' c h' g' hc qH dm lx=>by
  by_cases bf:id'=id
  ·subst bf;have bI:=(dX.1 hb).1;rw [oV bI]at hc;injection hc with hc;subst hc;rw [du]at qH;cases qH
  ·rw [mw (Ne.symm bf)]at hc;obtain⟨a1,a2,a3⟩:=hI.sep id' c h' g' hc qH dm lx;refine⟨a1,a2,λa ha e=> ?_⟩;rcases ha with ha|ha
   ·exact a3 a ha e
   ·have:g'=g:=by omega
    subst this;exact hI.k5 id' id c b h' hd g' bf hc hb qH nG dm hh lx cX
 k5:=λi j c d hc h' k sI h1 h2 h3 h4 h5 h6 h7=>by
  have key:∀(i:Nat) c,(M.set id b')[i]?=some c->c.kq=false->M[i]?=some c:=by
   intro i c hc wB
   by_cases bf:i=id
   ·subst bf;have bI:=(dX.1 hb).1;rw [oV bI]at hc;injection hc with hc;subst hc;rw [du]at wB;cases wB
   ·rw [mw (Ne.symm bf)]at hc;exact hc
  exact hI.k5 i j c d hc h' k sI (key i c h1 h3) (key j d h2 h4) h3 h4 h5 h6 h7
 fz:=λa ha=>by
  rcases ha with ha|ha
  ·exact hI.fz a ha
  ·have:=(hI.sep id b hd g hb nG hh cX).1;omega
 jH:=λk=>(hI.jH k).mono (λ_ _ h=>h) (λ_ h=> .inl h) (λ_ _ _ h=>h)
 one:=hI.one
 fin:=λa ha=> .inl (hI.fin a ha)
 iw:=λa ha=>by
  rcases ha with ha|ha
  ·exact hI.iw a ha
  ·rcases(hI.sep id b hd g hb nG hh cX).2.1 with h|h
   ·exact .inr (.inl (by rw [ha];exact h))
   ·exact .inr (.inr (by rw [ha];exact h))
 bD:=by
  refine hI.bD.stay hI.len (λi c hc sb=> ?_) (λ_ _ h=>h) (λ_ h=> .inl h) (λ_ _ _ h=>h) λk h1 h2 h3 h4=>⟨h1,h2,rfl,λa ha e=> ?_,?_⟩
  ·exact aso
  ·rcases ha with ha|ha
   ·exact h3 a ha e
   ·exact h4 ⟨id,b,hd,hb,nG,hh,by rw [cX,<-ha,e]⟩
  ·rintro⟨i,c,hc,q1,q2,q3,q4⟩
   by_cases bf:i=id
   ·subst bf;have bI:=(dX.1 hb).1;rw [oV bI]at q1;injection q1 with q1;subst q1;rw [du]at q2;cases q2
   ·exact apS
end
def eR(ids:dy)(M M':aL):Prop:=M.length<=M'.length/\∀id,id<M.length->id∉ids->M'[id]?=M[id]?
def eR.refl(ids:dy)(M:aL):eR ids M M:=⟨gQ _,λ_ _ _=>rfl⟩
def eR.push(ids:dy)(M:aL)(b:eH):eR ids M (M++[b]):=⟨by simp,λid h _=>kV h⟩
def eR.set(M:aL)(id:Nat)(b:eH):eR [id] M (M.set id b):=⟨by simp,λi _ h=>mw (λe=>h (by simp [e]))⟩
def eR.trans{M B8:aL}(h:eR ids M M')(k:eR XV M' B8):eR (ids++XV) M B8:=
 ⟨pz h.1 k.1,λi hi hn=>by
   rw [nA,not_or]at hn;rw [k.2 i (qQ hi h.1) hn.2,h.2 i hi hn.1]⟩
def eR.mono{M:aL}(h:eR ids M M')(hs:∀i∈ids,i∈XV):eR XV M M':=⟨h.1,λi hi hn=>h.2 i hi λe=>hn (hs i e)⟩
structure Grow(F F':bC)(ρ ρ':bF)(w w':World):Prop where
 hF:∀a,F a->F' a
 gP:∀(id:Nat) hd,ρ[id]?=some hd->ρ'[id]?=some hd
 hb:∀a,F a->w'.heap[a.block]?=w.heap[a.block]?
def ab7{w w':World}{a:Addr}(h:w'.heap[a.block]?=w.heap[a.block]?)(hc:w.cell? a=some v):w'.cell? a=some v:=by
 unfold World.cell? at hc⊢;rw [h];exact hc
def Grow.hw{F:bC}{ρ:bF}{w w':World}(h:Grow F F' ρ ρ' w w'):∀a v,F a->w.cell? a=some v->w'.cell? a=some v:=λa _ ha hc=>ab7 (h.hb a ha) hc
def Inv.BM{w0 w w':World}{S:Sc}{F:bC}{ρ:bF}{M:aL}(hI:Inv X w0 S F ρ M w)(hg:w.grownBy w' row)(ia:∀k,row=some k->∀a,F a->a.block≠k):∀a,F a->w'.heap[a.block]?=w.heap[a.block]?:=
 λa ha=>hg.block a.block (hI.fz a ha) λe=>ia _ e.symm a ha rfl
def Grow.refl(F:bC)(ρ:bF)(w:World):Grow F F ρ ρ w w:=⟨λ_ h=>h,λ_ _ h=>h,λ_ _=>rfl⟩
def Grow.trans{F F' yL:bC}{ρ ρ' ye:bF}{w w' vt:World}(h:Grow F F' ρ ρ' w w')(k:Grow F' yL ρ' ye w' vt):Grow F yL ρ ye w vt:=
 ⟨λa ha=>k.hF a (h.hF a ha),λid hd hh=>k.gP id hd (h.gP id hd hh),λa ha=>(k.hb a (h.hF a ha)).trans (h.hb a ha)⟩
def aR.grow{K:TypeId->fh}{F:bC}{ρ:bF}{w w':World}{x:AV}(h:aR K ρ F w x v)(g:Grow F F' ρ ρ' w w'):aR K ρ' F' w' x v:=h.mono g.gP g.hF g.hw
def mA.grow{F F':bC}{ρ ρ':bF}{w w':World}{env:cf}{tmps:Array Value}(h:mA X ρ F w env tmps)(g:Grow F F' ρ ρ' w w'):mA X ρ' F' w' env tmps:=λt=>(h t).grow g
def dZ.grow{K:TypeId->fh}{F F':bC}{ρ ρ':bF}{w w':World}{xs:aq}{vs:jb}(h:dZ K ρ F w xs vs)(g:Grow F F' ρ ρ' w w'):dZ K ρ' F' w' xs vs:=⟨h.1,λj x v hx hv=>(h.2 j x v hx hv).grow g⟩
end
end Go.ah
namespace Go.ah
def asl{p:Prop}(h:p:=by
 rcases z7 hc with⟨_,rfl⟩|⟨_,hc⟩
 ·cases h1
 ·rcases z7 hd with⟨_,rfl⟩|⟨_,hd⟩
  ·cases h2
  ·exact hI.k5 i j c d h h' g sI hc hd h1 h2 hh dm hg):p:=h
def aM{p:Prop}(h:p:=by cases h):p:=h
def aq1{p:Prop}(h:p:=by
 rcases z7 hc with⟨_,rfl⟩|⟨_,hc⟩
 ·cases hd
 ·exact hI.sep i c h g hc hd hh hg):p:=h
def aqW{p:Prop}(h:p:=by
 rcases z7 hc with⟨_,rfl⟩|⟨_,hc⟩
 ·trivial
 ·exact hI.rep i c h hc hh):p:=h
def aeS{p:Prop}(h:p:=by injection hk with hk;subst hk;exact h2 a hF):p:=h
def aqJ{p:Prop}(h:p:=by
 rcases z7 q1 with⟨_,rfl⟩|⟨_,q1⟩
 ·cases q2
 ·exact⟨i,c,h,q1,q2,q3,q4⟩):p:=h
def Vg{p:Prop}(h:p:=by rw [oV bI]):p:=h
end Go.ah
namespace Go.ah
def zX:=@List.getElem?_set
def TV:=@List.set_set
end Go.ah
namespace Go.ah
open Go
noncomputable section
variable {X:Cx} {w0 w w':World} {S:Sc} {F:bC} {ρ:bF} {M:aL}
variable{b:eH}{hd:Hd}{g i id:Nat}{p:Option (Nat×Nat)}{op:Option (Nat×Nat×Nat)}{t:TypeId}{xs:aE}
def rX(w:World)(hd:Hd)(xs:aE)(op:Option (Nat×Nat×Nat))(p:Option (Nat×Nat))(g:Nat):Prop:=
 (p=none/\hd.dE=some g)∨∃i j row e ys v,p=some (i,j)/\xs[i]?=some row/\row[j]?=some (.sub e ys)/\jQ op i j=none/\cellOf w hd i j=some v/\Value.dE v=some g
def Hid.tZ(hb:M[id]?=some (.bD t xs op))(hh:ρ[id]?=some hd)(h:rX w hd xs op p g):Hid w ρ M id p g:=by
 rcases h with⟨rfl,hg⟩|⟨i,j,row,e,ys,v,rfl,h1,h2,h3,h4,h5⟩
 ·exact .out hb hh hg
 ·exact .sub hb hh h1 h2 h3 h4 h5
def Hid.toB(h:Hid w ρ M id p g):∃t xs op hd,M[id]?=some (.bD t xs op)/\ρ[id]?=some hd/\rX w hd xs op p g:=by
 cases h with
 |out hb hh hg=>exact⟨_,_,_,_,hb,hh,.inl ⟨rfl,hg⟩⟩
 |sub hb hh hi hj ho hc hg=>exact⟨_,_,_,_,hb,hh,.inr ⟨_,_,_,_,_,_,rfl,hi,hj,ho,hc,hg⟩⟩
def z7{c:eH}(h:(M.set id b)[i]?=some c):(i=id/\c=b)∨(i≠id/\M[i]?=some c):=by
 by_cases hi:i=id
 ·subst hi;have bI:i<M.length:=by have:=(dX.1 h).1;simpa using this
  rw [oV bI]at h;injection h with h;exact .inl ⟨rfl,h.symm⟩
 ·rw [mw (Ne.symm hi)]at h;exact .inr ⟨hi,h⟩
def Hid.wV(hn:b.oj=false)(h:Hid w ρ (M.set id b) i p g):i≠id/\Hid w ρ M i p g:=by
 obtain⟨t,xs,op,hd,hb,hh,h⟩:=h.toB;rcases z7 hb with⟨_,e⟩|⟨hi,hb⟩
 ·subst e;cases hn
 ·exact⟨hi,.tZ hb hh h⟩
def Inv.drop(hI:Inv X w0 S F ρ M w){id:Nat}{b:eH}(hb:M[id]?=some b)(qf:b.kq=true):Inv X w0 S F ρ (M.set id .dead) w where
 os:=hI.os
 tape:=hI.tape
 output:=hI.output
 size:=hI.size
 frame:=hI.frame
 len:=Ky
 rep:=λi c h hc hh=>aqW
 sep:=λi c h g hc hd hh hg=>aq1
 k5:=λi j c d h h' g sI hc hd h1 h2 hh dm hg=>asl
 fz:=hI.fz
 jH:=hI.jH
 one:=hI.one
 iw:=hI.iw
 fin:=hI.fin
 bD:=hI.bD.set rfl λ_ _ h=>aM
def Inv.aKC(hI:Inv X w0 S F ρ M w){g:Nat}(hg:w.grownBy w' (some g))(h1:S g∨w0.heap.size<=g)(h2:∀a,F a->a.block≠g)(h3:¬rW ρ M g)(h4:∀id p,¬Hid w ρ M id p g):Inv X w0 S F ρ M w' where
 os:=hg.os.trans hI.os
 tape:=hg.tape.trans hI.tape
 output:=hg.output.trans hI.output
 size:=pz hI.size hg.size
 frame:=λk q1 q2=>by
  refine(hg.block k (qQ q1 hI.size) ?_).trans (hI.frame k q1 q2);intro e;injection e with e;subst e;rcases h1 with h|h
  ·exact q2 h
  ·omega
 len:=hI.len
 rep:=λid c hd hc hh=>by
  have hw:=hI.cells hg (λk hk a hF=>aeS);cases dT:c.kq with
  |true=>exact(hI.rep id c hd hc hh).TC (λ_ _ h=>h) (λ_ h=>h) hw dT
  |false=>exact(hI.rep id c hd hc hh).mono (λ_ _ h=>h) (λ_ h=>h) hw λk hk=>hg.block k (hI.sep id c hd k hc dT hh hk).1 λe=>by injection e with e;subst e;exact h3 ⟨id,c,hd,hc,dT,hh,hk⟩
 sep:=λid c hd k hc dT hh hk=>let⟨a1,a2,a3⟩:=hI.sep id c hd k hc dT hh hk;⟨qQ a1 hg.size,a2,a3⟩
 k5:=hI.k5
 fz:=λa ha=>qQ (hI.fz a ha) hg.size
 jH:=λk=>(hI.jH k).mono (λ_ _ h=>h) (λ_ h=>h) (hI.cells hg (λk hk a hF=>aeS))
 one:=hI.one
 iw:=hI.iw
 fin:=hI.fin
 bD:=by
  have hw:=hI.cells hg (λk hk a hF=>aeS);refine hI.bD.arL hI.len (λ_ _ h _=>h) (λ_ _ h _=>h) (λ_ _ hr q1 q2=>hr.mono (λ_ _ h=>h) (λ_ h=>h) hw q1 q2) λk ⟨id,p,hh,_⟩=> ?_;obtain⟨a1,a2,a3,a4⟩:=hI.bD.ak hh;exact⟨qQ a1 hg.size,a2,hg.block k a1 λe=>by injection e with e;subst e;exact h4 _ _ hh,a3,a4⟩
def Inv.install(hI:Inv X w0 S F ρ M w){id:Nat}{b:eH}{hd:Hd}{t:TypeId}{xs:aE}{op:Option (Nat×Nat×Nat)}(hb:M[id]?=some b)(qf:b.kq=true)(hbn:b.oj=false)(hh:ρ[id]?=some hd)(hr:pZ X ρ F w hd t xs op)
 (ahe:∀p g,rX w hd xs op p g->g<w.heap.size/\(S g∨w0.heap.size<=g)/\(∀a,F a->a.block≠g)/\¬rW ρ M g/\∀i q,¬Hid w ρ M i q g) (ahh:∀p q g,rX w hd xs op p g->rX w hd xs op q g->p=q):
 Inv X w0 S F ρ (M.set id (.bD t xs op)) w where
 os:=hI.os
 tape:=hI.tape
 output:=hI.output
 size:=hI.size
 frame:=hI.frame
 len:=Ky
 rep:=λi c h hc hh=>aqW
 sep:=λi c h g hc hd hh hg=>aq1
 k5:=λi j c d h h' g sI hc hd h1 h2 hh dm hg=>asl
 fz:=hI.fz
 jH:=hI.jH
 one:=hI.one
 iw:=hI.iw
 fin:=hI.fin
 bD:=by
  have ours:∀{g},rW ρ (M.set id (.bD t xs op)) g->rW ρ M g:=by
   rintro g ⟨i,c,h,q1,q2,q3,q4⟩;exact aqJ
  have afg:∀{i p g},Hid w ρ (M.set id (.bD t xs op)) i p g->(i=id/\rX w hd xs op p g)∨(i≠id/\Hid w ρ M i p g):=by
   intro i p g hi;obtain⟨t',jd,sE,du,q1,q2,q3⟩:=hi.toB;rcases z7 q1 with⟨e,e2⟩|⟨hi,q1⟩
   ·injection e2 with e2 e3 e4;subst e;subst e2;subst e3;subst e4;rw [hh]at q2;injection q2 with q2;subst q2;exact .inl ⟨rfl,q3⟩
   ·exact .inr ⟨hi,.tZ q1 q2 q3⟩
  refine⟨λ{i p g} hi=> ?_,λ{i i' p p' g} h1 h2=> ?_,λ{i t' jd sE du} mv dm=> ?_⟩
  ·rcases afg hi with⟨_,hi⟩|⟨_,hi⟩
   ·obtain⟨a1,a2,a3,a4,_⟩:=ahe p g hi;exact⟨a1,a2,a3,λh=>a4 (ours h)⟩
   ·obtain⟨a1,a2,a3,a4⟩:=hI.bD.ak hi;exact⟨a1,a2,a3,λh=>a4 (ours h)⟩
  ·rcases afg h1 with⟨e1,h1⟩|⟨_,h1⟩<;>rcases afg h2 with⟨e2,h2⟩|⟨_,h2⟩
   ·exact⟨e1.trans e2.symm,ahh _ _ _ h1 h2⟩
   ·exact((ahe _ _ h1).2.2.2.2 _ _ h2).elim
   ·exact((ahe _ _ h2).2.2.2.2 _ _ h1).elim
   ·exact hI.bD.inj h1 h2
  ·rcases z7 mv with⟨e,e2⟩|⟨_,mv⟩
   ·injection e2 with e2 e3 e4;subst e;subst e2;subst e3;subst e4;rw [hh]at dm;injection dm with dm;subst dm;exact hr
   ·exact hI.bD.rep mv dm
def Inv.aoE{w0 w:World}{S:Sc}{F:bC}{ρ:bF}{M:aL}(hI:Inv X w0 S F ρ M w){id:Nat}{b:eH}{hd:Hd}{g:Nat}{b0:eH}(nG:M[id]?=some b0)(hh:ρ[id]?=some hd)(cX:hd.dE=some g)
 (h1:g<w.heap.size) (h2:S g∨w0.heap.size<=g) (h3:∀a,F a->a.block≠g) (h4:∀(id':Nat) b' du,M[id']?=some b'->b'.kq=false->ρ[id']?=some du->du.dE≠some g) (h5:∀i p,¬Hid w ρ M i p g) (nw:nx X ρ F w hd b) (hn:b.oj=false:=by rfl):
 Inv X w0 S F ρ (M.set id b) w where
 os:=hI.os
 tape:=hI.tape
 output:=hI.output
 size:=hI.size
 frame:=hI.frame
 len:=by simp [hI.len]
 rep:=λi b' du hb dm=>by
  rw [zX]at hb;split at hb
  ·rename_i e;subst e;split at hb
   ·injection hb with hb;subst hb;rw [hh]at dm;injection dm with dm;subst dm;exact nw
   ·cases hb
  ·exact hI.rep i b' du hb dm
 sep:=λi b' du g' hb dT dm oq=>by
  rw [zX]at hb;split at hb
  ·rename_i e;subst e;rw [hh]at dm;injection dm with dm;subst dm;rw [cX]at oq;injection oq with e;subst e;exact⟨h1,h2,h3⟩
  ·exact hI.sep i b' du g' hb dT dm oq
 k5:=λi j b1 b2 AP qH g' sI zN im avZ avY zK xm AN tq=>by
  rw [zX]at zN im;split at zN
  ·rename_i e;subst e;rw [if_neg sI]at im;rw [hh]at zK;injection zK with zK;subst zK;rw [cX]at AN;injection AN with e;subst e;exact h4 j b2 qH im avY xm tq
  ·split at im
   ·rename_i e;subst e;rw [hh]at xm;injection xm with xm;subst xm;rw [cX]at tq;injection tq with e;subst e;exact h4 i b1 AP zN avZ zK AN
   ·exact hI.k5 i j b1 b2 AP qH g' sI zN im avZ avY zK xm AN tq
 fz:=hI.fz
 jH:=hI.jH
 one:=hI.one
 iw:=hI.iw
 fin:=hI.fin
 bD:=hI.bD.set hn λg' h' _ dm hg=> .inr (by rw [hh]at dm;injection dm with dm;subst dm;rw [cX]at hg;injection hg with hg;subst hg;exact h5)
def Inv.aMx(hI:Inv X w0 S F ρ M w)(G:Nat->Prop)(h:∀g,G g->g<w.heap.size/\(S g∨w0.heap.size<=g)/\¬rW ρ M g/\∀i p,¬Hid w ρ M i p g):Inv X w0 S (λa=>F a∨G a.block) ρ M w where
 os:=hI.os
 tape:=hI.tape
 output:=hI.output
 size:=hI.size
 frame:=hI.frame
 len:=hI.len
 rep:=λid b hd hb hh=>(hI.rep id b hd hb hh).mono (λ_ _ h=>h) (λ_ h=> .inl h) (λ_ _ hF hc=>hc) (λ_ _=>rfl)
 sep:=λid b hd g hb dT hh cX=>let⟨a1,a2,a3⟩:=hI.sep id b hd g hb dT hh cX;⟨a1,a2,λa ha e=>by
  rcases ha with ha|ha
  ·exact a3 a ha e
  ·exact(h _ ha).2.2.1 ⟨id,b,hd,hb,dT,hh,by rw [cX,e]⟩⟩
 k5:=hI.k5
 fz:=λa ha=>by
  rcases ha with ha|ha
  ·exact hI.fz a ha
  ·exact(h _ ha).1
 jH:=λg=>(hI.jH g).mono (λ_ _ h=>h) (λ_ h=> .inl h) (λ_ _ _ h=>h)
 one:=hI.one
 iw:=λa ha=>by
  rcases ha with ha|ha
  ·exact hI.iw a ha
  ·exact .inr (h _ ha).2.1
 fin:=λa ha=> .inl (hI.fin a ha)
 bD:=⟨λ{id p g} hh=>by
  obtain⟨a1,a2,a3,a4⟩:=hI.bD.ak hh;refine⟨a1,a2,λa ha e=> ?_,a4⟩;rcases ha with ha|ha
  ·exact a3 a ha e
  ·exact(h _ ha).2.2.2 id p (by rw [e];exact hh),hI.bD.inj,λhb hh=>(hI.bD.rep hb hh).mono (λ_ _ h=>h) (λ_ h=> .inl h) (λ_ _ _ h=>h) (λ_ _=>rfl) (λ_ _ _ _ _ _ _ _ _ _ _ _=>rfl)⟩
def Inv.aNo(hI:Inv X w0 S F ρ M w){jd:aE}{sE:Option (Nat×Nat×Nat)}(hb:M[id]?=some (.bD t xs op))(hh:ρ[id]?=some hd)(cX:hd.dE=some g)(hg:w.grownBy w' (some g))
 (hr:pZ X ρ F w' hd t jd sE) (hs:∀p k,rX w' hd jd sE p k->rX w hd xs op p k):Inv X w0 S F ρ (M.set id (.bD t jd sE)) w':=by
 have bI:=(dX.1 hb).1;obtain⟨a1,a2,a3,a4⟩:=hI.bD.ak (.out hb hh cX);have sK:=hI.drop hb rfl;have ours:∀{k},rW ρ (M.set id .dead) k->rW ρ M k:=by
  rintro k ⟨i,c,h,q1,q2,q3,q4⟩;exact aqJ
 have no:∀i p,¬Hid w ρ (M.set id .dead) i p g:=λi p h=>by
  obtain⟨fv,h⟩:=h.wV rfl;exact fv (hI.bD.inj h (.out hb hh cX)).1
 have qI:=sK.aKC hg a2 a3 (λh=>a4 (ours h)) no;have:=qI.install (id:=id) (b:= .dead) (op:=sE) (Vg) rfl rfl hh hr (λp k hk=> ?_) λp q k h1 h2=>(hI.bD.inj (.tZ hb hh (hs _ _ h1)) (.tZ hb hh (hs _ _ h2))).2
 ·rw [TV]at this;exact this
 ·obtain⟨b1,b2,b3,b4⟩:=hI.bD.ak (.tZ hb hh (hs _ _ hk));refine⟨qQ b1 hg.size,b2,b3,λh=>b4 (ours h),λi q h=> ?_⟩;have h:=h.af7 (w:=w) sK.len (λ_ _ h _=>h) (λ_ _ h _=>h) λk' ⟨i',p',dm,_⟩=>hg.block k' (sK.bD.ak dm).1 λe=>by injection e with e;subst e;exact no _ _ dm
  obtain⟨fv,h⟩:=h.wV rfl;exact fv (hI.bD.inj h (.tZ hb hh (hs _ _ hk))).1
end
end Go.ah
namespace Go.ah
def uj{p:Prop}(h:p:=by simpa using this):p:=h
def aqM{p:Prop}(h:p:=by have:=f.u;rw [h]at this;cases d<;>simp [rP]at this;subst this;exact f.od):p:=h
end Go.ah
namespace Go.ah
def kW:=@List.getElem?_map
def mz:=@Go.run_underlying
def iB:=@Go.Sem.run_bind
def lg:=@Go.Result.andThen_ok
def iA:=@beq_iff_eq
def Ek:=@Array.ext'
end Go.ah
namespace Go.ah
open Go
noncomputable section
variable{t:TypeId}
def HZ(P:Program)(t:TypeId):Bool:=
 match P.underlying t with
 |some (.struct fs)=>(fs.toList.all fun f=>f.name != "_")&& !P.stoodInHeld t&& !P.eqGuardType P.depth t
 |_=>false
structure qT(X:Cx)(t:TypeId)(i:TypeInfo)(d:TypeDesc)(z:Value):Prop where
 info:X.P.info? t=some i
 od:X.P.underlying t=some d
 zero:i.zero=some z
 u:(X.ti t).u =rP d
 size:(X.ti t).size =i.size
 bytes:(X.ti t).bytes =i.bytes
 zc:(X.ti t).zero =z.cells.toList.map EK
 zs:z.cells.size=i.size
 ks:(X.ti t).ks.length =i.size
 zag:XC z=(X.ti t).u.agg
structure aZ6(P:Program)(u:Ub):Prop where
 pt:P.underlying u.pt=some (.pointer u.bt)
 up:P.underlying u.up=some .unsafePointer
 bt:∃j,P.info? u.bt=some j/\j.size≠0
 a0d:liesAt P P.depth u.e (u.ks.length/P.cellsOf u.e) 0 u.bt 1=true
 ks:0<u.ks.length
 ne:∃fn,P.funcs[u.ne]?=some fn/\(fn.name== "runtime.NumGoroutine")=false/\fn.body.isNone=true/\Extern.findNext fn=none/\Extern.find fn=some Extern.AbiNoEscape.same
structure Cx.Okb(X:Cx):Prop where
 facts:∀{t},(X.ti t).ok =true->∃i d z,qT X t i d z
 mixed:X.P.follows .mixedOrders =true
 bad:∀t,(X.ti t).ok =false->(X.ti t).ks =[]
 jH:∀g,X.jH g= .top ∨(X.jH g).pure =true
 eqs:∀t,X.eqs t=true->HZ X.P t=true
 VE:X.pk=true->∀t,∀k∈X.K t,k≠ .any
 ub:∀u,X.ub=some u->aZ6 X.P u
structure Cx.Ok(X:Cx):Prop extends Cx.Okb X where
 pkt:X.pk=true
variable {X:Cx} {R:Type}
def Cx.Ok.kinds(hX:X.Ok)(t:TypeId):∀k∈X.K t,k≠ .any :=hX.toOkb.VE hX.pkt t
def Cx.Okb.ok(hX:X.Okb)(h:X.pk=true):X.Ok:=⟨hX,h⟩
instance aZ9:Coe X.Ok X.Okb:=⟨Cx.Ok.toOkb⟩
def aIF(ht:∀t,(X.ti t).ok =true->X.ti t=E9 X.P t)(hb:∀t,(X.ti t).ok =false->(X.ti t).ks =[])(t:TypeId):∀k∈X.K t,k≠ .any :=by
 intro k hk;cases h:(X.ti t).ok with
 |false=>
  have:=hb t h;simp [Cx.K,this]at hk
 |true=>
  have e:=ht t h;unfold Cx.K at hk;rw [e]at hk;unfold E9 at hk;split at hk
  ·split at hk
   ·exact abW _ _ _ k hk
   ·simp at hk
  ·simp at hk
def TI.alike(a b:TI):Prop:=a.ok=b.ok/\a.u=b.u/\a.size=b.size/\a.bytes=b.bytes/\a.zero=b.zero/\a.ks.length=b.ks.length
def aII(e:TI.alike (X.ti t) (E9 X.P t))(h:(X.ti t).ok =true):∃i d z,qT X t i d z:=by
 obtain⟨e1,e2,e3,e4,e5,e6⟩:=e;unfold E9 at e1 e2 e3 e4 e5 e6;cases hi:X.P.info? t with
 |none=>simp only [hi]at e1;rw [e1]at h;simp at h
 |some i=>
  cases hd:X.P.underlying t with
  |none=>simp only [hi,hd]at e1;rw [e1]at h;simp at h
  |some d=>
   cases hz:i.zero with
   |none=>simp only [hi,hd,hz]at e1;rw [e1]at h;simp at h
   |some z=>
    simp only [hi,hd,hz]at e1 e2 e3 e4 e5 e6;rw [e1]at h;simp only [bA,iA]at h;exact⟨i,d,z,⟨hi,hd,hz,e2,e3,e4,e5,h.1.1,by rw [e6];exact h.1.2,by rw [e2];exact h.2⟩⟩
def qT.isAgg{t:TypeId}{i:TypeInfo}{d:TypeDesc}{z:Value}(f:qT X t i d z)(w:World):(isAgg t).run X.P w= .ok (X.ti t).u.agg w:=by
 rw [f.u];unfold Go.isAgg;simp only [iB,mz f.od,lg];cases d<;>rfl
def qT.sizeOf{t:TypeId}{i:TypeInfo}{d:TypeDesc}{z:Value}(f:qT X t i d z)(w:World):(sizeOf t).run X.P w= .ok (X.ti t).size w:=by
 rw [f.size];unfold Go.sizeOf typeInfo;simp [f.info]
def qT.zeroValue{t:TypeId}{i:TypeInfo}{d:TypeDesc}{z:Value}(f:qT X t i d z)(w:World):(zeroValue t).run X.P w= .ok z w:=by
 unfold Go.zeroValue typeInfo;simp [f.info,f.zero]
def qT.typeInfo{t:TypeId}{i:TypeInfo}{d:TypeDesc}{z:Value}(f:qT X t i d z)(w:World):(typeInfo t).run X.P w= .ok i w:=by
 unfold Go.typeInfo;simp [f.info]
def qT.slice{t e:TypeId}{i:TypeInfo}{d:TypeDesc}{z:Value}(f:qT X t i d z)(h:(X.ti t).u = .slice e):X.P.underlying t=some (.slice e):=aqM
def qT.array{t e:TypeId}{n:Nat}{i:TypeInfo}{d:TypeDesc}{z:Value}(f:qT X t i d z)(h:(X.ti t).u = .array n e):X.P.underlying t=some (.array n e):=by
 have:=f.u;rw [h]at this;cases d<;>simp [rP]at this;obtain⟨rfl,rfl⟩:=this;exact f.od
def qT.avD{k:IntKind}{i:TypeInfo}{d:TypeDesc}{z:Value}(f:qT X t i d z)(h:(X.ti t).u = .int k):X.P.underlying t=some (.int k):=aqM
def qT.struct{t:TypeId}{fs:List (Nat×TypeId)}{i:TypeInfo}{d:TypeDesc}{z:Value}(f:qT X t i d z)(h:(X.ti t).u = .struct fs):
 ∃gs:Array Field,X.P.underlying t=some (.struct gs)/\fs=gs.toList.map λf=>(f.offset,f.type):=by
 have:=f.u;rw [h]at this;cases d<;>simp [rP]at this;exact⟨_,f.od,this⟩
def acb(K:TypeId->fh)(ρ:bF)(F:bC)(w:World)(v:Value):aR K ρ F w (EK v) v:=by
 unfold EK;split<;>constructor
def aIu(K:TypeId->fh)(ρ:bF)(F:bC)(w:World)(v:Value):aR K ρ F w (adX v) v:=by
 unfold adX;split
 ·rename_i cs;have:=aR.agg (K:=K) (ρ:=ρ) (F:=F) (w:=w) (cs.toList.map EK) cs.toList (by simp) (λj x v hx hv=>by
   rw [kW,hv]at hx;simp at hx;subst hx;exact acb K ρ F w v)
  exact uj
 ·rename_i cs;split
  ·rename_i h;have vK:cs= #[]:=by apply Ek;simpa using h
   subst vK;exact aR.gw [] [] rfl (λj x v hx _=>Bb)
  ·exact .top _
 ·exact acb K ρ F w v
def amo(K:TypeId->fh)(ρ:bF)(F:bC)(w:World)(vs:jb):dZ K ρ F w (vs.map EK) vs:=
 ⟨by simp,λj x v hx hv=>by
   rw [kW,hv]at hx;simp at hx;subst hx;exact acb K ρ F w v⟩
def Jv{K:TypeId->fh}{ρ:bF}{F:bC}{w:World}{x:AV}{v:Value}(h:aR K ρ F w x v)(hx:x.leaf=true)(gP:∀(id:Nat) hd,ρ[id]?=some hd->hd.v.oneCell'=true):v.oneCell'=true:=by
 cases h<;>simp_all [AV.leaf,Value.oneCell']<;>(apply gP;assumption)
def aR.cells{K:TypeId->fh}{ρ:bF}{F:bC}{w:World}{x:AV}{v:Value}(h:aR K ρ F w x v)(hx:x.leaf=true∨∃cs,x= .agg cs)
 (gP:∀(id:Nat) hd,ρ[id]?=some hd->hd.v.oneCell'=true):dZ K ρ F w x.cells v.cells.toList:=by
 rcases hx with hx|⟨cs,rfl⟩
 ·have h1:=Jv h hx gP;have e1:x.cells=[x]:=by cases x<;>simp_all [AV.cells,AV.leaf]
  have e2:v.cells= #[v]:=by cases v<;>simp_all [Value.cells,Value.oneCell']
  rw [e1,e2];refine⟨rfl,λj y u hy hu=> ?_⟩;cases j with
  |zero=>simp at hy hu;subst hy;subst hu;exact h
  |succ j=>simp at hy
 ·cases h with
  |agg _ vs hl h=>exact⟨by simpa [Value.cells,AV.cells]using hl,by simpa [Value.cells,AV.cells]using h⟩
end
end Go.ah
namespace Go.ah
def eE{p:Prop}(h:p:=by simp;omega):p:=h
def mU{p:Prop}(h:p:=by simpa using h):p:=h
def aqo{p:Prop}(h:p:=by rw [X1]at hu;cases d<;>simp [rP]at hu;exact f.od):p:=h
def aql{p:Prop}(h:p:=by
 cases hac:a==c with
 |false=>simp [mQ]
 |true=>simpa using ih):p:=h
def aqb{p:Prop}(h:p:=by
 rw [show off+(j- off)=j by omega]at this;simpa [List.getD,X7]using this):p:=h
def aeB{p:Prop}(h:p:=by rw [Oo];exact hu):p:=h
end Go.ah
namespace Go.ah
def mQ:=@Go.Sem.run_pure
def mh:=@List.length_cons
def sS:=@Array.length_toList
def Oo:=@Array.getElem?_toList
def my:=@List.map_cons
def iz:=@List.mem_cons
def adF:=@List.drop_eq_getElem_cons
def mP:=@List.all_eq_true
def pA:=@List.getD_eq_getElem?_getD
def qm:=@Option.getD_some
def oW:=@Bool.false_eq_true
def sj:=@if_false
def GS:=@Bool.or_eq_true
def Um:=@of_decide_eq_true
def iy:=@Bool.not_eq_true'
def T2:=@List.map_nil
def T1:=@List.take_succ_cons
def GL:=@Array.getElem?_eq_getElem
def uY:=@if_true
end Go.ah
namespace Go.ah
open Go
noncomputable section
variable {X:Cx} {R:Type}
variable{x:AV}{kd:Kind}{j off:Nat}{op:Option (Nat×Nat×Nat)}{r:R}{t:TypeId}{cs xs:aq}{ks:fh}
def a8(b:Bool)(x:Option R):Option R:=match b with|true=>x|false=>none
def cP{b:Bool}{x:Option R}(h:a8 b x=some r):b=true/\x=some r:=by
 cases b<;>simp_all [a8]
def DH(ks:fh)(row:Row)(off:Nat):Nat->aq
 |0=>[]
 |n+1=>ld (ks.getD off .raw) (row.getD off .top)::DH ks row (off+1) n
def ae3{ks:fh}{row:Row}(h:dq ks row=true):∀(n off:Nat),off+n<=ks.length->DH ks row off n=(row.drop off).take n
 |0,off,_=>by simp [DH]
 |n+1,off,hb=>by
  have hl:=lQ h;have h1:off<row.length:=by omega
  have h2:off<ks.length:=by omega
  simp only [DH,List.getD,c8 h1,c8 h2,qm];rw [GD (wN h (c8 h2) (c8 h1)),ae3 h n (off+1) (by omega)];rw [adF h1,T1]
def Kind.v:Kind->Kind| .slice _=> .any | .raw => .any |k=>k
def kAt(ks:fh)(off:Nat)(k:Kind):Bool:=(ks.all (·==k))||(ks.getD off .raw ==k)
def aMr{k:Kind}(h:kAt ks off k=true)(ho:off<ks.length):ks[off]?=some k:=by
 unfold kAt at h;rw [GS]at h;rcases h with h|h
 ·rw [mP]at h;rw [c8 ho];have:=h _ (cY ho);simp at this;rw [this]
 ·rw [iA,List.getD,c8 ho]at h;rw [c8 ho];exact mU
def setAt:aq->Nat->aq->aq
 |cs,_,[]=>cs
 |cs,off,x::xs=>setAt (cs.set off x) (off+1) xs
def JI:∀(xs cs:aq) (off:Nat),(setAt cs off xs).length =cs.length
 | [],_,_=>rfl
 |x::xs,cs,off=>by simp [setAt,JI xs]
def GB:∀(xs cs:aq) (off:Nat),off+xs.length<=cs.length->∀(j:Nat),(setAt cs off xs)[j]?=if off<=j/\j<off+xs.length then xs[j- off]? else cs[j]?
 | [],cs,off,_,j=>by simp [setAt];omega
 |x::xs,cs,off,h,j=>by
  simp only [mh]at h;rw [setAt,GB xs (cs.set off x) (off+1) (eE) j]
  by_cases h1:j=off
  ·subst h1;rw [if_neg (by omega),if_pos (by simp),oV (by omega)];simp
  ·by_cases h2:off+1<=j/\j<off+1+xs.length
   ·rw [if_pos h2,if_pos (eE)];rw [show j- off=(j-(off+1))+1 by omega];simp
   ·rw [if_neg h2,if_neg (eE),mw (Ne.symm h1)]
def Xd:fh->Nat->aq->Bool
 |_,_,[]=>true
 |ks,off,x::xs=>js (ks.getD off .raw) x&&Xd ks (off+1) xs
def Li(ks:fh)(off:Nat)(xs:aq):Bool:=
 (match ks with|k::r=>(r.all (·==k))&&xs.all (js k)| []=>false)||Xd ks off xs
def anr:∀{xs:aq} {ks:fh} {off:Nat},Xd ks off xs=true->∀{j:Nat} {x:AV},xs[j]?=some x->js (ks.getD (off+j) .raw) x=true
 | [],_,_,_,j,x,hx=>Bb
 |y::ys,ks,off,h,j,x,hx=>by
  simp only [Xd,bA]at h;cases j with
  |zero=>simp at hx;subst hx;exact h.1
  |succ j=>
   have:=anr h.2 (j:=j) (x:=x) (Kv)
   rwa [show off+(j+1)=off+1+j by omega]
def adr(h:Li ks off xs=true)(hb:off+xs.length<=ks.length)(hx:xs[j]?=some x):js (ks.getD (off+j) .raw) x=true:=by
 unfold Li at h;rw [GS]at h;rcases h with h|h
 ·cases ks with
  |nil=>exact jY
  |cons k r=>
   simp only [bA,mP]at h;have hj:j<xs.length:=(dX.1 hx).1;have bI:off+j<(k::r).length :=by omega
   have hk:(k::r).getD (off+j) .raw =k:=by
    simp only [List.getD,c8 bI,qm];have hm:=cY bI;rcases iz.1 hm with e|e
    ·exact e
    ·simpa using h.1 _ e
   rw [hk];exact h.2 x (qk hx)
 ·exact anr h hx
def amc(hk:dq ks cs=true)(h:Li ks off xs=true)(hb:off+xs.length<=ks.length):dq ks (setAt cs off xs)=true:=by
 have hl:=lQ hk;refine Ov (by rw [JI];exact hl) λj k x X7 hx=> ?_;rw [GB xs cs off (by omega) j]at hx
 by_cases hj:off<=j/\j<off+xs.length
 ·rw [if_pos hj]at hx;have:=adr h hb hx;exact aqb
 ·rw [if_neg hj]at hx;exact wN hk X7 hx
def ag6(ks:fh)(off:Nat):Kind:=
 match ks with
 | []=> .raw
 |k::r=>match r.all (·==k)with|true=>k|false=>(k::r).getD off .raw
def aMq(h:off<ks.length):ag6 ks off=ks[off]:=by
 unfold ag6;split
 ·exact jY
 ·rename_i k r;split
  ·rename_i ha;cases off with
   |zero=>rfl
   |succ o=>
    have:=mP.1 ha (r[o]'(mU)) (cY _);simpa using(eq_of_beq this).symm
  ·rw [pA,c8 h];rfl
def Ph(op:Option (Nat×Nat×Nat))(j:Nat):Option (Nat×Nat):=match op with|some (i,j',k)=>(match Nat.beq j' j with|true=>some (i,k)|false=>none)|none=>none
def AV.asD:AV->Bool| .aj _ _=>true|_=>false
def AV.wZ:AV->Bool| .sub _ _=>true|_=>false
def QB(kd:Kind)(x:AV)(k:AV->Option R):Option R:=match kd with| .slice t=>a8 x.asD (k (.aj t x.rows))|kd=>k (ld kd x)
def aKM(h:Ph op j=none)(i:Nat):jQ op i j=none:=by
 match op with
 |none=>rfl
 |some (i',j',k)=>
  simp only [Ph]at h;split at h
  ·exact aM
  ·rename_i hb;have:j'≠j:=amU hb;simp [jQ,this]
def aG9{i k:Nat}(h:Ph op j=some (i,k)):op=some (i,j,k):=by
 match op with
 |none=>exact aM
 |some (i',j',k')=>
  simp only [Ph]at h;split at h
  ·rename_i hb;injection h with h;injection h with h1 h2;rw [h1,h2,fk hb]
  ·exact aM
def alD(h:w9 kd x=true)(hs:x.wZ=false):js kd x=true:=by
 unfold w9 at h;split at h
 ·cases hs
 ·exact h
def alE(h:js kd x=true):w9 kd x=true:=by
 unfold w9;split
 ·simp [js]at h
 ·exact h
def ads{row:Row}(hl:row.length=ks.length)(h:∀(j:Nat) (k:Kind) (x:AV),ks[j]?=some k->row[j]?=some x->w9 k x=true):wY ks row=true:=by
 induction ks generalizing row with
 |nil=>cases row with|nil=>rfl|cons x xs=>simp at hl
 |cons k ks ih=>
  cases row with
  |nil=>simp at hl
  |cons x xs=>
   simp only [wY,bA];exact⟨h 0 k x rfl rfl,ih (sY) λj k' x' hk hx=>h (j+1) k' x' (Kw) (Kv)⟩
def aIE(hk:wY ks cs=true)(h:∀{j:Nat} {y:AV},xs[j]?=some y->w9 (ks.getD (off+j) .raw) y=true)(hb:off+xs.length<=ks.length):wY ks (setAt cs off xs)=true:=by
 have hl:=Ed hk;refine ads (by rw [JI];exact hl) λj k x X7 hx=> ?_;rw [GB xs cs off (by omega) j]at hx
 by_cases hj:off<=j/\j<off+xs.length
 ·rw [if_pos hj]at hx;have:=h hx;exact aqb
 ·rw [if_neg hj]at hx;obtain⟨k',e1,e2⟩:=GF hk hx;rw [X7]at e1;injection e1 with e1;subst e1;exact e2
def wS(X:Cx)(t:TypeId)(p:AV)(M:aL)(k:AV->Option R):Option R:=
 match p with
 | .iO t' row off=>
   a8 ((X.ti t).ok &&decide (off+(X.ti t).size <=(X.K t').length))
    (match(X.ti t).u.agg with
     |true=>k (.agg (DH (X.K t') row off (X.ti t).size))
     |false=>a8 ((X.ti t).size ==1) (k (ld (ag6 (X.K t') off) (row.getD off .top))))
 | .ptr id i off=>
   match gm M id with
   |some (.var ks cs)=>
    a8 ((X.ti t).ok &&i==0&&decide (off+(X.ti t).size <=ks.length))
     (match(X.ti t).u.agg with
      |true=>k (.agg (DH ks cs off (X.ti t).size))
      |false=>a8 ((X.ti t).size ==1&&kAt ks off ((X.ti t).ks.headD .raw).v) (k (ld ((X.ti t).ks.headD .raw).v (cs.getD off .top))))
   |some (.row t' xs)=>
    a8 ((X.ti t).ok &&decide (off+(X.ti t).size <=(X.K t').length)&&decide (i<xs.length))
     (match(X.ti t).u.agg with
      |true=>k (.agg (DH (X.K t') (xs.getD i []) off (X.ti t).size))
      |false=>a8 ((X.ti t).size ==1) (k (ld ((X.K t').getD off .raw) ((xs.getD i []).getD off .top))))
   |some (.bD t' xs op)=>
    a8 ((X.ti t).ok &&decide (off+(X.ti t).size <=(X.K t').length)&&decide (i<xs.length))
     (match(X.ti t).u.agg with
      |true=>none
      |false=>a8 ((X.ti t).size ==1) (match Ph op off with
       |some (i0,k0)=>a8 (Nat.beq i i0) (k (.ak k0))
       |none=>QB ((X.K t').getD off .raw) ((xs.getD i []).getD off .top) k))
   |_=>none
 |_=>none
def Rb(X:Cx):List (Nat×TypeId)->aq->aq->Option Bool
 | [],_,_=>some true
 |f::fs,xs,ys=>
  match Rb X fs xs ys with
  |none=>none
  |some r=>
   match(X.ti f.2).ok,(X.ti f.2).u,xs[f.1]?,ys[f.1]? with
   |true,.int _,some (.int ka a),some (.int kb b)=>(match ka==kb with|true=>some (a==b&&r)|false=>none)
   |true,.bool,some (.bool a),some (.bool b)=>some (a==b&&r)
   |_,_,_,_=>none
def EY(x:AV)(k:Bool->Option R):Option R:=
 match x with
 | .jX =>k true
 | .oh =>k false
 | .aj _ xs=>match xs.isEmpty with|true=>none|false=>k false
 |_=>none
def alI{k:Bool->Option R}(h:EY x k=some r):
 ∃b,k b=some r/\∀{K:TypeId->fh} {ρ:bF} {F:bC} {w:World} {v:Value},aR K ρ F w x v->∃a n c,v= .slice a n c/\a.isNone=b:=by
 unfold EY at h;split at h
 ·exact⟨_,h,λ{K ρ F w v} hr=>by cases hr;exact⟨none,0,0,rfl,rfl⟩⟩
 ·exact⟨_,h,λ{K ρ F w v} hr=>by cases hr;exact⟨some _,0,_,rfl,rfl⟩⟩
 ·rename_i t xs;split at h
  ·exact aM
  ·rename_i he;refine⟨_,h,λ{K ρ F w v} hr=> ?_⟩;cases hr with
   |n7 t=>simp at he
   |aj t xs a cap vss hl pG oJ hk hc hx=>exact⟨some _,_,_,rfl,rfl⟩
 ·cases h
def Pv(X:Cx)(op:BinOp)(t:TypeId)(x y:AV)(k:AV->Option R):Option R:=
 match x,y with
 | .int kx a,.int ky b=>
   match op with
   | .shl =>a8 (decide (0<=b)) (k (.int kx (kx.wrap (a*2^(min b.toNat kx.bits)))))
   | .shr =>a8 (decide (0<=b)) (k (.int kx (a.fdiv (2^(min b.toNat kx.bits)))))
   |_=>
    a8 (kx==ky) (match op with
     | .add =>k (.int kx (kx.wrap (a+b)))
     | .sub =>k (.int kx (kx.wrap (a- b)))
     | .mul =>k (.int kx (kx.wrap (a*b)))
     | .quo =>a8 (!(b==0)) (k (.int kx (kx.wrap (a.tdiv b))))
     | .rem =>a8 (!(b==0)) (k (.int kx (a.tmod b)))
     | .and =>k (.int kx (kx.wrap (BitVec.ofInt kx.bits a&&&BitVec.ofInt kx.bits b).toNat))
     | .or =>k (.int kx (kx.wrap (BitVec.ofInt kx.bits a|||BitVec.ofInt kx.bits b).toNat))
     | .xor =>k (.int kx (kx.wrap (BitVec.ofInt kx.bits a^^^BitVec.ofInt kx.bits b).toNat))
     | .andNot =>k (.int kx (kx.wrap (BitVec.ofInt kx.bits a&&& ~~~ BitVec.ofInt kx.bits b).toNat))
     | .eql =>k (.bool (a==b))
     | .neq =>k (.bool (a != b))
     | .lss =>k (.bool (decide (a<b)))
     | .leq =>k (.bool (decide (a<=b)))
     | .gtr =>k (.bool (decide (b<a)))
     | .geq =>k (.bool (decide (b<=a)))
     |_=>none)
 | .bool a,.bool b=>
   match(X.ti t).ok,(X.ti t).u,op with
   |true,.bool,.eql =>k (.bool (a==b))
   |true,.bool,.neq =>k (.bool (!(a==b)))
   |_,_,_=>none
 | .agg xs,.agg ys=>
   match X.eqs t,(X.ti t).ok,(X.ti t).u with
   |true,true,.struct fs=>
    match Rb X fs xs ys with
    |none=>none
    |some b=>match op with| .eql =>k (.bool b)| .neq =>k (.bool (!b))|_=>none
   |_,_,_=>none
 |x,.jX =>
  match(X.ti t).ok,(X.ti t).u,op with
  |true,.slice _,.eql =>EY x λb=>k (.bool b)
  |true,.slice _,.neq =>EY x λb=>k (.bool (!b))
  |_,_,_=>none
 |_,_=>none
def aEM(P:Program)(w:World)(op:BinOp)(t:TypeId)(x y:Operand)(ka kb:IntKind)(a b:Int):(eqGuard op t x y (.int ka a) (.int kb b)).run P w= .ok () w:=by
 unfold eqGuard;cases op<;>rfl
def ajO(P:Program)(w:World)(op:BinOp)(t:TypeId)(x y:Operand)(a b:Bool):(eqGuard op t x y (.bool a) (.bool b)).run P w= .ok () w:=by
 unfold eqGuard;cases op<;>rfl
def SQ{i:TypeInfo}{d:TypeDesc}{z:Value}(f:qT X t i d z)(ha:(X.ti t).u.agg =false){vs:Array Value}{v:Value}(hv:vs[off]?=some v)(w:World):(part t vs off).run X.P w= .ok v w:=by
 simp only [part,iB,f.isAgg,ha,lg,hv,mQ,oW,sj]
def alk(hX:X.Okb){ρ:bF}{F:bC}{w:World}{xs ys:aq}{vs us:Array Value}(h1:dZ X.K ρ F w xs vs.toList)(h2:dZ X.K ρ F w ys us.toList)(d:Nat):∀(gs:List Field) (b:Bool),(∀g∈gs,g.name≠ "_")→
 Rb X (gs.map λf=>(f.offset,f.type)) xs ys=some b->(Op.eqFields (d+1) vs us gs).run X.P w= .ok b w
 | [],b,_,h=>by
   simp only [T2,Rb,Option.some.injEq]at h;subst h;rfl
 |g::gs,b,hn,h=>by
  simp only [my,Rb]at h;split at h
  ·exact aM
  rename_i r hr;have ih:=alk hX h1 h2 d gs r (fun g hg=>hn g (by simp [hg])) hr;have asG:g.name≠ "_" :=hn g (by simp)
  have cell:∀{zs:aq} {ws:Array Value} {x:AV},dZ X.K ρ F w zs ws.toList->zs[g.offset]?=some x->∃v,ws[g.offset]?=some v/\aR X.K ρ F w x v:=by
   intro zs ws x hz hx;have bI:g.offset<zs.length:=(dX.1 hx).1;have hl:=hz.1;simp only [sS]at hl;obtain⟨u,hu⟩:∃u,ws[g.offset]?=some u:=⟨ws[g.offset]'(by omega),GL (by omega)⟩;exact⟨u,hu,hz.2 g.offset _ _ hx (aeB)⟩
  split at h
  ·rename_i kt ka a kb c aX hu LR hyb;cases hk:ka==kb with
   |false=>rw [hk]at h;cases h
   |true=>
    rw [hk]at h;have hk:=eq_of_beq hk;subst hk;simp only [Option.some.injEq]at h;subst h;obtain⟨i,dd,z,f⟩:=hX.facts aX;have e8:X.P.underlying g.type=some (.int kt):=by
     have ru:=f.u;rw [hu]at ru;have hf:=f.od;cases dd<;>simp [rP]at ru
     subst ru;exact hf
    have ha:(X.ti g.type).u.agg =false:=by rw [hu];rfl
    obtain⟨v,hv,ny⟩:=cell h1 LR;obtain⟨u,rZ,ru⟩:=cell h2 hyb;cases ny;cases ru;simp only [Op.eqFields,ne_eq,asG,not_false_eq_true,uY,iB,SQ f ha hv,SQ f ha rZ,lg,run_equalIn_int (P:=X.P) w d g.type ka kt a c e8];exact aql
  ·rename_i a c aX hu LR hyb;simp only [Option.some.injEq]at h;subst h;obtain⟨i,dd,z,f⟩:=hX.facts aX;have e8:X.P.underlying g.type=some .bool :=by
    have ru:=f.u;rw [hu]at ru;have hf:=f.od;cases dd<;>simp [rP]at ru
    exact hf
   have ha:(X.ti g.type).u.agg =false:=by rw [hu];rfl
   obtain⟨v,hv,ny⟩:=cell h1 LR;obtain⟨u,rZ,ru⟩:=cell h2 hyb;cases ny;cases ru;simp only [Op.eqFields,ne_eq,asG,not_false_eq_true,uY,iB,SQ f ha hv,SQ f ha rZ,lg,run_equalIn_bool' (P:=X.P) w d g.type a c e8];exact aql
  ·exact aM
def aIN(hX:X.Okb){op:BinOp}{u:TypeId}{y:AV}{a b:Operand}{k:AV->Option R}(h:Pv X op t x y k=some r):
 ∃z,k z=some r/\∀(ρ:bF) (F:bC) (w:World) (va vb:Value),aR X.K ρ F w x va->aR X.K ρ F w y vb->
  ∃v,(do eqGuard op t a b va vb;binOp op t va vb:Sem Value).run X.P w= .ok v w/\aR X.K ρ F w z v:=by
 unfold Pv at h;split at h
 ·rename_i kx a' ky b';have key:∀(z:AV) (v:Value),(∀(ρ:bF) (F:bC) (w:World),aR X.K ρ F w z v)->(∀w,(binOp op t (.int kx a') (.int ky b')).run X.P w= .ok v w)->∀(ρ:bF) (F:bC) (w:World) (va vb:Value),aR X.K ρ F w (.int kx a') va->aR X.K ρ F w (.int ky b') vb->
   ∃v,(do eqGuard op t a b va vb;binOp op t va vb:Sem Value).run X.P w= .ok v w/\aR X.K ρ F w z v:=by
   intro z v hz eG ρ F w va vb h1 h2;cases h1;cases h2;refine⟨v,?_,hz ρ F w⟩;rw [iB,aEM];exact eG w
  cases op<;>simp only at h<;>first
   |(replace h:=cP h
     obtain⟨e,h⟩:=h
     first
      |(have e':=Um e
        refine⟨_,h,key _ _ (λ_ _ _=> .int _ _) λw=> ?_⟩;unfold binOp Op.shift;simp [show¬b'<0 by omega]
        done)
      |(rw [iA]at e
        subst e
        first
         |(refine⟨_,h,key _ _ (λ_ _ _=> .int _ _) λw=> ?_⟩
           first
            |(simp [binOp,Op.intArith];done)
            |(simp [binOp,Op.intBits];done))
         |(refine⟨_,h,key _ _ (λ_ _ _=> .bool _) λw=> ?_⟩
           simp [binOp,Op.intCmp];done)
         |(replace h:=cP h
           obtain⟨e2,h⟩:=h;refine⟨_,h,key _ _ (λ_ _ _=> .int _ _) λw=> ?_⟩;have hb:b'≠0:=by simpa using e2
           simp [binOp,Op.intDiv,hb];done)))
   |cases h
 ·rename_i a' b';cases aX:(X.ti t).ok with
  |false=>simp [aX]at h
  |true=>
   obtain⟨i,d,z,f⟩:=hX.facts aX;have hu:=f.u;simp only [aX]at h;split at h
   ·rename_i X1;have e8:X.P.underlying t=some .bool :=aqo;refine⟨_,h,λρ F w va vb h1 h2=> ?_⟩;cases h1;cases h2;refine⟨_,?_,.bool _⟩;rw [iB,ajO];exact run_eql_bool (P:=X.P) (w:=w) t a' b' e8
   ·rename_i X1;have e8:X.P.underlying t=some .bool :=aqo;refine⟨_,h,λρ F w va vb h1 h2=> ?_⟩;cases h1;cases h2;refine⟨_,?_,.bool _⟩;rw [iB,ajO];exact run_neq_bool (P:=X.P) (w:=w) t a' b' e8
   ·exact aM
 ·rename_i xs ys;split at h
  ·rename_i fs heq aX hu;split at h
   ·exact aM
   ·rename_i bb Ye;obtain⟨i,d,z,f⟩:=hX.facts aX;have HS:=hX.eqs t heq;have ru:=f.u;rw [hu]at ru;have e8:=f.od;cases d<;>simp only [rP]at ru<;>try cases ru
    rename_i gs;unfold HZ at HS;rw [e8]at HS;simp only [bA,iy,mP,bne_iff_ne]at HS;obtain⟨⟨hn,fK⟩,hg⟩:=HS;have rC:X.P.fieldsOf t=gs:=by simp [Program.fieldsOf,e8]
    have run:∀(ρ:bF) (F:bC) (w:World) (va vb:Array Value),dZ X.K ρ F w xs va.toList->dZ X.K ρ F w ys vb.toList->(Op.equalIn 10000 t (.agg va) (.agg vb)).run X.P w= .ok bb w:=by
     intro ρ F w va vb h1 h2;rw [run_equalIn_struct w 9999 t va vb (by rw [rC];exact e8) fK,rC];exact alk hX h1 h2 9998 gs.toList bb hn Ye
    split at h
    ·refine⟨_,h,λρ F w va vb h1 h2=> ?_⟩;cases h1 with
     |agg _ v1 jg tu=>
      cases h2 with
      |agg _ v2 ki vL=>
       refine⟨.bool bb,?_,.bool _⟩;rw [iB,run_eqGuard_agg (P:=X.P) w .eql t a b _ _ hg,lg,run_eql_struct,run ρ F w _ _ ⟨jg,tu⟩ ⟨ki,vL⟩];rfl
    ·refine⟨_,h,λρ F w va vb h1 h2=> ?_⟩;cases h1 with
     |agg _ v1 jg tu=>
      cases h2 with
      |agg _ v2 ki vL=>
       refine⟨.bool (!bb),?_,.bool _⟩;rw [iB,run_eqGuard_agg (P:=X.P) w .neq t a b _ _ hg,lg,run_neq_struct,run ρ F w _ _ ⟨jg,tu⟩ ⟨ki,vL⟩];rfl
    ·exact aM
  ·exact aM
 ·split at h
  ·rename_i e heq aX hu;obtain⟨i,d,z',f⟩:=hX.facts aX;have e8:=f.slice hu;obtain⟨bb,h,hv⟩:=alI h;refine⟨_,h,λρ F w va vb h1 h2=> ?_⟩;obtain⟨a',n,c,rfl,rfl⟩:=hv h1;cases h2;refine⟨.bool a'.isNone,?_,.bool _⟩;rw [eqGuard_at_slice,iB,mQ,lg];exact Lib.run_eql_slice_nil w t _ a' n c 0 0 e8
  ·rename_i e heq aX hu;obtain⟨i,d,z',f⟩:=hX.facts aX;have e8:=f.slice hu;obtain⟨bb,h,hv⟩:=alI h;refine⟨_,h,λρ F w va vb h1 h2=> ?_⟩;obtain⟨a',n,c,rfl,rfl⟩:=hv h1;cases h2;refine⟨.bool (!a'.isNone),?_,.bool _⟩;rw [eqGuard_at_slice,iB,mQ,lg];exact run_neq_slice_nil_any w t _ a' n c 0 0 e8
  ·exact aM
 ·cases h
end
end Go.ah
namespace Go.ah
def uu{p:Prop}(h:p:=by simpa using h2):p:=h
def ar7{p:Prop}(h:p:=by
 rename_i ha;refine⟨_,h,λ{w0 S F ρ w vp} hI hp=> ?_⟩;obtain⟨hk,a,vs,rfl,hr,hc⟩:=core hI hp;exact(N3 hX aX hk hr hc qf).1 ha):p:=h
end Go.ah
namespace Go.ah
def Ew:=@Go.Addr.add_add
def wP:=@List.getElem?_range
def ox:=@Option.map_some
def u6:=@List.getElem?_take
def vV:=@List.getElem?_drop
def iT:=@decide_eq_true_eq
def Cw:=@Nat.zero_add
def vQ:=@Array.getD_eq_getD_getElem?
end Go.ah
namespace Go.ah
open Go
noncomputable section
variable {X:Cx} {R:Type}
variable {w0 w:World} {S:Sc} {F:bC} {ρ:bF} {M:aL}
variable{a:Addr}{hd:Hd}{i:Nat}{row:Row}{t:TypeId}{K:TypeId->fh}{ks:fh}{vs:jb}
def u7(w:World)(a:Addr)(vs:jb):Prop:=∀(j:Nat) v,vs[j]?=some v->w.cell? (a.add j)=some v
def al6(hX:X.Okb)(aX:(X.ti t).ok =true)(hl:vs.length=(X.ti t).size)(hc:u7 w a vs):
 ((X.ti t).u.agg =true->(Instr.loadAt t (.pointer (some a))).run X.P w= .ok (.agg vs.toArray) w)/\
 ((X.ti t).u.agg =false->∀v,vs=[v]->(Instr.loadAt t (.pointer (some a))).run X.P w= .ok v w):=by
 obtain⟨i,d,z,f⟩:=hX.facts aX;constructor
 ·intro ha;unfold Instr.loadAt Instr.sureAddr loadVar;simp only [iB,mQ,lg,f.isAgg,ha,uY,f.sizeOf,<-hl,run_loadCells_list w a vs hc]
 ·intro ha v hv;have h0:=hc 0 v (by simp [hv]);simp only [Addr.add,uY]at h0;unfold Instr.loadAt Instr.sureAddr loadVar;simp [f.isAgg,ha,run_load,h0]
def dZ.drop_take{xs:aq}(h:dZ K ρ F w xs vs)(off n:Nat):dZ K ρ F w ((xs.drop off).take n) ((vs.drop off).take n):=by
 refine⟨by simp [h.1],λj x v hx hv=> ?_⟩;rw [u6]at hx hv;split at hx
 ·rename_i hj;rw [if_pos hj]at hv;rw [vV]at hx hv;exact h.2 _ x v hx hv
 ·cases hx
def u7.drop_take(h:u7 w a vs)(off n:Nat):u7 w (a.add off) ((vs.drop off).take n):=by
 intro j v hv;rw [u6]at hv;split at hv
 ·rw [vV]at hv;rw [Ew];exact h _ v hv
 ·cases hv
def Inv.amk(hI:Inv X w0 S F ρ M w){id:Nat}{cs:aq}(hb:M[id]?=some (.var ks cs))(hh:ρ[id]?=some hd):
 dq ks cs=true/\∃g cur e,hd.v= .slice (some ⟨g,0,none⟩) 1 1/\hd.sz=cs.length/\w.heap[g]?=some (.cells cur e (0,0))/\dZ X.K ρ F w cs cur.toList/\u7 w ⟨g,0,none⟩ cur.toList/\X.H4 ks e=true:=by
 obtain⟨h1,h2,g,cur,e,hv,hg,hr,hy⟩:=hI.rep id _ hd hb hh;refine⟨h1,g,cur,e,hv,h2,hg,hr,λj v hj=> ?_,hy⟩;rw [oX,Cw,zZ w g j cur e (0,0) hg];simpa using hj
def nx.GC{xs:aE}(h:nx X ρ F w hd (.row t xs))(hi:xs[i]?=some row):
 dq (X.K t) row=true/\hd.sz=(X.K t).length /\∃g o c cur vs,hd.v= .slice (some ⟨g,o,none⟩) xs.length c/\w.heap[g]?=some (.cells cur t (0,0))/\xs.length<=c/\c<=maxLen/\o+c*hd.sz<=cur.size/\
  dZ X.K ρ F w row vs/\u7 w ⟨g,o+i*hd.sz,none⟩ vs/\(∀(j:Nat) v,vs[j]?=some v->cur[o+i*hd.sz+j]?=some v):=by
 obtain⟨h1,h2,h3⟩:=h;have hk:=h2 i row hi;refine⟨hk,h1,?_⟩;rcases h3 with⟨_,he⟩|⟨g,o,c,cur,hv,hg,h4,h5,h6,h7⟩
 ·subst he;simp at hi
 ·have hlen:=lQ hk;have gE:∃vs:jb,vs.length=row.length/\∀(j:Nat) x v,row[j]?=some x->vs[j]?=some v->cur[o+i*hd.sz+j]?=some v/\aR X.K ρ F w x v:=by
   refine⟨(List.range row.length).map λj=>cur.getD (o+i*hd.sz+j) undef,by simp,λj x v hx hv=> ?_⟩;obtain⟨u,hu,hr⟩:=h7 i row hi j x hx;have hj:=(dX.1 hx).1;rw [kW,wP hj]at hv;simp only [ox,Option.some.injEq]at hv;have:cur.getD (o+i*hd.sz+j) undef=u:=by rw [vQ,hu];rfl
   rw [this]at hv;subst hv;exact⟨hu,hr⟩
  obtain⟨vs,hl,gE⟩:=gE;have P6:∀(j:Nat) v,vs[j]?=some v->cur[o+i*hd.sz+j]?=some v:=by
   intro j v hj;have sH:=(dX.1 hj).1;exact(gE j (row[j]'(by omega)) v (c8 (by omega)) hj).1
  refine⟨g,o,c,cur,vs,hv,hg,h4,h5,h6,⟨hl,λj x v hx hv=>(gE j x v hx hv).2⟩,λj v hj=> ?_,P6⟩;rw [oX,zZ w g _ cur t (0,0) hg];exact P6 j v hj
def Inv.GC(hI:Inv X w0 S F ρ M w){id:Nat}{t:TypeId}{xs:aE}(hb:M[id]?=some (.row t xs)){hd:Hd}(hh:ρ[id]?=some hd){i:Nat}{row:Row}(hi:xs[i]?=some row):
 dq (X.K t) row=true/\hd.sz=(X.K t).length /\∃g o c cur vs,hd.v= .slice (some ⟨g,o,none⟩) xs.length c/\w.heap[g]?=some (.cells cur t (0,0))/\xs.length<=c/\c<=maxLen/\o+c*hd.sz<=cur.size/\
  dZ X.K ρ F w row vs/\u7 w ⟨g,o+i*hd.sz,none⟩ vs/\(∀(j:Nat) v,vs[j]?=some v->cur[o+i*hd.sz+j]?=some v):=(hI.rep id _ hd hb hh).GC hi
def rE{α:Type}{xs:List α}{d:α}(h:i<xs.length):xs[i]?=some (xs.getD i d):=by
 simp [List.getD,c8 h]
def dZ.one{x:AV}(h:dZ K ρ F w [x] vs):∃v,vs=[v]/\aR K ρ F w x v:=by
 obtain⟨h1,h2⟩:=h
 match vs,h1 with
 | [v],_=>exact⟨v,rfl,h2 0 x v rfl rfl⟩
def N3(hX:X.Okb)(aX:(X.ti t).ok =true)(hk:dq ks row=true)(hr:dZ X.K ρ F w row vs)(hc:u7 w a vs){off:Nat}
 (hb:off+(X.ti t).size <=ks.length):
 ((X.ti t).u.agg =true->∃v,(Instr.loadAt t (.pointer (some (a.add off)))).run X.P w= .ok v w/\aR X.K ρ F w (.agg (DH ks row off (X.ti t).size)) v)/\
 ((X.ti t).u.agg =false->(X.ti t).size =1->∃v,(Instr.loadAt t (.pointer (some (a.add off)))).run X.P w= .ok v w/\aR X.K ρ F w (row.getD off .top) v):=by
 have hl:=lQ hk;have DN:=hr.1;have xl:=hr.drop_take off (X.ti t).size;have AR:=hc.drop_take off (X.ti t).size;have hlen:((vs.drop off).take (X.ti t).size).length =(X.ti t).size :=eE;obtain⟨l1,l2⟩:=al6 (w:=w) hX aX hlen AR;constructor
 ·intro ha;refine⟨_,l1 ha,?_⟩;rw [ae3 hk _ _ hb];exact .agg _ _ xl.1 xl.2
 ·intro ha h1;have bI:off<row.length:=by omega
  have e:(row.drop off).take (X.ti t).size =[row.getD off .top]:=by
   rw [h1,adF bI,T1,List.take_zero];simp only [List.getD,c8 bI,qm]
  rw [e]at xl;obtain⟨v,hv,nw⟩:=xl.one;exact⟨v,l2 ha v hv,nw⟩
def alj(hX:X.Okb){p:AV}{k:AV->Option R}{r:R}(h:wS X t p M k=some r):
 ∃z,k z=some r/\∀{w0:World} {S:Sc} {F:bC} {ρ:bF} {w:World} {vp:Value},Inv X w0 S F ρ M w->aR X.K ρ F w p vp->∃v,(Instr.loadAt t vp).run X.P w= .ok v w/\aR X.K ρ F w z v:=by
 unfold wS at h;simp only [fF]at h;split at h
 ·rename_i t' row off;replace h:=cP h;obtain⟨h1,h⟩:=h;simp only [bA,iT]at h1;split at h
  ·rename_i ha;refine⟨_,h,λ{w0 S F ρ w vp} hI hp=> ?_⟩;cases hp with
   |iO _ _ _ a vs hk hl hc hr=>exact(N3 hX h1.1 hk ⟨hl,hr⟩ (λj v hv=>(hc j v hv).1) h1.2).1 ha
  ·rename_i ha;replace h:=cP h;obtain⟨h2,h⟩:=h;refine⟨_,h,λ{w0 S F ρ w vp} hI hp=> ?_⟩;cases hp with
   |iO _ _ _ a vs hk hl hc hr=>
    obtain⟨v,wx,ny⟩:=(N3 hX h1.1 hk ⟨hl,hr⟩ (λj v hv=>(hc j v hv).1) h1.2).2 ha (uu);refine⟨v,wx,?_⟩;have hs:(X.ti t).size =1:=uu;have zp:off<(X.K t').length :=by omega
    rw [aMq zp,GD]
    ·exact ny
    ·have bI:off<row.length:=by rw [lQ hk];exact zp
     exact wN hk (c8 zp) (rE bI)
 ·rename_i id i off;split at h
  ·rename_i ks cs hb;replace h:=cP h;obtain⟨h1,h⟩:=h;simp only [bA,iT,iA]at h1;obtain⟨⟨aX,wA⟩,qf⟩:=h1;subst wA;have core:∀{w0:World} {S:Sc} {F:bC} {ρ:bF} {w:World} {vp:Value},Inv X w0 S F ρ M w->aR X.K ρ F w (.ptr id 0 off) vp->
    dq ks cs=true/\∃a vs,vp= .pointer (some (Addr.add a off))/\dZ X.K ρ F w cs vs/\u7 w a vs:=by
    intro w0 S F ρ w vp hI hp;cases hp with
    |ptr _ _ _ hd g o n c bf hv=>
     obtain⟨hk,g',cur,e,jC,fU,hg,hr,hc,_⟩:=hI.amk hb bf;rw [hv]at jC;injection jC with h1 h2 h3;injection h1 with h1;injection h1 with h1 h4 h5;subst h1;subst h4;refine⟨hk,⟨g,0,none⟩,cur.toList,?_,hr,hc⟩;simp [oX]
   split at h
   ·exact ar7
   ·rename_i ha;replace h:=cP h;obtain⟨h2,h⟩:=h;simp only [bA,iA]at h2;refine⟨_,h,λ{w0 S F ρ w vp} hI hp=> ?_⟩;obtain⟨hk,a,vs,rfl,hr,hc⟩:=core hI hp;obtain⟨v,wx,ny⟩:=(N3 hX aX hk hr hc qf).2 ha h2.1;refine⟨v,wx,?_⟩;have bI:off<cs.length:=by have:=lQ hk;omega
    rw [GD (wN hk (aMr h2.2 (by omega)) (rE bI))];exact ny
  ·rename_i t' xs hb;replace h:=cP h;obtain⟨h1,h⟩:=h;simp only [bA,iT]at h1;obtain⟨⟨aX,qf⟩,hi⟩:=h1;have core:∀{w0:World} {S:Sc} {F:bC} {ρ:bF} {w:World} {vp:Value},Inv X w0 S F ρ M w->aR X.K ρ F w (.ptr id i off) vp->
    dq (X.K t') (xs.getD i [])=true/\∃a vs,vp= .pointer (some (Addr.add a off))/\dZ X.K ρ F w (xs.getD i []) vs/\u7 w a vs:=by
    intro w0 S F ρ w vp hI hp;cases hp with
    |ptr _ _ _ hd g o n c bf hv=>
     obtain⟨hk,fU,g',o',c',cur,vs,jC,hg,_,_,_,hr,hc,_⟩:=hI.GC hb bf (rE (d:=[]) hi);rw [hv]at jC;injection jC with h1 h2 h3;injection h1 with h1;injection h1 with h1 h4 h5;subst h1;subst h4;refine⟨hk,_,vs,?_,hr,hc⟩;simp [oX]
   split at h
   ·exact ar7
   ·rename_i ha;replace h:=cP h;obtain⟨h2,h⟩:=h;refine⟨_,h,λ{w0 S F ρ w vp} hI hp=> ?_⟩;obtain⟨hk,a,vs,rfl,hr,hc⟩:=core hI hp;have hs:(X.ti t).size =1:=uu;obtain⟨v,wx,ny⟩:=(N3 hX aX hk hr hc qf).2 ha hs;refine⟨v,wx,?_⟩;have zp:off<(X.K t').length :=by omega
    have bI:off<(xs.getD i []).length :=by rw [lQ hk];exact zp
    rw [show(X.K t').getD off .raw =(X.K t')[off]by simp [List.getD,c8 zp],GD (wN hk (c8 zp) (rE bI))];exact ny
  ·rename_i t' xs op hb;replace h:=cP h;obtain⟨h1,h⟩:=h;simp only [bA,iT]at h1;obtain⟨⟨aX,qf⟩,hi⟩:=h1;split at h
   ·exact aM
   ·rename_i ha;replace h:=cP h;obtain⟨h2,h⟩:=h;have hs:(X.ti t).size =1:=uu;have zp:off<(X.K t').length :=by omega
    have core:∀{w0:World} {S:Sc} {F:bC} {ρ:bF} {w:World} {vp:Value},Inv X w0 S F ρ M w->aR X.K ρ F w (.ptr id i off) vp->
     (w9 ((X.K t').getD off .raw) ((xs.getD i []).getD off .top)=true/\(X.K t').getD off .raw ≠ .any)/\∃v,(Instr.loadAt t vp).run X.P w= .ok v w/\(∀k,jQ op i off=some k->∃h,ρ[k]?=some h/\v=h.v)/\(jQ op i off=none->zg X ρ F w ((xs.getD i []).getD off .top) v):=by
     intro w0 S F ρ w vp hI hp;cases hp with
     |ptr _ _ _ hd g o n c bf hv=>
      obtain⟨q0,q1,q2,q3,q4⟩:=hI.bD.rep hb bf;have og:=rE (d:=([]:Row)) hi;have uS:=Ed (q2 i _ og);have bI:off<(xs.getD i []).length :=by omega
      have hx:(xs.getD i [])[off]?=some ((xs.getD i []).getD off .top):=rE bI;obtain⟨kd,e1,e2⟩:=GF (q2 i _ og) hx;refine⟨⟨by simp only [List.getD,e1,qm];exact e2,by simp only [List.getD,e1,qm];exact q0 _ _ (qk e1)⟩,?_⟩;rcases q4 with⟨q4,_⟩|⟨g',o',c',cur,q4,q5,q6,q7,q8,q9⟩
      ·rw [hv]at q4;cases q4
      ·rw [hv]at q4;injection q4 with e1 e2 e3;injection e1 with e1;injection e1 with e1 e4 e5;subst e1;subst e4;obtain⟨v,kj,ho,hn⟩:=q9 i _ og off _ hx;refine⟨v,?_,ho,hn⟩;refine(al6 (w:=w) hX aX (vs:=[v]) (by simp [hs]) (λj u hj=> ?_)).2 ha v rfl;cases j with
       |zero=>
        simp at hj;subst hj;rw [oX,zZ w g _ cur t' (0,0) q5];simpa using kj
       |succ j=>simp at hj
    split at h
    ·rename_i i0 k0 ho;replace h:=cP h;obtain⟨h3,h⟩:=h;have wA:i=i0:=fk h3;subst wA;have AL:=aG9 ho;refine⟨_,h,λ{w0 S F ρ w vp} hI hp=> ?_⟩;obtain⟨_,v,wx,ny,_⟩:=core hI hp;obtain⟨h',e1,e2⟩:=ny k0 (by rw [AL];simp [jQ]);exact⟨v,wx,by rw [e2];exact .ak k0 h' e1⟩
    ·rename_i ho;have hon:=aKM ho i;have plain:∀{w0:World} {S:Sc} {F:bC} {ρ:bF} {w:World} {vp:Value},Inv X w0 S F ρ M w->aR X.K ρ F w (.ptr id i off) vp->(w9 ((X.K t').getD off .raw) ((xs.getD i []).getD off .top)=true/\(X.K t').getD off .raw ≠ .any)/\
      ∃v,(Instr.loadAt t vp).run X.P w= .ok v w/\(((xs.getD i []).getD off .top).wZ =false->aR X.K ρ F w ((xs.getD i []).getD off .top) v):=by
      intro w0 S F ρ w vp hI hp;obtain⟨hk,v,wx,_,hv3⟩:=core hI hp;refine⟨hk,v,wx,λnP=> ?_⟩;have:=hv3 hon;unfold zg at this;split at this
      ·rename_i e;rw [e]at nP;cases nP
      ·exact this
     unfold QB at h;split at h
     ·rename_i kd te qe;replace h:=cP h;obtain⟨h3,h⟩:=h;refine⟨_,h,λ{w0 S F ρ w vp} hI hp=> ?_⟩;obtain⟨⟨hk,_⟩,v,wx,ny⟩:=plain hI hp;refine⟨v,wx,?_⟩;rw [qe]at hk;generalize (xs.getD i []).getD off .top =x at h3 hk ny;cases x<;>simp only [AV.asD,oW]at h3
      have hk:(te==_)=true:=hk;rw [iA]at hk;subst hk;exact ny rfl
     ·rename_i qe;refine⟨_,h,λ{w0 S F ρ w vp} hI hp=> ?_⟩;obtain⟨⟨hk,av1⟩,v,wx,ny⟩:=plain hI hp;have nP:((xs.getD i []).getD off .top).wZ =false:=by
       unfold w9 at hk;split at hk
       ·rename_i te _ _ e1 _;exact absurd e1 (qe te)
       ·generalize (xs.getD i []).getD off .top =x at hk;cases x<;>first|rfl|skip
        generalize (X.K t').getD off .raw =kd at hk av1;cases kd<;>first|(simp [js,AV.pure,AV.leaf]at hk;done)|exact absurd rfl av1
      refine⟨v,wx,?_⟩;rw [GD (alD hk nP)];exact ny nP
  ·exact aM
 ·cases h
end
end Go.ah
namespace Go.ah
def iW{p:Prop}(h:p:=by rw [h];rfl):p:=h
def CZ{p:Prop}(h:p:=by
 rw [uZ,ac7]at this;omega):p:=h
def Pn{p:Prop}(h:p:=by injection hk with hk;subst hk;exact L8 a ha):p:=h
def ara{p:Prop}(h:p:=by
 simp only [BI]at h;exact⟨_,_,h,rfl,eR.refl _ _,λ{w0 S F ρ w} hI=>⟨F,hI,Grow.refl _ _ _,λ_ hv=>hv⟩⟩):p:=h
def VA{p:Prop}(h:p:=by have:=(dX.1 hb).1;have:=hI.len;omega):p:=h
def aq9{p:Prop}(h:p:=by
 intro y hy;obtain⟨j,hj⟩:=Cp hy;exact abU (adr nz (by omega) hj)):p:=h
def aqX{p:Prop}(h:p:=by
 injection e1 with e1;injection e1 with e1 e4 e5;subst e1;subst e4;exact⟨vs,hr,hc⟩):p:=h
def G6{p:Prop}(h:p:=by simpa using hb):p:=h
def G4{p:Prop}(h:p:=by simpa using hu):p:=h
def Ku{p:Prop}(h:p:=by simpa using hy):p:=h
def Kt{p:Prop}(h:p:=by simp [CF]):p:=h
def aqj{p:Prop}(h:p:=by
 simp only [J7,fI,sU,Ba,sS];omega):p:=h
def ap8{p:Prop}(h:p:=by exact Jv (uO.2 j _ u hy hj) (V9 _ (qk hy)) hI.one):p:=h
def ap5{p:Prop}(h:p:=by simp only [jQ];rw [if_neg (λh=>hn ⟨h.1.symm,h.2.symm⟩)]):p:=h
end Go.ah
namespace Go.ah
def sU:=@List.length_take
def Ba:=@List.length_drop
def uZ:=@Nat.add_mul
def CB:=@Nat.add_zero
def fI:=@List.length_append
def lz:=@List.flatMap_cons
def pN:=@List.append_assoc
def yR:=@Nat.le_of_ble_eq_true
def ac9:=@List.getElem?_toArray
def T0:=@Go.run_storeCells_at
def ac8:=@Go.setRow_other
def uh:=@Nat.mul_le_mul_right
def ac7:=@Nat.one_mul
def Oc:=@Go.setRow_heap
def J7:=@List.size_toArray
def Cp:=@List.getElem?_of_mem
def J6:=@List.length_set
end Go.ah
namespace Go.ah
open Go
noncomputable section
variable {X:Cx} {R:Type}
variable {w0 w:World} {S:Sc} {F:bC} {ρ:bF} {M:aL}
variable{x:AV}{cur:Array Value}{hd:Hd}{g i i' j n o off:Nat}{op:Option (Nat×Nat×Nat)}{r:R}{e t:TypeId}{xs:aE}
def CF:AV->List Nat| .ptr id _ _=>[id]|_=>[]
def tH:AV->List Nat| .ak id=>[id]|_=>[]
def rN:AV->List Nat| .ak id=>[id]| .vw id _ _=>[id]|_=>[]
def j5(k:Kind)(x:AV)(M:aL)(c:AV->aL->Option R):Option R:=
 match k,x with
 | .slice t,.jX =>c (.aj t []) M
 | .slice t,.ak id=>
   match gm M id with
   |some (.row t' xs)=>a8 (t==t') (c (.aj t' xs) (M.set id (.fx t' xs)))
   |some (.fx t' xs)=>a8 (t==t') (c (.aj t' xs) M)
   |_=>none
 |_,x=>c x M
def BI:fh->aq->aL->(aq->aL->Option R)->Option R
 |k::ks,x::xs,M,c=>j5 k x M λx' M'=>BI ks xs M' λjd B8=>c (x'::jd) B8
 |_,xs,M,c=>c xs M
def ajP(nw:nx X ρ F w hd (.row t xs)):
 (hd.dE=none/\xs=[]/\hd.v= .slice none 0 0)∨∃g,hd.dE=some g/\∀(F':bC),(∀a,F a->F' a)->(∀a,a.block=g->F' a)->aR X.K ρ F' w (.aj t xs) hd.v:=by
 have aO9:=nw;obtain⟨h1,h2,h3⟩:=nw;rcases h3 with⟨h3,h4⟩|⟨g,o,c,cur,hv,hg,h4,h5,h6,h7⟩
 ·exact .inl ⟨by simp [Hd.dE,Value.dE,h3],h4,h3⟩
 ·refine .inr ⟨g,qx,λF' hF hF'=> ?_⟩;rw [hv];have ia:∀i:Nat,i<xs.length->∃vs,dZ X.K ρ F w (xs.getD i []) vs/\u7 w ⟨g,o+i*hd.sz,none⟩ vs:=by
   intro i hi;obtain⟨_,_,g',o',c',awj,vs,jC,_,_,_,_,hr,hc,_⟩:=aO9.GC (rE (d:=[]) hi);rw [hv]at jC;injection jC with e1 e2 e3;exact aqX
  let vss:List jb:=(List.range xs.length).map λi=>if h:i<xs.length then(ia i h).choose else []
  have avF:∀(i:Nat) vs,vss[i]?=some vs->∃h:i<xs.length,vs=(ia i h).choose :=by
   intro i vs gE;have hi:i<xs.length:=by
    have:=(dX.1 gE).1;simpa [vss]using this
   refine⟨hi,?_⟩;simp only [vss,kW,wP hi,ox,Option.some.injEq,dif_pos hi]at gE;exact gE.symm
  refine .aj t xs ⟨g,o,none⟩ c vss (by simp [vss]) h4 h5 h2 ?_ ?_
  ·intro i vs gE;obtain⟨hi,rfl⟩:=avF i vs gE;obtain⟨hr,hc⟩:=(ia i hi).choose_spec;refine⟨by rw [hr.1,lQ (h2 i _ (rE hi))],λj v hj=> ?_⟩;have:=hc j v hj;rw [oX]at this⊢;rw [<-h1];rw [show o+(i*hd.sz+j)=o+i*hd.sz+j by omega];exact⟨this,hF' _ rfl⟩
  ·intro i row vs aO7 gE j x v hx jC;obtain⟨hi,rfl⟩:=avF i vs gE;obtain⟨hr,_⟩:=(ia i hi).choose_spec;have e:row=xs.getD i []:=by
    have:=rE (d:=([]:Row)) hi;rw [aO7]at this;injection this
   subst e;exact(hr.2 j x v hx jC).mono (λ_ _ h=>h) hF (λ_ _ _ h=>h)
def aEN(hI:Inv X w0 S F ρ M w){id:Nat}(hb:M[id]?=some (.row t xs))(hh:ρ[id]?=some hd):
 (hd.dE=none/\xs=[]/\hd.v= .slice none 0 0)∨∃g,hd.dE=some g/\∀(F':bC),(∀a,F a->F' a)->(∀a,a.block=g->F' a)->aR X.K ρ F' w (.aj t xs) hd.v:=ajP (hI.rep id _ hd hb hh)
def Inv.VX(hI:Inv X w0 S F ρ M w){id:Nat}{b b':eH}{hd:Hd}(hb:M[id]?=some b)(hh:ρ[id]?=some hd)(cX:hd.dE=none)(nw:nx X ρ F w hd b')(hn:b'.oj=false:=by rfl):Inv X w0 S F ρ (M.set id b') w where
 os:=hI.os
 tape:=hI.tape
 output:=hI.output
 size:=hI.size
 frame:=hI.frame
 len:=Ky
 rep:=λid' c h' hc dm=>by
  by_cases bf:id'=id
  ·exact asc
  ·rw [mw (Ne.symm bf)]at hc;exact hI.rep id' c h' hc dm
 sep:=λid' c h' g' hc qH dm lx=>by
  by_cases bf:id'=id
  ·subst bf;rw [hh]at dm;injection dm with dm;subst dm;rw [cX]at lx;cases lx
  ·rw [mw (Ne.symm bf)]at hc;exact hI.sep id' c h' g' hc qH dm lx
 k5:=λi j c d hc h' k sI h1 h2 h3 h4 h5 h6 h7=>by
  by_cases hi:i=id
  ·subst hi;rw [hh]at h5;injection h5 with h5;subst h5;rw [cX]at h7;cases h7
  ·by_cases hj:j=id
   ·subst hj;rw [hh]at h6;injection h6 with h6;subst h6;rw [cX];simp
   ·rw [mw (Ne.symm hi)]at h1;rw [mw (Ne.symm hj)]at h2;exact hI.k5 i j c d hc h' k sI h1 h2 h3 h4 h5 h6 h7
 fz:=hI.fz
 jH:=hI.jH
 one:=hI.one
 iw:=hI.iw
 fin:=hI.fin
 bD:=hI.bD.set hn λg h' _ dm hg=>by rw [hh]at dm;injection dm with dm;subst dm;rw [cX]at hg;cases hg
def GG{k:Kind}{c:AV->aL->Option R}(h:j5 k x M c=some r):
 ∃x' M',c x' M'=some r/\M'.length=M.length/\eR (tH x) M M'/\∀{w0:World} {S:Sc} {F:bC} {ρ:bF} {w:World},Inv X w0 S F ρ M w->∃F',Inv X w0 S F' ρ M' w/\Grow F F' ρ ρ w w/\∀v,aR X.K ρ F w x v->aR X.K ρ F' w x' v:=by
 unfold j5 at h;simp only [fF]at h;split at h
 ·exact⟨_,_,h,rfl,eR.refl _ _,λ{w0 S F ρ w} hI=>⟨F,hI,Grow.refl _ _ _,λv hv=>by cases hv;exact .n7 _⟩⟩
 ·rename_i t id;split at h
  ·rename_i t' xs hb;replace h:=cP h;obtain⟨_,h⟩:=h;refine⟨_,_,h,by simp,eR.set _ _ _,λ{w0 S F ρ w} hI=> ?_⟩;have bI:id<ρ.length:=VA;have hh:ρ[id]?=some ρ[id]:=c8 bI;rcases aEN hI hb hh with⟨h1,h2,h3⟩|⟨g,h1,h2⟩
   ·refine⟨F,hI.VX hb hh h1 ?_,Grow.refl _ _ _,λv hv=> ?_⟩
    ·subst h2;show aR _ _ _ _ _ _;rw [h3];exact .n7 _
    ·cases hv with
     |ak _ hd bf=>
      rw [hh]at bf;injection bf with bf;subst bf;subst h2;rw [h3];exact .n7 _
   ·have hr:=h2 (λa=>F a∨a.block=g) (λ_ h=> .inl h) (λ_ h=> .inr h);refine⟨_,hI.freeze hb rfl hh h1 (b':= .fx t' xs) rfl hr,⟨λ_ h=> .inl h,λ_ _ h=>h,λ_ _=>rfl⟩,λv hv=> ?_⟩;cases hv with
    |ak _ hd bf=>
     rw [hh]at bf;injection bf with bf;subst bf;exact hr
  ·rename_i t' xs hb;replace h:=cP h;obtain⟨_,h⟩:=h;refine⟨_,_,h,rfl,eR.refl _ _,λ{w0 S F ρ w} hI=>⟨F,hI,Grow.refl _ _ _,λv hv=> ?_⟩⟩;cases hv with
   |ak _ hd bf=>exact hI.rep id _ hd hb bf
  ·exact aM
 ·exact⟨_,_,h,rfl,eR.refl _ _,λ{w0 S F ρ w} hI=>⟨F,hI,Grow.refl _ _ _,λ_ hv=>hv⟩⟩
def NY:∀(ks:fh) (xs:aq) (M:aL) {c:aq->aL->Option R} {r:R},BI ks xs M c=some r->
 ∃jd M',c jd M'=some r/\M'.length=M.length/\eR (xs.flatMap tH) M M'/\∀{w0:World} {S:Sc} {F:bC} {ρ:bF} {w:World},Inv X w0 S F ρ M w->∃F',Inv X w0 S F' ρ M' w/\Grow F F' ρ ρ w w/\∀vs,dZ X.K ρ F w xs vs->dZ X.K ρ F' w jd vs
 | [],xs,M,c,r,h=>ara
 |k::ks,[],M,c,r,h=>ara
 |k::ks,x::xs,M,c,r,h=>by
  simp only [BI]at h;obtain⟨x',M1,h,jg,IK,h1⟩:=GG (X:=X) h;obtain⟨jd,M2,h,ki,ha2,h2⟩:=NY ks xs M1 h;refine⟨_,_,h,by omega,by rw [lz];exact IK.trans ha2,λ{w0 S F ρ w} hI=> ?_⟩;obtain⟨F1,i1,g1,r1⟩:=h1 hI;obtain⟨F2,i2,g2,r2⟩:=h2 i1;refine⟨F2,i2,g1.trans g2,λvs gE=> ?_⟩
  match vs,gE.1 with
  |v::vs',hl=>
   have hx:aR X.K ρ F w x v:=gE.2 0 x v rfl rfl;have hr:=r2 vs' ⟨sY,λj y u hy hu=>(gE.2 (j+1) y u (Ku) (G4)).grow g1⟩;refine⟨by simp [hr.1],λj y u hy hu=> ?_⟩;cases j with
   |zero=>simp at hy hu;subst hy;subst hu;exact(r1 v hx).grow g2
   |succ j=>exact hr.2 j y u (Ku) (G4)
def NS(cur:Array Value)(vs:jb)(o:Nat)(hb:o+vs.length<=cur.size)(j:Nat):
 (cur.toList.take o++vs++cur.toList.drop (o+vs.length)).toArray[j]?=if o<=j/\j<o+vs.length then vs[j- o]? else cur[j]?:=by
 simp only [ac9,pN]
 by_cases h1:j<o
 ·rw [kV (eE),if_neg (by omega),u6,if_pos h1];simp
 ·rw [nT (eE)];have e:(List.take o cur.toList).length =o:=eE;rw [e]
  by_cases h2:j<o+vs.length
  ·rw [if_pos ⟨by omega,h2⟩,kV (by omega)]
  ·rw [if_neg (by omega),nT (by omega),vV];rw [show o+vs.length+(j- o- vs.length)=j by omega];simp
def abR(hX:X.Okb)(aX:(X.ti t).ok =true)(hg:w.heap[g]?=some (.cells cur e (0,0))){v:Value}(hs:v.cells.size=(X.ti t).size)
 (hb:o+v.cells.size<=cur.size) (h1:∀u∈v.cells.toList,u.oneCell'=true):
 (Instr.storeAt t (.pointer (some ⟨g,o,none⟩)) v).run X.P w= .ok () (w.setRow g (cur.toList.take o++v.cells.toList++cur.toList.drop (o+v.cells.toList.length)).toArray):=by
 obtain⟨i,d,z,f⟩:=hX.facts aX;have fK:=T0 X.P g o e v.cells.toList 0 cur w hg (G6) h1;simp only [CB]at fK;unfold Instr.storeAt Instr.sureAddr storeVar;simp only [iB,mQ,lg,f.sizeOf,hs,ne_eq,not_true_eq_false,sj,fK]
def Nk(w:World)(g:Nat)(cs:Array Value):w.grownBy (w.setRow g cs) (some g):=
 ⟨rfl,rfl,rfl,by simp,λk _ hk=>ac8 w g k cs (λe=>hk (by rw [e]))⟩
def NJ(h:x.plain=true):x.leaf=true∨∃cs,x= .agg cs:=by
 cases x<;>simp_all [AV.plain,AV.leaf]
def aJT{m sz:Nat}(hj:j<sz)(hm:off+m<=sz):(o+i*sz+off<=o+i'*sz+j/\o+i'*sz+j<o+i*sz+off+m) ↔ (i'=i/\off<=j/\j<off+m):=by
 constructor
 ·rintro⟨h1,h2⟩;rcases Nat.lt_trichotomy i' i with h|h|h
  ·have:(i'+1)*sz<=i*sz:=uh _ (by omega);exact CZ
  ·subst h;exact⟨rfl,by omega,by omega⟩
  ·have:(i+1)*sz<=i'*sz:=uh _ (by omega);exact CZ
 ·rintro⟨rfl,h1,h2⟩;omega
def pZ.store{jd:aE}{sE:Option (Nat×Nat×Nat)}(h:pZ X ρ F w hd t xs op){c:Nat}(hv:hd.v= .slice (some ⟨g,o,none⟩) n c)(hg:w.heap[g]?=some (.cells cur e (0,0)))
  {vs:jb} (hi:i<xs.length) (hb:off+vs.length<=(X.K t).length) (hF:∀a,F a->a.block≠g) (BC:∀p k,rX w hd xs op (some p) k->k≠g) (hlen:jd.length=xs.length)
 (AL:∀i j k,sE=some (i,j,k)->i<xs.length/\j<(X.K t).length)
 (yA:∀(i':Nat) jT,jd[i']?=some jT->∃row,xs[i']?=some row/\wY (X.K t) jT=true/\∀(j:Nat) x,jT[j]?=some x->
   (i'=i/\off<=j/\j<off+vs.length/\∀v,vs[j- off]?=some v->(∀k,jQ sE i' j=some k->∃h,ρ[k]?=some h/\v=h.v)/\(jQ sE i' j=none->x.wZ=false/\aR X.K ρ F w x v))∨
   (¬(i'=i/\off<=j/\j<off+vs.length)/\row[j]?=some x/\jQ sE i' j=jQ op i' j)):
 let w':=w.setRow g (cur.toList.take (o+i*hd.sz+off)++vs++cur.toList.drop (o+i*hd.sz+off+vs.length)).toArray
 o+i*hd.sz+off+vs.length<=cur.size/\pZ X ρ F w' hd t jd sE/\∀p k,rX w' hd jd sE p k->rX w hd xs op p k:=by
 intro w';obtain⟨q0,q1,q2,q3,q4⟩:=h;rcases q4 with⟨q4,_⟩|⟨g',o',c',awj,q4,q5,q6,q7,q8,q9⟩
 ·rw [hv]at q4;cases q4
 rw [hv]at q4;injection q4 with e1 e2 e3;injection e1 with e1;injection e1 with e1 e4 e5;subst e1;subst e4;subst e2;subst e3;rw [hg]at q5;injection q5 with q5;injection q5 with q5 q5';subst q5;subst q5';have afN:o+i*hd.sz+off+vs.length<=cur.size:=by
  have:(i+1)*hd.sz<=c*hd.sz:=uh _ (by omega);exact CZ
 have QI:w'.heap[g]?=some (.cells (cur.toList.take (o+i*hd.sz+off)++vs++cur.toList.drop (o+i*hd.sz+off+vs.length)).toArray e (0,0)):=Oc w g cur _ e _ hg;have pT:∀a v,F a->w.cell? a=some v->w'.cell? a=some v:=λa v ha hc=>ab7 (ac8 w g a.block _ (hF a ha)) hc;have asH:∀{i':Nat} {jT:Row} {j:Nat} {x:AV},jd[i']?=some jT->jT[j]?=some x->j<hd.sz:=by
  intro i' jT j x h1 h2;obtain⟨_,_,hk,_⟩:=yA i' jT h1;rw [q1,<-Ed hk];exact(dX.1 h2).1
 have P3:∀(i' j:Nat),j<hd.sz->(cur.toList.take (o+i*hd.sz+off)++vs++cur.toList.drop (o+i*hd.sz+off+vs.length)).toArray[o+i'*hd.sz+j]?=if i'=i/\off<=j/\j<off+vs.length then vs[j- off]? else cur[o+i'*hd.sz+j]?:=by
  intro i' j hj;rw [NS cur vs _ afN];have vH:=aJT (o:=o) (i:=i) (i':=i') (off:=off) (j:=j) (m:=vs.length) (sz:=hd.sz) hj (by omega)
  by_cases hc:i'=i/\off<=j/\j<off+vs.length
  ·rw [if_pos hc,if_pos (vH.2 hc)];obtain⟨rfl,_,_⟩:=hc
   congr 1;omega
  ·rw [if_neg hc,if_neg (λh=>hc (vH.1 h))]
 have iJ:∀(i' j:Nat),j<hd.sz->¬(i'=i/\off<=j/\j<off+vs.length)->cellOf w' hd i' j=cellOf w hd i' j:=by
  intro i' j hj hn;simp only [cellOf,hv];rw [oX,zZ w' g _ _ e (0,0) QI,zZ w g _ cur e (0,0) hg,<-tF,P3 i' j hj,if_neg hn]
 refine⟨afN,⟨q0,q1,λi' jT h1=>(yA i' jT h1).choose_spec.2.1,λi j k hk=>by rw [hlen];exact AL i j k hk,.inr ⟨g,o,c,_,by rw [hlen];exact hv,QI,by rw [hlen];exact q6,q7,?_,λi' jT h1 j x h2=> ?_⟩⟩,λp k hh=> ?_⟩
 ·simp only [J7,fI,sU,Ba,sS];omega
 ·obtain⟨row,h3,_,h4⟩:=yA i' jT h1;have hj:=asH h1 h2;rw [P3 i' j hj];rcases h4 j x h2 with⟨c1,c2,c3,h5⟩|⟨hn,h5,h6⟩
  ·rw [if_pos ⟨c1,c2,c3⟩];have bI:j- off<vs.length:=by omega
   obtain⟨h6,h7⟩:=h5 _ (c8 bI);refine⟨_,c8 bI,h6,λho=> ?_⟩;obtain⟨h8,h9⟩:=h7 ho;unfold zg;split
   ·cases h8
   ·exact h9.mono (λ_ _ h=>h) (λ_ h=>h) pT
  ·rw [if_neg hn];obtain⟨v,h7,h8,h9⟩:=q9 i' row h3 j x h5;refine⟨v,h7,by rw [h6];exact h8,λho=> ?_⟩;rw [h6]at ho;have h9:=h9 ho;have kj:cellOf w hd i' j=some v:=by
    simp only [cellOf,hv];rw [oX,zZ w g _ cur e (0,0) hg,<-tF];exact h7
   unfold zg at h9⊢;split at h9
   ·refine⟨h9.1.mono (λ_ _ h=>h) (λ_ h=>h) pT (λk hk=> ?_),h9.2⟩;exact ac8 w g k _ (BC (i',j) k (.inr ⟨i',j,row,_,_,v,rfl,h3,h5,ho,kj,hk⟩))
   ·exact h9.mono (λ_ _ h=>h) (λ_ h=>h) pT
 ·rcases hh with hh|⟨i',j,jT,e',ys,v,rfl,h1,h2,h3,h4,h5⟩
  ·exact .inl hh
  ·obtain⟨row,h6,_,h7⟩:=yA i' jT h1;have hj:=asH h1 h2;rcases h7 j _ h2 with⟨c1,c2,c3,h8⟩|⟨hn,h8,h9⟩
   ·have bI:j- off<vs.length:=by omega
    have:=((h8 _ (c8 bI)).2 h3).1;cases this
   ·exact .inr ⟨i',j,row,e',ys,v,rfl,h6,h8,by rw [<-h9];exact h3,by rw [<-iJ i' j hj hn];exact h4,h5⟩
def aee(op:Option (Nat×Nat×Nat))(i off:Nat):Bool:=match op with|none=>true|some (i0,j0,_)=>Nat.beq i i0&&Nat.beq off j0
def aft(op:Option (Nat×Nat×Nat))(off n:Nat):Bool:=match op with|none=>true|some (_,j0,_)=>Nat.blt j0 off||Nat.ble (off+n) j0
def aIz{k:Nat}(h:aee op i off=true){j':Nat}(hn:¬(i'=i/\j'=off)):jQ (some (i,off,k)) i' j'=jQ op i' j':=by
 have e1:jQ (some (i,off,k)) i' j'=none:=ap5;rw [e1]
 match op with
 |none=>rfl
 |some (i0,j0,k0)=>
  simp only [aee,bA]at h;have h1:=fk h.1;have h2:=fk h.2;subst h1;subst h2;exact ap5
def aJk(h:aft op off n=true)(h1:off<=j)(h2:j<off+n):jQ op i j=none:=by
 match op with
 |none=>rfl
 |some (i0,j0,k0)=>
  simp only [aft,GS]at h;simp only [jQ];rw [if_neg];rintro⟨_,rfl⟩;rcases h with h|h
  ·have:j0<off:=by simpa using h
   omega
  ·have:=yR h;omega
def adT(X:Cx)(t:TypeId)(p x:AV)(M:aL)(k:aL->Option R):Option R:=
 match p with
 | .ptr id i off=>
   match gm M id with
   |some (.var ks cs)=>
    a8 (x.plain&&(X.ti t).ok &&i==0&&x.cells.length==(X.ti t).size &&decide (off+(X.ti t).size <=ks.length)&&Li ks off x.cells) (k (M.set id (.var ks (setAt cs off x.cells))))
   |some (.row _ _)=>
    a8 x.plain (BI (X.ti t).ks x.cells M λxc M1=>
     match gm M1 id with
     |some (.row t' xs)=>
      a8 ((X.ti t).ok &&xc.length==(X.ti t).size &&decide (off+(X.ti t).size <=(X.K t').length)&&Li (X.K t') off xc&&decide (i<xs.length)) (k (M1.set id (.row t' (xs.set i (setAt (xs.getD i []) off xc)))))
     |_=>none)
   |some (.bD t' xs op)=>
    match x with
    | .ak k0=>
      a8 ((X.ti t).ok &&(X.ti t).size ==1&&decide (off<(X.K t').length)&&decide (i<xs.length)&&aee op i off)
       (match gm M k0 with
        |some (.row e _)=>a8 ((X.K t').getD off .raw == .slice e) (k (M.set id (.bD t' xs (some (i,off,k0)))))
        |_=>none)
    |x=>a8 (x.plain&&(X.ti t).ok &&x.cells.length==(X.ti t).size &&decide (off+(X.ti t).size <=(X.K t').length)&&Li (X.K t') off x.cells&&decide (i<xs.length)&&aft op off (X.ti t).size) (k (M.set id (.bD t' (xs.set i (setAt (xs.getD i []) off x.cells)) op)))
   |_=>none
 |_=>none
def aHi(hX:X.Okb){p:AV}{k:aL->Option R}(h:adT X t p x M k=some r):
 ∃M',k M'=some r/\eR (CF p++x.cells.flatMap tH) M M'/\∀{w0:World} {S:Sc} {F:bC} {ρ:bF} {w:World} {vp vx:Value},Inv X w0 S F ρ M w->aR X.K ρ F w p vp->aR X.K ρ F w x vx->
  ∃w' F',(Instr.storeAt t vp vx).run X.P w= .ok () w'/\Inv X w0 S F' ρ M' w'/\Grow F F' ρ ρ w w':=by
 unfold adT at h;simp only [fF]at h;split at h
 ·rename_i id i off;split at h
  ·rename_i ks cs hb;replace h:=cP h;obtain⟨h1,h⟩:=h;simp only [bA,iT,iA]at h1;obtain⟨⟨⟨⟨⟨AK,aX⟩,wA⟩,hlen⟩,qf⟩,nz⟩:=h1;subst wA;refine⟨_,h,(eR.set _ _ _).mono (Kt),λ{w0 S F ρ w vp vx} hI hp hx=> ?_⟩;cases hp with
   |ptr _ _ _ hd g o n c bf hv=>
    obtain⟨hk,g',cur,e,jC,fU,hg,hr,hc,hy⟩:=hI.amk hb bf;have ny:=jC;rw [hv]at jC;injection jC with e1 e2 e3;injection e1 with e1;injection e1 with e1 e4 e5;subst e1;subst e4;have V9:∀y∈x.cells,y.leaf=true:=aq9;have uO:=hx.cells (NJ AK) hI.one;have gE:vx.cells.size=(X.ti t).size :=by have:=uO.1;simp at this;omega
    have uS:=lQ hk;have iJ:=hr.1;simp only [sS]at iJ;have qz:∀u∈vx.cells.toList,u.oneCell'=true:=by
     intro u hu;obtain⟨j,hj⟩:=Cp hu;have sH:=(dX.1 hj).1;have hl:=uO.1;have hy:x.cells[j]?=some (x.cells[j]'(by omega)):=c8 (by omega);exact ap8
    have eG:=abR (w:=w) hX aX (o:=off) hg gE (by omega) qz;have e0:(0+0*hd.sz+off:Nat)=off:=by omega
    rw [e0];have mu:=Nk w g (cur.toList.take off++vx.cells.toList++cur.toList.drop (off+vx.cells.toList.length)).toArray;have L8:∀a,F a->a.block≠g:=(hI.sep id _ hd g hb rfl bf (qx)).2.2;have pd:Grow F F ρ ρ w (w.setRow g (cur.toList.take off++vx.cells.toList++cur.toList.drop (off+vx.cells.toList.length)).toArray):=
     ⟨λ_ h=>h,λ_ _ h=>h,hI.BM mu (λk hk a ha=>Pn)⟩
    refine⟨_,F,eG,hI.write hb rfl bf (qx) mu ?_,pd⟩;refine⟨amc hk nz (by omega),by rw [JI];exact fU,g,_,e,ny,Oc w g cur _ e _ hg,⟨?_,λj y u hy hu=> ?_⟩,hy⟩
    ·rw [JI];simp only [fI,sU,Ba,sS];omega
    ·rw [GB x.cells cs off (by omega) j]at hy;have rZ:(cur.toList.take off++vx.cells.toList++cur.toList.drop (off+vx.cells.toList.length)).toArray[j]?=some u:=G4;rw [NS cur vx.cells.toList off (eE) j]at rZ;have el:vx.cells.toList.length=x.cells.length:=uO.1;rw [el]at rZ
     by_cases hj:off<=j/\j<off+x.cells.length
     ·rw [if_pos hj]at hy rZ;exact(uO.2 _ y u hy rZ).grow pd
     ·rw [if_neg hj]at hy rZ;exact(hr.2 j y u hy (by simpa using rZ)).grow pd
  ·rename_i t0 xs0 L9;replace h:=cP h;obtain⟨AK,h⟩:=h;obtain⟨xc,M1,h,jg,jv,L7⟩:=NY (X:=X) _ _ _ h;split at h
   ·rename_i t' xs hb;replace h:=cP h;obtain⟨h1,h⟩:=h;simp only [bA,iT,iA]at h1;obtain⟨⟨⟨⟨aX,hlen⟩,qf⟩,nz⟩,hi⟩:=h1;refine⟨_,h,(jv.trans (eR.set _ _ _)).mono (by intro i hi;rw [nA]at hi⊢;rcases hi with h|h;exact .inr h;exact .inl (by simpa [CF]using h)),λ{w0 S F0 ρ w vp vx} qg hp hx=> ?_⟩;obtain⟨F,hI,uU,rB⟩:=L7 qg;cases hp with
    |ptr _ _ _ hd g o n c bf hv=>
     obtain⟨hk,fU,g',o',c',cur,vs,jC,hg,tu,vL,hc3,hr,hc,P6⟩:=hI.GC hb bf (rE (d:=[]) hi);have hv3:=jC;rw [hv]at jC;injection jC with e1 e2 e3;injection e1 with e1;injection e1 with e1 e4 e5;subst e1;subst e4;subst e3;have V9:∀y∈xc,y.leaf=true:=aq9;have uS:=lQ hk;have uO:dZ X.K ρ F w xc vx.cells.toList:=rB _ (hx.cells (NJ AK) qg.one);have gE:vx.cells.size=(X.ti t).size :=by have:=uO.1;simp at this;omega
     have qz:∀u∈vx.cells.toList,u.oneCell'=true:=by
      intro u hu;obtain⟨j,hj⟩:=Cp hu;have sH:=(dX.1 hj).1;have hl:=uO.1;have hy:xc[j]?=some (xc[j]'(by omega)):=c8 (by omega);exact ap8
     have afN:o+i*hd.sz+hd.sz<=cur.size:=by
      have:(i+1)*hd.sz<=c*hd.sz:=uh _ (by omega);exact CZ
     have eG:=abR (w:=w) hX aX (o:=o+i*hd.sz+off) hg gE (by omega) qz;have mu:=Nk w g (cur.toList.take (o+i*hd.sz+off)++vx.cells.toList++cur.toList.drop (o+i*hd.sz+off+vx.cells.toList.length)).toArray;have L8:∀a,F a->a.block≠g:=(hI.sep id _ hd g hb rfl bf (qx)).2.2;have pd:Grow F F ρ ρ w (w.setRow g (cur.toList.take (o+i*hd.sz+off)++vx.cells.toList++cur.toList.drop (o+i*hd.sz+off+vx.cells.toList.length)).toArray):=
      ⟨λ_ h=>h,λ_ _ h=>h,hI.BM mu (λk hk a ha=>Pn)⟩
     obtain⟨q1,q2,q3⟩:=hI.rep id _ hd hb bf;have q4:∀(i:Nat) row,xs[i]?=some row->∀(j:Nat) x,row[j]?=some x->∃v,cur[o+i*hd.sz+j]?=some v/\aR X.K ρ F w x v:=by
      rcases q3 with⟨q5,_⟩|⟨g2,o2,c2,a0j,ny,tq,_,_,_,q7⟩
      ·rw [hv]at q5;cases q5
      ·rw [hv]at ny;injection ny with e1 e2 e3;injection e1 with e1;injection e1 with e1 e4 e5;subst e1;subst e4;rw [hg]at tq;injection tq with tq;injection tq with tq;subst tq;exact q7
     have DJ:xs[i]?=some (xs.getD i []):=rE hi;refine⟨_,F,eG,hI.write hb rfl bf (qx) mu ?_,uU.trans pd⟩;refine⟨fU,λi' jT eJ=> ?_,.inr ⟨g,o,c,_,by rw [J6];exact hv3,Oc w g cur _ t' _ hg,by rw [J6];exact tu,vL,?_,λi' jT eJ j y hy=> ?_⟩⟩
     ·by_cases uT:i'=i
      ·subst uT;rw [oV hi]at eJ;injection eJ with eJ;subst eJ;exact amc hk nz (by omega)
      ·rw [mw (Ne.symm uT)]at eJ;exact q2 i' jT eJ
     ·exact aqj
     ·have el:vx.cells.toList.length=xc.length:=uO.1;rw [NS cur vx.cells.toList _ (eE) _];have yB:∀(i:Nat) row,xs[i]?=some row->row.length=hd.sz:=λi row h=>by rw [lQ (q2 i row h),fU]
      by_cases uT:i'=i
      ·subst uT;rw [oV hi]at eJ;injection eJ with eJ;subst eJ;rw [GB xc _ off (by omega) j]at hy
       by_cases hj:off<=j/\j<off+xc.length
       ·rw [if_pos hj]at hy;rw [if_pos (by omega)];have IH:j- off<xc.length:=by omega
        have hu:vx.cells.toList[j- off]?=some (vx.cells.toList[j- off]'(by omega)):=c8 (by omega);refine⟨_,by rw [show o+i'*hd.sz+j-(o+i'*hd.sz+off)=j- off by omega];exact hu,(uO.2 _ y _ hy hu).grow pd⟩
       ·rw [if_neg hj]at hy;rw [if_neg (by omega)];obtain⟨u,hu,hru⟩:=q4 i' _ DJ j y hy;exact⟨u,hu,hru.grow pd⟩
      ·rw [mw (Ne.symm uT)]at eJ;have QZ:j<hd.sz:=by rw [<-yB i' jT eJ];exact(dX.1 hy).1
       have fv:¬(o+i*hd.sz+off<=o+i'*hd.sz+j/\o+i'*hd.sz+j<o+i*hd.sz+off+vx.cells.toList.length):=by
        rcases Nat.lt_or_gt_of_ne uT with bI|hgt
        ·have:(i'+1)*hd.sz<=i*hd.sz:=uh _ (by omega);exact CZ
        ·have:(i+1)*hd.sz<=i'*hd.sz:=uh _ (by omega);exact CZ
       rw [if_neg fv];obtain⟨u,hu,hru⟩:=q4 i' jT eJ j y hy;exact⟨u,hu,hru.grow pd⟩
   ·exact aM
  ·rename_i t' xs op hb;have core:∀{w0:World} {S:Sc} {F:bC} {ρ:bF} {w:World} {vp vx:Value} {jd:aE} {sE:Option (Nat×Nat×Nat)},Inv X w0 S F ρ M w->aR X.K ρ F w (.ptr id i off) vp->(X.ti t).ok =true->i<xs.length->jd.length=xs.length->
    vx.cells.size=(X.ti t).size ->off+(X.ti t).size <=(X.K t').length ->(∀u∈vx.cells.toList,u.oneCell'=true)->(∀i j k,sE=some (i,j,k)->i<xs.length/\j<(X.K t').length)->
    (∀(i':Nat) jT,jd[i']?=some jT->∃row,xs[i']?=some row/\wY (X.K t') jT=true/\∀(j:Nat) x,jT[j]?=some x->
      (i'=i/\off<=j/\j<off+vx.cells.toList.length/\∀v,vx.cells.toList[j- off]?=some v->(∀k,jQ sE i' j=some k->∃h,ρ[k]?=some h/\v=h.v)/\(jQ sE i' j=none->x.wZ=false/\aR X.K ρ F w x v))∨
      (¬(i'=i/\off<=j/\j<off+vx.cells.toList.length)/\row[j]?=some x/\jQ sE i' j=jQ op i' j))->
    ∃w' F',(Instr.storeAt t vp vx).run X.P w= .ok () w'/\Inv X w0 S F' ρ (M.set id (.bD t' jd sE)) w'/\Grow F F' ρ ρ w w':=by
    intro w0 S F ρ w vp vx jd sE hI hp aX hi hlen gE qf qz AL yA;cases hp with
    |ptr _ _ _ hd g o n c bf hv=>
     have cX:hd.dE=some g:=qx;obtain⟨a1,a2,L8,a4⟩:=hI.bD.ak (.out hb bf cX);have hr:=hI.bD.rep hb bf;obtain⟨q0,q1,q2,q3,q4⟩:=hr;rcases q4 with⟨q4,_⟩|⟨g',o',c',cur,q4,q5,q6,q7,q8,q9⟩
     ·rw [hv]at q4;cases q4
     have q4':=q4;rw [hv]at q4;injection q4 with e1 e2 e3;injection e1 with e1;injection e1 with e1 e4 e5;subst e1;subst e4;subst e2;subst e3;obtain⟨r1,r2,r3⟩:=pZ.store (w:=w) ⟨q0,q1,q2,q3,.inr ⟨g,o,c,cur,q4',q5,q6,q7,q8,q9⟩⟩ hv q5 (i:=i) (off:=off) (vs:=vx.cells.toList) hi (eE) L8
      (λp k hk e=>by subst e;have:=(hI.bD.inj (.tZ hb bf hk) (.out hb bf cX)).2;cases this) hlen AL yA
     have eG:=abR (w:=w) hX aX (o:=o+i*hd.sz+off) q5 gE (by simpa using r1) qz;have mu:=Nk w g (cur.toList.take (o+i*hd.sz+off)++vx.cells.toList++cur.toList.drop (o+i*hd.sz+off+vx.cells.toList.length)).toArray;exact⟨_,F,eG,hI.aNo hb bf cX mu r2 r3,⟨λ_ h=>h,λ_ _ h=>h,hI.BM mu (λk hk a ha=>Pn)⟩⟩
   split at h
   ·rename_i k0;replace h:=cP h;obtain⟨h1,h⟩:=h;simp only [bA,iT,iA]at h1;obtain⟨⟨⟨⟨aX,fU⟩,zp⟩,hi⟩,tQ⟩:=h1;split at h
    ·rename_i e rs hk0;replace h:=cP h;obtain⟨F6,h⟩:=h;refine⟨_,h,(eR.set _ _ _).mono (Kt),λ{w0 S F ρ w vp vx} hI hp hx=> ?_⟩;cases hx with
     |ak _ pq ahj=>
      have Yd:=hI.rep k0 _ pq hk0 ahj;have h1c:pq.v.oneCell'=true:=hI.one _ _ ahj;have He:pq.v.cells= #[pq.v]:=by
       obtain⟨_,_,h|⟨g,o,c,cur,h,_⟩⟩:=Yd
       ·rw [h.1];rfl
       ·exact iW
      refine core hI hp aX hi rfl (by rw [He,fU];rfl) (by omega) (λu hu=>by rw [He]at hu;simp at hu;subst hu;exact h1c) (λi' j' k' k7=>by injection k7 with k7;injection k7 with e1 k7;injection k7 with e2 e3;subst e1;subst e2;exact⟨hi,zp⟩) λi' jT ia=> ?_;have bI:id<ρ.length:=VA;obtain⟨_,_,q2,_,_⟩:=hI.bD.rep hb (c8 bI);refine⟨jT,ia,q2 _ _ ia,λj x hx=> ?_⟩;rw [He]
      by_cases hc:i'=i/\off<=j/\j<off+1
      ·obtain⟨rfl,c2,c3⟩:=hc;have:j=off:=by omega
       subst this;refine .inl ⟨rfl,gQ _,by simp,λv hv=> ?_⟩;simp at hv;subst hv;exact⟨λk hk=>by simp [jQ]at hk;subst hk;exact⟨pq,ahj,rfl⟩,λhk=>by simp [jQ]at hk⟩
      ·exact .inr ⟨by simpa using hc,hx,aIz tQ (λh=>hc ⟨h.1,by omega,by omega⟩)⟩
    ·exact aM
   ·rename_i vI;replace h:=cP h;obtain⟨h1,h⟩:=h;simp only [bA,iT,iA]at h1;obtain⟨⟨⟨⟨⟨⟨AK,aX⟩,hlen⟩,qf⟩,nz⟩,hi⟩,HR⟩:=h1;refine⟨_,h,(eR.set _ _ _).mono (Kt),λ{w0 S F ρ w vp vx} hI hp hx=> ?_⟩;have bI:id<ρ.length:=VA;obtain⟨q0,_,q2,q3,_⟩:=hI.bD.rep hb (c8 bI);have uO:=hx.cells (NJ AK) hI.one;have hl:=uO.1;have HT:∀{j:Nat} {y:AV},x.cells[j]?=some y->js ((X.K t').getD (off+j) .raw) y=true:=λhy=>adr nz (by omega) hy;have V9:∀{j:Nat} {y:AV},x.cells[j]?=some y->y.leaf=true:=λhy=>abU (HT hy);have aPb:∀{j:Nat} {y:AV},x.cells[j]?=some y->y.wZ=false:=by
     intro j y hy;have h1:=HT hy;have hj:=(dX.1 hy).1;have h2:(X.K t').getD (off+j) .raw ≠ .any :=by
      rw [List.getD,c8 (by omega:off+j<(X.K t').length)];exact q0 _ _ (cY _)
     generalize (X.K t').getD (off+j) .raw =kd at h1 h2;cases y<;>first|rfl|skip
     cases kd<;>first|(simp [js,AV.pure,AV.leaf]at h1;done)|exact absurd rfl h2
    have qz:∀u∈vx.cells.toList,u.oneCell'=true:=by
     intro u hu;obtain⟨j,hj⟩:=Cp hu;have sH:=(dX.1 hj).1;have hy:x.cells[j]?=some (x.cells[j]'(by omega)):=c8 (by omega);exact Jv (uO.2 j _ u hy hj) (V9 hy) hI.one
    refine core hI hp aX hi (by simp) (by simpa [hlen]using hl) qf qz q3 λi' jT ia=> ?_;have og:=rE (d:=([]:Row)) hi;have hkr:=Ed (q2 i _ og)
    by_cases uT:i'=i
    ·subst uT;rw [oV hi]at ia;injection ia with ia;subst ia;refine⟨_,og,aIE (q2 i' _ og) (λhy=>alE (HT hy)) (by omega),λj y hy=> ?_⟩;rw [GB x.cells _ off (by omega) j]at hy
     by_cases hc:off<=j/\j<off+x.cells.length
     ·rw [if_pos hc]at hy;refine .inl ⟨rfl,hc.1,by omega,λv hv=>⟨λk hk=> ?_,λ_=>⟨aPb hy,uO.2 _ y v hy hv⟩⟩⟩;rw [aJk HR hc.1 (by omega)]at hk;cases hk
     ·rw [if_neg hc]at hy;exact .inr ⟨λh=>hc ⟨h.2.1,by omega⟩,hy,rfl⟩
    ·rw [mw (Ne.symm uT)]at ia;exact⟨jT,ia,q2 _ _ ia,λj y hy=> .inr ⟨λh=>uT h.1,hy,rfl⟩⟩
  ·exact aM
 ·cases h
end
end Go.ah
namespace Go.ah
def vk{p:Prop}(h:p:=by exact⟨_,h,E3.refl _⟩):p:=h
def ES{p:Prop}(h:p:=by rw [<-hI.len];simp):p:=h
def aq4{p:Prop}(h:p:=by
 simp only [cellOf,p1];rw [oX,zZ w g _ cur t (0,0) p2,<-tF];exact hv):p:=h
def OW{p:Prop}(h:p:=by rw [hI.len];exact bI):p:=h
def OR{p:Prop}(h:p:=by simpa using bI):p:=h
def aqh{p:Prop}(h:p:=by injection h with h;injection h with h1 h2;exact⟨h1,h2⟩):p:=h
def G0{p:Prop}(h:p:=by cases hk):p:=h
def aeD{p:Prop}(h:p:=by rw [TV]at this;exact this):p:=h
end Go.ah
namespace Go.ah
open Go
noncomputable section
variable {X:Cx} {R:Type}
variable {w0 w:World} {S:Sc} {F:bC} {ρ:bF} {M:aL}
variable{id:Nat}{r:R}{k:aL->Option R}
inductive Src where
 |tmp(t:Nat)
 |cell(t c:Nat)
inductive Gh where
 |nest(s:Src)
 |flat(s:Src)
 |close(s:Src)
 |opn(s:Src)(i:Operand)(j:Nat)
 |aYi(t:Nat)(j:Nat)
 |avi(s:Src)(t c j:Nat)
 |Yn(t:Nat)(el:TypeId)
 |Mk(t:Nat)(el:TypeId)
 |j5(t:Nat)(ty:TypeId)
def AV.yl:AV->AV| .sub t xs=> .aj t xs|x=>x
def afv(X:Cx)(id:Nat)(M:aL)(k:aL->Option R):Option R:=
 match gm M id with
 |some (.row t xs)=>a8 X.pk (k (M.set id (.bD t xs none)))
 |_=>k M
def af0(id:Nat)(M:aL)(k:aL->Option R):Option R:=
 match gm M id with
 |some (.bD t xs none)=>k (M.set id (.row t (xs.map λr=>r.map AV.yl)))
 |_=>k M
def Pg(X:Cx)(id i j:Nat)(M:aL)(k:aL->Option R):Option R:=
 match gm M id with
 |some (.bD t xs none)=>
  match(X.K t).getD j .raw with
  | .slice e=>a8 (decide (i<xs.length)&&Nat.blt j (X.K t).length &&((xs.getD i []).getD j .top).wZ) (k (M.set id (.bD t xs (some (i,j,M.length)))++[.row e ((xs.getD i []).getD j .top).rows]))
  |_=>none
 |_=>k M
def afd(X:Cx)(id:Nat)(M:aL)(k:aL->Option R):Option R:=
 match gm M id with
 |some (.bD t xs (some (i,j,kk)))=>
  match gm M kk with
  |some (.row e ys)=>a8 ((X.K t).getD j .raw == .slice e) (k ((M.set kk .dead).set id (.bD t (xs.set i ((xs.getD i []).set j (.sub e ys))) none)))
  |_=>none
 |_=>k M
def E3(X:Cx)(M M':aL):Prop:=∀{w0:World} {S:Sc} {F:bC} {ρ:bF} {w:World},Inv X w0 S F ρ M w->∃F' ρ',Inv X w0 S F' ρ' M' w/\Grow F F' ρ ρ' w w
def E3.refl(M:aL):E3 X M M:=λ{w0 S F ρ w} hI=>⟨F,ρ,hI,Grow.refl _ _ _⟩
def aIA{kd:Kind}{x:AV}(hk:kd≠ .any)(h:js kd x=true):x.wZ=false:=by
 cases x<;>first|rfl|skip
 cases kd<;>first|(simp [js,AV.pure,AV.leaf]at h;done)|exact absurd rfl hk
def Inv.kill(hI:Inv X w0 S F ρ M w){b:eH}{hd:Hd}(hb:M[id]?=some b)(du:b.kq=false)(hh:ρ[id]?=some hd):Inv X w0 S F ρ (M.set id .dead) w:=by
 cases cX:hd.dE with
 |none=>exact hI.VX hb hh cX trivial
 |some g=>exact hI.write hb du hh cX ⟨rfl,rfl,rfl,gQ _,λ_ _ _=>rfl⟩ trivial
def Kb{g:Nat}(h:rW ρ (M.set id .dead) g):rW ρ M g:=by
 obtain⟨i,c,hd,q1,q2,q3,q4⟩:=h;rcases z7 q1 with⟨_,rfl⟩|⟨_,q1⟩
 ·cases q2
 ·exact⟨i,c,hd,q1,q2,q3,q4⟩
def aIB(hX:X.Okb)(h:afv X id M k=some r):∃M',k M'=some r/\E3 X M M':=by
 unfold afv at h;rw [fF]at h;split at h
 ·rename_i t xs hb;replace h:=cP h;obtain⟨DQ,h⟩:=h;refine⟨_,h,λ{w0 S F ρ w} hI=> ?_⟩;have bI:=(dX.1 hb).1;have ID:id<ρ.length:=OW;have hh:ρ[id]?=some ρ[id]:=c8 ID;have oQ:∀t,∀k∈X.K t,k≠ .any :=hX.VE DQ;obtain⟨q1,q2,q3⟩:=hI.rep id _ _ hb hh;have sK:=hI.kill hb rfl hh;have ns:∀{i:Nat} {row:Row} {j:Nat} {x:AV},xs[i]?=some row->row[j]?=some x->x.wZ=false:=by
   intro i row j x hi hx;have hl:=lQ (q2 i row hi);have hj:j<(X.K t).length :=O1;exact aIA (oQ t _ (cY hj)) (wN (q2 i row hi) (c8 hj) hx)
  have hr:pZ X ρ F w ρ[id] t xs none:=by
   refine⟨oQ,q1,λi row hi=>ads (lQ (q2 i row hi)) λj kd x hj hx=>alE (wN (q2 i row hi) hj hx),λi j k hk=>(G0),?_⟩;rcases q3 with q3|⟨g,o,c,cur,p1,p2,p3,p4,p5,p6⟩
   ·exact .inl q3
   ·refine .inr ⟨g,o,c,cur,p1,p2,p3,p4,p5,λi row hi j x hx=> ?_⟩;obtain⟨v,hv,hrv⟩:=p6 i row hi j x hx;refine⟨v,hv,λk hk=>(G0),λ_=> ?_⟩;have:=ns hi hx;unfold zg;split
    ·cases this
    ·exact hrv
  have hB:∀{p g},rX w ρ[id] xs none p g->p=none/\ρ[id].dE =some g:=by
   intro p g hp;rcases hp with hp|⟨i,j,row,e,ys,v,_,h1,h2,_⟩
   ·exact hp
   ·have:=ns h1 h2;cases this
  have:=sK.install (id:=id) (b:= .dead) (Vg) rfl rfl hh hr (λp g hp=> ?_) (λp q g h1 h2=>(hB h1).1.trans (hB h2).1.symm)
  ·exact⟨F,ρ,aeD,Grow.refl _ _ _⟩
  ·obtain⟨_,hg⟩:=hB hp;obtain⟨a1,a2,a3⟩:=hI.sep id _ _ g hb rfl hh hg;refine⟨a1,a2,a3,?_,λi q hq=> ?_⟩
   ·rintro⟨i,c,hd,u1,u2,u3,u4⟩;rcases z7 u1 with⟨_,rfl⟩|⟨fv,u1⟩
    ·cases u2
    ·exact hI.k5 i id c _ hd _ g fv u1 hb u2 rfl u3 hh u4 hg
   ·exact(hI.bD.ak (hq.wV rfl).2).2.2.2 ⟨id,_,_,hb,rfl,hh,hg⟩
 ·exact vk
def aIH(h:af0 id M k=some r):∃M',k M'=some r/\E3 X M M':=by
 unfold af0 at h;rw [fF]at h;split at h
 ·rename_i t xs hb;refine⟨_,h,λ{w0 S F ρ w} hI=> ?_⟩;have bI:=(dX.1 hb).1;have ID:id<ρ.length:=OW;have hh:ρ[id]?=some ρ[id]:=c8 ID;have hr:=hI.bD.rep hb hh;have sK:=hI.drop hb rfl;have facts:∀{p g},rX w ρ[id] xs none p g->g<w.heap.size/\(S g∨w0.heap.size<=g)/\(∀a,F a->a.block≠g)/\¬rW ρ (M.set id .dead) g/\∀i q,¬Hid w ρ (M.set id .dead) i q g:=by
   intro p g hp;have ue:=Hid.tZ hb hh hp;obtain⟨a1,a2,a3,a4⟩:=hI.bD.ak ue;exact⟨a1,a2,a3,λh=>a4 (Kb h),λi q h=>(h.wV rfl).1 (hI.bD.inj (h.wV rfl).2 ue).1⟩
  have qI:=sK.aMx (λg=>∃p,rX w ρ[id] xs none (some p) g) (λg ⟨p,hp⟩=>let⟨a1,a2,_,a4,a5⟩:=facts hp;⟨a1,a2,a4,a5⟩);obtain⟨q0,q1,q2,_,q3⟩:=hr;have ia:∀{i:Nat} {jT:Row},(xs.map λr=>r.map AV.yl)[i]?=some jT->∃row,xs[i]?=some row/\jT=row.map AV.yl:=by
   intro i jT hi;rw [kW]at hi;cases hx:xs[i]? with
   |none=>rw [hx]at hi;cases hi
   |some row=>rw [hx]at hi;simp at hi;exact⟨row,rfl,hi.symm⟩
  have pT:∀{row:Row} {j:Nat} {x':AV},(row.map AV.yl)[j]?=some x'->∃x,row[j]?=some x/\x'=x.yl:=by
   intro row j x' hj;rw [kW]at hj;cases hx:row[j]? with
   |none=>rw [hx]at hj;cases hj
   |some x=>rw [hx]at hj;simp at hj;exact⟨x,rfl,hj.symm⟩
  have Yd:nx X ρ (λa=>F a∨∃p,rX w ρ[id] xs none (some p) a.block) w ρ[id] (.row t (xs.map λr=>r.map AV.yl)):=by
   refine⟨q1,λi jT wA=> ?_,?_⟩
   ·obtain⟨row,hi,rfl⟩:=ia wA;have hl:=Ed (q2 i row hi);refine Ov (sY) λj kd x' hj fw=> ?_;obtain⟨x,hx,rfl⟩:=pT fw;obtain⟨yz,e1,e2⟩:=GF (q2 i row hi) hx;rw [hj]at e1;injection e1 with e1;subst e1;cases hs:x.wZ with
    |false=>
     have:x.yl=x:=by cases x<;>first|rfl|cases hs
     rw [this];exact alD e2 hs
    |true=>
     cases x<;>simp only [AV.wZ,oW]at hs
     cases kd with
     |slice te=>exact e2
     |any=>exact absurd rfl (q0 _ _ (qk hj))
     |_=>simp [w9,js,AV.pure,AV.leaf]at e2
   ·rcases q3 with⟨q3,q4⟩|⟨g,o,c,cur,p1,p2,p3,p4,p5,p6⟩
    ·exact .inl ⟨q3,by rw [q4];rfl⟩
    ·refine .inr ⟨g,o,c,cur,by simpa using p1,p2,by simpa using p3,p4,p5,λi jT wA j x' fw=> ?_⟩;obtain⟨row,hi,rfl⟩:=ia wA;obtain⟨x,hx,rfl⟩:=pT fw;obtain⟨v,hv,_,hc⟩:=p6 i row hi j x hx;have hc:=hc rfl;refine⟨v,hv,?_⟩;have kj:cellOf w ρ[id] i j=some v:=aq4;unfold zg at hc;split at hc
     ·rcases ajP hc.1 with⟨_,e1,e2⟩|⟨g',e1,e2⟩
      ·have e2:v= .slice none 0 0:=e2;subst e1;subst e2;exact aR.n7 _
      ·exact e2 _ (λ_ h=> .inl h) (λa ha=> .inr ⟨(i,j),.inr ⟨i,j,row,_,_,v,rfl,hi,hx,rfl,kj,by rw [ha];exact e1⟩⟩)
     ·rename_i nP;have:x.yl=x:=by cases x<;>first|rfl|exact absurd rfl (nP _ _)
      rw [this];exact hc.mono (λ_ _ h=>h) (λ_ h=> .inl h) (λ_ _ _ h=>h)
  refine⟨λa=>F a∨∃p,rX w ρ[id] xs none (some p) a.block,ρ,?_,⟨λ_ h=>Or.inl h,λ_ _ h=>h,λ_ _=>rfl⟩⟩;cases cX:ρ[id].dE with
  |none=>
   have:=qI.VX (id:=id) (b:= .dead) (Vg) hh cX Yd;exact aeD
  |some g=>
   obtain⟨a1,a2,a3,a4,a5⟩:=facts (.inl ⟨rfl,cX⟩);have:=qI.aoE (id:=id) (b0:= .dead) (Vg) hh cX a1 a2 (λa ha e=> ?_) (λi c hd u1 u2 u3 u4=>a4 ⟨i,c,hd,u1,u2,u3,u4⟩) a5 Yd
   ·exact aeD
   ·rcases ha with ha|⟨p,hp⟩
    ·exact a3 a ha e
    ·have:=(hI.bD.inj (.tZ hb hh hp) (.tZ hb hh (.inl ⟨rfl,by rw [cX,e]⟩))).2;cases this
 ·exact vk
def abS{i j:Nat}(h:Pg X id i j M k=some r):∃M',k M'=some r/\E3 X M M':=by
 unfold Pg at h;rw [fF]at h;split at h
 ·rename_i t xs hb;split at h
  ·rename_i e F6;replace h:=cP h;obtain⟨h1,h⟩:=h;simp only [bA,iT]at h1;obtain⟨⟨hi,hj⟩,hsb⟩:=h1;have hj:j<(X.K t).length :=by simpa using hj
   refine⟨_,h,λ{w0 S F ρ w} hI=> ?_⟩;have bI:=(dX.1 hb).1;have ID:id<ρ.length:=OW;have hh:ρ[id]?=some ρ[id]:=c8 ID;have hr:=hI.bD.rep hb hh;have sK:=hI.drop hb rfl;obtain⟨q0,q1,q2,_,q3⟩:=hr;have og:=rE (d:=([]:Row)) hi;have hl:=Ed (q2 i _ og);have Ix:(xs.getD i [])[j]?=some ((xs.getD i []).getD j .top):=rE (by omega);obtain⟨kd,e1,e2⟩:=GF (q2 i _ og) Ix;have ekd:kd= .slice e:=by rw [List.getD,e1]at F6;exact F6
   subst ekd;have hx:∃ys,(xs.getD i []).getD j .top = .sub e ys:=by
    generalize (xs.getD i []).getD j .top =x at hsb e2;cases x<;>simp only [AV.wZ,oW]at hsb
    have e2:(e==_)=true:=e2;rw [iA]at e2;subst e2;exact⟨_,rfl⟩
   obtain⟨ys,hx⟩:=hx;rw [hx]at Ix⊢;rcases q3 with⟨_,q4⟩|⟨g,o,c,cur,p1,p2,p3,p4,p5,p6⟩
   ·subst q4;simp at hi
   obtain⟨v,hv,_,hc⟩:=p6 i _ og j _ Ix;obtain⟨tu,vL⟩:=hc rfl;have kj:cellOf w ρ[id] i j=some v:=aq4;have qI:Inv X w0 S F (ρ++[⟨v,(X.K e).length⟩]) (M.set id .dead ++[.row e ys]) w:=by
    refine sK.EP (λg' lx=> ?_) vL (tu.mono (λ_ _ h=>ou h) (λ_ h=>h) (λ_ _ _ h=>h) (λ_ _=>rfl));have hp:=Hid.sub hb hh og Ix rfl kj lx;obtain⟨a1,a2,a3,a4⟩:=hI.bD.ak hp;exact⟨a1,a2,a3,λi' b' du u1 u2 u3 u4=>a4 (Kb ⟨i',b',du,u1,u2,u3,u4⟩),λi' q h=>(h.wV rfl).1 (hI.bD.inj (h.wV rfl).2 hp).1⟩
   have xm:(ρ++[⟨v,(X.K e).length⟩])[id]?=some ρ[id]:=ou hh;have afV:(ρ++[(⟨v,(X.K e).length⟩:Hd)])[M.length]?=some ⟨v,(X.K e).length⟩:=ES;have Xi:∀{i' j':Nat},jQ (some (i,j,M.length)) i' j'=none->¬(i'=i/\j'=j):=by
    intro i' j' ho hc;simp only [jQ]at ho;rw [if_pos ⟨hc.1.symm,hc.2.symm⟩]at ho;cases ho
   have pK:pZ X (ρ++[⟨v,(X.K e).length⟩]) F w ρ[id] t xs (some (i,j,M.length)):=by
    refine⟨q0,q1,q2,λi' j' k' k7=>by injection k7 with k7;injection k7 with e1 k7;injection k7 with e2 e3;subst e1;subst e2;exact⟨hi,hj⟩,.inr ⟨g,o,c,cur,p1,p2,p3,p4,p5,λi' jT eJ j' x' fw=> ?_⟩⟩;obtain⟨u,hu,_,AQ⟩:=p6 i' jT eJ j' x' fw;refine⟨u,hu,λk' k7=> ?_,λho=> ?_⟩
    ·simp only [jQ]at k7;split at k7
     ·rename_i he;obtain⟨rfl,rfl⟩:=he;injection k7 with k7;subst k7;rw [hv]at hu;injection hu with hu;subst hu;exact⟨_,afV,rfl⟩
     ·cases k7
    ·have AQ:=AQ rfl;unfold zg at AQ⊢;split at AQ
     ·exact⟨AQ.1.mono (λ_ _ h=>ou h) (λ_ h=>h) (λ_ _ _ h=>h) (λ_ _=>rfl),AQ.2⟩
     ·exact AQ.mono (λ_ _ h=>ou h) (λ_ h=>h) (λ_ _ _ h=>h)
   have less:∀{p g'},rX w ρ[id] xs (some (i,j,M.length)) p g'->rX w ρ[id] xs none p g'/\p≠some (i,j):=by
    intro p g' hp;rcases hp with hp|⟨i',j',row,e',Qj,v',rfl,u1,u2,u3,u4,u5⟩
    ·exact⟨.inl hp,by rw [hp.1];simp⟩
    ·exact⟨.inr ⟨i',j',row,e',Qj,v',rfl,u1,u2,rfl,u4,u5⟩,λh=>Xi u3 (aqh)⟩
   have:=qI.install (id:=id) (b:= .dead) (by rw [kV (OR),oV bI]) rfl rfl xm pK (λp g' hp=> ?_) (λp q g' h1 h2=>(hI.bD.inj (.tZ hb hh (less h1).1) (.tZ hb hh (less h2).1)).2)
   ·rw [List.set_append_left _ _ (OR),TV]at this;exact⟨F,_,this,⟨λ_ h=>h,λ_ _ h=>ou h,λ_ _=>rfl⟩⟩
   ·obtain⟨QU,LZ⟩:=less hp;have ue:=Hid.tZ hb hh QU;obtain⟨a1,a2,a3,a4⟩:=hI.bD.ak ue;refine⟨a1,a2,a3,?_,λi' q h=> ?_⟩
    ·rintro⟨i',b',du,u1,u2,u3,u4⟩
     by_cases Fm:i'<M.length
     ·rw [kV (by simpa using Fm)]at u1;rw [kV (by rw [hI.len];exact Fm)]at u3;exact a4 (Kb ⟨i',b',du,u1,u2,u3,u4⟩)
     ·rw [nT (by rw [hI.len];omega)]at u3;have:i'- ρ.length=0:=by have:=(dX.1 u3).1;simp at this;omega
      rw [this]at u3;simp at u3;subst u3;exact LZ (hI.bD.inj ue (Hid.sub hb hh og Ix rfl kj u4)).2
    ·have h:=h.pop (Ky) rfl;exact(h.wV rfl).1 (hI.bD.inj (h.wV rfl).2 ue).1
  ·exact aM
 ·exact vk
def aIq(h:afd X id M k=some r):∃M',k M'=some r/\E3 X M M':=by
 unfold afd at h;rw [fF]at h;split at h
 ·rename_i t xs i j kk hb;rw [fF]at h;split at h
  ·rename_i e ys hk;replace h:=cP h;obtain⟨F6,h⟩:=h;rw [iA]at F6;refine⟨_,h,λ{w0 S F ρ w} hI=> ?_⟩;have bI:=(dX.1 hb).1;have avO:=(dX.1 hk).1;have ID:id<ρ.length:=OW;have hh:ρ[id]?=some ρ[id]:=c8 ID;have fv:kk≠id:=λe=>by subst e;rw [hb]at hk;cases hk
   have B2:ρ[kk]?=some (ρ[kk]'(by rw [hI.len];exact avO)):=c8 _;generalize ρ[kk]'(by rw [hI.len];exact avO)=hdk at B2;obtain⟨q0,q1,q2,q3,q4⟩:=hI.bD.rep hb hh;obtain⟨hi,hj⟩:=q3 i j kk rfl;have Q6:=hI.rep kk _ _ hk B2;have sK:=hI.kill hk rfl B2;have qI:=sK.drop (id:=id) (by rw [mw fv];exact hb) rfl;have og:=rE (d:=([]:Row)) hi;have hl:=Ed (q2 i _ og);have Xi:∀{i' j':Nat},¬(i'=i/\j'=j)->jQ (some (i,j,kk)) i' j'=none:=by
    intro i' j' hc;simp only [jQ];rw [if_neg (λh=>hc ⟨h.1.symm,h.2.symm⟩)]
   have pT:∀{i':Nat} {jT:Row} {j':Nat} {x':AV},(xs.set i ((xs.getD i []).set j (.sub e ys)))[i']?=some jT->jT[j']?=some x'->(i'=i/\j'=j/\x'= .sub e ys)∨(¬(i'=i/\j'=j)/\∃row,xs[i']?=some row/\row[j']?=some x'):=by
    intro i' jT j' x' h1 h2
    by_cases uT:i'=i
    ·subst uT;rw [oV hi]at h1;injection h1 with h1;subst h1
     by_cases L4:j'=j
     ·subst L4;rw [oV (by omega)]at h2;injection h2 with h2;exact .inl ⟨rfl,rfl,h2.symm⟩
     ·rw [mw (Ne.symm L4)]at h2;exact .inr ⟨λh=>L4 h.2,_,og,h2⟩
    ·rw [mw (Ne.symm uT)]at h1;exact .inr ⟨λh=>uT h.1,_,h1,h2⟩
   rcases q4 with⟨_,q5⟩|⟨g,o,c,cur,p1,p2,p3,p4,p5,p6⟩
   ·subst q5;simp at hi
   have Ix:(xs.getD i [])[j]?=some ((xs.getD i []).getD j .top):=rE (by omega);obtain⟨v,hv,hov,_⟩:=p6 i _ og j _ Ix;obtain⟨h',e1,e2⟩:=hov kk (by simp [jQ]);rw [B2]at e1;injection e1 with e1;subst e1;have kj:cellOf w ρ[id] i j=some hdk.v:=by
    simp only [cellOf,p1];rw [oX,zZ w g _ cur t (0,0) p2,<-tF,<-e2];exact hv
   have pK:pZ X ρ F w ρ[id] t (xs.set i ((xs.getD i []).set j (.sub e ys))) none:=by
    refine⟨q0,q1,λi' jT eJ=> ?_,λ_ _ _ hk=>(G0),.inr ⟨g,o,c,cur,by rw [J6];exact p1,p2,by rw [J6];exact p3,p4,p5,λi' jT eJ j' x' fw=> ?_⟩⟩
    ·by_cases uT:i'=i
     ·subst uT;rw [oV hi]at eJ;injection eJ with eJ;subst eJ;refine ads (by rw [J6];exact hl) λj' kd x sH hx=> ?_
      by_cases L4:j'=j
      ·subst L4;rw [oV (by omega)]at hx;injection hx with hx;subst hx;rw [List.getD,sH]at F6;simp only [qm]at F6;subst F6;simp [w9]
      ·rw [mw (Ne.symm L4)]at hx;obtain⟨yz,u1,u2⟩:=GF (q2 _ _ og) hx;rw [sH]at u1;injection u1 with u1;subst u1;exact u2
     ·rw [mw (Ne.symm uT)]at eJ;exact q2 _ _ eJ
    ·rcases pT eJ fw with⟨rfl,rfl,rfl⟩|⟨hn,row,u1,u2⟩
     ·refine⟨v,hv,λ_ hk=>(G0),λ_=> ?_⟩;rw [e2];refine⟨?_,hI.one _ _ B2⟩;have fU:hdk.sz=(X.K e).length :=Q6.1;rw [<-fU];exact Q6
     ·obtain⟨u,hu,_,AQ⟩:=p6 i' row u1 j' x' u2;exact⟨u,hu,λ_ hk=>(G0),λ_=>AQ (Xi hn)⟩
   have split:∀{p g'},rX w ρ[id] (xs.set i ((xs.getD i []).set j (.sub e ys))) none p g'->(p=some (i,j)/\hdk.dE=some g')∨(p≠some (i,j)/\rX w ρ[id] xs (some (i,j,kk)) p g'):=by
    intro p g' hp;rcases hp with hp|⟨i',j',row,e',Qj,v',rfl,u1,u2,u3,u4,u5⟩
    ·exact .inr ⟨by rw [hp.1];simp,.inl hp⟩
    ·rcases pT u1 u2 with⟨rfl,rfl,_⟩|⟨hn,row,m1,m2⟩
     ·rw [kj]at u4;injection u4 with u4;subst u4;exact .inl ⟨rfl,u5⟩
     ·exact .inr ⟨λh=>hn (aqh),.inr ⟨i',j',row,e',Qj,v',rfl,m1,m2,Xi hn,u4,u5⟩⟩
   have aY7:((M.set kk .dead).set id .dead)[id]?=some .dead :=by rw [oV (OR)]
   have:=qI.install (id:=id) (b:= .dead) aY7 rfl rfl hh pK (λp g' hp=> ?_) (λp q g' h1 h2=> ?_)
   ·rw [TV]at this;exact⟨F,ρ,this,Grow.refl _ _ _⟩
   ·rcases split hp with⟨_,hp⟩|⟨_,hp⟩
    ·obtain⟨a1,a2,a3⟩:=hI.sep kk _ _ g' hk rfl B2 hp;refine⟨a1,a2,a3,λho=> ?_,λi' q h=> ?_⟩
     ·obtain⟨i',b',du,u1,u2,u3,u4⟩:=Kb ho;rcases z7 u1 with⟨_,rfl⟩|⟨hn,u1⟩
      ·cases u2
      ·exact hI.k5 i' kk b' _ du _ g' hn u1 hk u2 rfl u3 B2 u4 hp
     ·exact(hI.bD.ak ((h.wV rfl).2.wV rfl).2).2.2.2 ⟨kk,_,_,hk,rfl,B2,hp⟩
    ·have ue:=Hid.tZ hb hh hp;obtain⟨a1,a2,a3,a4⟩:=hI.bD.ak ue;exact⟨a1,a2,a3,λh=>a4 (Kb (Kb h)),λi' q h=>(h.wV rfl).1 (hI.bD.inj ((h.wV rfl).2.wV rfl).2 ue).1⟩
   ·rcases split h1 with⟨e1,h1⟩|⟨e1,h1⟩<;>rcases split h2 with⟨e3,h2⟩|⟨e3,h2⟩
    ·exact e1.trans e3.symm
    ·exact((hI.bD.ak (Hid.tZ hb hh h2)).2.2.2 ⟨kk,_,_,hk,rfl,B2,h1⟩).elim
    ·exact((hI.bD.ak (Hid.tZ hb hh h1)).2.2.2 ⟨kk,_,_,hk,rfl,B2,h2⟩).elim
    ·exact(hI.bD.inj (Hid.tZ hb hh h1) (Hid.tZ hb hh h2)).2
  ·exact aM
 ·exact vk
end
end Go.ah
namespace Go.ah
def ass{p:Prop}(h:p:=by
 rw [hv];refine⟨_,run_indexAt_slice hX aX hu he h0 h1 w,?_⟩;rw [oX];have:=aR.ptr (K:=X.K) (ρ:=ρ) (F:=F) (w:=w) id n.toNat 0 hd g o xs.length c bf hv;rw [hs,fU]at this;simpa using this):p:=h
def asq{p:Prop}(h:p:=by
 rw [fe,kW]at B4;cases hgs:gs.toList[fi]? with
 |none=>rw [hgs]at B4;cases B4
 |some xp=>
  rw [hgs]at B4;simp at B4;exact⟨xp,by simpa using hgs,B4.1,B4.2⟩):p:=h
def CY{p:Prop}(h:p:=by rw [f2.size];exact f2.ks):p:=h
def KP{p:Prop}(h:p:=by rw [f.zc];exact amo _ _ _ _ _):p:=h
def ar0{p:Prop}(h:p:=by
 cases hv with
 |iO _ _ _ a vs hk hl hc hr=>
  refine⟨_,eG _ _,?_⟩;rw [Ew];exact .iO _ _ _ a vs hk hl hc hr):p:=h
def aqI{p:Prop}(h:p:=by
 refine⟨_,run_indexAt_slice hX aX hu he h0 h1 w,?_⟩;rw [<-fU];exact hp):p:=h
def CI{p:Prop}(h:p:=by simp at hi):p:=h
def iK{p:Prop}(h:p:=by exact this):p:=h
end Go.ah
namespace Go.ah
def Ul:=@beq_eq_false_iff_ne
def Oe:=@Go.heap_alloc_new
def J5:=@Go.run_newObj
def J4:=@Go.World.alloc_eq
def GJ:=@Go.World.grownBy_alloc
end Go.ah
namespace Go.ah
open Go
noncomputable section
variable {X:Cx} {R:Type}
variable {w0 w:World} {S:Sc} {F:bC} {ρ:bF} {M:aL}
variable{i x:AV}{k:AV->Option R}{fi:Nat}{r:R}{t:TypeId}{cs:aq}
def Dz(X:Cx)(M:aL)(x:AV)(M':aL)(hyp:bF->bC->World->Prop)(s:Sem Value):Prop:=
 ∀{w0:World} {S:Sc} {F:bC} {ρ:bF} {w:World},Inv X w0 S F ρ M w->hyp ρ F w->
  ∃v w' ρ' F',s.run X.P w= .ok v w'/\Inv X w0 S F' ρ' M' w'/\Grow F F' ρ ρ' w w'/\aR X.K ρ' F' w' x v
def aEL{w:World}{o:Obj}:∀a v,w.cell? a=some v->(w.alloc o).cell? a=some v:=by
 intro a v h;rw [World.cell?_alloc_lt _ _ _ (block_lt_of_cell h)];exact h
def Inv.newVar(hI:Inv X w0 S F ρ M w){ks:fh}(hk:dq ks cs=true){cur:Array Value}(hr:dZ X.K ρ F w cs cur.toList)(e:TypeId)(hy:X.H4 ks e=true):
 Inv X w0 S F (ρ++[⟨.slice (some ⟨w.heap.size,0,none⟩) 1 1,cs.length⟩]) (M++[.var ks cs]) (w.alloc (.cells cur e))/\
 Grow F F ρ (ρ++[⟨.slice (some ⟨w.heap.size,0,none⟩) 1 1,cs.length⟩]) w (w.alloc (.cells cur e)):=by
 have pd:Grow F F ρ (ρ++[⟨.slice (some ⟨w.heap.size,0,none⟩) 1 1,cs.length⟩]) w (w.alloc (.cells cur e)):=
  ⟨λ_ h=>h,λ_ _ h=>ou h,hI.BM (GJ w _ none) (by simp)⟩
 refine⟨hI.push (GJ w _ none) (hd:=⟨.slice (some ⟨w.heap.size,0,none⟩) 1 1,cs.length⟩) ?_ rfl ?_,pd⟩
 ·intro g hg;simp [Hd.dE,Value.dE]at hg;subst hg;simp
 ·exact⟨hk,rfl,_,_,_,rfl,Oe w _,hr.grow pd,hy⟩
def ado{hd:Hd}{g o n c:Nat}(hl:ρ.length=M.length)(hv:hd.v= .slice (some ⟨g,o,none⟩) n c)(i off:Nat):
 aR X.K (ρ++[hd]) F w (.ptr M.length i off) (.pointer (some ⟨g,o+i*hd.sz+off,none⟩)):=
 .ptr _ _ _ hd g o n c (by rw [<-hl];simp) hv
def tV(X:Cx)(t:TypeId):fh:=(X.ti t).ks.map Kind.v
def adW(X:Cx)(t:TypeId)(M:aL)(k:AV->aL->Option R):Option R:=
 a8 (((X.ti t).ok &&X.H4 (tV X t) t)&&dq (tV X t) (X.ti t).zero) (k (.ptr M.length 0 0) (M++[.var (tV X t) (X.ti t).zero]))
def aHp(hX:X.Okb){k:AV->aL->Option R}(h:adW X t M k=some r):
 ∃x M',k x M'=some r/\eR [] M M'/\Dz X M x M' (λ_ _ _=>True) (Instr.alloc t true (.tuple #[])):=by
 unfold adW at h;replace h:=cP h;obtain⟨h1,h⟩:=h;simp only [bA]at h1;obtain⟨i,d,z,f⟩:=hX.facts h1.1.1;refine⟨_,_,h,eR.push _ _ _,λ{w0 S F ρ w} hI _=> ?_⟩;have hr:dZ X.K ρ F w (X.ti t).zero z.cells.toList:=KP;obtain⟨fY,hg⟩:=hI.newVar h1.2 hr t h1.1.2;refine⟨.pointer (some ⟨w.heap.size,0,none⟩),_,_,_,?_,fY,hg,?_⟩
 ·simp only [Instr.alloc,iB,f.zeroValue,lg,newVar,newRow,J5,mQ,J4]
 ·have:=ado (X:=X) (F:=F) (w:=w.alloc (.cells z.cells t)) (hd:=⟨.slice (some ⟨w.heap.size,0,none⟩) 1 1,(X.ti t).zero.length⟩) hI.len rfl 0 0;exact uj
def af1(X:Cx)(t:TypeId)(x:AV)(M:aL)(k:AV->aL->Option R):Option R:=
 a8 ((x.plain&&X.H4 (tV X t) t)&&dq (tV X t) x.cells) (k (.ptr M.length 0 0) (M++[.var (tV X t) x.cells]))
def aIM{k:AV->aL->Option R}(h:af1 X t x M k=some r):
 ∃y M',k y M'=some r/\eR [] M M'/\∀v,Dz X M y M' (λρ F w=>aR X.K ρ F w x v) (Instr.box t v):=by
 unfold af1 at h;replace h:=cP h;obtain⟨h1,h⟩:=h;simp only [bA]at h1;refine⟨_,_,h,eR.push _ _ _,λv {w0 S F ρ w} hI hx=> ?_⟩;have hr:=hx.cells (NJ h1.1.1) hI.one;obtain⟨fY,hg⟩:=hI.newVar h1.2 hr t h1.1.2;refine⟨.pointer (some ⟨w.heap.size,0,none⟩),_,_,_,?_,fY,hg,?_⟩
 ·simp only [Instr.box,iB,newVar,newRow,J5,mQ,lg,J4]
 ·have:=ado (X:=X) (F:=F) (w:=w.alloc (.cells v.cells t)) (hd:=⟨.slice (some ⟨w.heap.size,0,none⟩) 1 1,x.cells.length⟩) hI.len rfl 0 0;exact uj
def NO(X:Cx)(t:TypeId)(x:AV)(fi:Nat)(k:AV->Option R):Option R:=
 match(X.ti t).ok,(X.ti t).u with
 |true,.struct fs=>
  match fs[fi]? with
  |some (off,ft)=>
   a8 ((X.ti ft).ok && !((X.ti ft).size ==0)) (match x with
    | .ptr id i o=>k (.ptr id i (o+off))
    | .iO t' row o=>k (.iO t' row (o+off))
    |_=>none)
  |none=>none
 |_,_=>none
def aDa(hX:X.Okb)(h:NO X t x fi k=some r):
 ∃y,k y=some r/\∀{ρ:bF} {F:bC} {w:World} {v:Value},aR X.K ρ F w x v->∃u,(Instr.fieldAt t v fi).run X.P w= .ok u w/\aR X.K ρ F w y u:=by
 unfold NO at h;split at h
 ·rename_i fs aX hu;obtain⟨i,d,z,f⟩:=hX.facts aX;obtain⟨gs,e8,fe⟩:=f.struct hu;split at h
  ·rename_i off ft B4;replace h:=cP h;obtain⟨h1,h⟩:=h;simp only [bA,iy,Ul]at h1;obtain⟨i2,d2,z2,f2⟩:=hX.facts h1.1;have hg:∃xp,gs[fi]?=some xp/\xp.offset=off/\xp.type=ft:=asq;obtain⟨xp,ahk,rfl,rfl⟩:=hg;have eG:∀(w:World) (a:Addr),(Instr.fieldAt t (.pointer (some a)) fi).run X.P w= .ok (.pointer (some (a.add xp.offset))) w:=by
    intro w a;simp only [Instr.fieldAt,iB,mz e8,lg,ahk,Instr.sureAddr,mQ,fieldPlace,f2.sizeOf,h1.2,sj]
   split at h
   ·rename_i id i0 o;refine⟨_,h,λ{ρ F w v} hv=> ?_⟩;cases hv with
    |ptr _ _ _ hd g o' n c bf hv=>
     refine⟨_,eG _ _,?_⟩;rw [oX,show o'+i0*hd.sz+o+xp.offset=o'+i0*hd.sz+(o+xp.offset)by omega];exact .ptr _ _ _ hd g o' n c bf hv
   ·rename_i t' row o;refine⟨_,h,λ{ρ F w v} hv=> ?_⟩;exact ar0
   ·exact aM
  ·exact aM
 ·cases h
def Cg(X:Cx)(t:TypeId)(x i:AV)(M:aL)(k:AV->Option R):Option R:=
 match i with
 | .int _ n=>
   match(X.ti t).ok,(X.ti t).u with
   |true,.slice e=>
    a8 ((X.ti e).ok) (match x with
     | .aj t' xs=>a8 (e==t'&&(decide (0<=n)&&decide (n<(xs.length:Int)))) (k (.iO t' (xs.getD n.toNat []) 0))
     | .ak id=>
       match gm M id with
       |some (.row t' xs)=>a8 (e==t'&&(decide (0<=n)&&decide (n<(xs.length:Int)))) (k (.ptr id n.toNat 0))
       |some (.fx t' xs)=>a8 (e==t'&&(decide (0<=n)&&decide (n<(xs.length:Int)))) (k (.iO t' (xs.getD n.toNat []) 0))
       |some (.bD t' xs _)=>a8 (e==t'&&(decide (0<=n)&&decide (n<(xs.length:Int)))) (k (.ptr id n.toNat 0))
       |_=>none
     | .p8 id m=>a8 (decide (0<=n)&&decide (n<(m:Int))) (k (.ptr id 0 (n.toNat*(X.ti e).size)))
     | .vw id lo m=>
       match gm M id with
       |some (.row t' _)=>a8 (e==t'&&(decide (0<=n)&&decide (n<(m:Int)))) (k (.ptr id (lo+n.toNat) 0))
       |_=>none
     |_=>none)
   |true,.array len e=>
    a8 ((X.ti e).ok &&(decide (0<=n)&&decide (n<(len:Int)))) (match x with
     | .ptr id j off=>k (.ptr id j (off+n.toNat*(X.ti e).size))
     | .iO t' row off=>k (.iO t' row (off+n.toNat*(X.ti e).size))
     |_=>none)
   |_,_=>none
 |_=>none
def run_indexAt_slice(hX:X.Okb){e:TypeId}(aX:(X.ti t).ok =true)(hu:(X.ti t).u = .slice e)(he:(X.ti e).ok =true){a:Addr}{len cap:Nat}{kk:IntKind}{n:Int}(h0:0<=n)(h1:n<(len:Int))(w:World):
 (Instr.indexAt t (.slice (some a) len cap) (.int kk n)).run X.P w= .ok (.pointer (some (a.add (n.toNat*(X.ti e).size)))) w:=by
 obtain⟨i,d,z,f⟩:=hX.facts aX;obtain⟨i2,d2,z2,f2⟩:=hX.facts he;have e8:=f.slice hu;simp [Instr.indexAt,asIntOf,mz e8,h0,h1,f2.sizeOf]
def alm{xs:aE}{v:Value}(hv:aR X.K ρ F w (.aj t xs) v){i:Nat}(hi:i<xs.length):
 ∃a cap,v= .slice (some a) xs.length cap/\aR X.K ρ F w (.iO t (xs.getD i []) 0) (.pointer (some (a.add (i*(X.K t).length)))):=by
 cases hv with
 |n7=>exact CI
 |aj _ _ a cap vss hl pG oJ hk hc hr=>
  have oP:vss[i]?=some (vss[i]'(by omega)):=c8 (by omega);have og:=rE (d:=([]:Row)) hi;obtain⟨c1,c2⟩:=hc i _ oP;have nw:aR X.K ρ F w (.iO t (xs.getD i []) 0) (.pointer (some ((a.add (i*(X.K t).length)).add 0))):=by
   refine .iO t _ 0 (a.add (i*(X.K t).length)) (vss[i]'(by omega)) (hk i _ og) ?_ ?_ ?_
   ·rw [c1,lQ (hk i _ og)]
   ·intro j v hj;rw [Ew];exact c2 j v hj
   ·exact hr i _ _ og oP
  exact⟨a,cap,rfl,by simpa [Addr.add]using nw⟩
def aC9(hX:X.Okb)(h:Cg X t x i M k=some r):
 ∃y,k y=some r/\∀{w0:World} {S:Sc} {F:bC} {ρ:bF} {w:World} {v vi:Value},Inv X w0 S F ρ M w->aR X.K ρ F w x v->aR X.K ρ F w i vi->
  ∃u,(Instr.indexAt t v vi).run X.P w= .ok u w/\aR X.K ρ F w y u:=by
 unfold Cg at h;simp only [fF]at h;split at h
 ·rename_i kk n;split at h
  ·rename_i e aX hu;replace h:=cP h;obtain⟨he,h⟩:=h;obtain⟨i2,d2,z2,f2⟩:=hX.facts he;have fU:(X.K e).length =(X.ti e).size :=CY;split at h
   ·rename_i t' xs;replace h:=cP h;obtain⟨h1,h⟩:=h;simp only [bA,iT,iA]at h1;obtain⟨rfl,h0,h1⟩:=h1;refine⟨_,h,λ{w0 S F ρ w v vi} hI hv hi=> ?_⟩;cases hi;obtain⟨a,cap,rfl,hp⟩:=alm hv (i:=n.toNat) (by omega);exact aqI
   ·rename_i id;split at h
    ·rename_i t' xs hb;replace h:=cP h;obtain⟨h1,h⟩:=h;simp only [bA,iT,iA]at h1;obtain⟨rfl,h0,h1⟩:=h1;refine⟨_,h,λ{w0 S F ρ w v vi} hI hv hi=> ?_⟩;cases hi;cases hv with
     |ak _ hd bf=>
      have rA:n.toNat<xs.length:=by omega
      obtain⟨hk,hs,g,o,c,cur,vs,hv,hg,_⟩:=hI.GC hb bf (rE (d:=[]) rA);exact ass
    ·rename_i t' xs hb;replace h:=cP h;obtain⟨h1,h⟩:=h;simp only [bA,iT,iA]at h1;obtain⟨rfl,h0,h1⟩:=h1;refine⟨_,h,λ{w0 S F ρ w v vi} hI hv hi=> ?_⟩;cases hi;cases hv with
     |ak _ hd bf=>
      have hl:aR X.K ρ F w (.aj e xs) hd.v:=hI.rep id _ hd hb bf;obtain⟨a,cap,hv,hp⟩:=alm hl (i:=n.toNat) (by omega);rw [hv];exact aqI
    ·rename_i t' xs op hb;replace h:=cP h;obtain⟨h1,h⟩:=h;simp only [bA,iT,iA]at h1;obtain⟨rfl,h0,h1⟩:=h1;refine⟨_,h,λ{w0 S F ρ w v vi} hI hv hi=> ?_⟩;cases hi;cases hv with
     |ak _ hd bf=>
      obtain⟨_,hs,_,_,hq⟩:=hI.bD.rep hb bf;rcases hq with⟨_,hq⟩|⟨g,o,c,cur,hv,_⟩
      ·subst hq;simp at h1;omega
      ·exact ass
    ·exact aM
   ·rename_i id m;replace h:=cP h;obtain⟨h1,h⟩:=h;simp only [bA,iT]at h1;refine⟨_,h,λ{w0 S F ρ w v vi} hI hv hi=> ?_⟩;cases hi;cases hv with
    |p8 _ _ hd g o n' c cap bf hv=>
     refine⟨_,run_indexAt_slice hX aX hu he h1.1 h1.2 w,?_⟩;rw [oX];have:=aR.ptr (K:=X.K) (ρ:=ρ) (F:=F) (w:=w) id 0 (n.toNat*(X.ti e).size) hd g o n' c bf hv;exact uj
   ·rename_i id lo m;split at h
    ·rename_i t' xs hb;replace h:=cP h;obtain⟨h1,h⟩:=h;simp only [bA,iT,iA]at h1;obtain⟨rfl,h0,h1⟩:=h1;refine⟨_,h,λ{w0 S F ρ w v vi} hI hv hi=> ?_⟩;cases hi;cases hv with
     |vw _ _ _ hd g o n' c cap bf hv hc qf=>
      obtain⟨q1,_⟩:=hI.rep _ _ hd hb bf;refine⟨_,run_indexAt_slice hX aX hu he h0 h1 w,?_⟩;rw [oX];have:=aR.ptr (K:=X.K) (ρ:=ρ) (F:=F) (w:=w) id (lo+n.toNat) 0 hd g o n' c bf hv;rw [q1,fU]at this⊢;rw [show o+lo*(X.ti e).size +n.toNat*(X.ti e).size =o+(lo+n.toNat)*(X.ti e).size +0 by rw [uZ];omega];exact iK
     |zu=>simp at h1;omega
     |zt=>simp at h1;omega
    ·exact aM
   ·exact aM
  ·rename_i len e aX hu;replace h:=cP h;obtain⟨h1,h⟩:=h;simp only [bA,iT]at h1;obtain⟨he,h0,h1⟩:=h1;obtain⟨i1,d1,z1,f1⟩:=hX.facts aX;obtain⟨i2,d2,z2,f2⟩:=hX.facts he;have e8:=f1.array hu;have eG:∀(w:World) (a:Addr),(Instr.indexAt t (.pointer (some a)) (.int kk n)).run X.P w= .ok (.pointer (some (a.add (n.toNat*(X.ti e).size)))) w:=by
    intro w a;simp [Instr.indexAt,asIntOf,mz e8,Instr.sureAddr,h0,h1,f2.sizeOf]
   split at h
   ·rename_i id j off;refine⟨_,h,λ{w0 S F ρ w v vi} hI hv hi=> ?_⟩;cases hi;cases hv with
    |ptr _ _ _ hd g o' n' c bf hv=>
     refine⟨_,eG _ _,?_⟩;rw [oX,show o'+j*hd.sz+off+n.toNat*(X.ti e).size =o'+j*hd.sz+(off+n.toNat*(X.ti e).size)by omega];exact .ptr _ _ _ hd g o' n' c bf hv
   ·rename_i t' row off;refine⟨_,h,λ{w0 S F ρ w v vi} hI hv hi=> ?_⟩;cases hi;exact ar0
   ·exact aM
  ·exact aM
 ·cases h
def KB(X:Cx)(t:TypeId)(cs:aq)(off:Nat)(k:AV->Option R):Option R:=
 a8 ((X.ti t).ok &&decide (off+(X.ti t).size <=cs.length)) (match(X.ti t).u.agg with
  |true=>k (.agg ((cs.drop off).take (X.ti t).size))
  |false=>a8 ((X.ti t).size ==1) (k (cs.getD off .top)))
def ali(hX:X.Okb){off:Nat}(h:KB X t cs off k=some r):
 ∃y,k y=some r/\∀{ρ:bF} {F:bC} {w:World} {vs:Array Value},dZ X.K ρ F w cs vs.toList->∃u,(part t vs off).run X.P w= .ok u w/\aR X.K ρ F w y u:=by
 unfold KB at h;replace h:=cP h;obtain⟨h1,h⟩:=h;simp only [bA,iT]at h1;obtain⟨i,d,z,f⟩:=hX.facts h1.1;split at h
 ·rename_i ha;refine⟨_,h,λ{ρ F w vs} hr=> ?_⟩;refine⟨.agg (vs.extract off (off+(X.ti t).size)),by simp [part,f.isAgg,ha,f.sizeOf],?_⟩;have h2:=hr.drop_take off (X.ti t).size;have e:vs.extract off (off+(X.ti t).size)=((vs.toList.drop off).take (X.ti t).size).toArray :=by
   apply Ek;simp [List.extract_eq_take_drop]
  rw [e];exact .agg _ _ h2.1 h2.2
 ·rename_i ha;replace h:=cP h;obtain⟨h2,h⟩:=h;have hs:(X.ti t).size =1:=uu;refine⟨_,h,λ{ρ F w vs} hr=> ?_⟩;have bI:off<cs.length:=by omega
  have hl:=hr.1;simp only [sS]at hl;obtain⟨u,hu⟩:∃u,vs[off]?=some u:=⟨vs[off]'(by omega),GL (by omega)⟩;refine⟨u,?_,hr.2 off _ _ (rE bI) (aeB)⟩;simp only [part,iB,f.isAgg,ha,lg,hu,mQ,oW,sj]
def OE(X:Cx)(t:TypeId)(x:AV)(fi:Nat)(k:AV->Option R):Option R:=
 match(X.ti t).ok,(X.ti t).u,x with
 |true,.struct fs,.agg cs=>
  match fs[fi]? with
  |some (off,ft)=>KB X ft cs off k
  |none=>none
 |_,_,_=>none
def aHm(hX:X.Okb)(h:OE X t x fi k=some r):
 ∃y,k y=some r/\∀{ρ:bF} {F:bC} {w:World} {v:Value},aR X.K ρ F w x v->∃u,(Instr.field t v fi).run X.P w= .ok u w/\aR X.K ρ F w y u:=by
 unfold OE at h;split at h
 ·rename_i fs cs aX hu;obtain⟨i,d,z,f⟩:=hX.facts aX;obtain⟨gs,e8,fe⟩:=f.struct hu;split at h
  ·rename_i off ft B4;have hg:∃xp,gs[fi]?=some xp/\xp.offset=off/\xp.type=ft:=asq;obtain⟨xp,ahk,rfl,rfl⟩:=hg;obtain⟨y,hy,eG⟩:=ali hX h;refine⟨y,hy,λ{ρ F w v} hv=> ?_⟩;cases hv with
   |agg _ vs hl hr=>
    obtain⟨u,h1,h2⟩:=eG (vs:=vs.toArray) ⟨sY,by simpa using hr⟩;refine⟨u,?_,h2⟩;simp only [Instr.field,iB,mz e8,lg,ahk,asAgg,mQ,h1]
  ·exact aM
 ·cases h
def OD(X:Cx)(t:TypeId)(x i:AV)(k:AV->Option R):Option R:=
 match(X.ti t).ok,(X.ti t).u,x,i with
 |true,.array len e,.agg cs,.int _ n=>a8 ((X.ti e).ok &&(decide (0<=n)&&decide (n<(len:Int)))) (KB X e cs (n.toNat*(X.ti e).size) k)
 |true,.str,.str s,.int _ n=>a8 (decide (0<=n)) (match s[n.toNat]? with|none=>none|some b=>k (.int .u8 b.toNat))
 |_,_,_,_=>none
def aHl(hX:X.Okb)(h:OD X t x i k=some r):
 ∃y,k y=some r/\∀{ρ:bF} {F:bC} {w:World} {v vi:Value},aR X.K ρ F w x v->aR X.K ρ F w i vi->∃u,(Instr.index t v vi).run X.P w= .ok u w/\aR X.K ρ F w y u:=by
 unfold OD at h;split at h
 ·rename_i len e cs kk n aX hu;replace h:=cP h;obtain⟨h1,h⟩:=h;simp only [bA,iT]at h1;obtain⟨he,h0,h1⟩:=h1;obtain⟨i1,d1,z1,f1⟩:=hX.facts aX;obtain⟨i2,d2,z2,f2⟩:=hX.facts he;have e8:=f1.array hu;obtain⟨y,hy,eG⟩:=ali hX h;refine⟨y,hy,λ{ρ F w v vi} hv hi=> ?_⟩;cases hi;cases hv with
  |agg _ vs hl hr=>
   obtain⟨u,h3,h4⟩:=eG (vs:=vs.toArray) ⟨sY,by simpa using hr⟩;refine⟨u,?_,h4⟩;simp only [Instr.index,asIntOf,iB,mQ,mz e8,lg,h0,h1,and_self,uY,f2.sizeOf,h3]
 ·rename_i s kk n aX hu;replace h:=cP h;obtain⟨h0,h⟩:=h;have h0:=Um h0;obtain⟨i1,d1,z1,f1⟩:=hX.facts aX;have e8:X.P.underlying t=some .string :=by
   have:=f1.u;rw [hu]at this;cases d1<;>simp [rP]at this;exact f1.od
  split at h
  ·exact aM
  ·rename_i b hb;refine⟨_,h,λ{ρ F w v vi} hv hi=> ?_⟩;cases hi;cases hv;refine⟨.int .u8 b.toNat,?_,.int _ _⟩;simp only [Instr.index,asIntOf,iB,mQ,mz e8,lg,h0,uY,hb]
 ·cases h
end
end Go.ah
namespace Go.ah
def Pl{p:Prop}(h:p:=by
 unfold Builtin.len_;simp [mz e8,goInt]):p:=h
def aqZ{p:Prop}(h:p:=by
 simp only [HY,Option.some.injEq]at h;subst h
 match vs,hr.1 with
 | [],_=>rfl):p:=h
def G5{p:Prop}(h:p:=by simpa using hq):p:=h
def aqm{p:Prop}(h:p:=by
 injection h with h;injection h with _ h;subst h;cases hv;exact⟨_,_,rfl⟩):p:=h
def apl{p:Prop}(h:p:=by rw [sU,Ba,show min m (jd.length- lo)=m by omega]):p:=h
def Ko{p:Prop}(h:p:=by exact⟨_,_,rfl⟩):p:=h
end Go.ah
namespace Go.ah
def vS:=@List.foldl_cons
def adJ:=@Array.getElem?_setIfInBounds_ne
def adI:=@Array.foldl_toList
end Go.ah
namespace Go.ah
open Go
noncomputable section
variable {X:Cx} {R:Type}
variable {w0 w w':World} {S:Sc} {F:bC} {ρ:bF} {M:aL}
variable{x:AV}{k:AV->Option R}{P:Program}{r:R}{t:TypeId}{K:TypeId->fh}{v:Value}{xs:aE}
def rowsOf(M:aL):AV->Option (Option TypeId×aE)
 | .aj t xs=>some (some t,xs)
 | .jX =>some (none,[])
 | .ak id=>match gm M id with|some (.row t xs)=>some (some t,xs)|some (.fx t xs)=>some (some t,xs)|_=>none
 | .vw id lo m=>match gm M id with|some (.row t xs)=>some (some t,(xs.drop lo).take m)|_=>none
 | .oh =>some (none,[])
 |_=>none
def aca(hI:Inv X w0 S F ρ M w){o:Option TypeId}(h:rowsOf M x=some (o,xs))(hv:aR X.K ρ F w x v):∃a c,v= .slice a xs.length c:=by
 unfold rowsOf at h;simp only [fF]at h;split at h
 ·injection h with h;injection h with _ h;subst h;cases hv with
  |n7=>exact Ko
  |aj=>exact Ko
 ·exact aqm
 ·split at h
  ·rename_i hb;injection h with h;injection h with _ h;subst h;cases hv with
   |ak _ hd bf=>
    rcases(hI.rep _ _ hd hb bf).2.2 with⟨h1,h2⟩|⟨g,o,c,cur,h1,_⟩
    ·subst h2;exact⟨_,_,h1⟩
    ·exact⟨_,_,h1⟩
  ·rename_i t jd hb;injection h with h;injection h with _ h;subst h;cases hv with
   |ak _ hd bf=>
    have hr:aR X.K ρ F w (.aj t jd) hd.v:=hI.rep _ _ hd hb bf;generalize hd.v=v at hr;cases hr with
    |n7=>exact Ko
    |aj=>exact Ko
  ·exact aM
 ·split at h
  ·rename_i id lo m ob t jd hb;injection h with h;injection h with _ h;subst h;cases hv with
   |vw _ _ _ hd g o n c cap bf hv hc qf=>
    have hlen:n=jd.length:=by
     rcases(hI.rep _ _ hd hb bf).2.2 with⟨h1,h2⟩|⟨g',o',c',cur,h1,_⟩
     ·rw [hv]at h1;cases h1
     ·rw [hv]at h1;injection h1
    refine⟨some ⟨g,o+lo*hd.sz,none⟩,cap,?_⟩;exact apl
   |zu=>exact Ko
   |zt=>exact Ko
  ·exact aM
 ·exact aqm
 ·exact aM
def akR(hI:Inv X w0 S F ρ M w)(h:rowsOf M x=some (some t,xs))(hx:∀id lo m,x≠ .vw id lo m)(hv:aR X.K ρ F w x v):
 (∀(i:Nat) row,xs[i]?=some row->dq (X.K t) row=true)/\
 ((v= .slice none 0 0/\xs=[])∨∃a c,v= .slice (some a) xs.length c/\∃vss:List jb,vss.length=xs.length/\
   ∀(i:Nat) row vs,xs[i]?=some row->vss[i]?=some vs->dZ X.K ρ F w row vs/\u7 w (a.add (i*(X.K t).length)) vs):=by
 have core:∀{v:Value} {t:TypeId} {xs:aE},aR X.K ρ F w (.aj t xs) v->(∀(i:Nat) row,xs[i]?=some row->dq (X.K t) row=true)/\
  ((v= .slice none 0 0/\xs=[])∨∃a c,v= .slice (some a) xs.length c/\∃vss:List jb,vss.length=xs.length/\
    ∀(i:Nat) row vs,xs[i]?=some row->vss[i]?=some vs->dZ X.K ρ F w row vs/\u7 w (a.add (i*(X.K t).length)) vs):=by
  intro v t xs hv;cases hv with
  |n7=>exact⟨λi row h=>jY,.inl ⟨rfl,rfl⟩⟩
  |aj _ _ a cap vss hl pG oJ hk hc hr=>
   refine⟨hk,.inr ⟨a,cap,rfl,vss,hl,λi row vs hi gE=>⟨⟨?_,hr i row vs hi gE⟩,λj u hj=> ?_⟩⟩⟩
   ·rw [(hc i vs gE).1,lQ (hk i row hi)]
   ·rw [Ew];exact((hc i vs gE).2 j u hj).1
 unfold rowsOf at h;simp only [fF]at h;split at h
 ·injection h with h;injection h with h1 h2;injection h1 with h1;subst h1;subst h2;exact core hv
 ·injection h with h;injection h with h1 h2;cases h1
 ·split at h
  ·rename_i id t' jd hb;injection h with h;injection h with h1 h2;injection h1 with h1;subst h1;subst h2;cases hv with
   |ak _ hd bf=>
    obtain⟨h1,h2,h3⟩:=hI.rep _ _ hd hb bf;refine⟨h2,?_⟩;rcases h3 with h3|⟨g,o,c,cur,jC,hg,h4,h5,h6,h7⟩
    ·exact .inl h3
    ·have hex:∀i:Nat,i<jd.length->∃vs,dZ X.K ρ F w (jd.getD i []) vs/\u7 w ⟨g,o+i*hd.sz,none⟩ vs:=by
      intro i hi;obtain⟨_,_,g',o',c',awj,vs,ny,_,_,_,_,hr,hc,_⟩:=hI.GC hb bf (rE (d:=[]) hi);rw [jC]at ny;injection ny with e1 e2 e3;exact aqX
     refine .inr ⟨_,c,jC,(List.range jd.length).map λi=>if h:i<jd.length then(hex i h).choose else [],by simp,λi row vs hi gE=> ?_⟩;have oR:=(dX.1 hi).1;simp only [kW,wP oR,ox,Option.some.injEq,dif_pos oR]at gE;subst gE;have e:row=jd.getD i []:=by
      have:=rE (d:=([]:Row)) oR;rw [hi]at this;injection this
     subst e;obtain⟨hr,hc⟩:=(hex i oR).choose_spec;refine⟨hr,?_⟩;rw [oX,<-h1];exact hc
  ·rename_i id t' jd hb;injection h with h;injection h with h1 h2;injection h1 with h1;subst h1;subst h2;cases hv with
   |ak _ hd bf=>exact core (hI.rep _ _ hd hb bf)
  ·exact aM
 ·exact absurd rfl (hx _ _ _)
 ·injection h with h;injection h with h1 h2;cases h1
 ·cases h
def alc(hI:Inv X w0 S F ρ M w)(h:rowsOf M x=some (some t,xs))(hv:aR X.K ρ F w x v):
 (∀(i:Nat) row,xs[i]?=some row->dq (X.K t) row=true)/\
 ((v= .slice none 0 0/\xs=[])∨∃a c,v= .slice (some a) xs.length c/\∃vss:List jb,vss.length=xs.length/\
   ∀(i:Nat) row vs,xs[i]?=some row->vss[i]?=some vs->dZ X.K ρ F w row vs/\u7 w (a.add (i*(X.K t).length)) vs):=by
 by_cases hx:∃id lo m,x= .vw id lo m
 ·obtain⟨id,lo,m,rfl⟩:=hx;unfold rowsOf at h;simp only [fF]at h;split at h
  ·rename_i t' jd hb;injection h with h;injection h with h1 h2;injection h1 with h1;subst h1;subst h2;cases hv with
   |vw _ _ _ hd g o n c cap bf hv hc qf=>
    obtain⟨q1,q2,q3⟩:=hI.rep _ _ hd hb bf;have nO:rowsOf M (.ak id)=some (some t',jd):=by simp [fF,rowsOf,hb]
    obtain⟨hk,vK⟩:=akR hI nO (λ_ _ _ e=>by cases e) (.ak id hd bf);have BC:∀(i:Nat) row,((jd.drop lo).take m)[i]?=some row->i<m/\jd[lo+i]?=some row:=by
     intro i row hi;rw [u6]at hi;split at hi
     ·rename_i II;rw [vV]at hi;exact⟨II,hi⟩
     ·cases hi
    refine⟨λi row hi=>hk _ row (BC i row hi).2,?_⟩;rcases vK with⟨h1,_⟩|⟨a,c2,h1,vss,hl,gE⟩
    ·rw [hv]at h1;cases h1
    ·rw [hv]at h1;injection h1 with e1 e2 e3;injection e1 with e1;refine .inr ⟨⟨g,o+lo*hd.sz,none⟩,cap,?_,(vss.drop lo).take m,?_,λi row vs hi oP=> ?_⟩
     ·exact apl
     ·rw [sU,Ba,sU,Ba,hl]
     ·obtain⟨II,hr⟩:=BC i row hi;have aYS:vss[lo+i]?=some vs:=by
       rw [u6,if_pos II,vV]at oP;exact oP
      obtain⟨r1,r2⟩:=gE _ _ _ hr aYS;refine⟨r1,?_⟩;rw [<-e1,oX]at r2;rw [oX,q1,show o+lo*(X.K t').length +i*(X.K t').length =o+(lo+i)*(X.K t').length by rw [uZ];omega];exact r2
   |zu=>exact⟨λi row hi=>CI,.inl ⟨rfl,by simp⟩⟩
   |zt _ _ a cap=>exact⟨λi row hi=>CI,.inr ⟨a,cap,by simp,[],by simp,λi row vs hi _=>CI⟩⟩
  ·exact aM
 ·exact akR hI h (λid lo m e=>hx ⟨id,lo,m,e⟩) hv
def PX(M:aL)(x:AV)(k:Nat->Option R):Option R:=match x with| .ak id=>(match gm M id with|some (.bD _ xs _)=>k xs.length|_=>none)|_=>none
def amt{k:Nat->Option R}(h:PX M x k=some r):∃id t xs op,x= .ak id/\M[id]?=some (.bD t xs op)/\k xs.length=some r:=by
 unfold PX at h;split at h
 ·rename_i id;split at h
  ·rename_i t xs op hb;rw [fF]at hb;exact⟨id,t,xs,op,rfl,hb,h⟩
  ·exact aM
 ·exact aM
def Bp(X:Cx)(t:TypeId)(x:AV)(M:aL)(k:AV->Option R):Option R:=
 match(X.ti t).ok,(X.ti t).u,x with
 |true,.array n _,_=>k (.int .i64 n)
 |true,.str,.str s=>k (.int .i64 s.size)
 |true,.slice _,.p8 _ m=>k (.int .i64 m)
 |true,.slice _,.vw _ _ m=>k (.int .i64 m)
 |true,.slice _,x=>match rowsOf M x with|some (_,xs)=>k (.int .i64 xs.length)|none=>PX M x λn=>k (.int .i64 n)
 |_,_,_=>none
def aIL(hX:X.Okb){ty:TypeId}(h:Bp X t x M k=some r):
 ∃y,k y=some r/\∀{w0:World} {S:Sc} {F:bC} {ρ:bF} {w:World} {v:Value},Inv X w0 S F ρ M w->aR X.K ρ F w x v->∃u,(Builtin.len_ #[t] ty #[v]).run X.P w= .ok u w/\aR X.K ρ F w y u:=by
 unfold Bp at h;split at h
 ·rename_i n e aX hu;obtain⟨i,d,z,f⟩:=hX.facts aX;have e8:=f.array hu;refine⟨_,h,λ{w0 S F ρ w v} hI hv=>⟨.int .i64 n,?_,.int _ _⟩⟩;exact Pl
 ·rename_i s aX hu;obtain⟨i,d,z,f⟩:=hX.facts aX;have e8:X.P.underlying t=some .string :=by
   have:=f.u;rw [hu]at this;cases d<;>simp [rP]at this;exact f.od
  refine⟨_,h,λ{w0 S F ρ w v} hI hv=>⟨.int .i64 s.size,?_,.int _ _⟩⟩;cases hv;exact Pl
 ·rename_i e id m aX hu;obtain⟨i,d,z,f⟩:=hX.facts aX;have e8:=f.slice hu;refine⟨_,h,λ{w0 S F ρ w v} hI hv=>⟨.int .i64 m,?_,.int _ _⟩⟩;cases hv;exact Pl
 ·rename_i e id lo m aX hu;obtain⟨i,d,z,f⟩:=hX.facts aX;have e8:=f.slice hu;refine⟨_,h,λ{w0 S F ρ w v} hI hv=>⟨.int .i64 m,?_,.int _ _⟩⟩;cases hv<;>(unfold Builtin.len_;simp [mz e8,goInt])
 ·rename_i e aX hu _ _;obtain⟨i,d,z,f⟩:=hX.facts aX;have e8:=f.slice hu;split at h
  ·rename_i o xs ia;refine⟨_,h,λ{w0 S F ρ w v} hI hv=>⟨.int .i64 xs.length,?_,.int _ _⟩⟩;obtain⟨a,c,rfl⟩:=aca hI ia hv;exact Pl
  ·obtain⟨id,t',xs,op,rfl,hb,h⟩:=amt h;refine⟨_,h,λ{w0 S F ρ w v} hI hv=>⟨.int .i64 xs.length,?_,.int _ _⟩⟩;cases hv with
   |ak _ hd bf=>
    obtain⟨_,_,_,_,hq⟩:=hI.bD.rep hb bf;have hl:∃a c,hd.v= .slice a xs.length c:=by
     rcases hq with⟨hq,e⟩|⟨g,o,c,cur,hv,_⟩
     ·subst e;exact⟨_,_,hq⟩
     ·exact⟨_,_,hv⟩
    obtain⟨a,c,hv⟩:=hl;rw [hv];exact Pl
 ·cases h
def rS(x y:Int):Int:=if y<x then y else x
def imax(x y:Int):Int:=if y>x then y else x
def HY(f:Int->Int->Int)(k:IntKind):Int->aq->Option Int
 |a,[]=>some a
 |a,.int k' b::rest=>match k==k' with|true=>HY f k (f a b) rest|false=>none
 |_,_=>none
def EZ(f:Int->Int->Int)(xs:aq)(k:AV->Option R):Option R:=
 match xs with
 | .int kd a::rest=>match HY f kd a rest with|some n=>k (.int kd n)|none=>none
 |_=>none
def anC{P:Program}{K:TypeId->fh}:∀(xs:aq) (kd:IntKind) (a n:Int) (vs:jb),HY rS kd a xs=some n->dZ K ρ F w xs vs->(vs.foldlM Builtin.min2 (.int kd a)).run P w= .ok (.int kd n) w
 | [],kd,a,n,vs,h,hr=>aqZ
 |x::xs,kd,a,n,vs,h,hr=>by
  cases x<;>simp only [HY]at h<;>try cases h
  rename_i k' b;split at h
  ·match vs,hr.1 with
   |v::vs,hl=>
    have hv:=hr.2 0 _ v rfl rfl;cases hv;rw [List.foldlM_cons,iB];simp only [Builtin.min2,mQ,lg];exact anC xs kd _ n vs h ⟨sY,λj y u hy hu=>hr.2 (j+1) y u (Ku) (G4)⟩
  ·exact aM
def anD{P:Program}{K:TypeId->fh}:∀(xs:aq) (kd:IntKind) (a n:Int) (vs:jb),HY imax kd a xs=some n->dZ K ρ F w xs vs->(vs.foldlM Builtin.max2 (.int kd a)).run P w= .ok (.int kd n) w
 | [],kd,a,n,vs,h,hr=>aqZ
 |x::xs,kd,a,n,vs,h,hr=>by
  cases x<;>simp only [HY]at h<;>try cases h
  rename_i k' b;split at h
  ·match vs,hr.1 with
   |v::vs,hl=>
    have hv:=hr.2 0 _ v rfl rfl;cases hv;rw [List.foldlM_cons,iB];simp only [Builtin.max2,mQ,lg];exact anD xs kd _ n vs h ⟨sY,λj y u hy hu=>hr.2 (j+1) y u (Ku) (G4)⟩
  ·exact aM
def aJ3{xs:aq}(h:EZ rS xs k=some r):
 ∃y,k y=some r/\∀{ρ:bF} {F:bC} {w:World} {vs:jb} (ts:Array TypeId) (ty:TypeId),dZ K ρ F w xs vs->∃u,(Builtin.min_ ts ty vs.toArray).run P w= .ok u w/\aR K ρ F w y u:=by
 unfold EZ at h;split at h
 ·rename_i kd a rest;split at h
  ·rename_i n hn;refine⟨_,h,λ{ρ F w vs} ts ty hr=> ?_⟩
   match vs,hr.1 with
   |v::vs,hl=>
    have hv:=hr.2 0 _ v rfl rfl;cases hv;exact⟨_,by simpa [Builtin.min_]using anC (P:=P) rest kd a n vs hn ⟨sY,λj y u hy hu=>hr.2 (j+1) y u (Ku) (G4)⟩,.int _ _⟩
  ·exact aM
 ·cases h
def aJ4{xs:aq}(h:EZ imax xs k=some r):
 ∃y,k y=some r/\∀{ρ:bF} {F:bC} {w:World} {vs:jb} (ts:Array TypeId) (ty:TypeId),dZ K ρ F w xs vs->∃u,(Builtin.max_ ts ty vs.toArray).run P w= .ok u w/\aR K ρ F w y u:=by
 unfold EZ at h;split at h
 ·rename_i kd a rest;split at h
  ·rename_i n hn;refine⟨_,h,λ{ρ F w vs} ts ty hr=> ?_⟩
   match vs,hr.1 with
   |v::vs,hl=>
    have hv:=hr.2 0 _ v rfl rfl;cases hv;exact⟨_,by simpa [Builtin.max_]using anD (P:=P) rest kd a n vs hn ⟨sY,λj y u hy hu=>hr.2 (j+1) y u (Ku) (G4)⟩,.int _ _⟩
  ·exact aM
 ·cases h
def Bo(place:Nat->Option (Nat×Nat)):aq->cf->Option aq
 |cells,[]=>some cells
 |cells,(i,x)::rest=>
  match place i with
  |none=>none
  |some (off,size)=>
   match x.plain&&x.cells.length==size&&decide (off+size<=cells.length)with
   |true=>Bo place (setAt cells off x.cells) rest
   |false=>none
def aa5(off:Nat):∀(vs:List (Value×Nat)) (cs:Array Value),(vs.foldl (λcs (x:Value×Nat)=>cs.setIfInBounds (off+x.2) x.1) cs).size =cs.size
 | [],cs=>rfl
 |x::vs,cs=>by simp [aa5 off vs]
def akV(off:Nat):∀(vs:jb) (n:Nat) (cs:Array Value),off+n+vs.length<=cs.size->∀j:Nat,
 ((vs.zipIdx n).foldl (λcs (x:Value×Nat)=>cs.setIfInBounds (off+x.2) x.1) cs)[j]?=if off+n<=j/\j<off+n+vs.length then vs[j-(off+n)]? else cs[j]?
 | [],n,cs,_,j=>eE
 |v::vs,n,cs,h,j=>by
  simp only [mh]at h;rw [List.zipIdx_cons,vS,akV off vs (n+1) _ (eE) j]
  by_cases h1:j=off+n
  ·subst h1;rw [if_neg (by omega),if_pos (by simp)];have bI:off+n<cs.size:=by omega
   simp [bI]
  ·by_cases h2:off+(n+1)<=j/\j<off+(n+1)+vs.length
   ·rw [if_pos h2,if_pos (eE),show j-(off+n)=(j-(off+(n+1)))+1 by omega];simp
   ·rw [if_neg h2,if_neg (eE),adJ (by omega)]
def JP(qz:∀(id:Nat) hd,ρ[id]?=some hd->hd.v.oneCell'=true){K:TypeId->fh}{place:Nat->Option (Nat×Nat)}:∀(ps:cf) (cs out:aq) (vs:Array Value) (pv:List (Nat×Value)),Bo place cs ps=some out->dZ K ρ F w cs vs.toList->
 pv.length=ps.length->(∀(j:Nat) p q,ps[j]?=some p->pv[j]?=some q->p.1=q.1/\aR K ρ F w p.2 q.2)->∃us,Instr.fill place vs pv=some us/\dZ K ρ F w out us.toList
 | [],cs,out,vs,pv,h,hr,hl,_=>by
   simp only [Bo,Option.some.injEq]at h;subst h
   match pv,hl with
   | [],_=>exact⟨vs,rfl,hr⟩
 |(i,x)::ps,cs,out,vs,pv,h,hr,hl,hp=>by
  match pv,hl with
  |(i',v)::pv,hl=>
   obtain⟨e,hx⟩:=hp 0 _ _ rfl rfl;simp only at e hx;subst e;simp only [Bo]at h;split at h
   ·exact aM
   ·rename_i off size AK;split at h
    ·rename_i asL;simp only [bA,iA,iT]at asL;obtain⟨⟨aNG,hlen⟩,hb⟩:=asL;have uO:=hx.cells (NJ aNG) qz;have DN:=uO.1;have iJ:=hr.1;simp only [sS]at DN iJ;have fU:v.cells.size=size:=by omega
     have pK:dZ K ρ F w (setAt cs off x.cells) (v.cells.zipIdx.foldl (λcs (x:Value×Nat)=>cs.setIfInBounds (off+x.2) x.1) vs).toList :=by
      rw [<-adI,Array.toList_zipIdx];refine⟨by rw [sS,aa5,JI];exact iJ,λj y u hy hu=> ?_⟩;rw [Oo,akV off v.cells.toList 0 vs (eE) j]at hu;rw [GB x.cells cs off (by omega) j]at hy;simp only [CB,sS]at hu;rw [fU]at hu;rw [hlen]at hy
      by_cases hj:off<=j/\j<off+size
      ·rw [if_pos hj]at hy hu;exact uO.2 _ y u hy hu
      ·rw [if_neg hj]at hy hu;exact hr.2 j y u hy (aeB)
     obtain⟨us,h1,h2⟩:=JP qz ps _ out _ pv h pK (sY) (λj p q ue hq=>hp (j+1) p q (by simpa using ue) (G5));refine⟨us,?_,h2⟩;have gE:vs.size=cs.length:=iJ;have pW:¬(v.cells.size≠size∨off+v.cells.size>vs.size):=by omega
     simp only [Instr.fill,AK];rw [if_neg (by simpa using pW)];exact h1
    ·exact aM
end
end Go.ah
namespace Go.ah
def y9{p:Prop}(h:p:=by simpa using h1):p:=h
def aqU{p:Prop}(h:p:=by have:=aR.agg (K:=X.K) (ρ:=ρ) (F:=F) (w:=w) cs us.toList hr.1 hr.2;simpa using this):p:=h
end Go.ah
namespace Go.ah
def dW:=@List.length_map
def wL:=@List.mem_map
def am1:=@List.drop_drop
def am0:=@List.getElem?_zipWith
def amZ:=@Go.RowKit.Below.heap_alloc
end Go.ah
namespace Go.ah
open Go
noncomputable section
variable {X:Cx} {R:Type}
variable {w0 w w':World} {S:Sc} {F:bC} {ρ:bF} {M:aL}
variable{t:TypeId}
def Tb(X:Cx)(fs:List (Nat×TypeId))(i:Nat):Option (Nat×Nat):=(fs[i]?).map λp=>(p.1,(X.ti p.2).size)
def OF(X:Cx)(t:TypeId)(ps:cf)(k:AV->Option R):Option R:=
 match(X.ti t).ok,(X.ti t).u with
 |true,.struct fs=>a8 (fs.all λp=>(X.ti p.2).ok) (match Bo (Tb X fs) (X.ti t).zero ps with|some cs=>k (.agg cs)|none=>none)
 |true,.array _ e=>a8 ((X.ti e).ok) (match Bo (λi=>some (i*(X.ti e).size,(X.ti e).size)) (X.ti t).zero ps with|some cs=>k (.agg cs)|none=>none)
 |_,_=>none
def aj7(hX:X.Okb):∀(fs:List Field),(∀f∈fs,(X.ti f.type).ok =true)->∀w,(fs.mapM λf=>do pure (f.offset,<-sizeOf f.type):Sem (List (Nat×Nat))).run X.P w= .ok (fs.map λf=>(f.offset,(X.ti f.type).size)) w
 | [],_,w=>rfl
 |f::fs,h,w=>by
  obtain⟨i,d,z,ff⟩:=hX.facts (h f (by simp));rw [List.mapM_cons];simp only [iB,ff.sizeOf,lg,mQ,aj7 hX fs (λg hg=>h g (by simp [hg])) w,my]
def aHo(hX:X.Okb){ps:cf}{k:AV->Option R}{r:R}(h:OF X t ps k=some r):
 ∃y,k y=some r/\∀{w0:World} {S:Sc} {F:bC} {ρ:bF} {w:World} (pv:List (Nat×Value)),Inv X w0 S F ρ M w->pv.length=ps.length->
  (∀(j:Nat) p q,ps[j]?=some p->pv[j]?=some q->p.1=q.1/\aR X.K ρ F w p.2 q.2)->∃u,(Instr.build t pv.toArray).run X.P w= .ok u w/\aR X.K ρ F w y u:=by
 unfold OF at h;split at h
 ·rename_i fs aX hu;replace h:=cP h;obtain⟨h1,h⟩:=h;obtain⟨i,d,z,f⟩:=hX.facts aX;obtain⟨gs,e8,fe⟩:=f.struct hu;split at h
  ·rename_i cs ze;refine⟨_,h,λ{w0 S F ρ w} pv hI hl hp=> ?_⟩;have hz:dZ X.K ρ F w (X.ti t).zero z.cells.toList:=KP;obtain⟨us,hf,hr⟩:=JP hI.one ps _ cs z.cells pv ze hz hl hp;refine⟨.agg us,?_,aqU⟩;have jA:∀g∈gs.toList,(X.ti g.type).ok =true:=by
    intro g hg;rw [mP]at h1;exact h1 (g.offset,g.type) (by rw [fe];exact wL.2 ⟨g,hg,rfl⟩)
   have AK:(gs.mapM λf=>do pure (f.offset,<-sizeOf f.type):Sem (Array (Nat×Nat))).run X.P w= .ok (gs.toList.map λf=>(f.offset,(X.ti f.type).size)).toArray w:=by
    rw [Array.mapM_eq_mapM_toList,Sem.run_map,aj7 hX gs.toList jA w];rfl
   have Hc:(λi=>(gs.toList.map λf=>(f.offset,(X.ti f.type).size)).toArray[i]?)=Tb X fs:=by
    funext i
    rw [fe];simp [Tb];cases gs[i]?<;>rfl
   unfold Instr.build;simp only [iB,f.zeroValue,lg,mz e8,AK];rw [show(λx=>(gs.toList.map λf=>(f.offset,(X.ti f.type).size)).toArray[x]?)=Tb X fs from Hc,hf];rfl
  ·exact aM
 ·rename_i n e aX hu;replace h:=cP h;obtain⟨h1,h⟩:=h;obtain⟨i,d,z,f⟩:=hX.facts aX;obtain⟨i2,d2,z2,f2⟩:=hX.facts h1;have e8:=f.array hu;split at h
  ·rename_i cs ze;refine⟨_,h,λ{w0 S F ρ w} pv hI hl hp=> ?_⟩;have hz:dZ X.K ρ F w (X.ti t).zero z.cells.toList:=KP;obtain⟨us,hf,hr⟩:=JP hI.one ps _ cs z.cells pv ze hz hl hp;refine⟨.agg us,?_,aqU⟩;unfold Instr.build;simp only [iB,f.zeroValue,lg,mz e8,f2.sizeOf];rw [hf];rfl
  ·exact aM
 ·cases h
def chunk(sz:Nat):Nat->aq->aE
 |0,_=>[]
 |n+1,l=>l.take sz::chunk sz n (l.drop sz)
def Gw(sz:Nat):∀(n:Nat) (l:aq),(chunk sz n l).length =n
 |0,_=>rfl
 |n+1,l=>by simp [chunk,Gw sz n]
def amK(sz:Nat):∀(n:Nat) (l:aq) (i:Nat),i<n->(chunk sz n l)[i]?=some ((l.drop (i*sz)).take sz)
 |0,_,_,h=>by omega
 |n+1,l,0,_=>by simp [chunk]
 |n+1,l,i+1,h=>by
  simp only [chunk,List.getElem?_cons_succ];rw [amK sz n _ i (by omega),am1]
  congr 3
  rw [uZ];omega
def zc:Kind->AV->AV| .slice t,.jX => .aj t []|_,x=>x
def qu(X:Cx)(t:TypeId):Row:=List.zipWith zc (X.ti t).ks (X.ti t).zero
def aNe{k:Kind}{K:TypeId->fh}{x:AV}{v:Value}(h:aR K ρ F w x v):aR K ρ F w (zc k x) v:=by
 unfold zc;split
 ·cases h;exact .n7 _
 ·exact h
def acu{i:TypeInfo}{d:TypeDesc}{z:Value}(f:qT X t i d z):dZ X.K ρ F w (qu X t) z.cells.toList:=by
 have hz:dZ X.K ρ F w (X.ti t).zero z.cells.toList:=KP;have hl:(X.ti t).zero.length =(X.ti t).ks.length :=by rw [f.ks,f.zc,dW,sS,f.zs]
 refine⟨by rw [hz.1];simp [qu,hl],λj x v hx hv=> ?_⟩;unfold qu at hx;rw [am0]at hx;cases hk:(X.ti t).ks[j]? with
 |none=>simp [hk]at hx
 |some k=>
  cases AE:(X.ti t).zero[j]? with
  |none=>simp [hk,AE]at hx
  |some y=>
   simp only [hk,AE,Option.some.injEq]at hx;subst hx;exact aNe (hz.2 j y v AE hv)
def Inv.newRow(hI:Inv X w0 S F ρ M w){xs:aE}{cur:Array Value}{c:Nat}(hk:∀(i:Nat) row,xs[i]?=some row->dq (X.K t) row=true)(tu:xs.length<=c)(vL:c<=maxLen)
 (P6:c*(X.K t).length <=cur.size) (hr:∀(i:Nat) row,xs[i]?=some row->∀(j:Nat) x,row[j]?=some x->∃v,cur[i*(X.K t).length +j]?=some v/\aR X.K ρ F w x v) (hg:w.grownBy w' none) (fU:w'.heap.size=w.heap.size):
 Inv X w0 S F (ρ++[⟨.slice (some ⟨w.heap.size,0,none⟩) xs.length c,(X.K t).length⟩]) (M++[.row t xs]) (w'.alloc (.cells cur t))/\
 Grow F F ρ (ρ++[⟨.slice (some ⟨w.heap.size,0,none⟩) xs.length c,(X.K t).length⟩]) w (w'.alloc (.cells cur t)):=by
 have mu:w.grownBy (w'.alloc (.cells cur t)) none:=⟨hg.os,hg.tape,hg.output,eE,λk hk _=>(amZ w' _ k (by omega)).trans (hg.block k hk (by simp))⟩;have pd:Grow F F ρ (ρ++[⟨.slice (some ⟨w.heap.size,0,none⟩) xs.length c,(X.K t).length⟩]) w (w'.alloc (.cells cur t)):=
  ⟨λ_ h=>h,λ_ _ h=>ou h,hI.BM mu (by simp)⟩
 refine⟨hI.push mu (hd:=⟨.slice (some ⟨w.heap.size,0,none⟩) xs.length c,(X.K t).length⟩) ?_ rfl ?_,pd⟩
 ·intro g lx;simp [Hd.dE,Value.dE]at lx;subst lx;exact eE
 ·refine⟨rfl,hk,.inr ⟨w.heap.size,0,c,cur,rfl,by rw [<-fU];exact Oe w' _,tu,vL,by simpa using P6,λi row hi j x hx=> ?_⟩⟩;obtain⟨v,h1,h2⟩:=hr i row hi j x hx;exact⟨v,y9,h2.grow pd⟩
def Cs{hd:Hd}(hl:ρ.length=M.length):aR X.K (ρ++[hd]) F w (.ak M.length) hd.v:= .ak _ _ (by rw [<-hl];simp)
def Dt(X:Cx)(e:TypeId):cf->aL->(cf->aL->Option R)->Option R
 | [],M,c=>c [] M
 |(i,x)::ps,M,c=>
  match(X.ti e).u.agg,x with
  |true,.agg cs=>BI (X.ti e).ks cs M λB5 M'=>Dt X e ps M' λth B8=>c ((i,.agg B5)::th) B8
  |false,x=>j5 ((X.ti e).ks.headD .raw) x M λx' M'=>Dt X e ps M' λth B8=>c ((i,x')::th) B8
  |_,_=>none
def aHX(y:AV)(j:Nat)(hj:j∈tH y):j∈y.cells.flatMap tH:=by
 cases y with
 |ak id=>simpa [AV.cells]using hj
 |_=>exact absurd hj (by simp [tH])
def ame{e:TypeId}:∀(ps:cf) (M:aL) {c:cf->aL->Option R} {r:R},Dt X e ps M c=some r->
 ∃th M',c th M'=some r/\M'.length=M.length/\th.length=ps.length/\eR (ps.flatMap λp=>p.2.cells.flatMap tH) M M'/\∀{w0:World} {S:Sc} {F:bC} {ρ:bF} {w:World},Inv X w0 S F ρ M w->∃F',Inv X w0 S F' ρ M' w/\Grow F F' ρ ρ w w/\
  ∀pv:List (Nat×Value),pv.length=ps.length->(∀(j:Nat) p q,ps[j]?=some p->pv[j]?=some q->p.1=q.1/\aR X.K ρ F w p.2 q.2)->(∀(j:Nat) p q,th[j]?=some p->pv[j]?=some q->p.1=q.1/\aR X.K ρ F' w p.2 q.2)
 | [],M,c,r,h=>⟨[],M,h,rfl,rfl,eR.refl _ _,λ{w0 S F ρ w} hI=>⟨F,hI,Grow.refl _ _ _,λ_ _ h=>h⟩⟩
 |(i,x)::ps,M,c,r,h=>by
  simp only [Dt]at h;have fin:∀(x':AV) (M1:aL),M1.length=M.length->eR (x.cells.flatMap tH) M M1->(∀{w0:World} {S:Sc} {F:bC} {ρ:bF} {w:World},Inv X w0 S F ρ M w->∃F',Inv X w0 S F' ρ M1 w/\Grow F F' ρ ρ w w/\∀v,aR X.K ρ F w x v->aR X.K ρ F' w x' v)->
   Dt X e ps M1 (λth B8=>c ((i,x')::th) B8)=some r->∃th M',c th M'=some r/\M'.length=M.length/\th.length=((i,x)::ps).length /\eR (((i,x)::ps).flatMap λp=>p.2.cells.flatMap tH) M M'/\∀{w0:World} {S:Sc} {F:bC} {ρ:bF} {w:World},Inv X w0 S F ρ M w->∃F',Inv X w0 S F' ρ M' w/\Grow F F' ρ ρ w w/\
   ∀pv:List (Nat×Value),pv.length=((i,x)::ps).length ->(∀(j:Nat) p q,((i,x)::ps)[j]?=some p->pv[j]?=some q->p.1=q.1/\aR X.K ρ F w p.2 q.2)->(∀(j:Nat) p q,th[j]?=some p->pv[j]?=some q->p.1=q.1/\aR X.K ρ F' w p.2 q.2):=by
   intro x' M1 jg IK h1 h;obtain⟨th,M2,h,ki,uR,ha2,h2⟩:=ame ps M1 h;refine⟨_,_,h,by omega,by simp [uR],by rw [lz];exact IK.trans ha2,λ{w0 S F ρ w} hI=> ?_⟩;obtain⟨F1,i1,g1,r1⟩:=h1 hI;obtain⟨F2,i2,g2,r2⟩:=h2 i1;refine⟨F2,i2,g1.trans g2,λpv hl hp=> ?_⟩
   match pv,hl with
   |q0::pv,hl=>
    obtain⟨e0,DL⟩:=hp 0 _ _ rfl rfl;have aO8:=r2 pv (sY) (λj p q QT QR=>by
     obtain⟨a,b⟩:=hp (j+1) p q (by simpa using QT) (by simpa using QR);exact⟨a,b.grow g1⟩)
    intro j p q QT QR;cases j with
    |zero=>simp at QT QR;subst QT;subst QR;exact⟨e0,(r1 _ DL).grow g2⟩
    |succ j=>exact aO8 j p q (by simpa using QT) (by simpa using QR)
  split at h
  ·rename_i cs ha;obtain⟨B5,M1,h,jg,IK,h1⟩:=NY (X:=X) _ _ _ h;refine fin (.agg B5) M1 jg IK (λ{w0 S F ρ w} hI=> ?_) h;obtain⟨F1,i1,g1,r1⟩:=h1 hI;refine⟨F1,i1,g1,λv hv=> ?_⟩;cases hv with
   |agg _ vs hl hr=>
    have:=r1 vs ⟨hl,hr⟩;exact .agg _ _ this.1 this.2
  ·obtain⟨x',M1,h,jg,IK,h1⟩:=GG (X:=X) h;refine fin x' M1 jg (IK.mono λi hi=> ?_) h1 h;exact aHX _ _ hi
  ·exact aM
def NC(X:Cx)(t:TypeId)(len:Nat)(ps:cf)(M:aL)(k:AV->aL->Option R):Option R:=
 match(X.ti t).ok,(X.ti t).u with
 |true,.slice e=>
  a8 ((X.ti e).ok &&decide (0<(X.ti e).size)&&decide (len*(X.ti e).size <=16777216))
   (Dt X e ps M λth M1=>
     match Bo (λi=>some (i*(X.ti e).size,(X.ti e).size)) ((List.replicate len (qu X e)).flatten) th with
     |some cs=>
      a8 ((chunk (X.ti e).size len cs).all λrow=>dq (X.K e) row) (k (.ak M1.length) (M1++[.row e (chunk (X.ti e).size len cs)]))
     |none=>none)
 |_,_=>none
end
end Go.ah
namespace Go.ah
def avs{p:Prop}(h:p:=by
 have h1:us.size=len*z2.cells.size:=by
  have aux:∀(pv:List (Nat×Value)) (place:Nat->Option (Nat×Nat)) (a b:Array Value),Instr.fill place a pv=some b->b.size=a.size:=by
   intro pv
   induction pv with
   |nil=>intro place a b h;simp only [Instr.fill,Option.some.injEq]at h;rw [h]
   |cons p pv ih=>
    obtain⟨ix,v⟩:=p;intro place a b h;simp only [Instr.fill]at h;split at h
    ·cases h
    ·split at h
     ·cases h
     ·have:=ih place _ b h;rw [this,<-adI];exact aa5 _ _ _
  have:=aux pv _ _ us hf;simpa using this
 have:=hr.1;simp only [sS]at this;rw [<-this,h1,uN]):p:=h
def avr{p:Prop}(h:p:=by
 unfold Instr.buildSlice;simp only [iB,mz e8,lg,f2.sizeOf];rw [if_neg (by omega)]
 by_cases h0:len*(X.ti e).size =0
 ·have e0:(Array.range (len*z2.cells.size)).map (z2.cells[· %z2.cells.size]!)= #[]:=by rw [uN,h0];simp
  rw [e0]at hf;rw [if_pos h0];simp only [iB,mQ,lg];have e1:(Array.range (len*(X.ti e).size)).map (λx=>(#[]:Array Value)[x %(#[]:Array Value).size]!)= #[]:=by rw [h0];simp
  rw [e1,hf];simp only [newRow,iB,J5,lg,mQ,J4]
 ·rw [if_neg h0];simp only [iB,mQ,lg,f2.zeroValue];rw [uN]at hf;rw [uN,hf];simp only [newRow,iB,J5,lg,mQ,J4]):p:=h
def asp{p:Prop}(h:p:=by
 have h2:cn<=cn*(X.ti e).bytes :=TY _ Q5;have h3:((cn*(X.ti e).bytes :Nat):Int)<=140737488355328:=by rw [Int.natCast_mul];exact DW
 generalize cn*(X.ti e).bytes =m at*;omega):p:=h
def afD{p:Prop}(h:p:=by
 rw [am2 z2.cells (by omega)];exact aku (acu f2) len):p:=h
def V0{p:Prop}(h:p:=by simp [IntKind.wrap,IntKind.bits,IntKind.signed];omega):p:=h
def Pm{p:Prop}(h:p:=by have:=(dX.1 hi).1;simpa using this):p:=h
def aq5{p:Prop}(h:p:=by
 have:(i2.bytes:Int)*(ln:Int)<=(i2.bytes:Int)*(cn:Int):=aKm (by omega) (by omega);omega):p:=h
def OX{p:Prop}(h:p:=by rw [f2.size];exact f2.zs):p:=h
def aqL{p:Prop}(h:p:=by
 rw [kV hj]at hx;rw [kV (by rw [h.1];exact hj)]at hv;exact h.2 j x v hx hv):p:=h
def aqx{p:Prop}(h:p:=by rw [pF,uN,Nat.add_comm,amS,acW (by omega)]):p:=h
def ao5{p:Prop}(h:p:=by rw [<-f2.bytes,Int.mul_comm];exact DW):p:=h
end Go.ah
namespace Go.ah
def Ux:=@List.length_range
def yW:=@List.append_nil
def Eo:=@List.getElem?_replicate
def TY:=@Nat.le_mul_of_pos_right
def J3:=@Nat.sub_self
def Ob:=@List.getElem?_eq_none
def Oa:=@getElem!_pos
def acX:=@List.ext_getElem?
def GI:=@Int.eq_ofNat_of_zero_le
def acW:=@Nat.mod_eq_of_lt
def GH:=@List.flatten_cons
def acQ:=@List.replicate_succ
def amS:=@Nat.add_mul_mod_self_right
def aKm:=@Int.mul_le_mul_of_nonneg_left
end Go.ah
namespace Go.ah
open Go
noncomputable section
variable {X:Cx} {R:Type}
variable {w0 w w':World} {S:Sc} {F:bC} {ρ:bF} {M:aL}
def N4{n:Nat}(h:n<=140737488355328):n<=maxLen:=pz h (by decide)
def aku{K:TypeId->fh}{row:Row}{vs:jb}(h:dZ K ρ F w row vs):∀n,dZ K ρ F w (List.replicate n row).flatten (List.replicate n vs).flatten
 |0=>⟨rfl,λj x v hx _=>Bb⟩
 |n+1=>by
  have ih:=aku h n;rw [acQ,acQ,GH,GH];refine⟨by rw [fI,fI,h.1,ih.1],λj x v hx hv=> ?_⟩
  by_cases hj:j<row.length
  ·exact aqL
  ·rw [nT (by omega)]at hx;rw [nT (by rw [h.1];omega),h.1]at hv;exact ih.2 _ x v hx hv
def am2(vs:Array Value)(hs:0<vs.size):∀n,((Array.range (n*vs.size)).map (vs[· %vs.size]!)).toList =(List.replicate n vs.toList).flatten :=by
 intro n
 induction n with
 |zero=>simp
 |succ n ih=>
  rw [List.replicate_succ',List.flatten_append,<-ih];apply acX;intro j;simp only [Array.toList_map,Array.toList_range,kW,GH,List.flatten_nil,yW];have e:(n+1)*vs.size=n*vs.size+vs.size:=by rw [uZ,ac7]
  by_cases h1:j<n*vs.size
  ·rw [kV (y9),wP (by omega),kW,wP h1]
  ·by_cases h2:j<(n+1)*vs.size
   ·rw [nT (eE),wP h2];simp only [dW,Ux,ox];have h3:j %vs.size=j- n*vs.size:=by
     rw [show j=(j- n*vs.size)+n*vs.size by omega,amS,acW (by omega)];omega
    have h4:j- n*vs.size<vs.size:=by omega
    rw [h3,Oo,GL h4,Oa vs _ h4]
   ·rw [nT (eE),Ob (eE),Ob (eE)];rfl
def amJ{K:TypeId->fh}{cs:aq}{us:jb}(h:dZ K ρ F w cs us){sz n:Nat}{i:Nat}{row:Row}(hi:(chunk sz n cs)[i]?=some row){j:Nat}{x:AV}(hx:row[j]?=some x):
 ∃v,us[i*sz+j]?=some v/\aR K ρ F w x v:=by
 have oR:i<n:=by have:=(dX.1 hi).1;rwa [Gw]at this
 rw [amK sz n cs i oR]at hi;injection hi with hi;subst hi;rw [u6]at hx;split at hx
 ·rw [vV]at hx;have bI:=(dX.1 hx).1;have hl:=h.1;have hu:us[i*sz+j]?=some (us[i*sz+j]'(by omega)):=c8 (by omega);exact⟨_,hu,h.2 _ x _ hx hu⟩
 ·cases hx
def ajq(hX:X.Okb){t:TypeId}{len:Nat}{ps:cf}{k:AV->aL->Option R}{r:R}(h:NC X t len ps M k=some r):
 ∃y M',k y M'=some r/\eR (ps.flatMap λp=>p.2.cells.flatMap tH) M M'/\∀{w0:World} {S:Sc} {F:bC} {ρ:bF} {w:World} (pv:List (Nat×Value)),Inv X w0 S F ρ M w->pv.length=ps.length->
  (∀(j:Nat) p q,ps[j]?=some p->pv[j]?=some q->p.1=q.1/\aR X.K ρ F w p.2 q.2)->
  ∃v w' ρ' F',(Instr.buildSlice t len pv.toArray).run X.P w= .ok v w'/\Inv X w0 S F' ρ' M' w'/\Grow F F' ρ ρ' w w'/\aR X.K ρ' F' w' y v/\∀g,g<w.heap.size->w'.heap[g]?=w.heap[g]?:=by
 unfold NC at h;split at h
 ·rename_i e aX hu;replace h:=cP h;obtain⟨h1,h⟩:=h;simp only [bA,iT]at h1;obtain⟨⟨he,sy⟩,oJ⟩:=h1;obtain⟨i,d,z,f⟩:=hX.facts aX;obtain⟨i2,d2,z2,f2⟩:=hX.facts he;have e8:=f.slice hu;obtain⟨th,M1,h,jg,ki,jv,L7⟩:=ame _ _ h;split at h
  ·rename_i cs ze;replace h:=cP h;obtain⟨nz,h⟩:=h;refine⟨_,_,h,(jv.trans (eR.push [] _ _)).mono (by simp),λ{w0 S F0 ρ w} pv qg hl hp=> ?_⟩;obtain⟨F,hI,uU,LZ⟩:=L7 qg;have ue:=LZ pv hl hp;have uN:z2.cells.size=(X.ti e).size :=OX;have pF:(X.K e).length =(X.ti e).size :=CY;have hz:dZ X.K ρ F w (List.replicate len (qu X e)).flatten ((Array.range (len*z2.cells.size)).map (z2.cells[· %z2.cells.size]!)).toList :=afD;obtain⟨us,hf,hr⟩:=JP hI.one th _ cs _ pv ze hz (by omega) ue;have aZe:cs.length=len*(X.ti e).size :=avs;have Pq:=hI.newRow (t:=e) (xs:=chunk (X.ti e).size len cs) (cur:=us) (c:=len) (λi row hi=>by
    rw [mP]at nz;exact nz row (qk hi)) (by rw [Gw];exact gQ _)
    (by
      have:len<=len*(X.ti e).size :=TY _ sy;exact N4 (by omega))
    (by have:=hr.1;simp only [sS]at this;rw [pF];omega)
    (λi row hi j x hx=>by
      obtain⟨v,h1,h2⟩:=amJ hr hi hx;rw [pF];exact⟨v,by rw [Oo]at h1;exact h1,h2⟩)
    (w':=w) ⟨rfl,rfl,rfl,gQ _,λ_ _ _=>rfl⟩ rfl
   refine⟨.slice (some ⟨w.heap.size,0,none⟩) len len,_,_,F,?_,Pq.1,uU.trans Pq.2,?_,λg hg=>amZ w _ g hg⟩
   ·exact avr
   ·have:=Cs (X:=X) (F:=F) (w:=w.alloc (.cells us e)) (hd:=⟨.slice (some ⟨w.heap.size,0,none⟩) (chunk (X.ti e).size len cs).length len,(X.K e).length⟩) hI.len;simpa [Gw]using this
  ·exact aM
 ·cases h
def ab3(X:Cx)(t:TypeId)(l c:AV)(M:aL)(k:AV->aL->Option R):Option R:=
 match(X.ti t).ok,(X.ti t).u,l,c with
 |true,.slice e,.int _ l,.int _ c=>
  a8 ((X.ti e).ok &&decide (0<(X.ti e).size)&&decide (0<(X.ti e).bytes)&&dq (X.K e) (qu X e)&&(decide (0<=l)&&decide (l<=c)&&decide (c*(X.ti e).bytes <=140737488355328)))
   (k (.ak M.length) (M++[.row e (List.replicate l.toNat (qu X e))]))
 |_,_,_,_=>none
def aC8(hX:X.Okb){t:TypeId}{l c:AV}{k:AV->aL->Option R}{r:R}(h:ab3 X t l c M k=some r):
 ∃y M',k y M'=some r/\eR [] M M'/\∀{vl vc:Value},Dz X M y M' (λρ F w=>aR X.K ρ F w l vl/\aR X.K ρ F w c vc) (Instr.makeSlice t vl vc):=by
 unfold ab3 at h;split at h
 ·rename_i e k1 l k2 c aX hu;replace h:=cP h;obtain⟨h1,h⟩:=h;simp only [bA,iT]at h1;obtain⟨⟨⟨⟨he,sy⟩,Q5⟩,B1⟩,⟨sG,hlc⟩,DW⟩:=h1;obtain⟨i,d,z,f⟩:=hX.facts aX;obtain⟨i2,d2,z2,f2⟩:=hX.facts he;have e8:=f.slice hu;have uN:z2.cells.size=(X.ti e).size :=OX;have pF:(X.K e).length =(X.ti e).size :=CY;obtain⟨cn,rfl⟩:=GI (show 0<=c by omega);obtain⟨ln,rfl⟩:=GI sG;have sb:cn<=140737488355328:=asp;have zJ:ln<=cn:=by omega
  refine⟨_,_,h,eR.push _ _ _,λ{vl vc w0 S F ρ w} hI hv=> ?_⟩;obtain⟨h1,h2⟩:=hv;cases h1;cases h2;have Pq:=hI.newRow (t:=e) (xs:=List.replicate ln (qu X e)) (cur:=(Array.range (cn*(X.ti e).size)).map (z2.cells[· %z2.cells.size]!)) (c:=cn) (λi row hi=>by
   have:=qk hi;rw [List.mem_replicate]at this;rw [this.2];exact B1) (by simpa using zJ) (N4 sb) (by simp [pF])
   (λi row hi j x hx=>by
     have oR:i<ln:=Pm;rw [Eo,if_pos oR]at hi;injection hi with hi;subst hi;have QP:=acu (X:=X) (ρ:=ρ) (F:=F) (w:=w) f2;have hj:=(dX.1 hx).1;have ki:=QP.1;simp only [sS]at ki;have IH:j<z2.cells.size:=by omega
     have ahi:i*(X.K e).length +j<cn*(X.ti e).size :=by
      rw [pF];have:(i+1)*(X.ti e).size <=cn*(X.ti e).size :=uh _ (by omega);exact CZ
     have hm:(i*(X.K e).length +j) %z2.cells.size=j:=aqx;refine⟨z2.cells[j],?_,QP.2 j x _ hx (by simp [IH])⟩;rw [Array.getElem?_map,Array.getElem?_range,if_pos ahi];simp only [ox,hm];rw [Oa z2.cells j IH])
   (w':=w) ⟨rfl,rfl,rfl,gQ _,λ_ _ _=>rfl⟩ rfl
  refine⟨.slice (some ⟨w.heap.size,0,none⟩) ln cn,_,_,F,?_,Pq.1,Pq.2,?_⟩
  ·have FZ:IntKind.i64.wrap (ln:Int)=ln:=by simp [IntKind.wrap,IntKind.bits,IntKind.signed];omega
   have hwc:IntKind.i64.wrap (cn:Int)=cn:=V0;have im:(i2.bytes:Int)*(cn:Int)<=140737488355328:=ao5;have hbl:(i2.bytes:Int)*(ln:Int)<=140737488355328:=aq5;have pW:¬((((cn:Int)<0∨(281474976710656:Int)<(i2.bytes:Int)*(cn:Int))∨(ln:Int)<0)∨(cn:Int)<(ln:Int)):=by omega
   unfold Instr.makeSlice;simp only [iB,mz e8,lg,asInt,asIntOf,mQ,f2.typeInfo,FZ,hwc];rw [if_neg (by simpa using pW)]
   by_cases h0:cn*(X.ti e).size =0
   ·have:cn=0:=by rcases Nat.mul_eq_zero.1 h0 with h|h;exact h;omega
    subst this;have e9:∀g:Nat->Value,(Array.range 0).map g= #[]:=by intro g;simp
    simp [f2.sizeOf,newRow,e9]
   ·simp [f2.sizeOf,newRow,f2.zeroValue,h0]
  ·have:=Cs (X:=X) (F:=F) (w:=w.alloc (.cells ((Array.range (cn*(X.ti e).size)).map (z2.cells[· %z2.cells.size]!)) e)) (hd:=⟨.slice (some ⟨w.heap.size,0,none⟩) (List.replicate ln (qu X e)).length cn,(X.K e).length⟩) hI.len;exact uj
 ·cases h
def zcN:Kind->AV->AV| .slice t,.jX => .sub t []|_,x=>x
def KE(X:Cx)(t:TypeId):Row:=List.zipWith zcN (X.ti t).ks (X.ti t).zero
def adU(X:Cx)(t:TypeId)(l c:AV)(M:aL)(k:AV->aL->Option R):Option R:=
 match(X.ti t).ok,(X.ti t).u,l,c with
 |true,.slice e,.int _ l,.int _ c=>
  a8 (X.pk&&(X.ti e).ok &&decide (0<(X.ti e).size)&&decide (0<(X.ti e).bytes)&&wY (X.K e) (KE X e)&&(decide (0<=l)&&decide (l<=c)&&decide (c*(X.ti e).bytes <=140737488355328)))
   (k (.ak M.length) (M++[.bD e (List.replicate l.toNat (KE X e)) none]))
 |_,_,_,_=>none
def aHk(hX:X.Okb){t:TypeId}{l c:AV}{k:AV->aL->Option R}{r:R}(h:adU X t l c M k=some r):
 ∃y M',k y M'=some r/\eR [] M M'/\∀{vl vc:Value},Dz X M y M' (λρ F w=>aR X.K ρ F w l vl/\aR X.K ρ F w c vc) (Instr.makeSlice t vl vc):=by
 unfold adU at h;split at h
 ·rename_i e k1 l k2 c aX hu;replace h:=cP h;obtain⟨h1,h⟩:=h;simp only [bA,iT]at h1;obtain⟨⟨⟨⟨⟨DQ,he⟩,sy⟩,Q5⟩,B1⟩,⟨sG,hlc⟩,DW⟩:=h1;obtain⟨i,d,z,f⟩:=hX.facts aX;obtain⟨i2,d2,z2,f2⟩:=hX.facts he;have e8:=f.slice hu;have uN:z2.cells.size=(X.ti e).size :=OX;have pF:(X.K e).length =(X.ti e).size :=CY;obtain⟨cn,rfl⟩:=GI (show 0<=c by omega);obtain⟨ln,rfl⟩:=GI sG;have sb:cn<=140737488355328:=asp;have zJ:ln<=cn:=by omega
  refine⟨_,_,h,eR.push _ _ _,λ{vl vc w0 S F ρ w} hI hv=> ?_⟩;obtain⟨h1,h2⟩:=hv;cases h1;cases h2
  let cur:=(Array.range (cn*(X.ti e).size)).map (z2.cells[· %z2.cells.size]!)
  let hd:Hd:=⟨.slice (some ⟨w.heap.size,0,none⟩) ln cn,(X.K e).length⟩
  have mu:w.grownBy (w.alloc (.cells cur e)) none:=GJ w _ none;have sK:Inv X w0 S F (ρ++[hd]) (M++[.dead]) (w.alloc (.cells cur e)):=by
   refine hI.push mu (λg hg=> ?_) rfl trivial;simp [hd,Hd.dE,Value.dE]at hg;subst hg;simp
  have hh:(ρ++[hd])[M.length]?=some hd:=ES;have hz:dZ X.K (ρ++[hd]) F (w.alloc (.cells cur e)) (X.ti e).zero z2.cells.toList:=by rw [f2.zc];exact amo _ _ _ _ _
  have hzl:(X.ti e).zero.length =(X.ti e).ks.length :=by rw [f2.ks,f2.zc,dW,sS,f2.zs]
  have rA:∀{row:Row} {j:Nat} {x:AV} {ii:Nat},(List.replicate ln (KE X e))[ii]?=some row->row[j]?=some x->ii<ln/\∃(hj:j<z2.cells.size),(x.wZ=false/\aR X.K (ρ++[hd]) F (w.alloc (.cells cur e)) x z2.cells[j])∨∃e',x= .sub e' []/\z2.cells[j]= .slice none 0 0:=by
   intro row j x ii hi hx;have oR:ii<ln:=Pm;refine⟨oR,?_⟩;rw [Eo,if_pos oR]at hi;injection hi with hi;subst hi;have DL:=hx;unfold KE at hx;rw [am0]at hx;cases hk:(X.ti e).ks[j]? with
   |none=>simp [hk]at hx
   |some kd=>
    cases AE:(X.ti e).zero[j]? with
    |none=>simp [hk,AE]at hx
    |some y=>
     simp only [hk,AE,Option.some.injEq]at hx;subst hx;have ki:=hz.1;simp only [sS]at ki;have hj:j<z2.cells.size:=by have:=(dX.1 AE).1;omega
     have QQ:=hz.2 j y z2.cells[j] AE (by simp [hj]);refine⟨hj,?_⟩;unfold zcN;split
     ·refine .inr ⟨_,rfl,?_⟩;generalize z2.cells[j]=u at QQ;cases QQ;rfl
     ·refine .inl ⟨?_,QQ⟩;generalize z2.cells[j]=u at QQ;cases QQ<;>rfl
  have P3:∀{ii j:Nat},ii<ln->(hj:j<z2.cells.size)->cur[0+ii*(X.K e).length +j]?=some z2.cells[j]:=by
   intro ii j oR IH;have ahi:ii*(X.K e).length +j<cn*(X.ti e).size :=by
    rw [pF];have:(ii+1)*(X.ti e).size <=cn*(X.ti e).size :=uh _ (by omega);exact CZ
   have hm:(ii*(X.K e).length +j) %z2.cells.size=j:=aqx;simp only [cur];rw [Cw,Array.getElem?_map,Array.getElem?_range,if_pos ahi];simp only [ox,hm];rw [Oa z2.cells j IH]
  have Bl:(w.alloc (.cells cur e)).heap[w.heap.size]?=some (.cells cur e (0,0)):=Oe w _;have hr:pZ X (ρ++[hd]) F (w.alloc (.cells cur e)) hd e (List.replicate ln (KE X e)) none:=by
   refine⟨hX.VE DQ,rfl,λi row hi=> ?_,λ_ _ _ hk=>(G0),.inr ⟨w.heap.size,0,cn,cur,by simp [hd],Bl,by simpa using zJ,N4 sb,by simp [hd,cur,pF],λii row hi j x hx=> ?_⟩⟩
   ·have:=qk hi;rw [List.mem_replicate]at this;rw [this.2];exact B1
   ·obtain⟨oR,hj,hc⟩:=rA hi hx;refine⟨_,P3 oR hj,λ_ hk=>(G0),λ_=> ?_⟩;rcases hc with⟨hs,hr⟩|⟨e',rfl,hv⟩
    ·unfold zg;split
     ·cases hs
     ·exact hr
    ·rw [hv];exact⟨⟨rfl,λi row hi=>CI,.inl ⟨rfl,rfl⟩⟩,rfl⟩
  have hB:∀{p g},rX (w.alloc (.cells cur e)) hd (List.replicate ln (KE X e)) none p g->p=none/\g=w.heap.size:=by
   intro p g hp;rcases hp with⟨h1,h2⟩|⟨ii,j,row,e',ys,v,_,h1,h2,_,h4,h5⟩
   ·exact⟨h1,by simp [hd,Hd.dE,Value.dE]at h2;exact h2.symm⟩
   ·obtain⟨oR,hj,hc⟩:=rA h1 h2;rcases hc with⟨hs,_⟩|⟨e'',_,hv⟩
    ·cases hs
    ·simp only [cellOf,hd]at h4;rw [oX,zZ _ _ _ cur e (0,0) Bl,<-tF,P3 oR hj,hv]at h4;injection h4 with h4;subst h4;simp [Value.dE]at h5
  have qI:=sK.install (id:=M.length) (b:= .dead) (by simp) rfl rfl hh hr (λp g hp=> ?_) (λp q g h1 h2=>(hB h1).1.trans (hB h2).1.symm)
  ·rw [List.set_append_right _ _ (gQ _)]at qI;simp only [J3,List.set_cons_zero]at qI;refine⟨.slice (some ⟨w.heap.size,0,none⟩) ln cn,_,_,F,?_,qI,⟨λ_ h=>h,λ_ _ h=>ou h,hI.BM mu (by simp)⟩,Cs (M:=M) (hd:=hd) hI.len⟩;have FZ:IntKind.i64.wrap (ln:Int)=ln:=V0;have hwc:IntKind.i64.wrap (cn:Int)=cn:=V0;have im:(i2.bytes:Int)*(cn:Int)<=140737488355328:=ao5;have hbl:(i2.bytes:Int)*(ln:Int)<=140737488355328:=aq5;have pW:¬((((cn:Int)<0∨(281474976710656:Int)<(i2.bytes:Int)*(cn:Int))∨(ln:Int)<0)∨(cn:Int)<(ln:Int)):=by omega
   unfold Instr.makeSlice;simp only [iB,mz e8,lg,asInt,asIntOf,mQ,f2.typeInfo,FZ,hwc];rw [if_neg (by simpa using pW)]
   by_cases h0:cn*(X.ti e).size =0
   ·have:cn=0:=by rcases Nat.mul_eq_zero.1 h0 with h|h;exact h;omega
    subst this;have e9:∀g:Nat->Value,(Array.range 0).map g= #[]:=by intro g;simp
    simp [f2.sizeOf,newRow,e9,cur]
   ·simp [f2.sizeOf,newRow,f2.zeroValue,h0,cur]
  ·obtain⟨_,rfl⟩:=hB hp;refine⟨by simp,.inr hI.size,λa ha e=> ?_,?_,λi q h=> ?_⟩
   ·have:=hI.fz a ha;omega
   ·rintro⟨i,b,du,u1,u2,u3,u4⟩
    by_cases bI:i<M.length
    ·rw [kV bI]at u1;rw [kV (OW)]at u3;have:=(hI.sep i b du _ u1 u2 u3 u4).1;omega
    ·rw [nT (by omega)]at u1;have h0:i- M.length=0:=by have:=(dX.1 u1).1;simp at this;omega
     rw [h0]at u1;simp at u1;subst u1;cases u2
   ·have h:=(h.pop hI.len rfl).back hI.bD hI.len (λ_ _ h _=>h) (λ_ _ h _=>h) λk q1 _ _ _=>mu.block k q1 (by simp);have:=(hI.bD.ak h).1;omega
 ·cases h
end
end Go.ah
namespace Go.ah
def aph{p:Prop}(h:p:=by rw [kV (dX.1 hb).1];exact hb):p:=h
def apg{p:Prop}(h:p:=by rw [kV (dX.1 hh).1];exact hh):p:=h
end Go.ah
namespace Go.ah
def A8:=@List.all_cons
def T4:=@Bool.and_eq_true_iff
end Go.ah
namespace Go.ah
open Go
noncomputable section
variable {X:Cx} {R:Type} {M:aL}
variable{len:Nat}{r:R}{t:TypeId}{ps:cf}
def Inv.aQv{w0 w w':World}{S:Sc}{F F':bC}{ρ:bF}{hd:Hd}{b:eH}(hI:Inv X w0 S F ρ M w)(hN:Inv X w0 S F' (ρ++[hd]) (M++[b]) w')(hF:∀a,F a->F' a)(hp:∀g,g<w.heap.size->w'.heap[g]?=w.heap[g]?)(hw:∀a v,F a->w.cell? a=some v->w'.cell? a=some v):
 Inv X w0 S F' ρ M w' where
 os:=hN.os
 tape:=hN.tape
 output:=hN.output
 size:=hN.size
 frame:=hN.frame
 len:=hI.len
 rep:=λid b' du hb hh=>by
  cases nG:b'.kq with
  |false=>exact(hI.rep id b' du hb hh).mono (λ_ _ h=>h) hF hw (λg hg=>hp g (hI.sep id b' du g hb nG hh hg).1)
  |true=>
   have h1:(M++[b])[id]?=some b':=aph;have h2:(ρ++[hd])[id]?=some du:=apg;have hr:=hI.rep id b' du hb hh;cases b' with
   |dead=>trivial
   |bD _ _ _=>trivial
   |fx t xs=>exact aR.mono (λ_ _ h=>h) hF hw hr
   |_=>simp [eH.kq]at nG
 sep:=λid b' du g hb nG hh hg=>by
  have h1:(M++[b])[id]?=some b':=aph;have h2:(ρ++[hd])[id]?=some du:=apg;exact hN.sep id b' du g h1 nG h2 hg
 k5:=hI.k5
 fz:=hN.fz
 jH:=λg=>(hI.jH g).mono (λ_ _ h=>h) hF hw
 one:=hI.one
 iw:=hN.iw
 fin:=hN.fin
 bD:=by
  have pm:∀{id:Nat} {c:eH},M[id]?=some c->(M++[b])[id]?=some c:=λh=>Vz;have pr:∀{id:Nat} {c:Hd},ρ[id]?=some c->(ρ++[hd])[id]?=some c:=λh=>Vz;have up:∀{id p g},Hid w' ρ M id p g->Hid w' (ρ++[hd]) (M++[b]) id p g:=by
   intro id p g hh;cases hh with
   |out hb hh hg=>exact .out (pm hb) (pr hh) hg
   |sub hb hh hi hj ho hc hg=>exact .sub (pm hb) (pr hh) hi hj ho hc hg
  refine⟨λhh=> ?_,λh1 h2=>hN.bD.inj (up h1) (up h2),λhb hh=>(hI.bD.rep hb hh).mono (λ_ _ h=>h) hF hw (λg hg=>hp g (hI.bD.ak (.out hb hh hg)).1) λi j row e ys v g hi hx ho hc hg=>hp g (hI.bD.ak (.sub hb hh hi hx ho hc hg)).1⟩;obtain⟨a1,a2,a3,a4⟩:=hN.bD.ak (up hh);exact⟨a1,a2,a3,λ⟨i,c,h,q1,q2,q3,q4⟩=>a4 ⟨i,c,h,pm q1,q2,pr q3,q4⟩⟩
def Hu:AV->Bool| .int _ _| .bool _| .str _| .aj _ _=>true|_=>false
def V7:Bool->AV->Bool|true,.agg cs=>cs.all Hu|false,x=>Hu x|_,_=>false
def aO0:AV->Bool| .agg cs=>cs.all Hu|x=>Hu x
def anz{kd:Kind}{x:AV}{c:AV->aL->Option R}(h:Hu x=true):j5 kd x M c=c x M:=by
 cases x<;>simp [Hu]at h<;>cases kd<;>rfl
def amA:∀(ks:fh) (xs:aq) {M:aL} {c:aq->aL->Option R},xs.all Hu=true->BI ks xs M c=c xs M
 | [],xs,M,c,_=>by cases xs<;>rfl
 |_::_,[],M,c,_=>rfl
 |kd::ks,x::xs,M,c,h=>by
  rw [A8,bA]at h;simp only [BI];rw [anz h.1,amA ks xs h.2]
def acC{e:TypeId}:∀(ps:cf) {M:aL} {c:cf->aL->Option R},(ps.all λp=>V7 (X.ti e).u.agg p.2)=true->Dt X e ps M c=c ps M
 | [],M,c,_=>rfl
 |(i,x)::ps,M,c,h=>by
  rw [A8,bA]at h;obtain⟨h1,h2⟩:=h;cases ha:(X.ti e).u.agg with
  |true=>
   rw [ha]at h1;cases x<;>simp only [V7,oW]at h1
   simp only [Dt,ha];rw [amA _ _ h1,acC ps h2]
  |false=>
   rw [ha]at h1;simp only [Dt,ha];rw [anz (by simpa [V7]using h1),acC ps h2]
def JQ(X:Cx)(t:TypeId)(len:Nat)(ps:cf)(k:AV->Option R):Option R:=
 match(X.ti t).ok,(X.ti t).u with
 |true,.slice e=>
  a8 ((((X.ti e).ok &&decide (0<(X.ti e).size)&&decide (len*(X.ti e).size <=16777216))&&(ps.all λp=>V7 (X.ti e).u.agg p.2))&&X.pk)
   (match Bo (λi=>some (i*(X.ti e).size,(X.ti e).size)) ((List.replicate len (qu X e)).flatten) ps with
     |some cs=>a8 ((chunk (X.ti e).size len cs).all λrow=>dq (X.K e) row) (k (.aj e (chunk (X.ti e).size len cs)))
     |none=>none)
 |_,_=>none
def aDb(hX:X.Okb){k:AV->Option R}(h:JQ X t len ps k=some r):
 ∃y,k y=some r/\(∀(R':Type) (k':AV->Option R'),JQ X t len ps k'=k' y)/\∀{M:aL} {w0:World} {S:Sc} {F:bC} {ρ:bF} {w:World} (pv:List (Nat×Value)),Inv X w0 S F ρ M w->pv.length=ps.length->
  (∀(j:Nat) p q,ps[j]?=some p->pv[j]?=some q->p.1=q.1/\aR X.K ρ F w p.2 q.2)->
  ∃v w' ρ' F',(Instr.buildSlice t len pv.toArray).run X.P w= .ok v w'/\Inv X w0 S F' ρ' M w'/\Grow F F' ρ ρ' w w'/\aR X.K ρ' F' w' y v:=by
 unfold JQ at h;split at h
 ·rename_i e aX hu;replace h:=cP h;obtain⟨h1,h⟩:=h;split at h
  ·rename_i cs ze;replace h:=cP h;obtain⟨nz,h⟩:=h;refine⟨_,h,λR' k'=>by unfold JQ;simp only [aX,hu,h1,ze,nz,a8],λ{M w0 S F ρ w} pv hI hl hp=> ?_⟩;obtain⟨h1,DQ⟩:=T4.1 h1;obtain⟨h1,h3⟩:=T4.1 h1;have hb:NC X t len ps M (λy M'=>some (y,M'))=some (.ak M.length,M++[.row e (chunk (X.ti e).size len cs)]):=by
    unfold NC;simp only [aX,hu,h1,a8];rw [acC ps h3];simp only [ze,nz,a8]
   obtain⟨y1,M1,he,_,hd⟩:=ajq hX hb;injection he with he;injection he with Q2 he2;subst Q2;subst he2;obtain⟨v,w',ρ',F1,eG,sK,AN,yC,qy⟩:=hd pv hI hl hp;have gP:∃hd,ρ'=ρ++[hd]:=by
    have jg:=sK.len;have ki:=hI.len;rw [fI,List.length_singleton]at jg;have bI:ρ.length<ρ'.length:=by omega
    refine⟨ρ'[ρ.length],acX λj=> ?_⟩
    by_cases hj:j<ρ.length
    ·rw [kV hj,c8 hj];exact AN.gP j _ (c8 hj)
    ·by_cases IH:j=ρ.length
     ·subst IH;rw [nT (gQ _),J3,c8 bI];rfl
     ·rw [Ob (by omega),Ob (eE)]
   obtain⟨qH,rfl⟩:=gP;have hz:j5 (.slice e) (.ak M.length) (M++[.row e (chunk (X.ti e).size len cs)]) (λx M=>some (x,M))=some (.aj e (chunk (X.ti e).size len cs),M++[.fx e (chunk (X.ti e).size len cs)]):=by
    simp [fF,j5,a8]
   obtain⟨x',M2,he,_,_,L7⟩:=GG (X:=X) hz;injection he with he;injection he with Q2 he2;subst Q2;subst he2;obtain⟨F2,qI,tq,hv⟩:=L7 sK;have hg:=AN.trans tq;exact⟨v,w',ρ,F2,eG,hI.aQv qI hg.hF qy (λa v ha hc=>hg.hw a v ha hc),⟨hg.hF,λ_ _ h=>h,hg.hb⟩,(hv v yC).pure (hX.ok DQ).kinds rfl⟩
  ·exact aM
 ·cases h
def aYQ:AV->Bool| .gM _ [] []=>false| .gM _ _ _=>true|_=>false
def aO4(ps:cf):Bool:=ps.any λp=>p.2.cells.any aYQ
def aco(X:Cx)(t:TypeId)(len:Nat)(ps:cf)(M:aL)(k:AV->aL->Option R):Option R:=
 match(X.ti t).ok,(X.ti t).u with
 |true,.slice e=>
  a8 ((X.ti e).ok &&decide (0<(X.ti e).size)&&decide (len*(X.ti e).size <=16777216))
   (match Bo (λi=>some (i*(X.ti e).size,(X.ti e).size)) ((List.replicate len (qu X e)).flatten) ps with
     |some cs=>a8 (dq (List.replicate cs.length .any) cs&&X.H4 (List.replicate cs.length .any) e) (k (.p8 M.length len) (M++[.var (List.replicate cs.length .any) cs]))
     |none=>none)
 |_,_=>none
def aD9(hX:X.Okb){k:AV->aL->Option R}(h:aco X t len ps M k=some r):
 ∃y M',k y M'=some r/\eR [] M M'/\∀{w0:World} {S:Sc} {F:bC} {ρ:bF} {w:World} (pv:List (Nat×Value)),Inv X w0 S F ρ M w->pv.length=ps.length->
  (∀(j:Nat) p q,ps[j]?=some p->pv[j]?=some q->p.1=q.1/\aR X.K ρ F w p.2 q.2)->
  ∃v w' ρ' F',(Instr.buildSlice t len pv.toArray).run X.P w= .ok v w'/\Inv X w0 S F' ρ' M' w'/\Grow F F' ρ ρ' w w'/\aR X.K ρ' F' w' y v:=by
 unfold aco at h;split at h
 ·rename_i e aX hu;replace h:=cP h;obtain⟨h1,h⟩:=h;simp only [bA,iT]at h1;obtain⟨⟨he,sy⟩,oJ⟩:=h1;obtain⟨i,d,z,f⟩:=hX.facts aX;obtain⟨i2,d2,z2,f2⟩:=hX.facts he;have e8:=f.slice hu;split at h
  ·rename_i cs ze;replace h:=cP h;obtain⟨nz,h⟩:=h;rw [bA]at nz;obtain⟨nz,hyy⟩:=nz;refine⟨_,_,h,eR.push _ _ _,λ{w0 S F ρ w} pv hI hl hp=> ?_⟩;have uN:z2.cells.size=(X.ti e).size :=OX;have hz:dZ X.K ρ F w (List.replicate len (qu X e)).flatten ((Array.range (len*z2.cells.size)).map (z2.cells[· %z2.cells.size]!)).toList :=afD;obtain⟨us,hf,hr⟩:=JP hI.one ps _ cs _ pv ze hz hl hp;obtain⟨fY,hg⟩:=hI.newVar nz hr e hyy;refine⟨.slice (some ⟨w.heap.size,0,none⟩) len len,_,_,F,?_,fY,hg,?_⟩
   ·exact avr
   ·exact .p8 _ _ ⟨.slice (some ⟨w.heap.size,0,none⟩) 1 1,cs.length⟩ _ _ 1 1 _ (ES) rfl
  ·exact aM
 ·cases h
end
end Go.ah
namespace Go.ah
def aqA{p:Prop}(h:p:=by simp [Instr.sliceAt,Instr.slice,hu,Instr.sliceBounds,hs,Instr.sliceBound,asIntOf,h1,h2]):p:=h
end Go.ah
namespace Go.ah
def tG:=@List.length_nil
def qR:=@Nat.zero_le
def vR:=@Int.le_refl
end Go.ah
namespace Go.ah
open Go
noncomputable section
variable {X:Cx} {R:Type}
variable {w0 w w':World} {S:Sc} {F:bC} {ρ:bF} {M:aL}
variable{x:AV}{h l:Int}{hi lo mx:Option AV}{r:R}{t:TypeId}{xs:aE}
def tx(d:Int):Option AV->Option Int
 |none=>some d
 |some (.int _ n)=>some n
 |_=>none
def ym(K:TypeId->fh)(ρ:bF)(F:bC)(w:World):Option AV->Option Value->Prop
 |none,none=>True
 |some x,some v=>aR K ρ F w x v
 |_,_=>False
def z6(xs:aE)(lo hi:Option AV):aE:=
 match lo,hi with
 |none,none=>xs
 |none,some h=>xs.take h.toI.toNat
 |some l,none=>xs.drop l.toI.toNat
 |some l,some h=>(xs.take h.toI.toNat).drop l.toI.toNat
def Eu(X:Cx)(t:TypeId)(x:AV)(lo hi mx:Option AV)(M:aL)(k:AV->aL->Option R):Option R:=
 match(X.ti t).ok,(X.ti t).u with
 |true,.slice e=>
  match rowsOf M x with
  |some (_,xs)=>
   match tx 0 lo,tx xs.length hi,tx xs.length mx with
   |some l,some h,some m=>
    a8 ((X.ti e).ok && !(mx.isSome&&hi.isNone)&&(decide (0<=l)&&decide (l<=h)&&decide (h<=m)&&decide (m<=(xs.length:Int))))
     (match x with
      | .aj t' xs=>a8 (e==t') (k (.aj t' (z6 xs lo hi)) M)
      | .jX =>k .jX M
      | .ak id=>
        match gm M id with
        |some (.row t' xs)=>a8 (e==t') (k (.ak M.length) (M.set id .dead ++[.row t' (z6 xs lo hi)]))
        |some (.fx t' xs)=>a8 (e==t') (k (.aj t' (z6 xs lo hi)) M)
        |_=>none
      |_=>none)
   |_,_,_=>none
  |none=>none
 |_,_=>none
def NI{P:Program}{e:TypeId}{size:Nat}(e8:P.underlying t=some (.slice e))(hs:∀w,(sizeOf e).run P w= .ok size w){a:Option Addr}{len cap:Nat}{vl vh vm:Option Value}{K:TypeId->fh}
 (h1:ym K ρ F w lo vl) (h2:ym K ρ F w hi vh) (h3:ym K ρ F w mx vm) {m:Int} (e1:tx 0 lo=some l) (e2:tx len hi=some h) (e3:tx len mx=some m) (vI:¬(mx.isSome=true/\hi.isNone=true)) (b1:0<=l) (b2:l<=h) (b3:h<=m) (b4:m<=len) (b5:len<=cap):
 ∃mm:Nat,h.toNat<=mm/\mm<=cap/\(Instr.sliceAt t (.slice a len cap) vl vh vm).run P w= .ok (.slice (if mm=l.toNat then a else a.map (·.add (l.toNat*size))) (h.toNat- l.toNat) (mm- l.toNat)) w:=by
 obtain⟨ln,rfl⟩:=GI b1;obtain⟨hn,rfl⟩:=GI (show 0<=h by omega);obtain⟨mn,rfl⟩:=GI (show 0<=m by omega);have bound:∀(o:Option AV) (v:Option Value) (d:Int) (n:Nat),ym K ρ F w o v->tx d o=some (n:Int)->(o=none/\v=none/\d=n)∨∃kd,v=some (.int kd n)/\o.isSome=true:=by
  intro o v d n hr hb;cases o with
  |none=>cases v with
   |none=>simp only [tx,Option.some.injEq]at hb;exact .inl ⟨rfl,rfl,hb⟩
   |some _=>exact hr.elim
  |some x=>cases v with
   |none=>exact hr.elim
   |some v=>
    cases x<;>simp only [tx]at hb<;>try cases hb
    cases hr;exact .inr ⟨_,rfl,rfl⟩
 have hu:∀w,(underlying t).run P w= .ok (.slice e) w:=λw=>mz e8 w;rcases bound lo vl 0 ln h1 e1 with⟨o1,rfl,d1⟩|⟨k1,rfl,s1⟩<;>rcases bound hi vh len hn h2 e2 with⟨o2,rfl,d2⟩|⟨k2,rfl,s2⟩<;>rcases bound mx vm len mn h3 e3 with⟨o3,rfl,d3⟩|⟨k3,rfl,s3⟩
 ·refine⟨cap,by omega,gQ _,?_⟩;have e0:ln=0:=by omega
  have e0':hn=len:=by omega
  subst e0;subst e0';simp [Instr.sliceAt,Instr.slice,hu,Instr.sliceBounds,hs]
 ·exact absurd ⟨s3,by rw [o2];rfl⟩ vI
 ·refine⟨cap,by omega,gQ _,?_⟩;have e0:ln=0:=by omega
  subst e0;have:hn<=cap:=by omega
  simp [Instr.sliceAt,Instr.slice,hu,Instr.sliceBounds,hs,Instr.sliceBound,asIntOf,this]
 ·refine⟨mn,by omega,by omega,?_⟩;have e0:ln=0:=by omega
  subst e0;have h1:hn<=mn:=by omega
  have h2:mn<=cap:=by omega
  exact aqA
 ·refine⟨cap,by omega,gQ _,?_⟩;have e0':hn=len:=by omega
  subst e0';have h1:ln<=hn:=by omega
  simp [Instr.sliceAt,Instr.slice,hu,Instr.sliceBounds,hs,Instr.sliceBound,asIntOf,h1]
 ·exact absurd ⟨s3,by rw [o2];rfl⟩ vI
 ·refine⟨cap,by omega,gQ _,?_⟩;have h1:ln<=hn:=by omega
  have h2:hn<=cap:=by omega
  exact aqA
 ·refine⟨mn,by omega,by omega,?_⟩;have h1:ln<=hn:=by omega
  have h2:hn<=mn:=by omega
  have h3:mn<=cap:=by omega
  simp [Instr.sliceAt,Instr.slice,hu,Instr.sliceBounds,hs,Instr.sliceBound,asIntOf,h1,h2,h3]
def NQ(e1:tx 0 lo=some l)(e2:tx xs.length hi=some h):z6 xs lo hi=(xs.take h.toNat).drop l.toNat:=by
 cases lo with
 |none=>
  simp only [tx,Option.some.injEq]at e1;subst e1;cases hi with
  |none=>simp only [tx,Option.some.injEq]at e2;subst e2;simp [z6]
  |some x=>cases x<;>simp only [tx]at e2<;>try cases e2
           simp [z6,AV.toI]
 |some y=>
  cases y<;>simp only [tx]at e1<;>try cases e1
  cases hi with
  |none=>simp only [tx,Option.some.injEq]at e2;subst e2;simp [z6,AV.toI]
  |some x=>cases x<;>simp only [tx]at e2<;>try cases e2
           simp [z6,AV.toI]
def aLT{v:Value}(hv:aR X.K ρ F w (.aj t xs) v){l h m:Nat}(b2:l<=h)(b3:h<=xs.length):
 ∀{a:Option Addr} {cap:Nat},v= .slice a xs.length cap->h<=m->m<=cap->aR X.K ρ F w (.aj t ((xs.take h).drop l)) (.slice (if m=l then a else a.map (·.add (l*(X.K t).length))) (h- l) (m- l)):=by
 intro a cap vG DR hm2;cases hv with
 |n7=>
  injection vG with e1 e2 e3;subst e1;subst e3;have h0:h=0:=by simpa using b3
  have l0:l=0:=by omega
  have m0:m=0:=by omega
  subst h0;subst l0;subst m0;exact .n7 t
 |aj _ _ a' a0k vss hl pG oJ hk hc hr=>
  injection vG with e1 e2 e3;subst e1;subst e3;have e:(if m=l then some a' else(some a').map (·.add (l*(X.K t).length)))=some (if m=l then a' else a'.add (l*(X.K t).length)):=by split<;>rfl
  rw [e];have hlen:((xs.take h).drop l).length =h- l:=eE;have:=aR.aj (K:=X.K) (ρ:=ρ) (F:=F) (w:=w) t ((xs.take h).drop l) (if m=l then a' else a'.add (l*(X.K t).length)) (m- l) ((vss.take h).drop l) (by simp [hl]) (by rw [hlen];omega) (by omega) ?_ ?_ ?_
  ·rw [hlen]at this;exact this
  ·intro i row hi;rw [vV,u6]at hi;split at hi
   ·exact hk _ row hi
   ·cases hi
  ·intro i vs hi;rw [vV,u6]at hi;split at hi
   ·rename_i bI;obtain⟨c1,c2⟩:=hc _ vs hi;refine⟨c1,λj u hj=> ?_⟩;rw [if_neg (by omega),Ew];have:=c2 j u hj;rw [show l*(X.K t).length +(i*(X.K t).length +j)=(l+i)*(X.K t).length +j by rw [uZ];omega];exact iK
   ·cases hi
  ·intro i row vs hi gE;rw [vV,u6]at hi gE;split at hi
   ·rename_i bI;rw [if_pos bI]at gE;exact hr _ row vs hi gE
   ·cases hi
def aHj(hX:X.Okb){k:AV->aL->Option R}(h:Eu X t x lo hi mx M k=some r):
 ∃y M',k y M'=some r/\eR (tH x) M M'/\∀{v:Value} {vl vh vm:Option Value},Dz X M y M' (λρ F w=>aR X.K ρ F w x v/\ym X.K ρ F w lo vl/\ym X.K ρ F w hi vh/\ym X.K ρ F w mx vm) (Instr.sliceAt t v vl vh vm):=by
 unfold Eu at h;simp only [fF]at h;split at h
 ·rename_i e aX hu;obtain⟨i,d,z,f⟩:=hX.facts aX;have e8:=f.slice hu;split at h
  ·rename_i o xs ia;split at h
   ·rename_i l h' m e1 e2 e3;replace h:=cP h;obtain⟨h1,h⟩:=h;simp only [bA,iy,Bool.and_eq_false_iff,iT]at h1;obtain⟨⟨he,vI⟩,⟨⟨b1,b2⟩,b3⟩,b4⟩:=h1;have ahg:¬(mx.isSome=true/\hi.isNone=true):=by
     rintro⟨p,q⟩;rcases vI with hh|hh
     ·rw [p]at hh;cases hh
     ·rw [q]at hh;cases hh
    obtain⟨i2,d2,z2,f2⟩:=hX.facts he;have fU:(X.K e).length =(X.ti e).size :=CY;have eb:(h':Int)<=xs.length:=by omega
    have core:∀{ρ:bF} {F:bC} {w:World} {v:Value} {vl vh vm:Option Value},aR X.K ρ F w (.aj e xs) v->ym X.K ρ F w lo vl->ym X.K ρ F w hi vh->ym X.K ρ F w mx vm->
     ∃u,(Instr.sliceAt t v vl vh vm).run X.P w= .ok u w/\aR X.K ρ F w (.aj e (z6 xs lo hi)) u:=by
     intro ρ F w v vl vh vm hv r1 r2 r3;have vG:∃a cap,v= .slice a xs.length cap/\xs.length<=cap:=by
      cases hv with
      |n7=>exact⟨_,_,rfl,by simp⟩
      |aj _ _ a cap _ _ pG=>exact⟨_,_,rfl,pG⟩
     obtain⟨a,cap,vG,pG⟩:=vG;obtain⟨mm,m1,m2,eG⟩:=NI (P:=X.P) (size:=(X.ti e).size) e8 f2.sizeOf (a:=a) (len:=xs.length) (cap:=cap) r1 r2 r3 e1 e2 e3 ahg b1 b2 b3 b4 pG;rw [vG];refine⟨_,eG,?_⟩;rw [NQ e1 e2,<-fU];exact aLT hv (by omega) (by omega) vG m1 m2
    split at h
    ·rename_i t' jd;replace h:=cP h;obtain⟨h2,h⟩:=h;rw [iA]at h2;subst h2;simp only [fF,rowsOf,Option.some.injEq,Prod.mk.injEq]at ia;obtain⟨_,rfl⟩:=ia;refine⟨_,_,h,eR.refl _ _,λ{v vl vh vm w0 S F ρ w} hI hh=> ?_⟩;obtain⟨hv,r1,r2,r3⟩:=hh;obtain⟨u,h3,h4⟩:=core hv r1 r2 r3;exact⟨u,w,ρ,F,h3,hI,Grow.refl _ _ _,h4⟩
    ·simp only [fF,rowsOf,Option.some.injEq,Prod.mk.injEq]at ia;obtain⟨_,rfl⟩:=ia;refine⟨_,_,h,eR.refl _ _,λ{v vl vh vm w0 S F ρ w} hI hh=> ?_⟩;obtain⟨hv,r1,r2,r3⟩:=hh;cases hv;simp only [tG]at eb e2 e3 b4;obtain⟨mm,m1,m2,eG⟩:=NI (P:=X.P) (size:=(X.ti e).size) e8 f2.sizeOf (a:=none) (len:=0) (cap:=0) r1 r2 r3 e1 e2 e3 ahg b1 b2 b3 b4 (gQ _);refine⟨_,w,ρ,F,eG,hI,Grow.refl _ _ _,?_⟩;have l0:l.toNat=0:=by omega
     have h0:h'.toNat=0:=by omega
     have m0:mm=0:=by omega
     rw [l0,h0,m0];exact .jX
    ·rename_i id;split at h
     ·rename_i t' jd hb;replace h:=cP h;obtain⟨h2,h⟩:=h;rw [iA]at h2;subst h2;simp only [fF,rowsOf,hb,Option.some.injEq,Prod.mk.injEq]at ia;obtain⟨_,rfl⟩:=ia;refine⟨_,_,h,((eR.set _ _ _).trans (eR.push [] _ _)).mono (by simp [tH]),λ{v vl vh vm w0 S F ρ w} hI hh=> ?_⟩;obtain⟨hv,r1,r2,r3⟩:=hh;cases hv with
      |ak _ hd bf=>
       obtain⟨q1,q2,q3⟩:=hI.rep id _ hd hb bf;have vG:∃a cap,hd.v= .slice a jd.length cap/\jd.length<=cap:=by
        rcases q3 with⟨q3,q4⟩|⟨g,o,c,cur,q3,_,q4,_⟩
        ·subst q4;exact⟨_,_,q3,gQ _⟩
        ·exact⟨_,_,q3,q4⟩
       obtain⟨a,cap,vG,pG⟩:=vG;obtain⟨mm,m1,m2,eG⟩:=NI (P:=X.P) (size:=(X.ti e).size) e8 f2.sizeOf (a:=a) (len:=jd.length) (cap:=cap) r1 r2 r3 e1 e2 e3 ahg b1 b2 b3 b4 pG;rw [vG];have hlen:(z6 jd lo hi).length =h'.toNat- l.toNat:=by rw [NQ e1 e2];simp;omega
       have P5:∀du:Hd,du.v= .slice (if mm=l.toNat then a else a.map (·.add (l.toNat*(X.ti e).size))) (h'.toNat- l.toNat) (mm- l.toNat)->du.sz=(X.K e).length ->
        Inv X w0 S F (ρ++[du]) (M.set id .dead ++[.row e (z6 jd lo hi)]) w:=by
        intro du jC dR;have Dp:∀g,du.dE=some g->hd.dE=some g:=by
         intro g hg;simp only [Hd.dE,jC,vG]at hg⊢;cases a with
         |none=>split at hg<;>simp [Value.dE]at hg
         |some a=>
          split at hg
          ·exact hg
          ·simp only [ox,Value.dE,Option.some.injEq]at hg⊢;rw [<-hg];unfold Addr.add;split<;>rfl
        refine hI.move hb rfl bf (w':=w) (row:=none) ⟨rfl,rfl,rfl,gQ _,λ_ _ _=>rfl⟩ (.inl rfl) (λg hg=>⟨(hI.sep id _ hd g hb rfl bf (Dp g hg)).1,.inl (Dp g hg)⟩) (by rw [jC];rfl) ?_;refine⟨dR,λi row eJ=> ?_,?_⟩
        ·rw [NQ e1 e2,vV,u6]at eJ;split at eJ
         ·exact q2 _ row eJ
         ·cases eJ
        ·rcases q3 with⟨q3,q4⟩|⟨g,o,c,cur,q3,hg,q4,q5,q6,q7⟩
         ·subst q4;rw [q3]at vG;injection vG with a1 a2 a3;subst a1;subst a3;simp only [tG]at b4 eb;have l0:l.toNat=0:=by omega
          have h0:h'.toNat=0:=by omega
          have m0:mm=0:=by omega
          refine .inl ⟨?_,by rw [NQ e1 e2];simp⟩;rw [jC,l0,h0,m0];rfl
         ·rw [q3]at vG;injection vG with a1 a2 a3;subst a1;subst a3;refine .inr ⟨g,if mm=l.toNat then o else o+l.toNat*(X.ti e).size,mm- l.toNat,cur,?_,hg,by rw [hlen];omega,by omega,?_,λi row eJ j y hy=> ?_⟩
          ·rw [jC,hlen];split
           ·rfl
           ·rw [ox,oX]
          ·rw [dR,fU];rw [q1,fU]at q6;split
           ·rename_i heq;rw [heq,J3,Nat.zero_mul];have:=qR (c*(X.ti e).size);omega
           ·have k1:l.toNat+(mm- l.toNat)<=c:=by omega
            have k2:=uh (X.ti e).size k1;rw [uZ]at k2;omega
          ·have oR:=(dX.1 eJ).1;rw [hlen]at oR;rw [NQ e1 e2,vV,u6]at eJ;split at eJ
           ·obtain⟨u,AF,ru⟩:=q7 _ row eJ j y hy;refine⟨u,?_,ru.mono (λ_ _ h=>ou h) (λ_ h=>h) (λ_ _ _ h=>h)⟩;rw [if_neg (by omega),dR,fU];rw [q1,fU]at AF;rw [show o+l.toNat*(X.ti e).size +i*(X.ti e).size +j=o+(l.toNat+i)*(X.ti e).size +j by rw [uZ];omega];exact AF
           ·cases eJ
       refine⟨_,w,_,F,eG,P5 ⟨_,(X.K e).length⟩ rfl rfl,⟨λ_ h=>h,λ_ _ h=>ou h,λ_ _=>rfl⟩,?_⟩;exact Cs (M:=M) (hd:=⟨_,(X.K e).length⟩) hI.len
     ·rename_i t' jd hb;replace h:=cP h;obtain⟨h2,h⟩:=h;rw [iA]at h2;subst h2;simp only [fF,rowsOf,hb,Option.some.injEq,Prod.mk.injEq]at ia;obtain⟨_,rfl⟩:=ia;refine⟨_,_,h,eR.refl _ _,λ{v vl vh vm w0 S F ρ w} hI hh=> ?_⟩;obtain⟨hv,r1,r2,r3⟩:=hh;cases hv with
      |ak _ hd bf=>
       obtain⟨u,h3,h4⟩:=core (hI.rep id _ hd hb bf) r1 r2 r3;exact⟨u,w,ρ,F,h3,hI,Grow.refl _ _ _,h4⟩
     ·exact aM
    ·exact aM
   ·exact aM
  ·exact aM
 ·cases h
def Hg(X:Cx)(t:TypeId)(x:AV)(lo hi:Option AV)(M:aL)(k:AV->Option R):Option R:=
 match x with
 | .ak id=>
   match(X.ti t).ok,(X.ti t).u with
   |true,.slice e=>
    match gm M id with
    |some (.row t' xs)=>
     match tx 0 lo,tx xs.length hi with
     |some l,some h=>a8 (((X.ti e).ok &&e==t')&&(decide (0<=l)&&decide (l<=h)&&decide (h<=(xs.length:Int)))) (k (.vw id l.toNat (h.toNat- l.toNat)))
     |_,_=>none
    |_=>none
   |_,_=>none
 |_=>none
def aH1(hX:X.Okb){k:AV->Option R}(h:Hg X t x lo hi M k=some r):
 ∃y,k y=some r/\∀{w0:World} {S:Sc} {F:bC} {ρ:bF} {w:World} {v:Value} {vl vh:Option Value},Inv X w0 S F ρ M w->aR X.K ρ F w x v->ym X.K ρ F w lo vl->ym X.K ρ F w hi vh->
  ∃u,(Instr.sliceAt t v vl vh none).run X.P w= .ok u w/\aR X.K ρ F w y u:=by
 unfold Hg at h;simp only [fF]at h;split at h
 ·rename_i id;split at h
  ·rename_i e aX hu;obtain⟨i,d,z,f⟩:=hX.facts aX;have e8:=f.slice hu;split at h
   ·rename_i t' xs hb;split at h
    ·rename_i l h' e1 e2;replace h:=cP h;obtain⟨h1,h⟩:=h;simp only [bA,iT,iA]at h1;obtain⟨⟨he,rfl⟩,⟨b1,b2⟩,b3⟩:=h1;obtain⟨i2,d2,z2,f2⟩:=hX.facts he;have fU:(X.K e).length =(X.ti e).size :=CY;refine⟨_,h,λ{w0 S F ρ w v vl vh} hI hv r1 r2=> ?_⟩;cases hv with
     |ak _ hd bf=>
      obtain⟨q1,q2,q3⟩:=hI.rep id _ hd hb bf;rcases q3 with⟨q3,q4⟩|⟨g,o,c,cur,q3,_,q4,_⟩
      ·subst q4;simp only [tG]at b3 e2;obtain⟨mm,m1,m2,eG⟩:=NI (P:=X.P) (K:=X.K) (ρ:=ρ) (F:=F) (w:=w) (mx:=none) (vm:=none) (size:=(X.ti e).size) e8 f2.sizeOf (a:=none) (len:=0) (cap:=0) r1 r2 trivial e1 e2 rfl (by simp) b1 b2 b3 (vR _) (gQ _);rw [q3];refine⟨_,eG,?_⟩;have l0:l.toNat=0:=by omega
       have h0:h'.toNat=0:=by omega
       have m0:mm=0:=by omega
       rw [l0,h0,m0];exact .zu id 0
      ·obtain⟨mm,m1,m2,eG⟩:=NI (P:=X.P) (K:=X.K) (ρ:=ρ) (F:=F) (w:=w) (mx:=none) (vm:=none) (size:=(X.ti e).size) e8 f2.sizeOf (a:=some ⟨g,o,none⟩) (len:=xs.length) (cap:=c) r1 r2 trivial e1 e2 rfl (by simp) b1 b2 b3 (vR _) q4;rw [q3];refine⟨_,eG,?_⟩
       by_cases hm:mm=l.toNat
       ·rw [if_pos hm,show h'.toNat- l.toNat=0 by omega];exact .zt id _ _ _
       ·rw [if_neg hm,ox,oX,<-fU,<-q1];exact .vw id l.toNat _ hd g o xs.length c _ bf q3 (by omega) (by omega)
    ·exact aM
   ·exact aM
  ·exact aM
 ·cases h
end
end Go.ah
namespace Go.ah
def avq{p:Prop}(h:p:=by
 intro k u L3;have uS:=(dX.1 L3).1;rw [yF]at uS;have hi:k/(X.K e).length <vss.length:=Nat.div_lt_of_lt_mul (by rw [amV];exact uS);have hj:k %(X.K e).length <(X.K e).length :=Nat.mod_lt _ sy;have oQ:k=k/(X.K e).length *(X.K e).length +k %(X.K e).length :=by rw [amV];exact(Nat.div_add_mod k _).symm
 have oP:vss[k/(X.K e).length]?=some (vss[k/(X.K e).length]'hi):=c8 hi;have hyi:ys[k/(X.K e).length]?=some (ys[k/(X.K e).length]'(by omega)):=c8 (by omega);have hg:=Ug vss hlen _ (k %(X.K e).length) _ oP hj;rw [<-oQ]at hg;rw [L3]at hg;have yB:=lQ (hk _ _ hyi);exact⟨_,_,_,_,_,oQ,hyi,oP,c8 (by rw [yB];exact hj),hg.symm⟩):p:=h
def asv{p:Prop}(h:p:=by
 have oP:vss[i]?=some (vss[i]'(by omega)):=c8 (by omega);have hj:=(dX.1 hy).1;have yB:=lQ (hk i row hi);obtain⟨⟨r1,r2⟩,_⟩:=gE i row _ hi oP;have hu:(vss[i]'(by omega))[j]?=some ((vss[i]'(by omega))[j]'(by omega)):=c8 (by omega);exact⟨_,by rw [Ug vss hlen i j _ oP (by omega)];exact hu,r2 j y _ hy hu⟩):p:=h
def asm{p:Prop}(h:p:=by
 intro i vs hi;have oR:=(dX.1 hi).1;obtain⟨⟨r1,_⟩,_⟩:=gE i (ys[i]'(by omega)) vs (c8 (by omega)) hi;rw [r1,lQ (hk i _ (c8 (by omega)))]):p:=h
def asa{p:Prop}(h:p:=by
 simp only [tG,Cw,rF]at rB eG;refine⟨_,_,_,F,eG,rB.1,rB.2,?_⟩;exact Cs (M:=M) (hd:=⟨_,(X.K e).length⟩) hI.len):p:=h
def ar6{p:Prop}(h:p:=by
 cases o with
 |none=>exact .inr ⟨rfl,by simpa using X4⟩
 |some e'=>left;simp only [iA]at X4;rw [X4]):p:=h
def OZ{p:Prop}(h:p:=by simp [Hd.dE,Value.dE,q3]):p:=h
def aeX{p:Prop}(h:p:=by cases a<;>simp [Builtin.firstCells,loadCells,loadCellsFrom]):p:=h
def Vq{p:Prop}(h:p:=by simp [Hd.dE,Value.dE]at hg):p:=h
def aqP{p:Prop}(h:p:=by
 have:xs.length*(X.K e).length <=i*(X.K e).length :=uh _ (by omega);omega):p:=h
def Vn{p:Prop}(h:p:=by simp [Builtin.firstCells]):p:=h
def Vj{p:Prop}(h:p:=by exact⟨u,AF,ru.grow pd⟩):p:=h
def ap2{p:Prop}(h:p:=by exact Cs (M:=M) (hd:=⟨.slice none 0 0,(X.K e).length⟩) hI.len):p:=h
end Go.ah
namespace Go.ah
def rF:=@List.nil_append
def Cr:=@List.eq_nil_of_length_eq_zero
def TX:=@List.getElem?_cons_zero
def N9:=@Array.getElem?_append_left
def amV:=@Nat.mul_comm
end Go.ah
namespace Go.ah
open Go
noncomputable section
variable {X:Cx} {R:Type}
variable {w0 w w':World} {S:Sc} {F:bC} {ρ:bF} {M:aL}
variable{x:AV}{c m n:Nat}{P:Program}{e t ty u:TypeId}{i:TypeInfo}{v:Value}{ys:aE}{news:jb}
def Ug{α:Type}{sz:Nat}:∀(vss:List (List α)),(∀(i:Nat) vs,vss[i]?=some vs->vs.length=sz)->∀(i j:Nat) vs,vss[i]?=some vs->j<sz->vss.flatten[i*sz+j]?=vs[j]?
 | [],_,i,j,vs,h,_=>jY
 |v::vss,hl,0,j,vs,h,hj=>by
  simp at h;subst h;have:=hl 0 v rfl;rw [GH,kV (by omega)];simp
 |v::vss,hl,i+1,j,vs,h,hj=>by
  have h0:=hl 0 v rfl;rw [GH,nT (by rw [h0,uZ];omega),h0];rw [show(i+1)*sz+j- sz=i*sz+j by rw [uZ];omega];exact Ug vss (λi vs h=>hl (i+1) vs (mU)) i j vs (mU) hj
def Tk{α:Type}{sz:Nat}:∀(vss:List (List α)),(∀(i:Nat) vs,vss[i]?=some vs->vs.length=sz)->vss.flatten.length=vss.length*sz
 | [],_=>by simp
 |v::vss,hl=>by
  rw [GH,fI,hl 0 v rfl,Tk vss (λi vs h=>hl (i+1) vs (mU)),mh,uZ];omega
def alU(hI:Inv X w0 S F ρ M w){o:Option TypeId}(h:rowsOf M x=some (o,ys))(ho:o=some e∨(o=none/\ys=[]))(hv:aR X.K ρ F w x v)(sy:0<(X.K e).length):
 (∀(i:Nat) row,ys[i]?=some row->dq (X.K e) row=true)/\
 ∃a c,v= .slice a ys.length c/\∃news:jb,news.length=ys.length*(X.K e).length /\(∀u∈news,u.oneCell'=true)/\
  (∀w2:World,w2.heap=w.heap->(Builtin.firstCells (X.K e).length ys.length v).run X.P w2= .ok news.toArray w2)/\
  ∀(i:Nat) row,ys[i]?=some row->∀(j:Nat) y,row[j]?=some y->∃u,news[i*(X.K e).length +j]?=some u/\aR X.K ρ F w y u:=by
 rcases ho with rfl|⟨rfl,rfl⟩
 ·obtain⟨hk,hc⟩:=alc hI h hv;refine⟨hk,?_⟩;rcases hc with⟨rfl,rfl⟩|⟨a,c,rfl,vss,hl,gE⟩
  ·exact⟨none,0,rfl,[],by simp,by simp,λw2 _=>Vn,λi row h=>jY⟩
  ·have hlen:∀(i:Nat) vs,vss[i]?=some vs->vs.length=(X.K e).length :=asm;have yF:=Tk vss hlen;have Hc:∀(k:Nat) u,vss.flatten[k]?=some u->∃i j,∃(row:Row) (vs:jb) (y:AV),k=i*(X.K e).length +j/\ys[i]?=some row/\vss[i]?=some vs/\row[j]?=some y/\vs[j]?=some u:=avq;refine⟨some a,c,rfl,vss.flatten,by rw [yF,hl],λu hu=> ?_,λw2 hw2=> ?_,λi row hi j y hy=> ?_⟩
   ·obtain⟨k,k7⟩:=Cp hu;obtain⟨i,j,row,vs,y,_,h1,h2,h3,h4⟩:=Hc k u k7;exact Jv ((gE i row vs h1 h2).1.2 j y u h3 h4) (acy (hk i row h1) h3) hI.one
   ·have:=run_firstCells_some (P:=X.P) w2 (X.K e).length ys.length a ys.length c vss.flatten (by rw [yF,hl]) (λk u L3=>by
     obtain⟨i,j,row,vs,y,oQ,h1,h2,h3,h4⟩:=Hc k u L3;have hc:=(gE i row vs h1 h2).2 j u h4;rw [Ew,<-oQ]at hc;unfold World.cell? at hc⊢;rw [hw2];exact hc)
    exact iK
   ·have oR:=(dX.1 hi).1;exact asv
 ·obtain⟨a,c,rfl⟩:=aca hI h hv;refine⟨λi row h=>jY,a,c,rfl,[],by simp,by simp,λw2 _=> ?_,λi row h=>jY⟩;simp only [tG];exact aeX
def O5(s:ByteArray):aE:=s.data.toList.map λb=>[.int .u8 b.toNat]
def VR:AU->AV->Bool
 | .str,.str _=>true
 | .slice _,.str _=>false
 | .slice _,_=>true
 |_,_=>false
def VS(X:Cx)(M:aL)(e:TypeId)(x:AV):Option aE:=
 match x with
 | .str s=>(match X.K e with| [.int .u8]=>some (O5 s)|_=>none)
 |x=>match rowsOf M x with
  |some (o,ys)=>(match(match o with|some e'=>e==e'|none=>ys.isEmpty)with|true=>some ys|false=>none)
  |none=>none
def am6{t:AU}(h:VR t x=true):t= .str ∨∃e,t= .slice e:=by
 unfold VR at h;split at h
 ·exact .inl rfl
 ·exact aM
 ·exact .inr ⟨_,rfl⟩
 ·exact aM
def an4{d:TypeDesc}(h:rP d= .str ∨∃e,rP d= .slice e):d= .string ∨∃e,d= .slice e:=by
 cases d<;>first
  |exact .inl rfl
  |exact .inr ⟨_,rfl⟩
  |(rcases h with h|⟨e,h⟩<;>cases h)
structure aZ7(X:Cx)(ρ:bF)(F:bC)(w:World)(e u:TypeId)(ys:aE)(v:Value):Prop where
 len:Builtin.lenOf v=pure ys.length
 ty:∃d,X.P.underlying u=some d/\(d= .string ∨∃e,d= .slice e)
 ks:∀(i:Nat) row,ys[i]?=some row->dq (X.K e) row=true
 news:∃news:jb,news.length=ys.length*(X.K e).length /\(∀u∈news,u.oneCell'=true)/\
  (∀w2:World,w2.heap=w.heap->(Builtin.firstCells (X.K e).length ys.length v).run X.P w2= .ok news.toArray w2)/\
  ∀(i:Nat) row,ys[i]?=some row->∀(j:Nat) y,row[j]?=some y->∃u,news[i*(X.K e).length +j]?=some u/\aR X.K ρ F w y u
def am5(hX:X.Okb)(hI:Inv X w0 S F ρ M w)(hu:(X.ti u).ok =true)(hs:VR (X.ti u).u x=true)(h:VS X M e x=some ys)(hv:aR X.K ρ F w x v)(sy:0<(X.K e).length):aZ7 X ρ F w e u ys v:=by
 obtain⟨i1,d1,z1,f1⟩:=hX.facts hu;have LW:=f1.od;have Iy:=f1.u
 by_cases avH:∃s,x= .str s
 ·obtain⟨s,rfl⟩:=avH;cases hv;simp only [VS]at h;split at h
  ·rename_i hK;injection h with h;subst h;have hl:(O5 s).length =s.size:=by rw [O5,dW,sS];rfl
   have hg:∀(i:Nat) row,(O5 s)[i]?=some row->∃b,s.data.toList[i]?=some b/\row=[.int .u8 b.toNat]:=by
    intro i row hi;unfold O5 at hi;rw [kW]at hi;cases hb:s.data.toList[i]? with
    |none=>rw [hb]at hi;cases hi
    |some b=>rw [hb]at hi;injection hi with hi;exact⟨b,rfl,hi.symm⟩
   refine⟨by rw [hl];rfl,⟨d1,LW,?_⟩,λi row hi=> ?_,s.data.toList.map λb=> .int .u8 b.toNat,by rw [hl,hK,dW,sS];exact(Nat.mul_one _).symm,λu hu=> ?_,λw2 _=> ?_,λi row hi j y hy=> ?_⟩
   ·exact an4 (Iy▸am6 hs)
   ·obtain⟨b,_,rfl⟩:=hg i row hi;rw [hK];rfl
   ·obtain⟨b,_,rfl⟩:=wL.1 hu;rfl
   ·rw [hl];show(pure ((s.extract 0 s.size).data.map λb=>Value.int .u8 b.toNat):Sem (Array Value)).run X.P w2=_;rw [ByteArray.extract_zero_size,mQ]
    congr 1
    apply Ek;simp
   ·obtain⟨b,hb,rfl⟩:=hg i row hi;cases j with
    |zero=>
     simp only [TX,Option.some.injEq]at hy;subst hy;exact⟨.int .u8 b.toNat,by rw [hK];simp [hb],.int _ _⟩
    |succ j=>simp at hy
  ·exact aM
 ·have hx:VS X M e x=(match rowsOf M x with|some (o,ys)=>(match(match o with|some e'=>e==e'|none=>ys.isEmpty)with|true=>some ys|false=>none)|none=>none):=by
   cases x<;>first
    |rfl
    |exact absurd ⟨_,rfl⟩ avH
  rw [hx]at h;split at h
  ·rename_i o Qj ia;split at h
   ·rename_i X4;injection h with h;subst h;have ho:o=some e∨(o=none/\Qj=[]):=ar6;obtain⟨hk,a,c,rfl,news,h1,h2,h3,h4⟩:=alU hI ia ho hv sy;refine⟨rfl,⟨d1,LW,?_⟩,hk,news,h1,h2,h3,h4⟩;exact an4 (Iy▸am6 hs)
   ·exact aM
  ·exact aM
def adx(X:Cx)(ts:vg)(s x:AV)(M:aL)(k:AV->aL->Option R):Option R:=
 match ts with
 | [t,u]=>
   match(X.ti t).ok,(X.ti t).u,(X.ti u).ok,VR (X.ti u).u x with
   |true,.slice e,true,true=>
    match VS X M e x with
    |some ys=>
     a8 ((X.ti e).ok &&decide (0<(X.ti e).size)&&decide (0<(X.ti e).bytes))
      (match s with
       | .jX =>a8 (decide (ys.length*(X.ti e).bytes <=140737488355328)) (k (.ak M.length) (M++[.row e ys]))
       | .ak id=>
         match gm M id with
         |some (.row e' xs)=>a8 (e==e'&&decide ((xs.length+ys.length)*(X.ti e).bytes <=140737488355328)) (k (.ak M.length) (M.set id .dead ++[.row e (xs++ys)]))
         |_=>none
       |_=>none)
    |none=>none
   |_,_,_,_=>none
 |_=>none
def aGZ(ht:P.underlying t=some (.slice e))(hu:∃d,P.underlying u=some d/\(d= .string ∨∃e,d= .slice e))(hi:P.info? e=some i)
 {g o:Nat} {cur:Array Value} (hg:w.heap[g]?=some (.cells cur e (0,0)))   (hlen:Builtin.lenOf v=pure m)  (hl:news.length=m*i.size)
 (hf:(Builtin.firstCells i.size m v).run P w= .ok news.toArray w) (h1:∀u∈news,u.oneCell'=true) (KV:n+m<=c) (tQ:o+n*i.size+news.length<=cur.size):
 (Builtin.append_ #[t,u] ty #[.slice (some ⟨g,o,none⟩) n c,v]).run P w=
   .ok (.slice (some ⟨g,o,none⟩) (n+m) c) (w.setRow g (cur.toList.take (o+n*i.size)++news++cur.toList.drop (o+n*i.size+news.length)).toArray):=by
 have fK:=T0 P g (o+n*i.size) e news 0 cur w hg (by simpa using tQ) h1;simp only [CB]at fK;obtain⟨d,hd,rfl|⟨e2,rfl⟩⟩:=hu<;>simp [Builtin.append_,mz ht,mz hd,sizeOf,typeInfo,hi,hlen,KV,hf,oX,fK]
def ajp(ht:P.underlying t=some (.slice e))(hu:∃d,P.underlying u=some d/\(d= .string ∨∃e,d= .slice e))(hi:P.info? e=some i)(hlen:Builtin.lenOf v=pure 0)
 (hf:(Builtin.firstCells i.size 0 v).run P w= .ok #[] w):
 (Builtin.append_ #[t,u] ty #[.slice none 0 0,v]).run P w= .ok (.slice none 0 0) w:=by
 obtain⟨d,hd,rfl|⟨e2,rfl⟩⟩:=hu<;>simp [Builtin.append_,mz ht,mz hd,sizeOf,typeInfo,hi,hlen,hf]
def aa2{z:Value}(ht:P.underlying t=some (.slice e))(hu:∃d,P.underlying u=some d/\(d= .string ∨∃e,d= .slice e))(hi:P.info? e=some i)(hz:i.zero=some z)
 {b:Option Addr}  {olds:jb} (rC:(Builtin.firstCells i.size n (.slice b n c)).run P w.drew= .ok olds.toArray w.drew)
   (hlen:Builtin.lenOf v=pure m)  (hf:(Builtin.firstCells i.size m v).run P w.drew= .ok news.toArray w.drew) (hn:¬n+m<=c) (h63:n+m<=maxLen)
 (tQ:Builtin.nextslicecap (n+m) c*i.bytes<=281474976710656):
 (Builtin.append_ #[t,u] ty #[.slice b n c,v]).run P w=
   .ok (.slice (some ⟨w.heap.size,0,none⟩) (n+m) (grownCap w (n+m) c e))
    (w.drew.alloc (.cells (olds.toArray++news.toArray++Builtin.zeroCells z.cells (grownCap w (n+m) c e-(n+m))) e)):=by
 have aZl:¬(9223372036854775807<((n:Int)+(m:Int))):=by simp only [maxLen]at h63;omega
 have aZn:¬(281474976710656<Builtin.nextslicecap (n+m) c*i.bytes):=by omega
 obtain⟨d,hd,rfl|⟨e2,rfl⟩⟩:=hu<;>(
  simp [Builtin.append_,mz ht,mz hd,sizeOf,typeInfo,zeroValue,hi,hz,hlen,hn,aZl,aZn,Question.forced,hf,rC,newRow,grownCap]
  congr 2
  apply Ek;simp [pN])
def aGp(hX:X.Okb){ts:vg}{s:AV}{k:AV->aL->Option R}{r:R}(h:adx X ts s x M k=some r):
 ∃y M',k y M'=some r/\eR (tH s) M M'/\∀{vs vx:Value},Dz X M y M' (λρ F w=>aR X.K ρ F w s vs/\aR X.K ρ F w x vx) (Builtin.append_ ts.toArray ty #[vs,vx]):=by
 unfold adx at h;simp only [fF]at h;split at h
 ·rename_i t u;split at h
  ·rename_i e aX hu HS hsk;split at h
   ·rename_i ys ia;replace h:=cP h;obtain⟨h1,h⟩:=h;simp only [bA,iT]at h1;obtain⟨⟨he,sy⟩,Q5⟩:=h1;obtain⟨i,d,z,f⟩:=hX.facts aX;obtain⟨i2,d2,z2,f2⟩:=hX.facts he;have ht:=f.slice hu;have pF:(X.K e).length =i2.size:=f2.ks;have afQ:0<(X.K e).length :=by rw [pF,<-f2.size];exact sy
    have a0g:0<i2.bytes:=by rw [<-f2.bytes];exact Q5
    have uN:z2.cells.size=i2.size:=f2.zs;have bound:∀n:Nat,n*(X.ti e).bytes <=140737488355328->n<=maxLen:=by
     intro n hn;refine N4 (pz ?_ hn);exact TY _ Q5
    have fresh:∀{w0:World} {S:Sc} {F:bC} {ρ:bF} {w:World} {M2:aL} (xs:aE) (olds news:jb) (c:Nat),Inv X w0 S F ρ M2 w->
     (∀(i:Nat) row,(xs++ys)[i]?=some row->dq (X.K e) row=true)->olds.length=xs.length*(X.K e).length ->news.length=ys.length*(X.K e).length ->
     (∀(i:Nat) row,xs[i]?=some row->∀(j:Nat) y,row[j]?=some y->∃u,olds[i*(X.K e).length +j]?=some u/\aR X.K ρ F w y u)->
     (∀(i:Nat) row,ys[i]?=some row->∀(j:Nat) y,row[j]?=some y->∃u,news[i*(X.K e).length +j]?=some u/\aR X.K ρ F w y u)->xs.length+ys.length<=maxLen->
     Inv X w0 S F (ρ++[⟨.slice (some ⟨w.heap.size,0,none⟩) (xs.length+ys.length) (grownCap w (xs.length+ys.length) c e),(X.K e).length⟩]) (M2++[.row e (xs++ys)])
      (w.drew.alloc (.cells (olds.toArray++news.toArray++Builtin.zeroCells z2.cells (grownCap w (xs.length+ys.length) c e-(xs.length+ys.length))) e))/\
     Grow F F ρ (ρ++[⟨.slice (some ⟨w.heap.size,0,none⟩) (xs.length+ys.length) (grownCap w (xs.length+ys.length) c e),(X.K e).length⟩]) w
      (w.drew.alloc (.cells (olds.toArray++news.toArray++Builtin.zeroCells z2.cells (grownCap w (xs.length+ys.length) c e-(xs.length+ys.length))) e)):=by
     intro w0 S F ρ w M2 xs olds news c hI hk QX zJ nO AH oJ;have pG:=grownCap_ge w (xs.length+ys.length) c e;have:=hI.newRow (t:=e) (xs:=xs++ys) (cur:=olds.toArray++news.toArray++Builtin.zeroCells z2.cells (grownCap w (xs.length+ys.length) c e-(xs.length+ys.length))) (c:=grownCap w (xs.length+ys.length) c e)
      hk (by rw [fI];exact pG) (grownCap_le_maxLen w _ c e oJ)
      (by
        simp only [Array.size_append,J7,size_zeroCells,QX,zJ,uN,<-pF,<-uZ];rw [show xs.length+ys.length+(grownCap w (xs.length+ys.length) c e-(xs.length+ys.length))=grownCap w (xs.length+ys.length) c e by omega];exact gQ _)
      (λi row hi j y hy=>by
        have hj:=(dX.1 hy).1;have yB:=lQ (hk i row hi)
        by_cases Q0:i<xs.length
        ·rw [kV Q0]at hi;obtain⟨u,h1,h2⟩:=nO i row hi j y hy;have bI:=(dX.1 h1).1;refine⟨u,?_,h2⟩;rw [Array.append_assoc,N9 (OR)];exact y9
        ·rw [nT (by omega)]at hi;obtain⟨u,h1,h2⟩:=AH (i- xs.length) row hi j y hy;have bI:=(dX.1 h1).1;refine⟨u,?_,h2⟩;have e0:i*(X.K e).length +j- olds.length=(i- xs.length)*(X.K e).length +j:=by
          rw [QX,Nat.sub_mul];exact aqP
         have L6:olds.length<=i*(X.K e).length +j:=by
          rw [QX];exact aqP
         rw [Array.append_assoc,Array.getElem?_append_right (by simpa using L6)];simp only [J7];rw [e0,N9 (OR)];simpa using h1)
      (w':=w.drew) ⟨rfl,rfl,rfl,gQ _,λ_ _ _=>rfl⟩ rfl
     rw [fI]at this;exact this
    split at h
    ·replace h:=cP h;obtain⟨hb,h⟩:=h;simp only [iT]at hb;refine⟨_,_,h,eR.push _ _ _,λ{vs vx w0 S F ρ w} hI hh=> ?_⟩;obtain⟨hs,hx⟩:=hh;cases hs;obtain⟨hlen,rZ,hk,news,rA,qz,IJ,AH⟩:=am5 hX hI HS hsk ia hx afQ
     by_cases hm:ys.length=0
     ·have hys:ys=[]:=Cr hm;subst hys;have L2:news=[]:=Cr (by simpa using rA);subst L2;have sJ:=IJ w rfl;rw [pF]at sJ;have eG:=ajp (w:=w) (ty:=ty) ht rZ f2.info hlen sJ;refine⟨_,w,ρ++[⟨.slice none 0 0,(X.K e).length⟩],F,eG,hI.EP (λg hg=>Vq) rfl ⟨rfl,λi row h=>jY,.inl ⟨rfl,rfl⟩⟩,⟨λ_ h=>h,λ_ _ h=>ou h,λ_ _=>rfl⟩,?_⟩;exact ap2
     ·have oJ:=bound _ hb;have sJ:=IJ w.drew rfl;rw [pF]at sJ;have eG:=aa2 (w:=w) (ty:=ty) ht rZ f2.info f2.zero (b:=none) (n:=0) (c:=0) (olds:=[]) (Vn) hlen sJ (by omega) (by omega) (by rw [Cw,nextslicecap_zero (by omega),<-f2.bytes];omega);have rB:=fresh [] [] news 0 hI (Kw) (by simp) rA (λi row h=>jY) AH (by simpa using oJ);exact asa
    ·rename_i id;split at h
     ·rename_i e' xs hb;replace h:=cP h;obtain⟨h2,h⟩:=h;simp only [bA,iA,iT]at h2;obtain⟨rfl,qf⟩:=h2;refine⟨_,_,h,((eR.set _ _ _).trans (eR.push [] _ _)).mono (by simp [tH]),λ{vs vx w0 S F ρ w} hI hh=> ?_⟩;obtain⟨hs,hx⟩:=hh;cases hs with
      |ak _ hd bf=>
       obtain⟨hlen,rZ,hk,news,rA,qz,IJ,AH⟩:=am5 hX hI HS hsk ia hx afQ;obtain⟨q1,q2,q3⟩:=hI.rep id _ hd hb bf;have oQ:∀(i:Nat) row,(xs++ys)[i]?=some row->dq (X.K e) row=true:=by
        intro i row hi
        by_cases Q0:i<xs.length
        ·rw [kV Q0]at hi;exact q2 i row hi
        ·rw [nT (by omega)]at hi;exact hk _ row hi
       have oJ:=bound _ qf;have dead:∀{w:World},Inv X w0 S F ρ M w->Inv X w0 S F ρ (M.set id .dead) w:=by
        intro w hI;cases cX:hd.dE with
        |none=>exact hI.VX hb bf cX trivial
        |some g=>exact hI.write hb rfl bf cX ⟨rfl,rfl,rfl,gQ _,λ_ _ _=>rfl⟩ trivial
       rcases q3 with⟨q3,q4⟩|⟨g,o',c,cur,q3,hg,q4,q5,q6,q7⟩
       ·subst q4;rw [q3]
        by_cases hm:ys.length=0
        ·have hys:ys=[]:=Cr hm;subst hys;have L2:news=[]:=Cr (by simpa using rA);subst L2;have sJ:=IJ w rfl;rw [pF]at sJ;have eG:=ajp (w:=w) (ty:=ty) ht rZ f2.info hlen sJ;refine⟨_,w,ρ++[⟨.slice none 0 0,(X.K e).length⟩],F,eG,(dead hI).EP (λg hg=>Vq) rfl ⟨rfl,λi row h=>jY,.inl ⟨rfl,rfl⟩⟩,⟨λ_ h=>h,λ_ _ h=>ou h,λ_ _=>rfl⟩,?_⟩;exact ap2
        ·have sJ:=IJ w.drew rfl;rw [pF]at sJ;have eG:=aa2 (w:=w) (ty:=ty) ht rZ f2.info f2.zero (b:=none) (n:=0) (c:=0) (olds:=[]) (Vn) hlen sJ (by omega) (by simpa using oJ) (by rw [Cw,nextslicecap_zero (by omega),<-f2.bytes];simp at qf;omega);have rB:=fresh [] [] news 0 (dead hI) (Kw) (by simp) rA (λi row h=>jY) AH (by simpa using oJ);exact asa
       ·rw [q3]
        by_cases KV:xs.length+ys.length<=c
        ·have tQ:o'+xs.length*i2.size+news.length<=cur.size:=by
          rw [rA,pF];rw [q1,pF]at q6;have:=uh i2.size KV;rw [uZ]at this;omega
         have sJ:=IJ w rfl;rw [pF]at sJ;have eG:=aGZ (w:=w) (ty:=ty) ht rZ f2.info hg hlen (by rw [rA,pF]) sJ qz KV tQ;have mu:=Nk w g (cur.toList.take (o'+xs.length*i2.size)++news++cur.toList.drop (o'+xs.length*i2.size+news.length)).toArray;have cX:hd.dE=some g:=OZ;have L8:∀a,F a->a.block≠g:=(hI.sep id _ hd g hb rfl bf cX).2.2;have pd:Grow F F ρ (ρ++[⟨.slice (some ⟨g,o',none⟩) (xs.length+ys.length) c,(X.K e).length⟩]) w (w.setRow g (cur.toList.take (o'+xs.length*i2.size)++news++cur.toList.drop (o'+xs.length*i2.size+news.length)).toArray):=
          ⟨λ_ h=>h,λ_ _ h=>ou h,hI.BM mu (λk hk a ha=>Pn)⟩
         refine⟨_,_,ρ++[⟨.slice (some ⟨g,o',none⟩) (xs.length+ys.length) c,(X.K e).length⟩],F,eG,hI.move hb rfl bf (row:=some g) mu (.inr cX.symm) (λg' lx=> ?_) rfl ?_,pd,Cs (M:=M) (hd:=⟨_,(X.K e).length⟩) hI.len⟩
         ·simp [Hd.dE,Value.dE]at lx;subst lx;exact⟨by rw [size_setRow];exact(hI.sep id _ hd g hb rfl bf cX).1,.inl cX⟩
         ·refine⟨rfl,oQ,.inr ⟨g,o',c,_,by rw [fI],Oc w g cur _ e _ hg,by rw [fI];exact KV,q5,?_,λi row hi j y hy=> ?_⟩⟩
          ·rw [q1]at q6;exact aqj
          ·have hj:=(dX.1 hy).1;have yB:=lQ (oQ i row hi);rw [NS cur news _ tQ];simp only [pF]at*
           by_cases Q0:i<xs.length
           ·rw [kV Q0]at hi;obtain⟨u,AF,ru⟩:=q7 i row hi j y hy;rw [q1]at AF;have:(i+1)*i2.size<=xs.length*i2.size:=uh _ (by omega);rw [uZ,ac7]at this;rw [if_neg (by omega)];exact Vj
           ·rw [nT (by omega)]at hi;obtain⟨u,AF,ru⟩:=AH (i- xs.length) row hi j y hy;have bI:=(dX.1 AF).1;have e0:(i- xs.length)*i2.size=i*i2.size- xs.length*i2.size:=Nat.sub_mul _ _ _;have L6:xs.length*i2.size<=i*i2.size:=uh _ (by omega);rw [if_pos (by omega)];rw [show o'+i*i2.size+j-(o'+xs.length*i2.size)=(i- xs.length)*i2.size+j by omega];exact Vj
        ·have nO:∃olds:jb,olds.length=xs.length*(X.K e).length /\(∀w2:World,w2.heap=w.heap->(Builtin.firstCells (X.K e).length xs.length hd.v).run X.P w2= .ok olds.toArray w2)/\
          ∀(i:Nat) row,xs[i]?=some row->∀(j:Nat) y,row[j]?=some y->∃u,olds[i*(X.K e).length +j]?=some u/\aR X.K ρ F w y u:=by
          obtain⟨_,a',c',jC,olds,h1,_,h3,h4⟩:=alU (e:=e) hI (x:= .ak id) (o:=some e) (ys:=xs) (by simp [fF,rowsOf,hb]) (.inl rfl) (.ak _ hd bf) afQ;exact⟨olds,h1,h3,h4⟩
         obtain⟨olds,QX,rC,nO⟩:=nO;have sJ:=IJ w.drew rfl;have hf1:=rC w.drew rfl;rw [q3]at hf1;rw [pF]at sJ hf1;have eG:=aa2 (w:=w) (ty:=ty) ht rZ f2.info f2.zero hf1 hlen sJ KV (by omega) (growslice_fits (by omega) (by rw [<-f2.bytes];exact qf));have rB:=fresh xs olds news c (dead hI) oQ QX rA nO AH oJ;refine⟨_,_,_,F,eG,rB.1,rB.2,?_⟩;have:=Cs (X:=X) (M:=M) (F:=F) (w:=w.drew.alloc (.cells (olds.toArray++news.toArray++Builtin.zeroCells z2.cells (grownCap w (xs.length+ys.length) c e-(xs.length+ys.length))) e))
          (hd:=⟨.slice (some ⟨w.heap.size,0,none⟩) (xs.length+ys.length) (grownCap w (xs.length+ys.length) c e),(X.K e).length⟩) hI.len
         exact iK
     ·exact aM
    ·exact aM
   ·exact aM
  ·exact aM
 ·cases h
end
end Go.ah
namespace Go.ah
def CK{p:Prop}(h:p:=by simpa using he):p:=h
def U6{p:Prop}(h:p:=by simpa using fU):p:=h
def U2{p:Prop}(h:p:=by simpa using hm):p:=h
end Go.ah
namespace Go.ah
def nU:=@List.drop_zero
def sk:=@Go.World.putObj_heap_other
def El:=@List.take_of_length_le
def Cn:=@Array.getElem?_eq_some_iff
def ac4:=@Array.getElem?_modify
def acU:=@Go.World.putObj_heap_same
def TN:=@Go.MapKept.run_getObj_map
def amO:=@Go.MapKept.run_setObj_map
end Go.ah
namespace Go.ah
open Go Go.MapKept
noncomputable section
variable {X:Cx} {R:Type}
variable {w0 w w':World} {S:Sc} {F:bC} {ρ:bF} {M:aL}
variable{i x:AV}{k:AV->Option R}{ok:Bool}{kd:Kind}{r:R}{t:TypeId}
def yy:AV->AV->Bool
 | .int _ a,.int _ b=>a==b
 | .bool a,.bool b=>a==b
 | .str a,.str b=>a==b
 |_,_=>false
def ew:List (AV×AV)->AV->Option AV
 | [],_=>none
 |e::es,x=>match yy x e.1 with|true=>some e.2|false=>ew es x
def lY:List (AV×AV)->AV->AV->List (AV×AV)
 | [],x,y=>[(x,y)]
 |e::es,x,y=>match yy x e.1 with|true=>(x,y)::es|false=>e::lY es x y
def Fk:AU->Option Kind
 | .int k=>some (.int k)
 | .bool =>some .bool
 | .str =>some .str
 |_=>none
def qT.map{t k e:TypeId}{i:TypeInfo}{d:TypeDesc}{z:Value}(f:qT X t i d z)(h:(X.ti t).u = .map k e):X.P.underlying t=some (.map k e):=by
 have h1:=f.od;have h2:=f.u;rw [h]at h2;cases d<;>simp_all [rP]
structure aws(X:Cx)(kt:TypeId)(kd:Kind)(d:TypeDesc):Prop where
 od:X.P.underlying kt=some d
 ne:kd≠ .any
 key:∀{ρ:bF} {F:bC} {w:World} {x:AV} {v:Value},js kd x=true->aR X.K ρ F w x v->IsKey d v
 same:∀{ρ:bF} {F:bC} {w:World} {x y:AV} {v u:Value},js kd x=true->js kd y=true->aR X.K ρ F w x v->aR X.K ρ F w y u->Instr.sameNow d v u=some (yy x y)/\(yy x y=true->u=v)
def avA(hX:X.Okb){kt:TypeId}(aX:(X.ti kt).ok =true)(h:Fk (X.ti kt).u =some kd):∃d,aws X kt kd d:=by
 obtain⟨i,d,z,f⟩:=hX.facts aX;refine⟨d,f.od,?_,?_,?_⟩
 all_goals rw [f.u]at h
 ·rintro rfl;cases d<;>simp [rP,Fk]at h
 ·intro ρ F w x v hx hr;cases d<;>simp [rP,Fk]at h<;>subst h<;>cases x<;>simp [js]at hx<;>cases hr<;>simp [IsKey,hx]
 ·intro ρ F w x y v u hx hy hr hs;cases d<;>simp [rP,Fk]at h<;>subst h<;>cases x<;>simp [js]at hx<;>cases y<;>simp [js]at hy<;>cases hr<;>cases hs<;>simp_all [Instr.sameNow,yy]
  all_goals (intro hb;exact((bytes_beq _ _).1 hb).symm)
def Lt(X:Cx)(ρ:bF)(F:bC)(w:World)(kd:Kind)(ag:Bool)(ks:fh)(es:List (AV×AV))(mes:List MapEntry):Prop:=
 mes.length=es.length/\∀(i:Nat) e me,es[i]?=some e->mes[i]?=some me->(js kd e.1=true/\dq ks e.2.cells=true/\e.2.shape ag=true)/\aR X.K ρ F w e.1 me.key/\aR X.K ρ F w e.2 me.val
def Lt.tail{ag:Bool}{ks:fh}{e:AV×AV}{es:List (AV×AV)}{me:MapEntry}{mes:List MapEntry}(h:Lt X ρ F w kd ag ks (e::es) (me::mes)):Lt X ρ F w kd ag ks es mes:=
 ⟨by simpa using h.1,λi e' Qu he hm=>h.2 (i+1) e' Qu (CK) (U2)⟩
def find_spec{kt:TypeId}{kd:Kind}{d:TypeDesc}(hk:aws X kt kd d){ag:Bool}{ks:fh}{x:AV}{v:Value}(hx:js kd x=true)(hr:aR X.K ρ F w x v):∀(es:List (AV×AV)) (mes:List MapEntry) (n:Nat),Lt X ρ F w kd ag ks es mes->
 (ew es x=none/\Instr.findNow d v mes n=some none/\(∀y,lY es x y=es++[(x,y)]))∨
 ∃i e me,es[i]?=some e/\mes[i]?=some me/\ew es x=some e.2/\Instr.findNow d v mes n=some (some (n+i,me.val))/\me.key=v/\∀y,lY es x y=es.set i (x,y)
 | [],[],n,_=> .inl ⟨rfl,rfl,λ_=>rfl⟩
 | [],_::_,n,h=>by have:=h.1;simp at this
 |_::_,[],n,h=>by have:=h.1;simp at this
 |e::es,me::mes,n,h=>by
  obtain⟨⟨a1,a2,a3⟩,r1,r2⟩:=h.2 0 e me rfl rfl;obtain⟨s1,s2⟩:=hk.same hx a1 hr r1;cases hq:yy x e.1 with
  |true=>
   refine .inr ⟨0,e,me,rfl,rfl,by simp [ew,hq],?_,s2 hq,λy=>by simp [lY,hq]⟩;rw [hq]at s1;simp [Instr.findNow,s1]
  |false=>
   rw [hq]at s1;rcases find_spec hk hx hr es mes (n+1) h.tail with⟨h1,h2,h3⟩|⟨i,e',Qu,h1,h2,h3,h4,h5,h6⟩
   ·exact .inl ⟨by simp [ew,hq,h1],by simp [Instr.findNow,s1,h2],λy=>by simp [lY,hq,h3]⟩
   ·exact .inr ⟨i+1,e',Qu,y9,uu,by simp [ew,hq,h3],by simp [Instr.findNow,s1,h4];omega,h5,λy=>by simp [lY,hq,h6]⟩
def acE(X:Cx)(t:TypeId)(M:aL)(k:AV->aL->Option R):Option R:=
 match(X.ti t).ok,(X.ti t).u with
 |true,.map kt et=>match Fk (X.ti kt).u with|some kd=>k (.mp M.length) (M++[.map kd (X.ti et).u.agg (tV X et) []])|none=>none
 |_,_=>none
def aFo(hX:X.Okb){k:AV->aL->Option R}(h:acE X t M k=some r):
 ∃y M',k y M'=some r/\eR [] M M'/\Dz X M y M' (λ_ _ _=>True) (Instr.makeMap t none):=by
 unfold acE at h;split at h
 case h_2=>cases h
 rename_i kt et _ _;split at h
 case h_2=>cases h
 rename_i kd qe;have fv:kd≠ .any :=by rintro rfl;cases hu:(X.ti kt).u <;>simp [hu,Fk]at qe
 refine⟨_,_,h,eR.push _ _ _,λ{w0 S F ρ w} hI _=> ?_⟩;have mu:w.grownBy (w.alloc (.map #[] 0)) none:=GJ w _ none;have bI:w.heap.size<(w.alloc (.map #[] 0)).heap.size :=by simp
 refine⟨.map (some w.heap.size),w.alloc (.map #[] 0),ρ++[⟨.map (some w.heap.size),0⟩],F,rfl,?_,⟨λ_ h=>h,λ_ _ h=>ou h,λa ha=>mu.block _ (hI.fz a ha) (by simp)⟩,?_⟩
 ·refine hI.push (hd:=⟨.map (some w.heap.size),0⟩) mu (λg hg=> ?_) rfl ⟨fv,w.heap.size,#[],0,rfl,(MapKept.heap_alloc w _).1,rfl,λi e me he _=>by simp at he⟩;simp only [Hd.dE,Value.dE,Option.some.injEq]at hg;subst hg;exact⟨gQ _,bI⟩
 ·exact aR.mp (K:=X.K) _ ⟨.map (some w.heap.size),0⟩ (ES)
def Lg(X:Cx)(t:TypeId)(x:AV):AV:=
 match(X.ti t).u.agg with
 |true=> .agg (DH (tV X t) x.cells 0 (X.ti t).size)
 |false=>ld ((tV X t).headD .raw) x
def Pz(X:Cx)(t:TypeId):AV:=
 match(X.ti t).u.agg with
 |true=> .agg (X.ti t).zero
 |false=>(X.ti t).zero.headD .top
def Bk(X:Cx)(et:TypeId)(ok:Bool)(k:AV->Option R)(o:Option AV):Option R:=
 match o with
 |some x=>(match ok with|true=>k (.gw [Lg X et x,.bool true])|false=>k (Lg X et x))
 |none=>(match ok with|true=>k (.gw [Pz X et,.bool false])|false=>k (Pz X et))
def asA(X:Cx)(et:TypeId)(o:Option AV):AV:=match o with|some x=>Lg X et x|none=>Pz X et
def aOX(ok:Bool)(x:AV)(b:Bool):AV:=match ok with|true=> .gw [x,.bool b]|false=>x
def VJ:List (AV×AV)->AV->(Option AV->Option R)->Option R
 | [],_,k=>k none
 |e::es,x,k=>match yy x e.1 with|true=>k (some e.2)|false=>VJ es x k
def TL:∀(es:List (AV×AV)) (x:AV) (k:Option AV->Option R),VJ es x k=k (ew es x)
 | [],_,_=>rfl
 |e::es,x,k=>by
  simp only [VJ,ew];cases yy x e.1 with
  |true=>rfl
  |false=>exact TL es x k
def aN4(ks:fh):Bool:=ks.all λk=>match k with| .any =>false|_=>true
def Cu(X:Cx)(t:TypeId)(x i:AV)(ok:Bool)(M:aL)(k:AV->Option R):Option R:=
 match(X.ti t).ok,(X.ti t).u with
 |true,.map kt et=>
  match Fk (X.ti kt).u with
  |some kd=>
   a8 ((X.ti kt).ok &&(X.ti et).ok &&js kd i)
    (match x with
     | .qW =>Bk X et ok k none
     | .mp id=>
       match gm M id with
       |some (.map yz ag ks es)=>
        a8 (yz==kd&&ag==(X.ti et).u.agg &&ks==tV X et) (match aN4 ks with
         |true=>(match ew es i with|some y=>Bk X et ok k (some y)|none=>Bk X et ok k none)
         |false=>VJ es i (Bk X et ok k))
       |_=>none
     |_=>none)
  |none=>none
 |_,_=>none
def aJb(hX:X.Okb)(aX:(X.ti t).ok =true):(tV X t).length =(X.ti t).size :=by
 obtain⟨i,d,z,f⟩:=hX.facts aX;simp [tV,f.ks,f.size]
def aMh(hX:X.Okb)(aX:(X.ti t).ok =true)(hk:dq (tV X t) x.cells=true)(hp:x.shape (X.ti t).u.agg =true):Lg X t x=x:=by
 have hl:=aJb hX aX;unfold Lg;cases ha:(X.ti t).u.agg with
 |true=>
  rw [ha]at hp;cases x<;>simp [AV.shape]at hp
  rename_i cs;simp only [AV.cells]at hk⊢;rw [ae3 hk _ _ (by omega)];have:=lQ hk;rw [nU,El (by omega)]
 |false=>
  rw [ha]at hp;have hc:x.cells=[x]:=by cases x<;>simp_all [AV.shape,AV.leaf,AV.cells]
  rw [hc]at hk;cases hv:tV X t with
  |nil=>rw [hv]at hk;simp [dq]at hk
  |cons q qs=>
   rw [hv]at hk;simp only [dq,bA]at hk;exact GD hk.1
def aKn(hX:X.Okb)(aX:(X.ti t).ok =true):∃z,(∀w,(zeroValue t).run X.P w= .ok z w)/\∀{ρ:bF} {F:bC} {w:World},aR X.K ρ F w (Pz X t) z:=by
 obtain⟨i,d,z,f⟩:=hX.facts aX;refine⟨z,f.zeroValue,λ{ρ F w}=> ?_⟩;have hz:dZ X.K ρ F w (X.ti t).zero z.cells.toList:=KP;have jv:=f.zag;unfold Pz;cases ha:(X.ti t).u.agg with
 |true=>
  rw [ha]at jv;cases z<;>simp [XC]at jv
  rename_i cs;have:=aR.agg (K:=X.K) (ρ:=ρ) (F:=F) (w:=w) _ _ hz.1 hz.2;simpa [Value.cells]using this
 |false=>
  rw [ha]at jv;have h1:z.cells.toList=[z]:=by cases z<;>simp_all [XC,Value.cells]
  rw [h1]at hz;have hl:=hz.1;cases AE:(X.ti t).zero with
  |nil=>rw [AE]at hl;simp at hl
  |cons y ys=>exact hz.2 0 y z (by rw [AE];rfl) rfl
def ama{et:TypeId}{o:Option AV}(h:Bk X et ok k o=some r):k (aOX ok (asA X et o) o.isSome)=some r:=by
 unfold Bk at h;cases o<;>cases ok<;>exact h
def aGo(hX:X.Okb)(h:Cu X t x i ok M k=some r):
 ∃y,k y=some r/\∀{w0:World} {S:Sc} {F:bC} {ρ:bF} {w:World} {v vi:Value},Inv X w0 S F ρ M w->aR X.K ρ F w x v->aR X.K ρ F w i vi->
  ∃u,(Instr.lookup t v vi ok).run X.P w= .ok u w/\aR X.K ρ F w y u:=by
 unfold Cu at h;simp only [fF]at h;split at h
 case h_2=>cases h
 rename_i kt et BY Iz;split at h
 case h_2=>cases h
 rename_i kd qe;replace h:=cP h;obtain⟨hc,h⟩:=h;simp only [bA]at hc;obtain⟨⟨HT,avW⟩,hi⟩:=hc;obtain⟨ti,td,tz,tf⟩:=hX.facts BY;have e8:=tf.map Iz;obtain⟨d,s6⟩:=avA hX HT qe;obtain⟨z,hz,hzr⟩:=aKn hX avW;have out:∀{o:Option AV} {r:R},Bk X et ok k o=some r->∃y,k y=some r/\∀{ρ:bF} {F:bC} {w:World} {vo:Option Value} {mes:List MapEntry} {v vi:Value},(match o,vo with|some a,some b=>aR X.K ρ F w (Lg X et a) b|none,none=>True|_,_=>False)->
  (∀w1:World,(Instr.lookup t v vi ok).run X.P w= .ok (match ok with|true=> .tuple #[vo.getD z,.bool vo.isSome]|false=>vo.getD z) w)->∃u,(Instr.lookup t v vi ok).run X.P w= .ok u w/\aR X.K ρ F w y u:=by
  intro o r h;refine⟨_,ama h,λ{ρ F w vo mes v vi} hm eG=>⟨_,eG w,?_⟩⟩;have Ll:aR X.K ρ F w (asA X et o) (vo.getD z):=by
   cases o with
   |none=>cases vo with|none=>exact hzr|some b=>exact hm.elim
   |some a=>cases vo with|none=>exact hm.elim|some b=>exact hm
  have hs:o.isSome=vo.isSome:=by
   cases o with
   |none=>cases vo with|none=>rfl|some b=>exact hm.elim
   |some a=>cases vo with|none=>exact hm.elim|some b=>rfl
  cases ok with
  |false=>exact Ll
  |true=>
   refine .gw _ [_,_] rfl λj y u hy hu=> ?_
   match j with
   |0=>simp at hy hu;subst hy;subst hu;exact Ll
   |1=>simp at hy hu;subst hy;subst hu;rw [hs];exact .bool _
   |j+2=>simp at hy
 cases x<;>simp only at h<;>try (cases h;done)
 case qW=>
  obtain⟨y,h,hd⟩:=out h;refine⟨y,h,λ{w0 S F ρ w v vi} hI hv oP=> ?_⟩;cases hv;refine hd (vo:=none) (mes:=[]) trivial λ_=> ?_;have hf:Instr.findNow d vi [] 0=some none:=rfl;cases ok<;>simp [Instr.lookup,mz e8,Result.andThen,run_checkKey s6.od (s6.key hi oP),run_findKey s6.od hf,hz]
 case mp id=>
  split at h
  case h_2=>cases h
  rename_i yz ag ks es hb;replace h:=cP h;obtain⟨hc,h⟩:=h;simp only [bA,iA]at hc;obtain⟨⟨rfl,rfl⟩,rfl⟩:=hc;have h':Bk X et ok k (ew es i)=some r:=by
   split at h
   ·split at h
    ·rename_i y hy;rw [hy];exact h
    ·rename_i hy;rw [hy];exact h
   ·rw [TL]at h;exact h
  obtain⟨y,h,hd⟩:=out h';refine⟨y,h,λ{w0 S F ρ w v vi} hI hv oP=> ?_⟩;cases hv with
  |mp _ du bf=>
  obtain⟨_,g,mes,clock,hv,hh,fU,zM⟩:=hI.rep _ _ _ hb bf;rw [hv];have Wa:Lt X ρ F w yz (X.ti et).u.agg (tV X et) es mes.toList:=⟨U6,λj e me he hm=>zM j e me he (U2)⟩;rcases find_spec s6 hi oP es mes.toList 0 Wa with⟨f1,f2,_⟩|⟨j,e,me,e1,e2,f1,f2,_,_⟩
  ·refine hd (vo:=none) (mes:=[]) (by rw [f1];trivial) λ_=> ?_;cases ok<;>simp [Instr.lookup,mz e8,TN hh,Result.andThen,run_checkKey s6.od (s6.key hi oP),run_findKey s6.od f2,hz]
  ·obtain⟨⟨a1,a2,a3⟩,r1,r2⟩:=Wa.2 j e me e1 e2;refine hd (vo:=some me.val) (mes:=[]) (by rw [f1];show aR _ _ _ _ _ _;rw [aMh hX avW a2 a3];exact r2) λ_=> ?_;cases ok<;>simp [Instr.lookup,mz e8,TN hh,Result.andThen,run_checkKey s6.od (s6.key hi oP),run_findKey s6.od f2]
def Hr:AV->List Nat| .mp id=>[id]|_=>[]
def Tl(X:Cx)(t:TypeId)(m i x:AV)(M:aL)(k:aL->Option R):Option R:=
 match(X.ti t).ok,(X.ti t).u,m with
 |true,.map kt et,.mp id=>
  match Fk (X.ti kt).u with
  |some kd=>
   match gm M id with
   |some (.map yz ag ks es)=>
    a8 ((X.ti kt).ok &&js kd i&&yz==kd&&x.shape ag&&dq ks x.cells) (k (M.set id (.map yz ag ks (lY es i x))))
   |_=>none
  |none=>none
 |_,_,_=>none
def ajA(hX:X.Okb){m:AV}{k:aL->Option R}(h:Tl X t m i x M k=some r):
 ∃M',k M'=some r/\eR (Hr m) M M'/\∀{w0:World} {S:Sc} {F:bC} {ρ:bF} {w:World} {vm vi vx:Value},Inv X w0 S F ρ M w->aR X.K ρ F w m vm->aR X.K ρ F w i vi->aR X.K ρ F w x vx->
  ∃w' F',(Instr.mapUpdate t vm vi vx).run X.P w= .ok () w'/\Inv X w0 S F' ρ M' w'/\Grow F F' ρ ρ w w':=by
 unfold Tl at h;simp only [fF]at h;split at h
 case h_2=>cases h
 rename_i kt et id BY Iz;split at h
 case h_2=>cases h
 rename_i kd qe;split at h
 case h_2=>cases h
 rename_i yz ag ks es hb;replace h:=cP h;obtain⟨hc,h⟩:=h;simp only [bA,iA]at hc;obtain⟨⟨⟨⟨HT,hi⟩,rfl⟩,F5⟩,nz⟩:=hc;obtain⟨ti,td,tz,tf⟩:=hX.facts BY;have e8:=tf.map Iz;obtain⟨d,s6⟩:=avA hX HT qe;refine⟨_,h,eR.set _ _ _,λ{w0 S F ρ w vm vi vx} hI hm oP LV=> ?_⟩;cases hm with
 |mp _ hd bf=>
 obtain⟨fv,g,mes,clock,hv,hh,fU,zM⟩:=hI.rep _ _ _ hb bf;have Dp:hd.dE=some g:=qx;have bI:g<w.heap.size:=(Cn.1 hh).1;have P0:=hI.sep _ _ _ _ hb rfl bf Dp;rw [hv];have Wa:Lt X ρ F w yz ag ks es mes.toList:=⟨U6,λj e me he hm=>zM j e me he (U2)⟩;have pd:∀o:Obj,w.grownBy (w.putObj g o) (some g):=λo=>⟨rfl,rfl,rfl,by simp,λq hq fv=>sk (λe=>fv (by rw [e]))⟩;have hG:∀o:Obj,Grow F F ρ ρ w (w.putObj g o):=λo=>⟨λ_ h=>h,λ_ _ h=>h,λa ha=>sk (P0.2.2 a ha)⟩;have done:∀(PY:Array MapEntry) (afe:Nat),PY.size=(lY es i x).length ->(∀(j:Nat) e me,(lY es i x)[j]?=some e->PY[j]?=some me->(js yz e.1=true/\dq ks e.2.cells=true/\e.2.shape ag=true)/\aR X.K ρ F w e.1 me.key/\aR X.K ρ F w e.2 me.val)->
  Inv X w0 S F ρ (M.set id (.map yz ag ks (lY es i x))) (w.putObj g (.map PY afe)):=λPY afe h1 h2=>
  hI.write hb rfl bf Dp (pd _) ⟨fv,g,PY,afe,hv,acU bI,h1,λj e me he sa=>let⟨a,r1,r2⟩:=h2 j e me he sa;⟨a,r1.grow (hG _),r2.grow (hG _)⟩⟩
 rcases find_spec s6 hi oP es mes.toList 0 Wa with⟨f1,f2,f3⟩|⟨j,e,me,e1,e2,f1,f2,f4,f3⟩
 ·refine⟨w.putObj g (.map (mes.push {key:=vi,val:=vx,born:=clock}) (clock+1)),F,?_,done _ _ (by rw [f3];simp [fU]) λq e me he sa=> ?_,hG _⟩
  ·simp [Instr.mapUpdate,mz e8,TN hh,run_checkKey s6.od (s6.key hi oP),run_findKey s6.od f2,amO _ hh,Result.andThen,World.putObj]
  ·rw [f3]at he
   by_cases hq:q<es.length
   ·rw [kV hq]at he;rw [Array.getElem?_push,if_neg (by omega)]at sa;exact zM q e me he sa
   ·have hq':q=es.length:=by have:=(dX.1 he).1;simp at this;omega
    subst hq';rw [nT (gQ _)]at he;simp at he;rw [<-fU,Array.getElem?_push,if_pos rfl]at sa;injection sa with sa;subst he;subst sa;exact⟨⟨hi,nz,F5⟩,oP,LV⟩
 ·have DU:mes[j]?=some me:=by simpa using e2
  have a0f:j<mes.size:=(Cn.1 DU).1;refine⟨w.putObj g (.map (mes.modify j λe=>{e with key:=vi,val:=vx}) clock),F,?_,done _ _ (by rw [f3];simp [fU]) λq e' Qu he sa=> ?_,hG _⟩
  ·have oQ:me.key=vi:=f4;simp [Instr.mapUpdate,mz e8,TN hh,run_checkKey s6.od (s6.key hi oP),run_findKey s6.od f2,DU,oQ,run_keyThatStays (s6.key hi oP),amO _ hh,Result.andThen,World.putObj]
  ·rw [f3,zX]at he;rw [ac4]at sa;split at he
   ·rename_i ej;subst ej;split at he
    ·injection he with he;subst he;rw [if_pos rfl,DU]at sa;simp at sa;subst sa;exact⟨⟨hi,nz,F5⟩,oP,LV⟩
    ·cases he
   ·rename_i ej;rw [if_neg ej]at sa;exact zM q e' Qu he sa
end
end Go.ah
namespace Go.ah
def asx{p:Prop}(h:p:=by
 refine(eR.set M id _).mono (λj hj=> ?_);simp only [sP]at hj;subst hj;unfold Qp at xk;split at xk
 ·split at xk
  ·simp only [Option.some.injEq,Prod.mk.injEq]at xk;simp [rN,xk.1]
  ·cases xk
 ·split at xk
  ·simp only [Option.some.injEq,Prod.mk.injEq]at xk;simp [rN,xk.1]
  ·cases xk
 ·cases xk):p:=h
def ase{p:Prop}(h:p:=by
 refine acX λj=> ?_;rw [zX];split
 ·rename_i hj;subst hj;have:=(dX.1 hb).1;rw [if_pos this,hb]
 ·rfl):p:=h
def aem{p:Prop}(h:p:=by rw [sU];omega):p:=h
end Go.ah
namespace Go.ah
def sP:=@List.mem_singleton
end Go.ah
namespace Go.ah
open Go
noncomputable section
variable {X:Cx} {R:Type}
variable {w0 w w':World} {S:Sc} {F:bC} {ρ:bF} {M:aL}
variable{x:AV}{k:AV->aL->Option R}{cur:Array Value}{c c2 cap g id l lo m p size:Nat}{a:Option Addr}{P:Program}{r:R}{e e0 t ty u:TypeId}{ts:vg}{xs zs:aE}{news:jb}
def aJW{ys:aE}{vss:List jb}{a:Addr}{len:Nat}(hk:∀(i:Nat) row,ys[i]?=some row->dq (X.K e) row=true)(hl:vss.length=ys.length)
 (gE:∀(i:Nat) row vs,ys[i]?=some row->vss[i]?=some vs->dZ X.K ρ F w row vs/\u7 w (a.add (i*(X.K e).length)) vs) (qz:∀(id:Nat) hd,ρ[id]?=some hd->hd.v.oneCell'=true) (sy:0<(X.K e).length):
 ∃news:jb,news.length=ys.length*(X.K e).length /\(∀u∈news,u.oneCell'=true)/\
  (∀w2:World,w2.heap=w.heap->(Builtin.firstCells (X.K e).length ys.length (.slice (some a) len c)).run X.P w2= .ok news.toArray w2)/\
  ∀(i:Nat) row,ys[i]?=some row->∀(j:Nat) y,row[j]?=some y->∃u,news[i*(X.K e).length +j]?=some u/\aR X.K ρ F w y u:=by
 have hlen:∀(i:Nat) vs,vss[i]?=some vs->vs.length=(X.K e).length :=asm;have yF:=Tk vss hlen;have Hc:∀(k:Nat) u,vss.flatten[k]?=some u->∃i j,∃(row:Row) (vs:jb) (y:AV),k=i*(X.K e).length +j/\ys[i]?=some row/\vss[i]?=some vs/\row[j]?=some y/\vs[j]?=some u:=avq;refine⟨vss.flatten,by rw [yF,hl],λu hu=> ?_,λw2 hw2=> ?_,λi row hi j y hy=> ?_⟩
 ·obtain⟨k,k7⟩:=Cp hu;obtain⟨i,j,row,vs,y,_,h1,h2,h3,h4⟩:=Hc k u k7;exact Jv ((gE i row vs h1 h2).1.2 j y u h3 h4) (acy (hk i row h1) h3) qz
 ·have:=run_firstCells_some (P:=X.P) w2 (X.K e).length ys.length a len c vss.flatten (by rw [yF,hl]) (λk u L3=>by
   obtain⟨i,j,row,vs,y,oQ,h1,h2,h3,h4⟩:=Hc k u L3;have hc:=(gE i row vs h1 h2).2 j u h4;rw [Ew,<-oQ]at hc;unfold World.cell? at hc⊢;rw [hw2];exact hc)
  exact iK
 ·have oR:=(dX.1 hi).1;exact asv
def uH(xs:aE)(lo:Nat)(zs:aE):aE:=xs.take lo++zs++xs.drop (lo+zs.length)
def al3(h:lo+zs.length<=xs.length):(uH xs lo zs).length =xs.length:=by
 simp [uH];omega
def anS(h:lo+zs.length<=xs.length){i:Nat}{row:Row}(hi:(uH xs lo zs)[i]?=some row):
 (lo<=i/\i<lo+zs.length/\zs[i- lo]?=some row)∨((i<lo∨lo+zs.length<=i)/\xs[i]?=some row):=by
 unfold uH at hi
 by_cases h1:i<lo
 ·rw [pN,kV (eE),u6,if_pos h1]at hi;exact .inr ⟨.inl h1,hi⟩
 ·by_cases h2:i<lo+zs.length
  ·rw [pN,nT (eE),kV (eE)]at hi;simp only [sU]at hi;rw [show i- min lo xs.length=i- lo by omega]at hi;exact .inl ⟨by omega,h2,hi⟩
  ·rw [nT (eE)]at hi;simp only [fI,sU,vV]at hi;rw [show lo+zs.length+(i-(min lo xs.length+zs.length))=i by omega]at hi;exact .inr ⟨.inr (by omega),hi⟩
def al7(hI:Inv X w0 S F ρ M w)(hb:M[id]?=some (.row e xs)){hd:Hd}(bf:ρ[id]?=some hd){o:Nat}(hv:hd.v= .slice (some ⟨g,o,none⟩) xs.length c)(hg:w.heap[g]?=some (.cells cur e (0,0)))
 (tu:xs.length<=c) (vL:c<=maxLen) (vK:o+c*hd.sz<=cur.size) (He:∀(i:Nat) row,xs[i]?=some row->∀(j:Nat) x,row[j]?=some x->∃v,cur[o+i*hd.sz+j]?=some v/\aR X.K ρ F w x v)
    (hq:lo+zs.length<=xs.length) (B1:∀(i:Nat) row,zs[i]?=some row->dq (X.K e) row=true) (rA:news.length=zs.length*(X.K e).length)
 (AH:∀(i:Nat) row,zs[i]?=some row->∀(j:Nat) y,row[j]?=some y->∃u,news[i*(X.K e).length +j]?=some u/\aR X.K ρ F w y u):
 o+lo*hd.sz+news.length<=cur.size/\
 Inv X w0 S F ρ (M.set id (.row e (uH xs lo zs))) (w.setRow g (cur.toList.take (o+lo*hd.sz)++news++cur.toList.drop (o+lo*hd.sz+news.length)).toArray)/\
 Grow F F ρ ρ w (w.setRow g (cur.toList.take (o+lo*hd.sz)++news++cur.toList.drop (o+lo*hd.sz+news.length)).toArray):=by
 obtain⟨q1,q2,_⟩:=hI.rep id _ hd hb bf;have cX:hd.dE=some g:=qx;have L8:∀a,F a->a.block≠g:=(hI.sep id _ hd g hb rfl bf cX).2.2;have mu:=Nk w g (cur.toList.take (o+lo*hd.sz)++news++cur.toList.drop (o+lo*hd.sz+news.length)).toArray;have pd:Grow F F ρ ρ w (w.setRow g (cur.toList.take (o+lo*hd.sz)++news++cur.toList.drop (o+lo*hd.sz+news.length)).toArray):=
  ⟨λ_ h=>h,λ_ _ h=>h,hI.BM mu (λk hk a ha=>Pn)⟩
 have tQ:o+lo*hd.sz+news.length<=cur.size:=by
  rw [rA,<-q1];have h1:(lo+zs.length)*hd.sz<=c*hd.sz:=uh _ (by omega);rw [uZ]at h1;omega
 refine⟨tQ,hI.write hb rfl bf cX mu ?_,pd⟩;have oQ:∀(i:Nat) row,(uH xs lo zs)[i]?=some row->dq (X.K e) row=true:=by
  intro i row hi;rcases anS hq hi with⟨_,_,h⟩|⟨_,h⟩
  ·exact B1 _ row h
  ·exact q2 _ row h
 refine⟨q1,oQ,.inr ⟨g,o,c,_,by rw [al3 hq];exact hv,Oc w g cur _ e _ hg,by rw [al3 hq];exact tu,vL,?_,λi row hi j y hy=> ?_⟩⟩
 ·simp only [J7,fI,sU,Ba,sS];omega
 ·have hj:=(dX.1 hy).1;have yB:=lQ (oQ i row hi);rw [<-q1]at yB;rw [NS cur news _ tQ];rcases anS hq hi with⟨h1,h2,h⟩|⟨h1,h⟩
  ·obtain⟨u,AF,ru⟩:=AH _ row h j y hy;have bI:=(dX.1 AF).1;rw [<-q1]at AF bI;have e0:(i- lo)*hd.sz=i*hd.sz- lo*hd.sz:=Nat.sub_mul _ _ _;have L6:lo*hd.sz<=i*hd.sz:=uh _ h1;rw [if_pos (by omega),show o+i*hd.sz+j-(o+lo*hd.sz)=(i- lo)*hd.sz+j by omega];exact Vj
  ·obtain⟨u,AF,ru⟩:=He i row h j y hy;rw [if_neg]
   ·exact Vj
   ·rintro⟨g1,g2⟩;rw [rA,<-q1]at g2;rcases h1 with h1|h1
    ·have:(i+1)*hd.sz<=lo*hd.sz:=uh _ (by omega);exact CZ
    ·have:(lo+zs.length)*hd.sz<=i*hd.sz:=uh _ h1;rw [uZ]at this;omega
def yI(xs:aE)(lo nd:Nat)(ys:aE):aE:=uH xs lo (ys.take nd)
def uW(z:Row)(xs:aE)(lo n:Nat):aE:=uH xs lo (List.replicate n z)
def aLy(xs:aE)(lo:Nat)(ys:aE):yI xs lo 0 ys=xs:=by simp [yI,uH]
def aLA(z:Row)(xs:aE)(lo:Nat):uW z xs lo 0=xs:=by simp [uW,uH]
def Qp(M:aL):AV->Option (Nat×Nat×Nat×TypeId×aE)
 | .ak id=>match gm M id with|some (.row t xs)=>some (id,0,xs.length,t,xs)|_=>none
 | .vw id lo m=>match gm M id with|some (.row t xs)=>some (id,lo,m,t,xs)|_=>none
 |_=>none
def am4(hI:Inv X w0 S F ρ M w)(h:Qp M x=some (id,lo,m,t,xs)){v:Value}(hv:aR X.K ρ F w x v):
 M[id]?=some (.row t xs)/\rN x=[id]/\((m=0/\((∃c,v= .slice none 0 c)∨∃a c,v= .slice (some a) 0 c))∨
  ∃hd g o c cur cap,ρ[id]?=some hd/\lo+m<=xs.length/\v= .slice (some ⟨g,o+lo*hd.sz,none⟩) m cap/\hd.v= .slice (some ⟨g,o,none⟩) xs.length c/\w.heap[g]?=some (.cells cur t (0,0))/\xs.length<=c/\c<=maxLen/\o+c*hd.sz<=cur.size/\
   ∀(i:Nat) row,xs[i]?=some row->∀(j:Nat) x,row[j]?=some x->∃v,cur[o+i*hd.sz+j]?=some v/\aR X.K ρ F w x v):=by
 unfold Qp at h;simp only [fF]at h;split at h
 ·split at h
  ·rename_i hb;simp only [Option.some.injEq,Prod.mk.injEq]at h;obtain⟨rfl,rfl,rfl,rfl,rfl⟩:=h;cases hv with
   |ak _ hd bf=>
    refine⟨hb,rfl,?_⟩;rcases(hI.rep _ _ hd hb bf).2.2 with⟨h1,h2⟩|⟨g,o,c,cur,h1,h2,h3,h4,h5,h6⟩
    ·subst h2;exact .inl ⟨rfl,.inl ⟨_,h1⟩⟩
    ·exact .inr ⟨hd,g,o,c,cur,c,bf,by omega,y9,h1,h2,h3,h4,h5,h6⟩
  ·exact aM
 ·split at h
  ·rename_i hb;simp only [Option.some.injEq,Prod.mk.injEq]at h;obtain⟨rfl,rfl,rfl,rfl,rfl⟩:=h;refine⟨hb,rfl,?_⟩;cases hv with
   |vw _ _ _ hd g o n c cap bf hv hc qf=>
    rcases(hI.rep _ _ hd hb bf).2.2 with⟨h1,h2⟩|⟨g',o',c',cur,h1,h2,h3,h4,h5,h6⟩
    ·rw [hv]at h1;cases h1
    ·have wF:=h1;rw [hv]at h1;injection h1 with e1 e2 e3;injection e1 with e1;injection e1 with e1 e4 e5;subst e1;subst e4;subst e2;exact .inr ⟨hd,_,_,_,cur,cap,bf,qf,rfl,wF,h2,h3,h4,h5,h6⟩
   |zu=>exact .inl ⟨rfl,.inl ⟨_,rfl⟩⟩
   |zt _ _ a cap=>exact .inl ⟨rfl,.inr ⟨a,cap,rfl⟩⟩
  ·exact aM
 ·cases h
def afa(X:Cx)(ts:vg)(x y:AV)(M:aL)(k:AV->aL->Option R):Option R:=
 match ts with
 | [t,_]=>
   match(X.ti t).ok,(X.ti t).u with
   |true,.slice e=>
    match rowsOf M y with
    |some (o,ys)=>
     match Qp M x with
     |some (id,lo,m,t',xs)=>
      a8 ((X.ti e).ok &&decide (0<(X.ti e).size)&&(match o with|some e'=>e==e'|none=>ys.isEmpty)&&(e==t')) (k (.int .i64 ((min ys.length m:Nat):Int)) (M.set id (.row t' (yI xs lo m ys))))
     |none=>none
    |none=>none
   |_,_=>none
 |_=>none
def aKF(ht:P.underlying t=some (.slice e))(hs:∀w,(sizeOf e).run P w= .ok size w)
 (hg:w.heap[g]?=some (.cells cur e0 (0,0))) (hf:(Builtin.firstCells size (min l m) (.slice a l c2)).run P w= .ok news.toArray w) (h1:∀u∈news,u.oneCell'=true) (tQ:p+news.length<=cur.size):
 (Builtin.copy_ #[t,u] ty #[.slice (some ⟨g,p,none⟩) m cap,.slice a l c2]).run P w= .ok (.int .i64 ((min l m:Nat):Int)) (w.setRow g (cur.toList.take p++news++cur.toList.drop (p+news.length)).toArray):=by
 have fK:=T0 P g p e0 news 0 cur w hg (by simpa using tQ) h1;simp only [CB]at fK;have hf':(Builtin.firstCells size (Nat.min l m) (.slice a l c2)).run P w= .ok news.toArray w:=hf;simp [Builtin.copy_,mz ht,Builtin.lenOf,hs,hf',fK,goInt]
def run_copy_none(ht:P.underlying t=some (.slice e))(hs:∀w,(sizeOf e).run P w= .ok size w){b:Option Addr}:
 (Builtin.copy_ #[t,u] ty #[.slice b 0 cap,.slice a l c2]).run P w= .ok (.int .i64 0) w:=by
 have hf:(Builtin.firstCells size 0 (.slice a l c2)).run P w= .ok #[] w:=aeX;have hz:Nat.min l 0=0:=Nat.min_zero l;cases b<;>simp [Builtin.copy_,mz ht,Builtin.lenOf,hs,hz,hf,goInt,storeCells]
def aH2(hX:X.Okb){y:AV}(h:afa X ts x y M k=some r):
 ∃z M',k z M'=some r/\eR (rN x) M M'/\∀{vx vy:Value},Dz X M z M' (λρ F w=>aR X.K ρ F w x vx/\aR X.K ρ F w y vy) (Builtin.copy_ ts.toArray ty #[vx,vy]):=by
 unfold afa at h;split at h
 ·rename_i t u;split at h
  ·rename_i e aX hu;split at h
   ·rename_i o ys ia;split at h
    ·rename_i id lo m t' xs xk;replace h:=cP h;obtain⟨h1,h⟩:=h;simp only [bA,iT,iA]at h1;obtain⟨⟨⟨he,sy⟩,X4⟩,rfl⟩:=h1;obtain⟨i,d,z,f⟩:=hX.facts aX;obtain⟨i2,d2,z2,f2⟩:=hX.facts he;have ht:=f.slice hu;have fU:(X.K e).length =(X.ti e).size :=CY;have ho:o=some e∨(o=none/\ys=[]):=ar6;have jv:eR (rN x) M (M.set id (.row e (yI xs lo m ys))):=asx;refine⟨_,_,h,jv,λ{vx vy w0 S F ρ w} hI hh=> ?_⟩;obtain⟨LV,hvy⟩:=hh;obtain⟨hb,_,Wb⟩:=am4 hI xk LV;have afK:yI xs lo m ys=xs->M.set id (.row e (yI xs lo m ys))=M:=by
      intro e1;rw [e1];exact ase
     have X6:∃a c2,vy= .slice a ys.length c2:=aca hI ia hvy;obtain⟨a,c2,rfl⟩:=X6;rcases Wb with⟨rfl,hv⟩|⟨hd,g,o',c,cur,cap,bf,hlm,rfl,hdv,hg,h3,h4,h5,h6⟩
     ·have e1:=aLy xs lo ys;rw [afK e1];refine⟨.int .i64 0,w,ρ,F,?_,hI,Grow.refl _ _ _,by simpa using aR.int .i64 0⟩;rcases hv with⟨c,rfl⟩|⟨a',c,rfl⟩
      ·exact run_copy_none ht f2.sizeOf
      ·exact run_copy_none ht f2.sizeOf
     ·
      have aPc:∃news:jb,news.length=(ys.take m).length *(X.K e).length /\(∀u∈news,u.oneCell'=true)/\(Builtin.firstCells (X.K e).length (min ys.length m) (.slice a ys.length c2)).run X.P w= .ok news.toArray w/\
       (∀(i:Nat) row,(ys.take m)[i]?=some row->dq (X.K e) row=true)/\∀(i:Nat) row,(ys.take m)[i]?=some row->∀(j:Nat) y,row[j]?=some y->∃u,news[i*(X.K e).length +j]?=some u/\aR X.K ρ F w y u:=by
       have aY3:(ys.take m).length =min ys.length m:=by rw [sU,Nat.min_comm]
       have F4:∀(i:Nat) row,(ys.take m)[i]?=some row->i<m/\ys[i]?=some row:=by
        intro i row hi;rw [u6]at hi;split at hi
        ·exact⟨by assumption,hi⟩
        ·cases hi
       rcases ho with rfl|⟨rfl,rfl⟩
       ·obtain⟨hk,hc⟩:=alc hI ia hvy;rcases hc with⟨hv,rfl⟩|⟨a',c',hv,vss,hl,gE⟩
        ·injection hv with e1 e2 e3;subst e1;exact⟨[],by simp,by simp,Vn,λi row hi=>CI,λi row hi=>CI⟩
        ·injection hv with e1 e2 e3;subst e1;obtain⟨news,n1,n2,n3,n4⟩:=aJW (X:=X) (ρ:=ρ) (F:=F) (w:=w) (e:=e) (ys:=ys.take m) (vss:=vss.take m) (a:=a') (len:=ys.length) (c:=c2) (λi row hi=>hk i row (F4 i row hi).2) (by rw [sU,sU,hl])
          (λi row vs hi oP=>by
            obtain⟨II,eJ⟩:=F4 i row hi;rw [u6,if_pos II]at oP;exact gE i row vs eJ oP) hI.one (by rw [fU];exact sy)
         rw [aY3]at n3;exact⟨news,n1,n2,n3 w rfl,λi row hi=>hk i row (F4 i row hi).2,n4⟩
       ·refine⟨[],by simp,by simp,?_,λi row hi=>CI,λi row hi=>CI⟩;simp only [tG,Nat.zero_min];exact aeX
      obtain⟨news,n1,n2,n3,n4,n5⟩:=aPc;have hq:lo+(ys.take m).length <=xs.length:=aem;obtain⟨tQ,i1,g1⟩:=al7 hI hb bf hdv hg h3 h4 h5 h6 hq n4 n1 n5;rw [fU]at n3;exact⟨_,_,ρ,F,aKF ht f2.sizeOf hg n3 n2 tQ,i1,g1,.int _ _⟩
    ·exact aM
   ·exact aM
  ·exact aM
 ·cases h
def adV(X:Cx)(ts:vg)(x:AV)(M:aL)(k:AV->aL->Option R):Option R:=
 match ts with
 | [t]=>
   match(X.ti t).ok,(X.ti t).u with
   |true,.slice e=>
    match Qp M x with
    |some (id,lo,m,t',xs)=>a8 ((X.ti e).ok &&decide (0<(X.ti e).size)&&dq (X.K e) (qu X e)&&(e==t')) (k (.gw []) (M.set id (.row t' (uW (qu X e) xs lo m))))
    |none=>none
   |_,_=>none
 |_=>none
def aJS{z:Value}(ht:P.underlying t=some (.slice e))(hz:∀w,(zeroValue e).run P w= .ok z w)
 (hg:w.heap[g]?=some (.cells cur e0 (0,0))) (hm:0<m) (h1:∀u∈(Builtin.zeroCells z.cells m).toList,u.oneCell'=true) (tQ:p+(Builtin.zeroCells z.cells m).toList.length <=cur.size):
 (Builtin.clear_ #[t] ty #[.slice (some ⟨g,p,none⟩) m cap]).run P w= .ok (.tuple #[]) (w.setRow g (cur.toList.take p++(Builtin.zeroCells z.cells m).toList ++cur.toList.drop (p+(Builtin.zeroCells z.cells m).toList.length)).toArray):=by
 have fK:=T0 P g p e0 (Builtin.zeroCells z.cells m).toList 0 cur w hg (by simpa using tQ) h1;simp only [CB]at fK;obtain⟨n,rfl⟩:=Nat.exists_eq_succ_of_ne_zero (Nat.pos_iff_ne_zero.1 hm);simp only [Builtin.clear_,ac9,TX,iB,mz ht,lg,hz,fK,mQ]
def aHn(hX:X.Okb)(h:adV X ts x M k=some r):
 ∃z M',k z M'=some r/\eR (rN x) M M'/\∀{vx:Value},Dz X M z M' (λρ F w=>aR X.K ρ F w x vx) (Builtin.clear_ ts.toArray ty #[vx]):=by
 unfold adV at h;split at h
 ·rename_i t;split at h
  ·rename_i e aX hu;split at h
   ·rename_i id lo m t' xs xk;replace h:=cP h;obtain⟨h1,h⟩:=h;simp only [bA,iT,iA]at h1;obtain⟨⟨⟨he,sy⟩,B1⟩,rfl⟩:=h1;obtain⟨i,d,z,f⟩:=hX.facts aX;obtain⟨i2,d2,z2,f2⟩:=hX.facts he;have ht:=f.slice hu;have fU:(X.K e).length =(X.ti e).size :=CY;have jv:eR (rN x) M (M.set id (.row e (uW (qu X e) xs lo m))):=asx;have AG:∀{ρ:bF} {F:bC} {w:World},aR X.K ρ F w (.gw []) (.tuple #[]):= .gw [] [] rfl (λj x v h _=>jY);refine⟨_,_,h,jv,λ{vx w0 S F ρ w} hI LV=> ?_⟩;obtain⟨hb,_,Wb⟩:=am4 hI xk LV;have hzero:∀{b:Option Addr} {cap:Nat},(Builtin.clear_ #[t] ty #[.slice b 0 cap]).run X.P w= .ok (.tuple #[]) w:=by
     intro b cap;cases b<;>simp [Builtin.clear_,mz ht]
    by_cases hm:m=0
    ·subst hm;have afK:M.set id (.row e (uW (qu X e) xs lo 0))=M:=by
      rw [aLA];exact ase
     rw [afK];refine⟨.tuple #[],w,ρ,F,?_,hI,Grow.refl _ _ _,AG⟩;rcases Wb with⟨_,⟨c,rfl⟩|⟨a,c,rfl⟩⟩|⟨hd,g,o',c,cur,cap,bf,hlm,rfl,_⟩
     ·exact hzero
     ·exact hzero
     ·exact hzero
    ·rcases Wb with⟨e0,_⟩|⟨hd,g,o',c,cur,cap,bf,hlm,rfl,hdv,hg,h3,h4,h5,h6⟩
     ·exact absurd e0 hm
     ·have uN:z2.cells.size=i2.size:=f2.zs;have hzl:z2.cells.toList.length=(X.K e).length :=by rw [fU,f2.size,<-uN];simp
      have ae4:(Builtin.zeroCells z2.cells m).toList =(List.replicate m z2.cells.toList).flatten :=am2 z2.cells (by rw [uN,<-f2.size];exact sy) m;have QP:dZ X.K ρ F w (qu X e) z2.cells.toList:=acu f2;have DN:∀(i:Nat) vs,(List.replicate m z2.cells.toList)[i]?=some vs->vs.length=(X.K e).length :=by
       intro i vs hi;rw [Eo]at hi;split at hi
       ·injection hi with hi;subst hi;exact hzl
       ·cases hi
      have rA:(Builtin.zeroCells z2.cells m).toList.length =(List.replicate m (qu X e)).length *(X.K e).length :=by
       rw [ae4,Tk _ DN];simp
      have qz:∀u∈(Builtin.zeroCells z2.cells m).toList,u.oneCell'=true:=by
       intro u hu;rw [ae4]at hu;obtain⟨l,hl,hul⟩:=List.mem_flatten.1 hu;rw [Uq hl]at hul;obtain⟨j,hj⟩:=Cp hul;have QZ:=(dX.1 hj).1;have hx:(qu X e)[j]?=some ((qu X e)[j]'(by rw [lQ B1,<-hzl];exact QZ)):=c8 _;exact Jv (QP.2 j _ u hx hj) (acy B1 hx) hI.one
      have hq:lo+(List.replicate m (qu X e)).length <=xs.length:=by simpa using hlm
      obtain⟨tQ,i1,g1⟩:=al7 hI hb bf hdv hg h3 h4 h5 h6 hq (λi row hi=>by
       rw [Eo]at hi;split at hi
       ·injection hi with hi;subst hi;exact B1
       ·cases hi) rA (λi row hi j y hy=>by
       rw [Eo]at hi;split at hi
       ·rename_i II;injection hi with hi;subst hi;have hj:=(dX.1 hy).1;have yB:=lQ B1;have hv:z2.cells.toList[j]?=some (z2.cells.toList[j]'(by omega)):=c8 (by omega);refine⟨_,?_,QP.2 j y _ hy hv⟩;rw [ae4,Ug _ DN i j z2.cells.toList (by rw [Eo,if_pos II]) (by omega)];exact hv
       ·cases hi)
      exact⟨_,_,ρ,F,aJS ht f2.zeroValue hg (Nat.pos_of_ne_zero hm) qz tQ,i1,g1,AG⟩
   ·exact aM
  ·exact aM
 ·cases h
end
end Go.ah

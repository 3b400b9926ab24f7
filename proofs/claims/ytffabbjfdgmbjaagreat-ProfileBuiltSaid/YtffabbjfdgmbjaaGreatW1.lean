/-
  The engine, part Lb: copy, clear.
-/
import Derived.RangeFuncRecord
import Derived.WalkKit
import Derived.Below
import Derived.DataElems
import Derived.ChangeKeysEq
import Derived.Laws.StructEq
import Derived.WalkSpells
import Derived.MapKept
set_option linter.all false
set_option linter.deprecated false
set_option maxHeartbeats 4000000
namespace Go.ae
def dB{p:Prop}(h:p:=by simp at h):p:=h
def nv{p:Prop}(h:p:=by simpa using hl):p:=h
def EY{p:Prop}(h:p:=by have:=(cy.1 hx).1;omega):p:=h
def yJ{p:Prop}(h:p:=by simp [cZ]at h):p:=h
def Rn{p:Prop}(h:p:=by have:=(cy.1 hy).1;omega):p:=h
def EJ{p:Prop}(h:p:=by simpa using hx):p:=h
def EG{p:Prop}(h:p:=by simp at h;subst h;simp):p:=h
def Jc{p:Prop}(h:p:=by simpa using hk):p:=h
end Go.ae
namespace Go.ae
def cy:=@List.getElem?_eq_some_iff
def bc:=@Bool.and_eq_true
def eH:=@List.getElem_mem
def Eh:=@List.eq_of_mem_replicate
def A8:=@List.mem_flatMap
def cJ:=@List.getElem?_eq_getElem
end Go.ae
namespace Go.ae
open Go
variable{F:Addr->Prop}{v:Value}{w:World}
inductive Kind where
 |int(k:IntKind)
 |bool
 |str
 |slice(t:TypeId)
 |raw
 |any
 deriving DecidableEq,Inhabited
variable{k:Kind}{ks:List Kind}
inductive AV where
 |top
 |int(k:IntKind)(n:Int)
 |bool(b:Bool)
 |str(s:ByteArray)
 |agg(cs:List AV)
 |dc(vs:List AV)
 |gM
 |ep(t:TypeId)(row:List AV)(off:Nat)
 |ptr(id i off:Nat)
 |U(t:TypeId)(xs:List (List AV))
 |aa(id:Nat)
 |fD
 |dE(f:FuncId)(first eD:List AV)
 |jx
 |gG(id:Nat)
 |mp(id:Nat)
 |lb
 |kg(id n:Nat)
 |vw(id lo n:Nat)
 |ja
 |sub(t:TypeId)(xs:List (List AV))
 deriving Inhabited
variable{x:AV}
abbrev Row:=List AV
variable{row:Row}
def AV.toI:AV->Int| .int _ n=>n|_=>0
def AV.toB:AV->Bool| .bool b=>b|_=>false
def AV.toS:AV->ByteArray| .str s=>s|_=>ByteArray.empty
def AV.rows:AV->List Row| .U _ xs=>xs| .sub _ xs=>xs|_=>[]
def AV.cells:AV->List AV| .agg cs=>cs|x=>[x]
def AV.pure:AV->Bool| .int _ _| .bool _| .str _| .gM | .ep _ _ _| .U _ _| .fD | .jx | .lb | .ja | .dE _ [] []=>true|_=>false
def AV.vlo:AV->Nat| .vw _ lo _=>lo|_=>0
def AV.vn:AV->Nat| .vw _ _ n=>n|_=>0
def AV.plain:AV->Bool| .top | .dc _=>false|_=>true
def AV.leaf:AV->Bool| .agg _| .dc _| .top =>false|_=>true
def AV.shape:Bool->AV->Bool|true,.agg _=>true|false,x=>x.leaf|_,_=>false
def fj:Kind->AV->Bool
 | .int k,.int k' _=>k==k'
 | .bool,.bool _=>true
 | .str,.str _=>true
 | .slice t,.U t' _=>t==t'
 | .raw,x=>x.leaf&&x.pure
 | .any,x=>x.leaf
 |_,_=>false
def ld:Kind->AV->AV
 | .int k,x=> .int k x.toI
 | .bool,x=> .bool x.toB
 | .str,x=> .str x.toS
 | .slice t,x=> .U t x.rows
 | .raw,x=>x
 | .any,x=>x
def yt(h:fj k x=true):ld k x=x:=by
 cases k<;>cases x<;>simp_all [fj,ld,AV.toI,AV.toB,AV.toS,AV.rows]
def OI(h:fj k x=true):x.leaf=true:=by
 cases k<;>cases x<;>simp_all [fj,AV.leaf]
def cZ:List Kind->Row->Bool
 | [],[]=>true
 |k::ks,x::xs=>fj k x&&cZ ks xs
 |_,_=>false
def AM(hk:k≠ .any)(h:fj k x=true):x.pure=true:=by
 cases k<;>cases x<;>simp_all [fj,AV.leaf,AV.pure]
def gK:∀{ks:List Kind} {row:Row},cZ ks row=true->row.length=ks.length
 | [],[],_=>rfl
 | [],_::_,h=>yJ
 |_::_,[],h=>yJ
 |k::ks,x::xs,h=>by
  simp only [cZ,bc]at h;simp [gK h.2]
def pF:∀{ks:List Kind} {row:Row},cZ ks row=true->∀{j:Nat} {k:Kind} {x:AV},ks[j]?=some k->row[j]?=some x->fj k x=true
 | [],[],_,j,k,x,h,_=>dB
 | [],_::_,h,_,_,_,_,_=>yJ
 |_::_,[],h,_,_,_,_,_=>yJ
 |k::ks,x::xs,h,j,k',x',hk,hx=>by
  simp only [cZ,bc]at h;cases j with
  |zero=>simp at hk hx;subst hk;subst hx;exact h.1
  |succ j=>simp at hk hx;exact pF h.2 hk hx
def Pj(h:cZ ks row=true){j:Nat}(hx:row[j]?=some x):x.leaf=true:=by
 have hl:=gK h;have hj:j<ks.length:=EY;exact OI (pF h (cJ hj) hx)
def En(hl:row.length=ks.length)(h:∀(j:Nat) (k:Kind) (x:AV),ks[j]?=some k->row[j]?=some x->fj k x=true):cZ ks row=true:=by
 induction ks generalizing row with
 |nil=>cases row with|nil=>rfl|cons x xs=>simp at hl
 |cons k ks ih=>
  cases row with
  |nil=>simp at hl
  |cons x xs=>
   simp only [cZ,bc];exact⟨h 0 k x rfl rfl,ih (nv) λj k' x' hk hx=>h (j+1) k' x' (Jc) (EJ)⟩
structure Hd where
 v:Value
 sz:Nat
variable{ρ ρ':List Hd}
def Value.b9:Value->Option Nat
 | .slice (some a) _ _=>some a.block
 | .map (some g)=>some g
 | .pointer (some a)=>some a.block
 |_=>none
def Hd.b9(h:Hd):Option Nat:=Value.b9 h.v
inductive aw(K:TypeId->List Kind)(ρ:List Hd)(F:Addr->Prop)(w:World):AV->Value->Prop
 |top(v:Value):aw K ρ F w .top v
 |int(k:IntKind)(n:Int):aw K ρ F w (.int k n) (.int k n)
 |bool(b:Bool):aw K ρ F w (.bool b) (.bool b)
 |str(s:ByteArray):aw K ρ F w (.str s) (.string s)
 |agg(cs:List AV)(vs:List Value)(hl:vs.length=cs.length)(h:∀(j:Nat) x v,cs[j]?=some x->vs[j]?=some v->aw K ρ F w x v):aw K ρ F w (.agg cs) (.agg vs.toArray)
 |dc(cs:List AV)(vs:List Value)(hl:vs.length=cs.length)(h:∀(j:Nat) x v,cs[j]?=some x->vs[j]?=some v->aw K ρ F w x v):aw K ρ F w (.dc cs) (.tuple vs.toArray)
 |gM:aw K ρ F w .gM (.pointer none)
 |ep(t:TypeId)(row:Row)(off:Nat)(a:Addr)(vs:List Value)(hk:cZ (K t) row=true)(hl:vs.length=row.length)
   (hc:∀(j:Nat) v,vs[j]?=some v->w.cell? (a.add j)=some v∧F (a.add j))
   (h:∀(j:Nat) x v,row[j]?=some x->vs[j]?=some v->aw K ρ F w x v):aw K ρ F w (.ep t row off) (.pointer (some (a.add off)))
 |ptr(id i off:Nat)(hd:Hd)(g o n c:Nat)(aA:ρ[id]?=some hd)(hv:hd.v= .slice (some ⟨g,o,none⟩) n c):aw K ρ F w (.ptr id i off) (.pointer (some ⟨g,o+i*hd.sz+off,none⟩))
 |iS(t:TypeId):aw K ρ F w (.U t []) (.slice none 0 0)
 |U(t:TypeId)(xs:List Row)(a:Addr)(cap:Nat)(vss:List (List Value))(hl:vss.length=xs.length)(jU:xs.length<=cap)(iV:cap<=maxLen)
   (hk:∀(i:Nat) row,xs[i]?=some row->cZ (K t) row=true)
   (hc:∀(i:Nat) vs,vss[i]?=some vs->vs.length=(K t).length ∧∀(j:Nat) v,vs[j]?=some v->w.cell? (a.add (i*(K t).length +j))=some v∧F (a.add (i*(K t).length +j)))
   (h:∀(i:Nat) row vs,xs[i]?=some row->vss[i]?=some vs->∀(j:Nat) x v,row[j]?=some x->vs[j]?=some v->aw K ρ F w x v):
   aw K ρ F w (.U t xs) (.slice (some a) xs.length cap)
 |aa(id:Nat)(hd:Hd)(aA:ρ[id]?=some hd):aw K ρ F w (.aa id) hd.v
 |fD:aw K ρ F w .fD (.slice none 0 0)
 |dE(f:FuncId)(first eD:List AV)(vf vc:List Value)(hf:vf.length=first.length)(hc:vc.length=eD.length)
   (h1:∀(j:Nat) x v,first[j]?=some x->vf[j]?=some v->aw K ρ F w x v) (h2:∀(j:Nat) x v,eD[j]?=some x->vc[j]?=some v->aw K ρ F w x v):
   aw K ρ F w (.dE f first eD) (.func (.func f) vf.toArray vc.toArray)
 |jx:aw K ρ F w .jx .nilFunc
 |gG(id:Nat)(hd:Hd)(g:Nat)(aA:ρ[id]?=some hd)(hv:hd.v= .pointer (some ⟨g,0,none⟩)):aw K ρ F w (.gG id) (.func (.yield g) #[] #[])
 |mp(id:Nat)(hd:Hd)(aA:ρ[id]?=some hd):aw K ρ F w (.mp id) hd.v
 |lb:aw K ρ F w .lb (.map none)
 |kg(id m:Nat)(hd:Hd)(g o n c cap:Nat)(aA:ρ[id]?=some hd)(hv:hd.v= .slice (some ⟨g,o,none⟩) n c):aw K ρ F w (.kg id m) (.slice (some ⟨g,o,none⟩) m cap)
 |vw(id lo m:Nat)(hd:Hd)(g o n c cap:Nat)(aA:ρ[id]?=some hd)(hv:hd.v= .slice (some ⟨g,o,none⟩) n c)(jU:m<=cap∧cap<=maxLen)(hb:lo+m<=n):aw K ρ F w (.vw id lo m) (.slice (some ⟨g,o+lo*hd.sz,none⟩) m cap)
 |rE(id lo:Nat):aw K ρ F w (.vw id lo 0) (.slice none 0 0)
 |rD(id lo:Nat)(a:Addr)(cap:Nat):aw K ρ F w (.vw id lo 0) (.slice (some a) 0 cap)
 |ja(a:Addr)(cap:Nat):aw K ρ F w .ja (.slice (some a) 0 cap)
variable {K:TypeId->List Kind}
def aw.mono{F':Addr->Prop}{w':World}(dR:∀(id:Nat) hd,ρ[id]?=some hd->ρ'[id]?=some hd)(hF:∀a,F a->F' a)
 (hw:∀a v,F a->w.cell? a=some v->w'.cell? a=some v)   (h:aw K ρ F w x v):aw K ρ' F' w' x v:=by
 induction h with
 |top v=>exact .top v
 |int k n=>exact .int k n
 |bool b=>exact .bool b
 |str s=>exact .str s
 |agg cs vs hl _ ih=>exact .agg cs vs hl ih
 |dc cs vs hl _ ih=>exact .dc cs vs hl ih
 |gM=>exact .gM
 |ep t row off a vs hk hl hc _ ih=>exact .ep t row off a vs hk hl (λj v hv=>⟨hw _ _ (hc j v hv).2 (hc j v hv).1,hF _ (hc j v hv).2⟩) ih
 |ptr id i off hd g o n c aA hv=>exact .ptr id i off hd g o n c (dR _ _ aA) hv
 |iS t=>exact .iS t
 |U t xs a cap vss hl jU iV hk hc _ ih=>
  exact .U t xs a cap vss hl jU iV hk (λi vs dL=>⟨(hc i vs dL).1,λj v hv=>⟨hw _ _ ((hc i vs dL).2 j v hv).2 ((hc i vs dL).2 j v hv).1,hF _ ((hc i vs dL).2 j v hv).2⟩⟩) ih
 |aa id hd aA=>exact .aa id hd (dR _ _ aA)
 |fD=>exact .fD
 |dE f first eD vf vc hf hc _ _ jC fm=>exact .dE f first eD vf vc hf hc jC fm
 |jx=>exact .jx
 |gG id hd g aA hv=>exact .gG id hd g (dR _ _ aA) hv
 |mp id hd aA=>exact .mp id hd (dR _ _ aA)
 |lb=>exact .lb
 |kg id m hd g o n c cap aA hv=>exact .kg id m hd g o n c cap (dR _ _ aA) hv
 |vw id lo m hd g o n c cap aA hv hc hb=>exact .vw id lo m hd g o n c cap (dR _ _ aA) hv hc hb
 |rE id lo=>exact .rE id lo
 |rD id lo a cap=>exact .rD id lo a cap
 |ja a cap=>exact .ja a cap
def aw.pure{ρ ρ':List Hd}{F:Addr->Prop}{w:World}(hK:∀t,∀k∈K t,k≠ .any){x:AV}{v:Value}(h:aw K ρ F w x v):x.pure=true->aw K ρ' F w x v:=by
 have cell:∀{t:TypeId} {row:Row},cZ (K t) row=true->∀{j:Nat} {y:AV},row[j]?=some y->y.pure=true:=by
  intro t row hk j y hy;have hl:=gK hk;have hj:j<(K t).length :=Rn;exact AM (hK t _ (eH hj)) (pF hk (cJ hj) hy)
 induction h with
 |int k n=>exact λ_=> .int k n
 |bool b=>exact λ_=> .bool b
 |str s=>exact λ_=> .str s
 |gM=>exact λ_=> .gM
 |ep t row off a vs hk hl hc _ ih=>exact λ_=> .ep t row off a vs hk hl hc (λj y v hy hv=>ih j y v hy hv (cell hk hy))
 |iS t=>exact λ_=> .iS t
 |U t xs a cap vss hl jU iV hk hc _ ih=>exact λ_=> .U t xs a cap vss hl jU iV hk hc (λi row vs hi hv j y v hy eN=>ih i row vs hi hv j y v hy eN (cell (hk i row hi) hy))
 |fD=>exact λ_=> .fD
 |dE f first eD vf vc hf hc _ _ _ _=>
  intro hp;cases first with
  |cons a b=>simp [AV.pure]at hp
  |nil=>
   cases eD with
   |cons a b=>simp [AV.pure]at hp
   |nil=>exact .dE f [] [] vf vc hf hc (λj y v hy _=>by simp at hy) (λj y v hy _=>by simp at hy)
 |jx=>exact λ_=> .jx
 |lb=>exact λ_=> .lb
 |ja a cap=>exact λ_=> .ja a cap
 |_=>intro hp;simp [AV.pure]at hp
def aw.ao1(hK:∀t,∀k∈K t,k≠ .any)(h:aw K ρ F w x v)(hp:x= .top ∨x.pure=true):aw K ρ' F w x v:=by
 rcases hp with rfl|hp
 ·exact .top v
 ·exact h.pure hK hp
def cq(K:TypeId->List Kind)(ρ:List Hd)(F:Addr->Prop)(w:World)(xs:List AV)(vs:List Value):Prop:=
 vs.length=xs.length∧∀(j:Nat) x v,xs[j]?=some x->vs[j]?=some v->aw K ρ F w x v
inductive Ex where
 |normal
 |exit(id:Nat)
 |ret
 deriving DecidableEq,Inhabited
inductive bU where
 |var(ks:List Kind)(cs:List AV)
 |row(t:TypeId)(xs:List Row)
 |map(k:Kind)(ag:Bool)(ks:List Kind)(es:List (AV×AV))
 |loop(site:Nat)(env:List (Nat×AV))(busy:Bool)(uZ:Option Ex)
 |L1
 |di(t:TypeId)(xs:List Row)
 |dead
 |aU(t:TypeId)(xs:List Row)(op:Option (Nat×Nat×Nat))
 deriving Inhabited
inductive sL where
 |int(k:IntKind)
 |bool
 |str
 |slice(e:TypeId)
 |array(n:Nat)(e:TypeId)
 |struct(fs:List (Nat×TypeId))
 |ptr(e:TypeId)
 |map(k e:TypeId)
 |other
 deriving Inhabited
structure TI where
 ok:Bool
 u:sL
 size:Nat
 bytes:Nat
 zero:List AV
 ks:List Kind
 deriving Inhabited
def sL.agg:sL->Bool| .struct _| .array _ _=>true|_=>false
def wP:Value->AV
 | .bool b=> .bool b
 | .int k n=> .int k n
 | .string s=> .str s
 | .pointer none=> .gM
 | .slice none 0 0=> .fD
 | .map none=> .lb
 | .nilFunc => .jx
 |_=> .top
def QJ:Value->AV
 | .agg cs=> .agg (cs.toList.map wP)
 | .tuple cs=>match cs.toList with| []=> .dc []|_=> .top
 |v=>wP v
def yE(P:Program):Nat->TypeId->List Kind
 |0,_=>[.raw]
 |n+1,t=>
  match P.underlying t with
  |some (.int k)=>[.int k]
  |some .bool =>[.bool]
  |some .string =>[.str]
  |some (.slice e)=>[.slice e]
  |some (.struct fs)=>fs.toList.flatMap λf=>yE P n f.type
  |some (.array m e)=>(List.replicate m (yE P n e)).flatten
  |_=>[.raw]
def OK(P:Program):∀(n:Nat) (t:TypeId),∀k∈yE P n t,k≠ .any
 |0,t,k,h=>by simp [yE]at h;subst h;simp
 |n+1,t,k,h=>by
  unfold yE at h;split at h
  ·exact EG
  ·exact EG
  ·exact EG
  ·exact EG
  ·obtain⟨f,_,hf⟩:=A8.1 h;exact OK P n _ k hf
  ·obtain⟨l,hl,hk⟩:=List.mem_flatten.1 h;rw [Eh hl]at hk;exact OK P n _ k hk
  ·exact EG
def kJ:TypeDesc->sL
 | .int k=> .int k
 | .bool => .bool
 | .string => .str
 | .slice e=> .slice e
 | .array n e=> .array n e
 | .struct fs=> .struct (fs.toList.map λf=>(f.offset,f.type))
 | .pointer e=> .ptr e
 | .map k e=> .map k e
 |_=> .other
def Lf:Value->Bool| .agg _=>true|_=>false
def xf(P:Program)(t:TypeId):TI:=
 match P.info? t,P.underlying t with
 |some i,some d=>
  match i.zero with
  |some z=>⟨z.cells.size==i.size&&(yE P 12 t).length ==i.size&&(Lf z==(kJ d).agg),kJ d,i.size,i.bytes,z.cells.toList.map wP,yE P 12 t⟩
  |none=>⟨false,.other,0,0,[],[]⟩
 |_,_=>⟨false,.other,0,0,[],[]⟩
end Go.ae
namespace Go.ae
open Go
abbrev aD:Type:=List AV
abbrev aH:Type:=List Row
abbrev ar:Type:=List bU
abbrev cp:Type:=List Nat
abbrev bA:Type:=List (Nat×AV)
abbrev aT:Type:=List Hd
abbrev aO:=Addr->Prop
abbrev bW:Type:=List Int
abbrev dv:Type:=List Kind
abbrev eU:Type:=List Value
abbrev oQ:Type:=List TypeId
end Go.ae
namespace Go.ae
def j8{p:Prop}(h:p:=by simp [Hd.b9,Value.b9,hv]):p:=h
def JV{p:Prop}(h:p:=by subst hi;rw [hY aY]at hc;injection hc with hc;subst hc;simp [bU.fQ]at pw):p:=h
def adC{p:Prop}(h:p:=by
 by_cases aA:i=id
 ·subst aA;have aY:=(cy.1 hb).1;rw [hY aY]at hc;injection hc with hc;subst hc;rw [hn]at lT;cases lT
 ·rw [fP (Ne.symm aA)]at hc;exact hc):p:=h
def adz{p:Prop}(h:p:=by
 have px:=hM id _ hb rfl;have hl:id<ρ.length:=by rw [hlen];exact(cy.1 px).1
 have h0:=cJ hl;have:=dR id _ h0 (cy.1 hh).1;rw [hh]at this;exact⟨px,by rw [h0,this]⟩):p:=h
def adw{p:Prop}(h:p:=by
 subst aA;have aY:=(cy.1 hb).1;rw [hY aY]at hc;injection hc with hc;subst hc;rw [hh]at bT;injection bT with bT;subst bT;exact jy):p:=h
def Jw{p:Prop}(h:p:=by rw [gj (cy.1 h).1];exact h):p:=h
def acv{p:Prop}(h:p:=by
 simp only [cellOf,hv];rw [ju,qW w g _ cur t (0,0) hh,<-pG];exact fy):p:=h
def tc{p:Prop}(h:p:=by simp at hx):p:=h
def Bp{p:Prop}(h:p:=by simpa using hI.len):p:=h
def acf{p:Prop}(h:p:=by
 have hl:=(cy.1 hb).1;rw [gj (by omega)]at hh;exact .sub hb hh hi hj ho hc hg):p:=h
def ab7{p:Prop}(h:p:=by
 cases hh with
 |out hb _ _=>exact(no hb).elim
 |sub hb _ _ _ _ _ _=>exact(no hb).elim):p:=h
def ab4{p:Prop}(h:p:=by
 have hl:=(cy.1 hb).1;rw [gj (by omega)]at hh;exact .out hb hh hg):p:=h
def abI{p:Prop}(h:p:=by
 have:=(cy.1 hc).1;simp at this;omega):p:=h
def Rk{p:Prop}(h:p:=by rw [fP (Ne.symm hi)]at hc;exact hc):p:=h
def abk{p:Prop}(h:p:=by rw [fP (Ne.symm aA)]at q1;exact h4 ⟨i,c,hc,q1,q2,q3,q4⟩):p:=h
def Jj{p:Prop}(h:p:=by simp [pT]at h):p:=h
def abj{p:Prop}(h:p:=by injection hk with hk;subst hk;exact hs.2.2 a hF):p:=h
end Go.ae
namespace Go.ae
def ju:=@Go.Addr.add_lit
def jS:=@List.mem_append
def pG:=@Nat.add_assoc
def ct:=@Nat.eq_of_beq_eq_true
def qW:=@Go.cell_of_row
def dZ:=@Nat.le_refl
def j5:=@Nat.le_trans
def hY:=@List.getElem?_set_self
def fP:=@List.getElem?_set_ne
def gj:=@List.getElem?_append_left
def jt:=@List.getElem?_append_right
def kY:=@List.mem_of_getElem?
def kX:=@Nat.lt_of_lt_of_le
def YY:=@Nat.ne_of_beq_eq_false
end Go.ae
namespace Go.ae
open Go
noncomputable section
variable{b:bU}{hd:Hd}{g id:Nat}{p:Option (Nat×Nat)}{row:Option Nat}{v:Value}{qD:World}{F':aO}{M':ar}{ids Lz:cp}{ρ':aT}
structure Site where
 nt:Nat
 params:Array Tmp
 assign:Code
 body:Code
structure Ub where
 ks:dv
 e:TypeId
 bt:TypeId
 pt:TypeId
 up:TypeId
 ne:FuncId
structure Cx where
 P:Program
 ti:TypeId->TI
 site:Nat->Site
 fa:Nat->AV
 eqs:TypeId->Bool
 pk:Bool
 vw:Nat->TypeId->Bool
 ub:Option Ub
def Cx.xG(X:Cx)(ks:dv)(e:TypeId):Bool:=match X.ub with|none=>true|some u=>match decide (ks=u.ks)with|true=>Nat.beq e u.e|false=>true
def Cx.K(X:Cx)(t:TypeId):dv:=(X.ti t).ks
def look(env:bA)(u:Nat):AV:=List.rec (motive:=λ_=>AV) .top (λp _ ih=>Bool.rec (motive:=λ_=>AV) ih p.2 (Nat.beq u p.1)) env
def look_nil(u:Nat):look [] u= .top :=rfl
def nf(t:Nat)(x:AV)(env:bA)(u:Nat):look ((t,x)::env) u=if u==t then x else look env u:=by
 show Bool.rec (motive:=λ_=>AV) (look env u) x (Nat.beq u t)=_;cases hb:Nat.beq u t with
 |true=>
  have:=ct hb;subst this;show x=_;simp
 |false=>
  have:u≠t:=YY hb;show look env u=_;simp [this]
def gm(M:ar)(i:Nat):Option bU:=List.rec (motive:=λ_=>Nat->Option bU) (λ_=>none) (λb _ ih n=>Nat.rec (motive:=λ_=>Option bU) (some b) (λm _=>ih m) n) M i
def cG:∀(M:ar) (i:Nat),gm M i=M[i]?
 | [],_=>rfl
 |_::_,0=>rfl
 |b::M,n+1=>by
  show gm M n=_;rw [cG M n];rfl
def Ex.code:Ex->Option Code
 | .normal =>none
 | .exit id=>some (.exit id)
 | .ret =>some .ret
def bU.fQ:bU->Bool| .dead | .di _ _| .aU _ _ _=>true|_=>false
def bU.ji:bU->Bool| .aU _ _ _=>true|_=>false
variable {X:Cx}
def gX(X:Cx)(ρ:aT)(F:aO)(w:World)(env:bA)(tmps:Array Value):Prop:=
 ∀t,aw X.K ρ F w (look env t) (tmps.getD t undef)
def iN(X:Cx)(ρ:aT)(F:aO)(w:World)(hd:Hd):bU->Prop
 | .var ks cs=>cZ ks cs=true∧hd.sz=cs.length∧∃g cur e,hd.v= .slice (some ⟨g,0,none⟩) 1 1∧w.heap[g]?=some (.cells cur e (0,0))∧cq X.K ρ F w cs cur.toList∧X.xG ks e=true
 | .row t xs=>hd.sz=(X.K t).length ∧(∀(i:Nat) row,xs[i]?=some row->cZ (X.K t) row=true)∧
    ((hd.v= .slice none 0 0∧xs=[])∨∃g o c cur,hd.v= .slice (some ⟨g,o,none⟩) xs.length c∧w.heap[g]?=some (.cells cur t (0,0))∧xs.length<=c∧c<=maxLen∧o+c*hd.sz<=cur.size∧
      ∀(i:Nat) row,xs[i]?=some row->∀(j:Nat) x,row[j]?=some x->∃v,cur[o+i*hd.sz+j]?=some v∧aw X.K ρ F w x v)
 | .map kd ag ks es=>kd≠ .any ∧∃g mes clock,hd.v= .map (some g)∧w.heap[g]?=some (.map mes clock)∧mes.size=es.length∧
    ∀(i:Nat) e me,es[i]?=some e->mes[i]?=some me->(fj kd e.1=true∧cZ ks e.2.cells=true∧e.2.shape ag=true)∧aw X.K ρ F w e.1 me.key∧aw X.K ρ F w e.2 me.val
 | .loop s env busy uZ=>∃g lp,hd.v= .pointer (some ⟨g,0,none⟩)∧w.heap[g]?=some (.loop lp)∧lp.params=(X.site s).params ∧lp.assign=(X.site s).assign ∧lp.body=(X.site s).body ∧
    lp.tmps.size=(X.site s).nt ∧gX X ρ F w env lp.tmps∧(busy=true->lp.state= .busy)∧(busy=false->uZ=none->lp.state= .ready)∧(busy=false->uZ≠none->lp.state= .done)∧
    lp.pending=uZ.bind Ex.code∧uZ≠some .normal
 | .L1 =>∃g,hd.v= .pointer (some ⟨g,0,none⟩)∧w.heap[g]?=some (.deferred (some []))
 | .di t xs=>aw X.K ρ F w (.U t xs) hd.v
 | .dead =>True
 | .aU _ _ _=>True
structure Sc where
 S:Nat->Prop
 F0:aO
variable{S':Sc}
instance:CoeFun Sc (λ_=>Nat->Prop):=⟨Sc.S⟩
def pZ:Kind->AV->Bool
 | .slice t,.sub t' _=>t==t'
 |k,x=>fj k x
def pT:dv->Row->Bool
 | [],[]=>true
 |k::ks,x::xs=>pZ k x&&pT ks xs
 |_,_=>false
def yu:∀{ks:dv} {row:Row},pT ks row=true->∀{j:Nat} {x:AV},row[j]?=some x->∃k,ks[j]?=some k∧pZ k x=true
 | [],[],_,j,x,hx=>tc
 | [],_::_,h,_,_,_=>Jj
 |_::_,[],h,_,_,_=>Jj
 |k::ks,y::xs,h,j,x,hx=>by
  simp only [pT,bc]at h;cases j with
  |zero=>simp at hx;subst hx;exact⟨k,rfl,h.1⟩
  |succ j=>simp at hx;exact yu h.2 hx
def vZ:∀{ks:dv} {row:Row},pT ks row=true->row.length=ks.length
 | [],[],_=>rfl
 | [],_::_,h=>Jj
 |_::_,[],h=>Jj
 |k::ks,x::xs,h=>by
  simp only [pT,bc]at h;simp [vZ h.2]
def cellOf(w:World)(hd:Hd)(i j:Nat):Option Value:=match hd.v with| .slice (some a) _ _=>w.cell? (a.add (i*hd.sz+j))|_=>none
def fw(op:Option (Nat×Nat×Nat))(i j:Nat):Option Nat:=match op with|some (i',j',k)=>if i'=i∧j'=j then some k else none|none=>none
def rk(X:Cx)(ρ:aT)(F:aO)(w:World)(x:AV)(v:Value):Prop:=
 match x with
 | .sub e ys=>iN X ρ F w ⟨v,(X.K e).length⟩ (.row e ys)∧v.oneCell'=true
 |x=>aw X.K ρ F w x v
def j9(X:Cx)(ρ:aT)(F:aO)(w:World)(hd:Hd)(t:TypeId)(xs:aH)(op:Option (Nat×Nat×Nat)):Prop:=
 (∀t,∀k∈X.K t,k≠ .any)∧hd.sz=(X.K t).length ∧(∀(i:Nat) row,xs[i]?=some row->pT (X.K t) row=true)∧(∀i j k,op=some (i,j,k)->i<xs.length∧j<(X.K t).length)∧
   ((hd.v= .slice none 0 0∧xs=[])∨∃g o c cur,hd.v= .slice (some ⟨g,o,none⟩) xs.length c∧w.heap[g]?=some (.cells cur t (0,0))∧xs.length<=c∧c<=maxLen∧o+c*hd.sz<=cur.size∧
     ∀(i:Nat) row,xs[i]?=some row->∀(j:Nat) x,row[j]?=some x->∃v,cur[o+i*hd.sz+j]?=some v∧(∀k,fw op i j=some k->∃h,ρ[k]?=some h∧v=h.v)∧(fw op i j=none->rk X ρ F w x v))
inductive Hid(w:World)(ρ:aT)(M:ar):Nat->Option (Nat×Nat)->Nat->Prop
 |out{id:Nat}{t:TypeId}{xs:aH}{op:Option (Nat×Nat×Nat)}{hd:Hd}{g:Nat}(hb:M[id]?=some (.aU t xs op))(hh:ρ[id]?=some hd)(hg:hd.b9=some g):Hid w ρ M id none g
 |sub{id:Nat}{t:TypeId}{xs:aH}{op:Option (Nat×Nat×Nat)}{hd:Hd}{i j:Nat}{row:Row}{e:TypeId}{ys:aH}{v:Value}{g:Nat}(hb:M[id]?=some (.aU t xs op))(hh:ρ[id]?=some hd)
   (hi:xs[i]?=some row) (hj:row[j]?=some (.sub e ys)) (ho:fw op i j=none) (hc:cellOf w hd i j=some v) (hg:Value.b9 v=some g):Hid w ρ M id (some (i,j)) g
def lJ(ρ:aT)(M:ar)(g:Nat):Prop:=∃(id:Nat) (b:bU) (hd:Hd),M[id]?=some b∧b.fQ=false∧ρ[id]?=some hd∧hd.b9=some g
structure kV(X:Cx)(w0:World)(S:Sc)(F:aO)(ρ:aT)(M:ar)(w:World):Prop where
 aa:∀{id:Nat} {p:Option (Nat×Nat)} {g:Nat},Hid w ρ M id p g->g<w.heap.size∧(S g∨w0.heap.size<=g)∧(∀a,F a->a.block≠g)∧¬lJ ρ M g
 inj:∀{id id':Nat} {p p':Option (Nat×Nat)} {g:Nat},Hid w ρ M id p g->Hid w ρ M id' p' g->id=id'∧p=p'
 rep:∀{id:Nat} {t:TypeId} {xs:aH} {op:Option (Nat×Nat×Nat)} {hd:Hd},M[id]?=some (.aU t xs op)->ρ[id]?=some hd->j9 X ρ F w hd t xs op
structure Inv(X:Cx)(w0:World)(S:Sc)(F:aO)(ρ:aT)(M:ar)(w:World):Prop where
 os:w.os=w0.os
 tape:w.tape=w0.tape
 output:w.output=w0.output
 size:w0.heap.size<=w.heap.size
 frame:∀g,g<w0.heap.size->¬S g->w.heap[g]?=w0.heap[g]?
 len:ρ.length=M.length
 rep:∀(id:Nat) b hd,M[id]?=some b->ρ[id]?=some hd->iN X ρ F w hd b
 sep:∀(id:Nat) b hd g,M[id]?=some b->b.fQ=false->ρ[id]?=some hd->hd.b9=some g->g<w.heap.size∧(S g∨w0.heap.size<=g)∧∀a,F a->a.block≠g
 fZ:∀(id id':Nat) b b' hd bY g,id≠id'->M[id]?=some b->M[id']?=some b'->b.fQ=false->b'.fQ=false->ρ[id]?=some hd->ρ[id']?=some bY->
  hd.b9=some g->bY.b9≠some g
 fz:∀a,F a->a.block<w.heap.size
 fa:∀g,aw X.K ρ F w (X.fa g) (.pointer (some ⟨g,0,none⟩))
 one:∀(id:Nat) hd,ρ[id]?=some hd->hd.v.oneCell'=true
 dQ:∀a,F a->S.F0 a∨S a.block∨w0.heap.size<=a.block
 fin:∀a,S.F0 a->F a
 aU:kV X w0 S F ρ M w
def gX.mono{ρ ρ':aT}{F F':aO}{w w':World}(dR:∀(id:Nat) hd,ρ[id]?=some hd->ρ'[id]?=some hd)(hF:∀a,F a->F' a)
 (hw:∀a v,F a->w.cell? a=some v->w'.cell? a=some v) {env:bA} {tmps:Array Value} (h:gX X ρ F w env tmps):gX X ρ' F' w' env tmps:=
 λt=>(h t).mono dR hF hw
def iN.mono{ρ ρ':aT}{F F':aO}{w w':World}(dR:∀(id:Nat) hd,ρ[id]?=some hd->ρ'[id]?=some hd)(hF:∀a,F a->F' a)
 (hw:∀a v,F a->w.cell? a=some v->w'.cell? a=some v) {hd:Hd} {b:bU} (hg:∀g,hd.b9=some g->w'.heap[g]?=w.heap[g]?) (h:iN X ρ F w hd b):iN X ρ' F' w' hd b:=by
 cases b with
 |var ks cs=>
  obtain⟨h1,h2,g,cur,e,hv,hh,hr,hy⟩:=h;exact⟨h1,h2,g,cur,e,hv,by rw [hg g (j8)];exact hh,⟨hr.1,λj x v hx hv=>(hr.2 j x v hx hv).mono dR hF hw⟩,hy⟩
 |row t xs=>
  obtain⟨h1,h2,h3⟩:=h;refine⟨h1,h2,?_⟩;rcases h3 with h3|⟨g,o,c,cur,hv,hh,h4,h5,h6,h7⟩
  ·exact .inl h3
  ·refine .inr ⟨g,o,c,cur,hv,by rw [hg g (j8)];exact hh,h4,h5,h6,λi row hi j x hx=> ?_⟩;obtain⟨v,fy,hr⟩:=h7 i row hi j x hx;exact⟨v,fy,hr.mono dR hF hw⟩
 |map kd ag ks es=>
  obtain⟨mo,g,mes,clock,hv,hh,cX,rL⟩:=h;exact⟨mo,g,mes,clock,hv,by rw [hg g (j8)];exact hh,cX,λi e me he hm=>let⟨a,r1,r2⟩:=rL i e me he hm;⟨a,r1.mono dR hF hw,r2.mono dR hF hw⟩⟩
 |loop s env busy uZ=>
  obtain⟨g,lp,hv,hh,h1,h2,h3,h4,h5,h6⟩:=h;exact⟨g,lp,hv,by rw [hg g (j8)];exact hh,h1,h2,h3,h4,h5.mono dR hF hw,h6⟩
 |L1=>
  obtain⟨g,hv,hh⟩:=h;exact⟨g,hv,by rw [hg g (j8)];exact hh⟩
 |di t xs=>exact aw.mono dR hF hw h
 |dead=>trivial
 |aU _ _ _=>trivial
def iN.Ic{ρ:aT}{F:aO}{w w':World}(dR:∀(id:Nat) hd,ρ[id]?=some hd->ρ'[id]?=some hd)(hF:∀a,F a->F' a)
 (hw:∀a v,F a->w.cell? a=some v->w'.cell? a=some v)   (hb:b.fQ=true) (h:iN X ρ F w hd b):iN X ρ' F' w' hd b:=by
 cases b with
 |di t xs=>exact aw.mono dR hF hw h
 |dead=>trivial
 |aU _ _ _=>trivial
 |_=>simp [bU.fQ]at hb
def aoP{w w':World}(h:∀g,hd.b9=some g->w'.heap[g]?=w.heap[g]?)(i j:Nat):cellOf w' hd i j=cellOf w hd i j:=by
 unfold cellOf;split
 ·rename_i a n c hv;have e:∀m,(a.add m).block =a.block:=λm=>by unfold Addr.add;split<;>rfl
  unfold World.cell?;rw [e,h a.block (j8)]
 ·rfl
def j9.mono{ρ ρ':aT}{F F':aO}{w w':World}(dR:∀(id:Nat) hd,ρ[id]?=some hd->ρ'[id]?=some hd)(hF:∀a,F a->F' a)
 (hw:∀a v,F a->w.cell? a=some v->w'.cell? a=some v) {hd:Hd} {t:TypeId} {xs:aH} {op:Option (Nat×Nat×Nat)} (hg:∀g,hd.b9=some g->w'.heap[g]?=w.heap[g]?)
 (hs:∀(i j:Nat) row e ys v g,xs[i]?=some row->row[j]?=some (.sub e ys)->fw op i j=none->cellOf w hd i j=some v->Value.b9 v=some g->w'.heap[g]?=w.heap[g]?)
 (h:j9 X ρ F w hd t xs op):j9 X ρ' F' w' hd t xs op:=by
 obtain⟨h0,h1,h2,h3,h4⟩:=h;refine⟨h0,h1,h2,h3,?_⟩;rcases h4 with h4|⟨g,o,c,cur,hv,hh,h5,h6,h7,h8⟩
 ·exact .inl h4
 ·refine .inr ⟨g,o,c,cur,hv,by rw [hg g (j8)];exact hh,h5,h6,h7,λi row hi j x hx=> ?_⟩;obtain⟨v,fy,ho,hr⟩:=h8 i row hi j x hx;refine⟨v,fy,λk hk=>let⟨h',e1,e2⟩:=ho k hk;⟨h',dR _ _ e1,e2⟩,λhk=> ?_⟩;have hr:=hr hk;have jI:cellOf w hd i j=some v:=acv;unfold rk at hr⊢;split at hr
  ·exact⟨hr.1.mono dR hF hw (λg' ij=>hs i j row _ _ v g' hi hx hk jI ij),hr.2⟩
  ·exact hr.mono dR hF hw
def Hid.pop{w:World}{ρ:aT}{M:ar}(hlen:ρ.length=M.length)(hn:b.ji=false)(hh:Hid w (ρ++[hd]) (M++[b]) id p g):Hid w ρ M id p g:=by
 have jM:∀{c:bU},(M++[b])[id]?=some c->c.ji=true->M[id]?=some c:=λ{c} hc lT=>by
  by_cases hi:id<M.length
  ·rw [gj hi]at hc;exact hc
  ·rw [jt (by omega)]at hc;have:id- M.length=0:=abI;rw [this]at hc;simp at hc;subst hc;rw [hn]at lT;cases lT
 cases hh with
 |out hb hh hg=>
  have hb:=jM hb rfl;exact ab4
 |sub hb hh hi hj ho hc hg=>
  have hb:=jM hb rfl;exact acf
def Hid.SB{w w':World}{ρ:aT}{M:ar}(hlen:ρ.length=M.length)
 (hM:∀(id:Nat) b,M'[id]?=some b->b.ji=true->M[id]?=some b) (dR:∀(id:Nat) hd,ρ[id]?=some hd->id<ρ'.length->ρ'[id]?=some hd)
 (aA:∀g,(∃id p,Hid w ρ M id p g∧∃b,M'[id]?=some b∧b.ji=true)->w'.heap[g]?=w.heap[g]?)    (hh:Hid w' ρ' M' id p g):Hid w ρ M id p g:=by
 have back:∀{id:Nat} {t:TypeId} {xs:aH} {op:Option (Nat×Nat×Nat)} {hd:Hd},M'[id]?=some (.aU t xs op)->ρ'[id]?=some hd->M[id]?=some (.aU t xs op)∧ρ[id]?=some hd:=by
  intro id t xs op hd hb hh;exact adz
 cases hh with
 |out hb hh hg=>
  obtain⟨b1,b2⟩:=back hb hh;exact .out b1 b2 hg
 |sub hb hh hi hj ho hc hg=>
  obtain⟨b1,b2⟩:=back hb hh;refine .sub b1 b2 hi hj ho ?_ hg;unfold cellOf at hc⊢;split at hc
  ·rename_i a n c hv;have hp:=aA a.block ⟨_,_,.out b1 b2 (g:=a.block) (j8),_,hb,rfl⟩;have e:∀m,(a.add m).block =a.block:=λm=>by unfold Addr.add;split<;>rfl
   unfold World.cell? at hc⊢;rw [e]at hc⊢;rw [<-hp];exact hc
  ·cases hc
def Hid.back{w0 w w':World}{S:Sc}{F:aO}{ρ:aT}{M:ar}(h:kV X w0 S F ρ M w)(hlen:ρ.length=M.length)
 (hM:∀(id:Nat) b,M'[id]?=some b->b.ji=true->M[id]?=some b) (dR:∀(id:Nat) hd,ρ[id]?=some hd->id<ρ'.length->ρ'[id]?=some hd)
 (aA:∀g,g<w.heap.size->(S g∨w0.heap.size<=g)->(∀a,F a->a.block≠g)->¬lJ ρ M g->w'.heap[g]?=w.heap[g]?)    (hh:Hid w' ρ' M' id p g):Hid w ρ M id p g:=
 hh.SB (w:=w) hlen hM dR λg ⟨_,_,hg,_⟩=>let⟨a1,a2,a3,a4⟩:=h.aa hg;aA g a1 a2 a3 a4
def kV.ac4{w0 w w':World}{S:Sc}{F:aO}{ρ:aT}{M:ar}(h:kV X w0 S F ρ M w)(hlen:ρ.length=M.length)
 (hM:∀(id:Nat) b,M'[id]?=some b->b.ji=true->M[id]?=some b) (dR:∀(id:Nat) hd,ρ[id]?=some hd->id<ρ'.length->ρ'[id]?=some hd)
 (Uz:∀{id:Nat} {t:TypeId} {xs:aH} {op:Option (Nat×Nat×Nat)} {hd:Hd},M'[id]?=some (.aU t xs op)->ρ'[id]?=some hd->j9 X ρ F w hd t xs op->(∀g,hd.b9=some g->w'.heap[g]?=w.heap[g]?)->
   (∀(i j:Nat) row e ys v g,xs[i]?=some row->row[j]?=some (.sub e ys)->fw op i j=none->cellOf w hd i j=some v->Value.b9 v=some g->w'.heap[g]?=w.heap[g]?)->j9 X ρ' F' w' hd t xs op)
 (aA:∀g,(∃id p,Hid w ρ M id p g∧∃b,M'[id]?=some b∧b.ji=true)->g<w'.heap.size∧(S' g∨qD.heap.size<=g)∧w'.heap[g]?=w.heap[g]?∧(∀a,F' a->a.block≠g)∧¬lJ ρ' M' g):
 kV X qD S' F' ρ' M' w':=by
 have back:∀{id:Nat} {t:TypeId} {xs:aH} {op:Option (Nat×Nat×Nat)} {hd:Hd},M'[id]?=some (.aU t xs op)->ρ'[id]?=some hd->M[id]?=some (.aU t xs op)∧ρ[id]?=some hd:=by
  intro id t xs op hd hb hh;exact adz
 have out:∀{id:Nat} {t:TypeId} {xs:aH} {op:Option (Nat×Nat×Nat)} {hd:Hd} {g:Nat},M[id]?=some (.aU t xs op)->ρ[id]?=some hd->(∃b,M'[id]?=some b∧b.ji=true)->hd.b9=some g->w'.heap[g]?=w.heap[g]?:=by
  intro id t xs op hd g hb hh h' hg;exact(aA g ⟨_,_,.out hb hh hg,h'⟩).2.2.1
 have hb:∀{id:Nat} {p:Option (Nat×Nat)} {g:Nat},Hid w' ρ' M' id p g->Hid w ρ M id p g:=λhh=>hh.SB hlen hM dR λg hg=>(aA g hg).2.2.1;refine⟨λhh=> ?_,λh1 h2=>h.inj (hb h1) (hb h2),λ{id t xs op hd} hU hh=> ?_⟩
 ·obtain⟨c1,c2,_,c3,c4⟩:=aA _ ⟨_,_,hb hh,by cases hh with|out h _ _=>exact⟨_,h,rfl⟩|sub h _ _ _ _ _ _=>exact⟨_,h,rfl⟩⟩;exact⟨c1,c2,c3,c4⟩
 ·obtain⟨b1,b2⟩:=back hU hh;exact Uz hU hh (h.rep b1 b2) (λg hg=>out b1 b2 ⟨_,hU,rfl⟩ hg) λi j row e ys v g hi hx ho hc hg=>(aA _ ⟨_,_,.sub b1 b2 hi hx ho hc hg,_,hU,rfl⟩).2.2.1
def kV.step{w0 w w':World}{S:Sc}{F:aO}{ρ:aT}{M:ar}(h:kV X w0 S F ρ M w)(hlen:ρ.length=M.length)
 (hM:∀(id:Nat) b,M'[id]?=some b->b.ji=true->M[id]?=some b) (dR:∀(id:Nat) hd,ρ[id]?=some hd->id<ρ'.length->ρ'[id]?=some hd)
 (Uz:∀{id:Nat} {t:TypeId} {xs:aH} {op:Option (Nat×Nat×Nat)} {hd:Hd},M'[id]?=some (.aU t xs op)->ρ'[id]?=some hd->j9 X ρ F w hd t xs op->(∀g,hd.b9=some g->w'.heap[g]?=w.heap[g]?)->
   (∀(i j:Nat) row e ys v g,xs[i]?=some row->row[j]?=some (.sub e ys)->fw op i j=none->cellOf w hd i j=some v->Value.b9 v=some g->w'.heap[g]?=w.heap[g]?)->j9 X ρ' F' w' hd t xs op)
 (aA:∀g,g<w.heap.size->(S g∨w0.heap.size<=g)->(∀a,F a->a.block≠g)->¬lJ ρ M g->g<w'.heap.size∧(S' g∨qD.heap.size<=g)∧w'.heap[g]?=w.heap[g]?∧(∀a,F' a->a.block≠g)∧¬lJ ρ' M' g):
 kV X qD S' F' ρ' M' w':=
 h.ac4 hlen hM dR Uz λg ⟨_,_,hg,_⟩=>let⟨a1,a2,a3,a4⟩:=h.aa hg;aA g a1 a2 a3 a4
def kV.stay{w0 w w':World}{S:Sc}{F:aO}{ρ:aT}{M:ar}(h:kV X w0 S F ρ M w)(hlen:ρ.length=M.length)
 (hM:∀(id:Nat) b,M'[id]?=some b->b.ji=true->M[id]?=some b) (dR:∀(id:Nat) hd,ρ[id]?=some hd->ρ'[id]?=some hd) (hF:∀a,F a->F' a) (hw:∀a v,F a->w.cell? a=some v->w'.cell? a=some v)
 (aA:∀g,g<w.heap.size->(S g∨w0.heap.size<=g)->(∀a,F a->a.block≠g)->¬lJ ρ M g->g<w'.heap.size∧(S' g∨qD.heap.size<=g)∧w'.heap[g]?=w.heap[g]?∧(∀a,F' a->a.block≠g)∧¬lJ ρ' M' g):
 kV X qD S' F' ρ' M' w':=
 h.step hlen hM (λid hd hh _=>dR id hd hh) (λ_ _ hr h1 h2=>hr.mono dR hF hw h1 h2) aA
def kV.set{w0 w:World}{S:Sc}{F:aO}{ρ:aT}{M:ar}(h:kV X w0 S F ρ M w){id:Nat}{b:bU}(hn:b.ji=false)
 (ho:∀g hd,b.fQ=false->ρ[id]?=some hd->hd.b9=some g->lJ ρ M g∨∀i p,¬Hid w ρ M i p g):kV X w0 S F ρ (M.set id b) w:=by
 have jM:∀(i:Nat) c,(M.set id b)[i]?=some c->c.ji=true->M[i]?=some c:=λi c hc lT=>by
  by_cases hi:i=id
  ·subst hi;have aY:i<M.length:=by have:=(cy.1 hc).1;simpa using this
   rw [hY aY]at hc;injection hc with hc;subst hc;rw [hn]at lT;cases lT
  ·exact Rk
 have back:∀{i:Nat} {p:Option (Nat×Nat)} {g:Nat},Hid w ρ (M.set id b) i p g->Hid w ρ M i p g:=by
  intro i p g hh;cases hh with
  |out hb hh hg=>exact .out (jM _ _ hb rfl) hh hg
  |sub hb hh hi hj ho hc hg=>exact .sub (jM _ _ hb rfl) hh hi hj ho hc hg
 refine⟨λhh=> ?_,λh1 h2=>h.inj (back h1) (back h2),λhb hh=>h.rep (jM _ _ hb rfl) hh⟩;obtain⟨a1,a2,a3,a4⟩:=h.aa (back hh);refine⟨a1,a2,a3,?_⟩;rintro⟨i,c,hc,q1,q2,q3,q4⟩
 by_cases hi:i=id
 ·subst hi;have aY:i<M.length:=by have:=(cy.1 q1).1;simpa using this
  rw [hY aY]at q1;injection q1 with q1;subst q1;rcases ho _ _ q2 q3 q4 with h|h
  ·exact a4 h
  ·exact h _ _ (back hh)
 ·rw [fP (Ne.symm hi)]at q1;exact a4 ⟨i,c,hc,q1,q2,q3,q4⟩
def kV.none{w0 w:World}{S:Sc}{F:aO}{ρ:aT}{M:ar}(h:∀b∈M,b.ji=false):kV X w0 S F ρ M w:=by
 have no:∀{id:Nat} {t:TypeId} {xs:aH} {op:Option (Nat×Nat×Nat)},M[id]?=some (.aU t xs op)->False:=λhb=>by have:=h _ (kY hb);cases this
 refine⟨λhh=> ?_,λhh _=> ?_,λhb _=>(no hb).elim⟩
 ·exact ab7
 ·exact ab7
section
variable {w0 w w':World} {S:Sc} {F:aO} {ρ:aT} {M:ar}
def Inv.cells(hI:Inv X w0 S F ρ M w)(hg:w.grownBy w' row)(er:∀k,row=some k->∀a,F a->a.block≠k):
 ∀a v,F a->w.cell? a=some v->w'.cell? a=some v:=by
 intro a v hF hc;refine hg.cell hc ?_;intro e;exact er _ e.symm a hF rfl
def jr{α:Type}{l:List α}{x y:α}{i:Nat}(h:l[i]?=some y):(l++[x])[i]?=some y:=Jw
def Inv.grown(hI:Inv X w0 S F ρ M w)(hg:w.grownBy w' none):Inv X w0 S F ρ M w' where
 os:=hg.os.trans hI.os
 tape:=hg.tape.trans hI.tape
 output:=hg.output.trans hI.output
 size:=j5 hI.size hg.size
 frame:=λg h1 h2=>(hg.block g (kX h1 hI.size) (by simp)).trans (hI.frame g h1 h2)
 len:=hI.len
 rep:=λid b hd hb hh=>by
  by_cases bY:b.fQ=true
  ·exact(hI.rep id b hd hb hh).Ic (λ_ _ h=>h) (λ_ h=>h) (hI.cells hg (by simp)) bY
  ·refine(hI.rep id b hd hb hh).mono (λ_ _ h=>h) (λ_ h=>h) (hI.cells hg (by simp)) ?_;intro g bM;exact hg.block g (hI.sep id b hd g hb (by simpa using bY) hh bM).1 (by simp)
 sep:=λid b hd g hb ck hh bM=>let⟨a1,a2,a3⟩:=hI.sep id b hd g hb ck hh bM;⟨kX a1 hg.size,a2,a3⟩
 fZ:=hI.fZ
 fz:=λa ha=>kX (hI.fz a ha) hg.size
 fa:=λg=>(hI.fa g).mono (λ_ _ h=>h) (λ_ h=>h) (hI.cells hg (by simp))
 one:=hI.one
 dQ:=hI.dQ
 fin:=hI.fin
 aU:=hI.aU.stay hI.len (λ_ _ h _=>h) (λ_ _ h=>h) (λ_ h=>h) (hI.cells hg (by simp)) λg h1 h2 h3 h4=>⟨kX h1 hg.size,h2,hg.block g h1 (by simp),h3,h4⟩
def Inv.write(hI:Inv X w0 S F ρ M w){id:Nat}{b b':bU}{hd:Hd}{g:Nat}(hb:M[id]?=some b)(iH:b.fQ=false)(hh:ρ[id]?=some hd)(bM:hd.b9=some g)
 (hg:w.grownBy w' (some g)) (jy:iN X ρ F w' hd b') (hn:b'.ji=false:=by rfl):Inv X w0 S F ρ (M.set id b') w' where
 os:=hg.os.trans hI.os
 tape:=hg.tape.trans hI.tape
 output:=hg.output.trans hI.output
 size:=j5 hI.size hg.size
 frame:=λk h1 h2=>by
  have hs:=hI.sep id b hd g hb iH hh bM;refine(hg.block k (kX h1 hI.size) ?_).trans (hI.frame k h1 h2);intro e;injection e with e;subst e;rcases hs.2.1 with h|h
  ·exact h2 h
  ·omega
 len:=Bp
 rep:=λid' c bY hc bT=>by
  by_cases aA:id'=id
  ·subst aA;rw [hh]at bT;injection bT with bT;subst bT;have aY:=(cy.1 hb).1;rw [hY aY]at hc;injection hc with hc;subst hc;exact jy
  ·rw [fP (Ne.symm aA)]at hc;have hs:=hI.sep id b hd g hb iH hh bM
   by_cases kU:c.fQ=true
   ·exact(hI.rep id' c bY hc bT).Ic (λ_ _ h=>h) (λ_ h=>h) (hI.cells hg (λk hk a hF=>abj)) kU
   ·refine(hI.rep id' c bY hc bT).mono (λ_ _ h=>h) (λ_ h=>h) (hI.cells hg ?_) ?_
    ·intro k hk a hF;injection hk with hk;subst hk;exact hs.2.2 a hF
    ·intro g' ij;refine hg.block g' (hI.sep id' c bY g' hc (by simpa using kU) bT ij).1 ?_;intro e;injection e with e;subst e;exact hI.fZ id' id c b bY hd g' aA hc hb (by simpa using kU) iH bT hh ij bM
 sep:=λid' c bY g' hc kU bT ij=>by
  by_cases aA:id'=id
  ·subst aA;rw [hh]at bT;injection bT with bT;subst bT;obtain⟨a1,a2,a3⟩:=hI.sep id' b hd g' hb iH hh ij;exact⟨kX a1 hg.size,a2,a3⟩
  ·rw [fP (Ne.symm aA)]at hc;obtain⟨a1,a2,a3⟩:=hI.sep id' c bY g' hc kU bT ij;exact⟨kX a1 hg.size,a2,a3⟩
 fZ:=λi j c d hc bY k po h1 h2 h3 h4 h5 h6 h7=>by
  have key:∀(i:Nat) c,(M.set id b')[i]?=some c->c.fQ=false->∃c0,M[i]?=some c0∧c0.fQ=false:=by
   intro i c hc pw
   by_cases aA:i=id
   ·subst aA;exact⟨b,hb,iH⟩
   ·rw [fP (Ne.symm aA)]at hc;exact⟨c,hc,pw⟩
  obtain⟨c0,a1,a2⟩:=key i c h1 h3;obtain⟨d0,b1,b2⟩:=key j d h2 h4;exact hI.fZ i j c0 d0 hc bY k po a1 b1 a2 b2 h5 h6 h7
 fz:=λa ha=>kX (hI.fz a ha) hg.size
 fa:=λk=>(hI.fa k).mono (λ_ _ h=>h) (λ_ h=>h) (hI.cells hg (λj hj a hF=>by injection hj with hj;subst hj;exact(hI.sep id b hd g hb iH hh bM).2.2 a hF))
 one:=hI.one
 dQ:=hI.dQ
 fin:=hI.fin
 aU:=by
  have hs:=hI.sep id b hd g hb iH hh bM;refine hI.aU.stay hI.len (λi c hc lT=> ?_) (λ_ _ h=>h) (λ_ h=>h) (hI.cells hg (λk hk a hF=>abj)) λk h1 h2 h3 h4=>⟨kX h1 hg.size,h2,hg.block k h1 ?_,h3,?_⟩
  ·exact adC
  ·intro e;injection e with e;subst e;exact h4 ⟨id,b,hd,hb,iH,hh,bM⟩
  ·rintro⟨i,c,hc,q1,q2,q3,q4⟩
   by_cases aA:i=id
   ·subst aA;rw [hh]at q3;injection q3 with q3;subst q3;exact h4 ⟨i,b,hd,hb,iH,hh,q4⟩
   ·exact abk
def Inv.wT(hI:Inv X w0 S F ρ M w)(xq:∀g,hd.b9=some g->g<w.heap.size∧(S g∨w0.heap.size<=g)∧(∀a,F a->a.block≠g)∧
 (∀(id:Nat) b' bY,M[id]?=some b'->b'.fQ=false->ρ[id]?=some bY->bY.b9≠some g)∧∀id p,¬Hid w ρ M id p g)
 (h1:hd.v.oneCell'=true) (jy:iN X (ρ++[hd]) F w hd b) (hn:b.ji=false:=by rfl):Inv X w0 S F (ρ++[hd]) (M++[b]) w:=by
 have hlen:=hI.len;have split:∀(i:Nat) c,(M++[b])[i]?=some c->(i<M.length∧M[i]?=some c)∨(i=M.length∧c=b):=by
  intro i c hc
  by_cases hi:i<M.length
  ·rw [gj hi]at hc;exact .inl ⟨hi,hc⟩
  ·rw [jt (by omega)]at hc;have:i- M.length=0:=abI;rw [this]at hc;simp at hc;exact .inr ⟨by omega,hc.symm⟩
 have qn:∀(i:Nat) h,(ρ++[hd])[i]?=some h->(i<M.length∧ρ[i]?=some h)∨(i=M.length∧h=hd):=by
  intro i h hh
  by_cases hi:i<ρ.length
  ·rw [gj hi]at hh;exact .inl ⟨by omega,hh⟩
  ·rw [jt (by omega)]at hh;have:i- ρ.length=0:=by
    have:=(cy.1 hh).1;simp at this;omega
   rw [this]at hh;simp at hh;exact .inr ⟨by omega,hh.symm⟩
 have FM:kV X w0 S F (ρ++[hd]) (M++[b]) w:=by
  have jM:∀(id:Nat) c,(M++[b])[id]?=some c->c.ji=true->M[id]?=some c:=λid c hc lT=>by
   rcases split id c hc with⟨_,hc⟩|⟨_,rfl⟩
   ·exact hc
   ·rw [hn]at lT;cases lT
  have back:∀{id p g},Hid w (ρ++[hd]) (M++[b]) id p g->Hid w ρ M id p g:=by
   intro id p g hh;cases hh with
   |out hb hh hg=>
    have hb:=jM _ _ hb rfl;exact ab4
   |sub hb hh hi hj ho hc hg=>
    have hb:=jM _ _ hb rfl;exact acf
  refine⟨λhh=> ?_,λh1 h2=>hI.aU.inj (back h1) (back h2),λ{id t xs op h} hb hh=> ?_⟩
  ·obtain⟨a1,a2,a3,a4⟩:=hI.aU.aa (back hh);refine⟨a1,a2,a3,?_⟩;rintro⟨i,c,hc,q1,q2,q3,q4⟩;rcases split i c q1 with⟨_,m1⟩|⟨hi,e1⟩
   ·rcases qn i hc q3 with⟨_,m3⟩|⟨_,_⟩
    ·exact a4 ⟨i,c,hc,m1,q2,m3,q4⟩
    ·omega
   ·rcases qn i hc q3 with⟨_,_⟩|⟨_,e3⟩
    ·omega
    ·exact(xq _ (e3▸q4)).2.2.2.2 _ _ (back hh)
  ·have hb:=jM _ _ hb rfl;have hl:=(cy.1 hb).1;rw [gj (by omega)]at hh;exact(hI.aU.rep hb hh).mono (λ_ _ h=>jr h) (λ_ h=>h) (λ_ _ _ h=>h) (λ_ _=>rfl) (λ_ _ _ _ _ _ _ _ _ _ _ _=>rfl)
 refine⟨hI.os,hI.tape,hI.output,hI.size,hI.frame,by simp [hlen],?_,?_,?_,hI.fz,λg=>(hI.fa g).mono (λ_ _ h=>jr h) (λ_ h=>h) (λ_ _ _ h=>h),λid h hh=>by
  rcases qn id h hh with⟨_,hh⟩|⟨_,rfl⟩
  ·exact hI.one id h hh
  ·exact h1,hI.dQ,hI.fin,FM⟩
 ·intro id c h hc hh;rcases split id c hc with⟨hi,hc⟩|⟨hi,rfl⟩
  ·rcases qn id h hh with⟨_,hh⟩|⟨h2,_⟩
   ·exact(hI.rep id c h hc hh).mono (λ_ _ h=>jr h) (λ_ h=>h) (λ_ _ _ h=>h) (λ_ _=>rfl)
   ·omega
  ·rcases qn id h hh with⟨h2,_⟩|⟨_,rfl⟩
   ·omega
   ·exact jy
 ·intro id c h g hc ck hh bM;rcases split id c hc with⟨hi,hc⟩|⟨hi,rfl⟩
  ·rcases qn id h hh with⟨_,hh⟩|⟨h2,_⟩
   ·exact hI.sep id c h g hc ck hh bM
   ·omega
  ·rcases qn id h hh with⟨h2,_⟩|⟨_,rfl⟩
   ·omega
   ·obtain⟨a1,a2,a3,_⟩:=xq g bM;exact⟨a1,a2,a3⟩
 ·intro i j c d hc bY k po h1 h2 h3 h4 h5 h6 h7 h8;rcases split i c h1 with⟨hi,m1⟩|⟨hi,e1⟩<;>rcases split j d h2 with⟨hj,m2⟩|⟨hj,e2⟩
  ·rcases qn i hc h5 with⟨_,m5⟩|⟨_,_⟩
   ·rcases qn j bY h6 with⟨_,m6⟩|⟨_,_⟩
    ·exact hI.fZ i j c d hc bY k po m1 m2 h3 h4 m5 m6 h7 h8
    ·omega
   ·omega
  ·rcases qn i hc h5 with⟨_,m5⟩|⟨_,_⟩
   ·rcases qn j bY h6 with⟨_,_⟩|⟨_,e6⟩
    ·omega
    ·exact(xq k (e6▸h8)).2.2.2.1 i c hc m1 h3 m5 h7
   ·omega
  ·rcases qn i hc h5 with⟨_,_⟩|⟨_,e5⟩
   ·omega
   ·rcases qn j bY h6 with⟨_,m6⟩|⟨_,_⟩
    ·exact(xq k (e5▸h7)).2.2.2.1 j d bY m2 h4 m6 h8
    ·omega
  ·omega
def Inv.push(hI:Inv X w0 S F ρ M w)(hg:w.grownBy w' none)(xq:∀g,hd.b9=some g->w.heap.size<=g∧g<w'.heap.size)
 (h1:hd.v.oneCell'=true) (jy:iN X (ρ++[hd]) F w' hd b) (hn:b.ji=false:=by rfl):Inv X w0 S F (ρ++[hd]) (M++[b]) w':=by
 refine(hI.grown hg).wT (λg bM=> ?_) h1 jy hn;obtain⟨h2,h3⟩:=xq g bM;refine⟨h3,.inr (j5 hI.size h2),λa ha e=> ?_,λid b' bY hU ck hh jj=> ?_,λid p hh=> ?_⟩
 ·have:=hI.fz a ha;omega
 ·have:=(hI.sep id b' bY g hU ck hh jj).1;omega
 ·have:=(hI.aU.aa (hh.back hI.aU hI.len (λ_ _ h _=>h) (λ_ _ h _=>h) λk h1 _ _ _=>hg.block k h1 (by simp))).1;omega
def Inv.move(hI:Inv X w0 S F ρ M w){b':bU}{bY:Hd}(hb:M[id]?=some b)(iH:b.fQ=false)(hh:ρ[id]?=some hd)
 (hg:w.grownBy w' row) (er:row=none∨row=hd.b9) (xq:∀g,bY.b9=some g->g<w'.heap.size∧(hd.b9=some g∨w.heap.size<=g))
 (h1:bY.v.oneCell'=true) (jy:iN X (ρ++[bY]) F w' bY b') (hn:b'.ji=false:=by rfl):Inv X w0 S F (ρ++[bY]) (M.set id .dead ++[b']) w':=by
 have aY:=(cy.1 hb).1;have mr:Inv X w0 S F ρ (M.set id .dead) w':=by
  cases bM:hd.b9 with
  |none=>
   have nN:w.grownBy w' none:=by
    rcases er with h|h
    ·rw [h]at hg;exact hg
    ·rw [h,bM]at hg;exact hg
   have kq:=hI.grown nN;refine⟨kq.os,kq.tape,kq.output,kq.size,kq.frame,by simpa using kq.len,?_,?_,?_,kq.fz,kq.fa,kq.one,kq.dQ,kq.fin,kq.aU.set rfl (λg hd m4=>by cases m4)⟩
   ·intro i c h hc bT
    by_cases hi:i=id
    ·subst hi;rw [hY aY]at hc;injection hc with hc;subst hc;trivial
    ·rw [fP (Ne.symm hi)]at hc;exact kq.rep i c h hc bT
   ·intro i c h g hc pw bT jj
    by_cases hi:i=id
    ·exact JV
    ·rw [fP (Ne.symm hi)]at hc;exact kq.sep i c h g hc pw bT jj
   ·intro i j c d h h' g po hc kU pw ck bT ayy jj;have key:∀(i:Nat) c,(M.set id .dead)[i]?=some c->c.fQ=false->M[i]?=some c:=by
     intro i c hc pw
     by_cases hi:i=id
     ·exact JV
     ·exact Rk
    exact kq.fZ i j c d h h' g po (key i c hc pw) (key j d kU ck) pw ck bT ayy jj
  |some g=>
   have sD:w.grownBy w' (some g):=by
    rcases er with h|h
    ·rw [h]at hg;exact⟨hg.os,hg.tape,hg.output,hg.size,λk hk _=>hg.block k hk (by simp)⟩
    ·rw [h,bM]at hg;exact hg
   exact hI.write hb iH hh bM sD (b':= .dead) trivial
 have afP:∀{i p g},Hid w' ρ (M.set id .dead) i p g->Hid w ρ M i p g:=by
  intro i p g bT;refine bT.back hI.aU hI.len (λi c hc lT=> ?_) (λ_ _ h _=>h) λk q1 _ _ q4=>hg.block k q1 ?_
  ·by_cases hi:i=id
   ·subst hi;rw [hY aY]at hc;injection hc with hc;subst hc;cases lT
   ·exact Rk
  ·rcases er with h|h
   ·rw [h];simp
   ·rw [h];exact λe=>q4 ⟨id,b,hd,hb,iH,hh,e.symm⟩
 refine mr.wT (λg bM=> ?_) h1 jy hn;obtain⟨h2,h3⟩:=xq g bM;rcases h3 with h3|h3
 ·obtain⟨s1,s2,s3⟩:=hI.sep id b hd g hb iH hh h3;refine⟨h2,s2,s3,λi c h hc pw bT jj=> ?_,λi p hp=>(hI.aU.aa (afP hp)).2.2.2 ⟨id,b,hd,hb,iH,hh,h3⟩⟩
  by_cases hi:i=id
  ·exact JV
  ·rw [fP (Ne.symm hi)]at hc;exact hI.fZ i id c b h hd g hi hc hb pw iH bT hh jj h3
 ·refine⟨h2,.inr (j5 hI.size h3),λa ha e=> ?_,λi c h hc pw bT jj=> ?_,λi p hp=> ?_⟩
  ·have:=hI.fz a ha;omega
  rotate_left
  ·have:=(hI.aU.aa (afP hp)).1;omega
  ·by_cases hi:i=id
   ·exact JV
   ·rw [fP (Ne.symm hi)]at hc;have:=(hI.sep i c h g hc pw bT jj).1;omega
def Inv.freeze(hI:Inv X w0 S F ρ M w){id:Nat}{b:bU}{hd:Hd}{g:Nat}(hb:M[id]?=some b)(iH:b.fQ=false)(hh:ρ[id]?=some hd)(bM:hd.b9=some g)
 {b':bU} (bY:b'.fQ=true) (jy:iN X ρ (λa=>F a∨a.block=g) w hd b') (hn:b'.ji=false:=by rfl):Inv X w0 S (λa=>F a∨a.block=g) ρ (M.set id b') w where
 os:=hI.os
 tape:=hI.tape
 output:=hI.output
 size:=hI.size
 frame:=hI.frame
 len:=Bp
 rep:=λid' c h' hc bT=>by
  by_cases aA:id'=id
  ·exact adw
  ·rw [fP (Ne.symm aA)]at hc;exact(hI.rep id' c h' hc bT).mono (λ_ _ h=>h) (λ_ h=> .inl h) (λ_ _ _ h=>h) (λ_ _=>rfl)
 sep:=λid' c h' g' hc kU bT ij=>by
  by_cases aA:id'=id
  ·subst aA;have aY:=(cy.1 hb).1;rw [hY aY]at hc;injection hc with hc;subst hc;rw [bY]at kU;cases kU
  ·rw [fP (Ne.symm aA)]at hc;obtain⟨a1,a2,a3⟩:=hI.sep id' c h' g' hc kU bT ij;refine⟨a1,a2,λa ha e=> ?_⟩;rcases ha with ha|ha
   ·exact a3 a ha e
   ·have:g'=g:=by omega
    subst this;exact hI.fZ id' id c b h' hd g' aA hc hb kU iH bT hh ij bM
 fZ:=λi j c d hc h' k po h1 h2 h3 h4 h5 h6 h7=>by
  have key:∀(i:Nat) c,(M.set id b')[i]?=some c->c.fQ=false->M[i]?=some c:=by
   intro i c hc pw
   by_cases aA:i=id
   ·subst aA;have aY:=(cy.1 hb).1;rw [hY aY]at hc;injection hc with hc;subst hc;rw [bY]at pw;cases pw
   ·rw [fP (Ne.symm aA)]at hc;exact hc
  exact hI.fZ i j c d hc h' k po (key i c h1 h3) (key j d h2 h4) h3 h4 h5 h6 h7
 fz:=λa ha=>by
  rcases ha with ha|ha
  ·exact hI.fz a ha
  ·have:=(hI.sep id b hd g hb iH hh bM).1;omega
 fa:=λk=>(hI.fa k).mono (λ_ _ h=>h) (λ_ h=> .inl h) (λ_ _ _ h=>h)
 one:=hI.one
 fin:=λa ha=> .inl (hI.fin a ha)
 dQ:=λa ha=>by
  rcases ha with ha|ha
  ·exact hI.dQ a ha
  ·rcases(hI.sep id b hd g hb iH hh bM).2.1 with h|h
   ·exact .inr (.inl (by rw [ha];exact h))
   ·exact .inr (.inr (by rw [ha];exact h))
 aU:=by
  refine hI.aU.stay hI.len (λi c hc lT=> ?_) (λ_ _ h=>h) (λ_ h=> .inl h) (λ_ _ _ h=>h) λk h1 h2 h3 h4=>⟨h1,h2,rfl,λa ha e=> ?_,?_⟩
  ·exact adC
  ·rcases ha with ha|ha
   ·exact h3 a ha e
   ·exact h4 ⟨id,b,hd,hb,iH,hh,by rw [bM,<-ha,e]⟩
  ·rintro⟨i,c,hc,q1,q2,q3,q4⟩
   by_cases aA:i=id
   ·subst aA;have aY:=(cy.1 hb).1;rw [hY aY]at q1;injection q1 with q1;subst q1;rw [bY]at q2;cases q2
   ·exact abk
end
def cz(ids:cp)(M M':ar):Prop:=M.length<=M'.length∧∀id,id<M.length->id∉ids->M'[id]?=M[id]?
def cz.refl(ids:cp)(M:ar):cz ids M M:=⟨dZ _,λ_ _ _=>rfl⟩
def cz.push(ids:cp)(M:ar)(b:bU):cz ids M (M++[b]):=⟨by simp,λid h _=>gj h⟩
def cz.set(M:ar)(id:Nat)(b:bU):cz [id] M (M.set id b):=⟨by simp,λi _ h=>fP (λe=>h (by simp [e]))⟩
def cz.trans{M ue:ar}(h:cz ids M M')(k:cz Lz M' ue):cz (ids++Lz) M ue:=
 ⟨j5 h.1 k.1,λi hi hn=>by
   rw [jS,not_or]at hn;rw [k.2 i (kX hi h.1) hn.2,h.2 i hi hn.1]⟩
def cz.mono{M:ar}(h:cz ids M M')(hs:∀i∈ids,i∈Lz):cz Lz M M':=⟨h.1,λi hi hn=>h.2 i hi λe=>hn (hs i e)⟩
structure bH(F F':aO)(ρ ρ':aT)(w w':World):Prop where
 hF:∀a,F a->F' a
 dR:∀(id:Nat) hd,ρ[id]?=some hd->ρ'[id]?=some hd
 hb:∀a,F a->w'.heap[a.block]?=w.heap[a.block]?
def OQ{w w':World}{a:Addr}(h:w'.heap[a.block]?=w.heap[a.block]?)(hc:w.cell? a=some v):w'.cell? a=some v:=by
 unfold World.cell? at hc⊢;rw [h];exact hc
def bH.hw{F:aO}{ρ:aT}{w w':World}(h:bH F F' ρ ρ' w w'):∀a v,F a->w.cell? a=some v->w'.cell? a=some v:=λa _ ha hc=>OQ (h.hb a ha) hc
def Inv.rB{w0 w w':World}{S:Sc}{F:aO}{ρ:aT}{M:ar}(hI:Inv X w0 S F ρ M w)(hg:w.grownBy w' row)(er:∀k,row=some k->∀a,F a->a.block≠k):∀a,F a->w'.heap[a.block]?=w.heap[a.block]?:=
 λa ha=>hg.block a.block (hI.fz a ha) λe=>er _ e.symm a ha rfl
def bH.refl(F:aO)(ρ:aT)(w:World):bH F F ρ ρ w w:=⟨λ_ h=>h,λ_ _ h=>h,λ_ _=>rfl⟩
def bH.trans{F F' qR:aO}{ρ ρ' qv:aT}{w w' ou:World}(h:bH F F' ρ ρ' w w')(k:bH F' qR ρ' qv w' ou):bH F qR ρ qv w ou:=
 ⟨λa ha=>k.hF a (h.hF a ha),λid hd hh=>k.dR id hd (h.dR id hd hh),λa ha=>(k.hb a (h.hF a ha)).trans (h.hb a ha)⟩
def aw.grow{K:TypeId->dv}{F:aO}{ρ:aT}{w w':World}{x:AV}(h:aw K ρ F w x v)(g:bH F F' ρ ρ' w w'):aw K ρ' F' w' x v:=h.mono g.dR g.hF g.hw
def gX.grow{F F':aO}{ρ ρ':aT}{w w':World}{env:bA}{tmps:Array Value}(h:gX X ρ F w env tmps)(g:bH F F' ρ ρ' w w'):gX X ρ' F' w' env tmps:=λt=>(h t).grow g
def cq.grow{K:TypeId->dv}{F F':aO}{ρ ρ':aT}{w w':World}{xs:aD}{vs:eU}(h:cq K ρ F w xs vs)(g:bH F F' ρ ρ' w w'):cq K ρ' F' w' xs vs:=⟨h.1,λj x v hx hv=>(h.2 j x v hx hv).grow g⟩
end
end Go.ae
namespace Go.ae
def adA{p:Prop}(h:p:=by
 rcases rT hc with⟨_,rfl⟩|⟨_,hc⟩
 ·cases h1
 ·rcases rT hd with⟨_,rfl⟩|⟨_,hd⟩
  ·cases h2
  ·exact hI.fZ i j c d h h' g po hc hd h1 h2 hh bT hg):p:=h
def acu{p:Prop}(h:p:=by
 rcases rT hc with⟨_,rfl⟩|⟨_,hc⟩
 ·cases hd
 ·exact hI.sep i c h g hc hd hh hg):p:=h
def acm{p:Prop}(h:p:=by
 rcases rT hc with⟨_,rfl⟩|⟨_,hc⟩
 ·trivial
 ·exact hI.rep i c h hc hh):p:=h
def Rs{p:Prop}(h:p:=by injection hk with hk;subst hk;exact h2 a hF):p:=h
def acb{p:Prop}(h:p:=by
 rcases rT q1 with⟨_,rfl⟩|⟨_,q1⟩
 ·cases q2
 ·exact⟨i,c,h,q1,q2,q3,q4⟩):p:=h
def Jk{p:Prop}(h:p:=by rw [hY aY]):p:=h
end Go.ae
namespace Go.ae
def sV:=@List.getElem?_set
def AX:=@List.set_set
end Go.ae
namespace Go.ae
open Go
noncomputable section
variable {X:Cx} {w0 w w':World} {S:Sc} {F:aO} {ρ:aT} {M:ar}
variable{b:bU}{hd:Hd}{g i id:Nat}{p:Option (Nat×Nat)}{op:Option (Nat×Nat×Nat)}{t:TypeId}{xs:aH}
def lK(w:World)(hd:Hd)(xs:aH)(op:Option (Nat×Nat×Nat))(p:Option (Nat×Nat))(g:Nat):Prop:=
 (p=none∧hd.b9=some g)∨∃i j row e ys v,p=some (i,j)∧xs[i]?=some row∧row[j]?=some (.sub e ys)∧fw op i j=none∧cellOf w hd i j=some v∧Value.b9 v=some g
def Hid.mU(hb:M[id]?=some (.aU t xs op))(hh:ρ[id]?=some hd)(h:lK w hd xs op p g):Hid w ρ M id p g:=by
 rcases h with⟨rfl,hg⟩|⟨i,j,row,e,ys,v,rfl,h1,h2,h3,h4,h5⟩
 ·exact .out hb hh hg
 ·exact .sub hb hh h1 h2 h3 h4 h5
def Hid.toB(h:Hid w ρ M id p g):∃t xs op hd,M[id]?=some (.aU t xs op)∧ρ[id]?=some hd∧lK w hd xs op p g:=by
 cases h with
 |out hb hh hg=>exact⟨_,_,_,_,hb,hh,.inl ⟨rfl,hg⟩⟩
 |sub hb hh hi hj ho hc hg=>exact⟨_,_,_,_,hb,hh,.inr ⟨_,_,_,_,_,_,rfl,hi,hj,ho,hc,hg⟩⟩
def rT{c:bU}(h:(M.set id b)[i]?=some c):(i=id∧c=b)∨(i≠id∧M[i]?=some c):=by
 by_cases hi:i=id
 ·subst hi;have aY:i<M.length:=by have:=(cy.1 h).1;simpa using this
  rw [hY aY]at h;injection h with h;exact .inl ⟨rfl,h.symm⟩
 ·rw [fP (Ne.symm hi)]at h;exact .inr ⟨hi,h⟩
def Hid.pO(hn:b.ji=false)(h:Hid w ρ (M.set id b) i p g):i≠id∧Hid w ρ M i p g:=by
 obtain⟨t,xs,op,hd,hb,hh,h⟩:=h.toB;rcases rT hb with⟨_,e⟩|⟨hi,hb⟩
 ·subst e;cases hn
 ·exact⟨hi,.mU hb hh h⟩
def Inv.drop(hI:Inv X w0 S F ρ M w){id:Nat}{b:bU}(hb:M[id]?=some b)(lU:b.fQ=true):Inv X w0 S F ρ (M.set id .dead) w where
 os:=hI.os
 tape:=hI.tape
 output:=hI.output
 size:=hI.size
 frame:=hI.frame
 len:=Bp
 rep:=λi c h hc hh=>acm
 sep:=λi c h g hc hd hh hg=>acu
 fZ:=λi j c d h h' g po hc hd h1 h2 hh bT hg=>adA
 fz:=hI.fz
 fa:=hI.fa
 one:=hI.one
 dQ:=hI.dQ
 fin:=hI.fin
 aU:=hI.aU.set rfl λ_ _ h=>by cases h
def Inv.ape(hI:Inv X w0 S F ρ M w){g:Nat}(hg:w.grownBy w' (some g))(h1:S g∨w0.heap.size<=g)(h2:∀a,F a->a.block≠g)(h3:¬lJ ρ M g)(h4:∀id p,¬Hid w ρ M id p g):Inv X w0 S F ρ M w' where
 os:=hg.os.trans hI.os
 tape:=hg.tape.trans hI.tape
 output:=hg.output.trans hI.output
 size:=j5 hI.size hg.size
 frame:=λk q1 q2=>by
  refine(hg.block k (kX q1 hI.size) ?_).trans (hI.frame k q1 q2);intro e;injection e with e;subst e;rcases h1 with h|h
  ·exact q2 h
  ·omega
 len:=hI.len
 rep:=λid c hd hc hh=>by
  have hw:=hI.cells hg (λk hk a hF=>Rs);cases ck:c.fQ with
  |true=>exact(hI.rep id c hd hc hh).Ic (λ_ _ h=>h) (λ_ h=>h) hw ck
  |false=>exact(hI.rep id c hd hc hh).mono (λ_ _ h=>h) (λ_ h=>h) hw λk hk=>hg.block k (hI.sep id c hd k hc ck hh hk).1 λe=>by injection e with e;subst e;exact h3 ⟨id,c,hd,hc,ck,hh,hk⟩
 sep:=λid c hd k hc ck hh hk=>let⟨a1,a2,a3⟩:=hI.sep id c hd k hc ck hh hk;⟨kX a1 hg.size,a2,a3⟩
 fZ:=hI.fZ
 fz:=λa ha=>kX (hI.fz a ha) hg.size
 fa:=λk=>(hI.fa k).mono (λ_ _ h=>h) (λ_ h=>h) (hI.cells hg (λk hk a hF=>Rs))
 one:=hI.one
 dQ:=hI.dQ
 fin:=hI.fin
 aU:=by
  have hw:=hI.cells hg (λk hk a hF=>Rs);refine hI.aU.ac4 hI.len (λ_ _ h _=>h) (λ_ _ h _=>h) (λ_ _ hr q1 q2=>hr.mono (λ_ _ h=>h) (λ_ h=>h) hw q1 q2) λk ⟨id,p,hh,_⟩=> ?_;obtain⟨a1,a2,a3,a4⟩:=hI.aU.aa hh;exact⟨kX a1 hg.size,a2,hg.block k a1 λe=>by injection e with e;subst e;exact h4 _ _ hh,a3,a4⟩
def Inv.install(hI:Inv X w0 S F ρ M w){id:Nat}{b:bU}{hd:Hd}{t:TypeId}{xs:aH}{op:Option (Nat×Nat×Nat)}(hb:M[id]?=some b)(lU:b.fQ=true)(hbn:b.ji=false)(hh:ρ[id]?=some hd)(hr:j9 X ρ F w hd t xs op)
 (Tt:∀p g,lK w hd xs op p g->g<w.heap.size∧(S g∨w0.heap.size<=g)∧(∀a,F a->a.block≠g)∧¬lJ ρ M g∧∀i q,¬Hid w ρ M i q g) (Ty:∀p q g,lK w hd xs op p g->lK w hd xs op q g->p=q):
 Inv X w0 S F ρ (M.set id (.aU t xs op)) w where
 os:=hI.os
 tape:=hI.tape
 output:=hI.output
 size:=hI.size
 frame:=hI.frame
 len:=Bp
 rep:=λi c h hc hh=>acm
 sep:=λi c h g hc hd hh hg=>acu
 fZ:=λi j c d h h' g po hc hd h1 h2 hh bT hg=>adA
 fz:=hI.fz
 fa:=hI.fa
 one:=hI.one
 dQ:=hI.dQ
 fin:=hI.fin
 aU:=by
  have ours:∀{g},lJ ρ (M.set id (.aU t xs op)) g->lJ ρ M g:=by
   rintro g ⟨i,c,h,q1,q2,q3,q4⟩;exact acb
  have RP:∀{i p g},Hid w ρ (M.set id (.aU t xs op)) i p g->(i=id∧lK w hd xs op p g)∨(i≠id∧Hid w ρ M i p g):=by
   intro i p g hi;obtain⟨t',eW,mj,bY,q1,q2,q3⟩:=hi.toB;rcases rT q1 with⟨e,e2⟩|⟨hi,q1⟩
   ·injection e2 with e2 e3 e4;subst e;subst e2;subst e3;subst e4;rw [hh]at q2;injection q2 with q2;subst q2;exact .inl ⟨rfl,q3⟩
   ·exact .inr ⟨hi,.mU q1 q2 q3⟩
  refine⟨λ{i p g} hi=> ?_,λ{i i' p p' g} h1 h2=> ?_,λ{i t' eW mj bY} hU bT=> ?_⟩
  ·rcases RP hi with⟨_,hi⟩|⟨_,hi⟩
   ·obtain⟨a1,a2,a3,a4,_⟩:=Tt p g hi;exact⟨a1,a2,a3,λh=>a4 (ours h)⟩
   ·obtain⟨a1,a2,a3,a4⟩:=hI.aU.aa hi;exact⟨a1,a2,a3,λh=>a4 (ours h)⟩
  ·rcases RP h1 with⟨e1,h1⟩|⟨_,h1⟩<;>rcases RP h2 with⟨e2,h2⟩|⟨_,h2⟩
   ·exact⟨e1.trans e2.symm,Ty _ _ _ h1 h2⟩
   ·exact((Tt _ _ h1).2.2.2.2 _ _ h2).elim
   ·exact((Tt _ _ h2).2.2.2.2 _ _ h1).elim
   ·exact hI.aU.inj h1 h2
  ·rcases rT hU with⟨e,e2⟩|⟨_,hU⟩
   ·injection e2 with e2 e3 e4;subst e;subst e2;subst e3;subst e4;rw [hh]at bT;injection bT with bT;subst bT;exact hr
   ·exact hI.aU.rep hU bT
def Inv.aaI{w0 w:World}{S:Sc}{F:aO}{ρ:aT}{M:ar}(hI:Inv X w0 S F ρ M w){id:Nat}{b:bU}{hd:Hd}{g:Nat}{b0:bU}(iH:M[id]?=some b0)(hh:ρ[id]?=some hd)(bM:hd.b9=some g)
 (h1:g<w.heap.size) (h2:S g∨w0.heap.size<=g) (h3:∀a,F a->a.block≠g) (h4:∀(id':Nat) b' bY,M[id']?=some b'->b'.fQ=false->ρ[id']?=some bY->bY.b9≠some g) (h5:∀i p,¬Hid w ρ M i p g) (jy:iN X ρ F w hd b) (hn:b.ji=false:=by rfl):
 Inv X w0 S F ρ (M.set id b) w where
 os:=hI.os
 tape:=hI.tape
 output:=hI.output
 size:=hI.size
 frame:=hI.frame
 len:=by simp [hI.len]
 rep:=λi b' bY hb bT=>by
  rw [sV]at hb;split at hb
  ·rename_i e;subst e;split at hb
   ·injection hb with hb;subst hb;rw [hh]at bT;injection bT with bT;subst bT;exact jy
   ·cases hb
  ·exact hI.rep i b' bY hb bT
 sep:=λi b' bY g' hb ck bT jj=>by
  rw [sV]at hb;split at hb
  ·rename_i e;subst e;rw [hh]at bT;injection bT with bT;subst bT;rw [bM]at jj;injection jj with e;subst e;exact⟨h1,h2,h3⟩
  ·exact hI.sep i b' bY g' hb ck bT jj
 fZ:=λi j b1 b2 tX kU g' po sH gw afU afT rJ qe sD jY=>by
  rw [sV]at sH gw;split at sH
  ·rename_i e;subst e;rw [if_neg po]at gw;rw [hh]at rJ;injection rJ with rJ;subst rJ;rw [bM]at sD;injection sD with e;subst e;exact h4 j b2 kU gw afT qe jY
  ·split at gw
   ·rename_i e;subst e;rw [hh]at qe;injection qe with qe;subst qe;rw [bM]at jY;injection jY with e;subst e;exact h4 i b1 tX sH afU rJ sD
   ·exact hI.fZ i j b1 b2 tX kU g' po sH gw afU afT rJ qe sD jY
 fz:=hI.fz
 fa:=hI.fa
 one:=hI.one
 dQ:=hI.dQ
 fin:=hI.fin
 aU:=hI.aU.set hn λg' h' _ bT hg=> .inr (by rw [hh]at bT;injection bT with bT;subst bT;rw [bM]at hg;injection hg with hg;subst hg;exact h5)
def Inv.aqz(hI:Inv X w0 S F ρ M w)(G:Nat->Prop)(h:∀g,G g->g<w.heap.size∧(S g∨w0.heap.size<=g)∧¬lJ ρ M g∧∀i p,¬Hid w ρ M i p g):Inv X w0 S (λa=>F a∨G a.block) ρ M w where
 os:=hI.os
 tape:=hI.tape
 output:=hI.output
 size:=hI.size
 frame:=hI.frame
 len:=hI.len
 rep:=λid b hd hb hh=>(hI.rep id b hd hb hh).mono (λ_ _ h=>h) (λ_ h=> .inl h) (λ_ _ hF hc=>hc) (λ_ _=>rfl)
 sep:=λid b hd g hb ck hh bM=>let⟨a1,a2,a3⟩:=hI.sep id b hd g hb ck hh bM;⟨a1,a2,λa ha e=>by
  rcases ha with ha|ha
  ·exact a3 a ha e
  ·exact(h _ ha).2.2.1 ⟨id,b,hd,hb,ck,hh,by rw [bM,e]⟩⟩
 fZ:=hI.fZ
 fz:=λa ha=>by
  rcases ha with ha|ha
  ·exact hI.fz a ha
  ·exact(h _ ha).1
 fa:=λg=>(hI.fa g).mono (λ_ _ h=>h) (λ_ h=> .inl h) (λ_ _ _ h=>h)
 one:=hI.one
 dQ:=λa ha=>by
  rcases ha with ha|ha
  ·exact hI.dQ a ha
  ·exact .inr (h _ ha).2.1
 fin:=λa ha=> .inl (hI.fin a ha)
 aU:=⟨λ{id p g} hh=>by
  obtain⟨a1,a2,a3,a4⟩:=hI.aU.aa hh;refine⟨a1,a2,λa ha e=> ?_,a4⟩;rcases ha with ha|ha
  ·exact a3 a ha e
  ·exact(h _ ha).2.2.2 id p (by rw [e];exact hh),hI.aU.inj,λhb hh=>(hI.aU.rep hb hh).mono (λ_ _ h=>h) (λ_ h=> .inl h) (λ_ _ _ h=>h) (λ_ _=>rfl) (λ_ _ _ _ _ _ _ _ _ _ _ _=>rfl)⟩
def Inv.ary(hI:Inv X w0 S F ρ M w){eW:aH}{mj:Option (Nat×Nat×Nat)}(hb:M[id]?=some (.aU t xs op))(hh:ρ[id]?=some hd)(bM:hd.b9=some g)(hg:w.grownBy w' (some g))
 (hr:j9 X ρ F w' hd t eW mj) (hs:∀p k,lK w' hd eW mj p k->lK w hd xs op p k):Inv X w0 S F ρ (M.set id (.aU t eW mj)) w':=by
 have aY:=(cy.1 hb).1;obtain⟨a1,a2,a3,a4⟩:=hI.aU.aa (.out hb hh bM);have mr:=hI.drop hb rfl;have ours:∀{k},lJ ρ (M.set id .dead) k->lJ ρ M k:=by
  rintro k ⟨i,c,h,q1,q2,q3,q4⟩;exact acb
 have no:∀i p,¬Hid w ρ (M.set id .dead) i p g:=λi p h=>by
  obtain⟨c9,h⟩:=h.pO rfl;exact c9 (hI.aU.inj h (.out hb hh bM)).1
 have jZ:=mr.ape hg a2 a3 (λh=>a4 (ours h)) no;have:=jZ.install (id:=id) (b:= .dead) (op:=mj) (Jk) rfl rfl hh hr (λp k hk=> ?_) λp q k h1 h2=>(hI.aU.inj (.mU hb hh (hs _ _ h1)) (.mU hb hh (hs _ _ h2))).2
 ·rw [AX]at this;exact this
 ·obtain⟨b1,b2,b3,b4⟩:=hI.aU.aa (.mU hb hh (hs _ _ hk));refine⟨kX b1 hg.size,b2,b3,λh=>b4 (ours h),λi q h=> ?_⟩;have h:=h.SB (w:=w) mr.len (λ_ _ h _=>h) (λ_ _ h _=>h) λk' ⟨i',p',bT,_⟩=>hg.block k' (mr.aU.aa bT).1 λe=>by injection e with e;subst e;exact no _ _ bT
  obtain⟨c9,h⟩:=h.pO rfl;exact c9 (hI.aU.inj h (.mU hb hh (hs _ _ hk))).1
end
end Go.ae
namespace Go.ae
def ace{p:Prop}(h:p:=by have:=f.u;rw [h]at this;cases d<;>simp [kJ]at this;subst this;exact f.iz):p:=h
def qo{p:Prop}(h:p:=by simpa using this):p:=h
end Go.ae
namespace Go.ae
def gW:=@List.getElem?_map
def gL:=@Go.run_underlying
def dO:=@Go.Sem.run_bind
def fg:=@Go.Result.andThen_ok
def fJ:=@beq_iff_eq
def qV:=@Array.ext'
end Go.ae
namespace Go.ae
open Go
noncomputable section
variable{t:TypeId}
def zw(P:Program)(t:TypeId):Bool:=
 match P.underlying t with
 |some (.struct fs)=>(fs.toList.all fun f=>f.name != "_")&& !P.stoodInHeld t&& !P.eqGuardType P.depth t
 |_=>false
structure la(X:Cx)(t:TypeId)(i:TypeInfo)(d:TypeDesc)(z:Value):Prop where
 info:X.P.info? t=some i
 iz:X.P.underlying t=some d
 zero:i.zero=some z
 u:(X.ti t).u =kJ d
 size:(X.ti t).size =i.size
 bytes:(X.ti t).bytes =i.bytes
 zc:(X.ti t).zero =z.cells.toList.map wP
 zs:z.cells.size=i.size
 ks:(X.ti t).ks.length =i.size
 zag:Lf z=(X.ti t).u.agg
structure ay0(P:Program)(u:Ub):Prop where
 pt:P.underlying u.pt=some (.pointer u.bt)
 up:P.underlying u.up=some .unsafePointer
 bt:∃j,P.info? u.bt=some j∧j.size≠0
 ax5:liesAt P P.depth u.e (u.ks.length/P.cellsOf u.e) 0 u.bt 1=true
 ks:0<u.ks.length
 ne:∃fn,P.funcs[u.ne]?=some fn∧(fn.name== "runtime.NumGoroutine")=false∧fn.body.isNone=true∧Extern.findNext fn=none∧Extern.find fn=some Extern.AbiNoEscape.same
structure Cx.Okb(X:Cx):Prop where
 facts:∀{t},(X.ti t).ok =true->∃i d z,la X t i d z
 mixed:X.P.follows .mixedOrders =true
 bad:∀t,(X.ti t).ok =false->(X.ti t).ks =[]
 fa:∀g,X.fa g= .top ∨(X.fa g).pure =true
 eqs:∀t,X.eqs t=true->zw X.P t=true
 Jz:X.pk=true->∀t,∀k∈X.K t,k≠ .any
 ub:∀u,X.ub=some u->ay0 X.P u
structure Cx.Ok(X:Cx):Prop extends Cx.Okb X where
 pkt:X.pk=true
variable {X:Cx} {R:Type}
def Cx.Ok.kinds(hX:X.Ok)(t:TypeId):∀k∈X.K t,k≠ .any :=hX.toOkb.Jz hX.pkt t
def Cx.Okb.ok(hX:X.Okb)(h:X.pk=true):X.Ok:=⟨hX,h⟩
instance ay3:Coe X.Ok X.Okb:=⟨Cx.Ok.toOkb⟩
def anC(ht:∀t,(X.ti t).ok =true->X.ti t=xf X.P t)(hb:∀t,(X.ti t).ok =false->(X.ti t).ks =[])(t:TypeId):∀k∈X.K t,k≠ .any :=by
 intro k hk;cases h:(X.ti t).ok with
 |false=>
  have:=hb t h;simp [Cx.K,this]at hk
 |true=>
  have e:=ht t h;unfold Cx.K at hk;rw [e]at hk;unfold xf at hk;split at hk
  ·split at hk
   ·exact OK _ _ _ k hk
   ·simp at hk
  ·simp at hk
def TI.alike(a b:TI):Prop:=a.ok=b.ok∧a.u=b.u∧a.size=b.size∧a.bytes=b.bytes∧a.zero=b.zero∧a.ks.length=b.ks.length
def anE(e:TI.alike (X.ti t) (xf X.P t))(h:(X.ti t).ok =true):∃i d z,la X t i d z:=by
 obtain⟨e1,e2,e3,e4,e5,e6⟩:=e;unfold xf at e1 e2 e3 e4 e5 e6;cases hi:X.P.info? t with
 |none=>simp only [hi]at e1;rw [e1]at h;simp at h
 |some i=>
  cases hd:X.P.underlying t with
  |none=>simp only [hi,hd]at e1;rw [e1]at h;simp at h
  |some d=>
   cases hz:i.zero with
   |none=>simp only [hi,hd,hz]at e1;rw [e1]at h;simp at h
   |some z=>
    simp only [hi,hd,hz]at e1 e2 e3 e4 e5 e6;rw [e1]at h;simp only [bc,fJ]at h;exact⟨i,d,z,⟨hi,hd,hz,e2,e3,e4,e5,h.1.1,by rw [e6];exact h.1.2,by rw [e2];exact h.2⟩⟩
def la.isAgg{t:TypeId}{i:TypeInfo}{d:TypeDesc}{z:Value}(f:la X t i d z)(w:World):(isAgg t).run X.P w= .ok (X.ti t).u.agg w:=by
 rw [f.u];unfold Go.isAgg;simp only [dO,gL f.iz,fg];cases d<;>rfl
def la.sizeOf{t:TypeId}{i:TypeInfo}{d:TypeDesc}{z:Value}(f:la X t i d z)(w:World):(sizeOf t).run X.P w= .ok (X.ti t).size w:=by
 rw [f.size];unfold Go.sizeOf typeInfo;simp [f.info]
def la.zeroValue{t:TypeId}{i:TypeInfo}{d:TypeDesc}{z:Value}(f:la X t i d z)(w:World):(zeroValue t).run X.P w= .ok z w:=by
 unfold Go.zeroValue typeInfo;simp [f.info,f.zero]
def la.typeInfo{t:TypeId}{i:TypeInfo}{d:TypeDesc}{z:Value}(f:la X t i d z)(w:World):(typeInfo t).run X.P w= .ok i w:=by
 unfold Go.typeInfo;simp [f.info]
def la.slice{t e:TypeId}{i:TypeInfo}{d:TypeDesc}{z:Value}(f:la X t i d z)(h:(X.ti t).u = .slice e):X.P.underlying t=some (.slice e):=ace
def la.array{t e:TypeId}{n:Nat}{i:TypeInfo}{d:TypeDesc}{z:Value}(f:la X t i d z)(h:(X.ti t).u = .array n e):X.P.underlying t=some (.array n e):=by
 have:=f.u;rw [h]at this;cases d<;>simp [kJ]at this;obtain⟨rfl,rfl⟩:=this;exact f.iz
def la.afB{k:IntKind}{i:TypeInfo}{d:TypeDesc}{z:Value}(f:la X t i d z)(h:(X.ti t).u = .int k):X.P.underlying t=some (.int k):=ace
def la.struct{t:TypeId}{fs:List (Nat×TypeId)}{i:TypeInfo}{d:TypeDesc}{z:Value}(f:la X t i d z)(h:(X.ti t).u = .struct fs):
 ∃gs:Array Field,X.P.underlying t=some (.struct gs)∧fs=gs.toList.map λf=>(f.offset,f.type):=by
 have:=f.u;rw [h]at this;cases d<;>simp [kJ]at this;exact⟨_,f.iz,this⟩
def OW(K:TypeId->dv)(ρ:aT)(F:aO)(w:World)(v:Value):aw K ρ F w (wP v) v:=by
 unfold wP;split<;>constructor
def ans(K:TypeId->dv)(ρ:aT)(F:aO)(w:World)(v:Value):aw K ρ F w (QJ v) v:=by
 unfold QJ;split
 ·rename_i cs;have:=aw.agg (K:=K) (ρ:=ρ) (F:=F) (w:=w) (cs.toList.map wP) cs.toList (by simp) (λj x v hx hv=>by
   rw [gW,hv]at hx;simp at hx;subst hx;exact OW K ρ F w v)
  exact qo
 ·rename_i cs;split
  ·rename_i h;have iC:cs= #[]:=by apply qV;simpa using h
   subst iC;exact aw.dc [] [] rfl (λj x v hx _=>tc)
  ·exact .top _
 ·exact OW K ρ F w v
def Ys(K:TypeId->dv)(ρ:aT)(F:aO)(w:World)(vs:eU):cq K ρ F w (vs.map wP) vs:=
 ⟨by simp,λj x v hx hv=>by
   rw [gW,hv]at hx;simp at hx;subst hx;exact OW K ρ F w v⟩
def AH{K:TypeId->dv}{ρ:aT}{F:aO}{w:World}{x:AV}{v:Value}(h:aw K ρ F w x v)(hx:x.leaf=true)(dR:∀(id:Nat) hd,ρ[id]?=some hd->hd.v.oneCell'=true):v.oneCell'=true:=by
 cases h<;>simp_all [AV.leaf,Value.oneCell']<;>(apply dR;assumption)
def aw.cells{K:TypeId->dv}{ρ:aT}{F:aO}{w:World}{x:AV}{v:Value}(h:aw K ρ F w x v)(hx:x.leaf=true∨∃cs,x= .agg cs)
 (dR:∀(id:Nat) hd,ρ[id]?=some hd->hd.v.oneCell'=true):cq K ρ F w x.cells v.cells.toList:=by
 rcases hx with hx|⟨cs,rfl⟩
 ·have h1:=AH h hx dR;have e1:x.cells=[x]:=by cases x<;>simp_all [AV.cells,AV.leaf]
  have e2:v.cells= #[v]:=by cases v<;>simp_all [Value.cells,Value.oneCell']
  rw [e1,e2];refine⟨rfl,λj y u hy hu=> ?_⟩;cases j with
  |zero=>simp at hy hu;subst hy;subst hu;exact h
  |succ j=>simp at hy
 ·cases h with
  |agg _ vs hl h=>exact⟨by simpa [Value.cells,AV.cells]using hl,by simpa [Value.cells,AV.cells]using h⟩
end
end Go.ae
namespace Go.ae
def eR{p:Prop}(h:p:=by simp;omega):p:=h
def jh{p:Prop}(h:p:=by simpa using h):p:=h
def abV{p:Prop}(h:p:=by rw [LH]at hu;cases d<;>simp [kJ]at hu;exact f.iz):p:=h
def abS{p:Prop}(h:p:=by
 cases hac:a==c with
 |false=>simp [fX]
 |true=>simpa using ih):p:=h
def abL{p:Prop}(h:p:=by
 rw [show off+(j- off)=j by omega]at this;simpa [List.getD,LL]using this):p:=h
def Rc{p:Prop}(h:p:=by rw [Ej];exact hu):p:=h
def Bl{p:Prop}(h:p:=by simp at he):p:=h
end Go.ae
namespace Go.ae
def fX:=@Go.Sem.run_pure
def gE:=@List.length_cons
def k8:=@Array.length_toList
def Ej:=@Array.getElem?_toList
def dA:=@List.mem_cons
def fW:=@List.map_cons
def Qj:=@List.drop_eq_getElem_cons
def jG:=@Bool.false_eq_true
def ly:=@if_false
def sW:=@Bool.or_eq_true
def A9:=@of_decide_eq_true
def wy:=@List.map_nil
def Qe:=@List.getD_eq_getElem?_getD
def iQ:=@List.all_eq_true
def nU:=@Bool.not_eq_true'
def AZ:=@Array.getElem?_eq_getElem
def ni:=@Option.getD_some
def ng:=@if_true
end Go.ae
namespace Go.ae
open Go
noncomputable section
variable {X:Cx} {R:Type}
variable{x:AV}{kd:Kind}{j off:Nat}{op:Option (Nat×Nat×Nat)}{r:R}{t:TypeId}{cs xs:aD}{ks:dv}
def aB(b:Bool)(x:Option R):Option R:=match b with|true=>x|false=>none
def bG{b:Bool}{x:Option R}(h:aB b x=some r):b=true∧x=some r:=by
 cases b<;>simp_all [aB]
def vH(ks:dv)(row:Row)(off:Nat):Nat->aD
 |0=>[]
 |n+1=>ld (ks.getD off .raw) (row.getD off .top)::vH ks row (off+1) n
def Rz{ks:dv}{row:Row}(h:cZ ks row=true):∀(n off:Nat),off+n<=ks.length->vH ks row off n=(row.drop off).take n
 |0,off,_=>by simp [vH]
 |n+1,off,hb=>by
  have hl:=gK h;have h1:off<row.length:=by omega
  have h2:off<ks.length:=by omega
  simp only [vH,List.getD,cJ h1,cJ h2,ni];rw [yt (pF h (cJ h2) (cJ h1)),Rz h n (off+1) (by omega)];rw [Qj h1,List.take_succ_cons]
def Kind.v:Kind->Kind| .slice _=> .any | .raw => .any |k=>k
def Uk(ks:dv)(off:Nat)(k:Kind):Bool:=(ks.all (·==k))||(ks.getD off .raw ==k)
def aqt{k:Kind}(h:Uk ks off k=true)(ho:off<ks.length):ks[off]?=some k:=by
 unfold Uk at h;rw [sW]at h;rcases h with h|h
 ·rw [iQ]at h;rw [cJ ho];have:=h _ (eH ho);simp at this;rw [this]
 ·rw [fJ,List.getD,cJ ho]at h;rw [cJ ho];exact jh
def setAt:aD->Nat->aD->aD
 |cs,_,[]=>cs
 |cs,off,x::xs=>setAt (cs.set off x) (off+1) xs
def AK:∀(xs cs:aD) (off:Nat),(setAt cs off xs).length =cs.length
 | [],_,_=>rfl
 |x::xs,cs,off=>by simp [setAt,AK xs]
def yp:∀(xs cs:aD) (off:Nat),off+xs.length<=cs.length->∀(j:Nat),(setAt cs off xs)[j]?=if off<=j∧j<off+xs.length then xs[j- off]? else cs[j]?
 | [],cs,off,_,j=>by simp [setAt];omega
 |x::xs,cs,off,h,j=>by
  simp only [gE]at h;rw [setAt,yp xs (cs.set off x) (off+1) (eR) j]
  by_cases h1:j=off
  ·subst h1;rw [if_neg (by omega),if_pos (by simp),hY (by omega)];simp
  ·by_cases h2:off+1<=j∧j<off+1+xs.length
   ·rw [if_pos h2,if_pos (eR)];rw [show j- off=(j-(off+1))+1 by omega];simp
   ·rw [if_neg h2,if_neg (eR),fP (Ne.symm h1)]
def KO:dv->Nat->aD->Bool
 |_,_,[]=>true
 |ks,off,x::xs=>fj (ks.getD off .raw) x&&KO ks (off+1) xs
def tB(ks:dv)(off:Nat)(xs:aD):Bool:=
 (match ks with|k::r=>(r.all (·==k))&&xs.all (fj k)| []=>false)||KO ks off xs
def Zt:∀{xs:aD} {ks:dv} {off:Nat},KO ks off xs=true->∀{j:Nat} {x:AV},xs[j]?=some x->fj (ks.getD (off+j) .raw) x=true
 | [],_,_,_,j,x,hx=>tc
 |y::ys,ks,off,h,j,x,hx=>by
  simp only [KO,bc]at h;cases j with
  |zero=>simp at hx;subst hx;exact h.1
  |succ j=>
   have:=Zt h.2 (j:=j) (x:=x) (EJ)
   rwa [show off+(j+1)=off+1+j by omega]
def P0(h:tB ks off xs=true)(hb:off+xs.length<=ks.length)(hx:xs[j]?=some x):fj (ks.getD (off+j) .raw) x=true:=by
 unfold tB at h;rw [sW]at h;rcases h with h|h
 ·cases ks with
  |nil=>exact dB
  |cons k r=>
   simp only [bc,iQ]at h;have hj:j<xs.length:=(cy.1 hx).1;have aY:off+j<(k::r).length :=by omega
   have hk:(k::r).getD (off+j) .raw =k:=by
    simp only [List.getD,cJ aY,ni];have hm:=eH aY;rcases dA.1 hm with e|e
    ·exact e
    ·simpa using h.1 _ e
   rw [hk];exact h.2 x (kY hx)
 ·exact Zt h hx
def Yg(hk:cZ ks cs=true)(h:tB ks off xs=true)(hb:off+xs.length<=ks.length):cZ ks (setAt cs off xs)=true:=by
 have hl:=gK hk;refine En (by rw [AK];exact hl) λj k x LL hx=> ?_;rw [yp xs cs off (by omega) j]at hx
 by_cases hj:off<=j∧j<off+xs.length
 ·rw [if_pos hj]at hx;have:=P0 h hb hx;exact abL
 ·rw [if_neg hj]at hx;exact pF hk LL hx
def Tm(ks:dv)(off:Nat):Kind:=
 match ks with
 | []=> .raw
 |k::r=>match r.all (·==k)with|true=>k|false=>(k::r).getD off .raw
def aqs(h:off<ks.length):Tm ks off=ks[off]:=by
 unfold Tm;split
 ·exact dB
 ·rename_i k r;split
  ·rename_i ha;cases off with
   |zero=>rfl
   |succ o=>
    have:=iQ.1 ha (r[o]'(jh)) (eH _);simpa using(eq_of_beq this).symm
  ·rw [Qe,cJ h];rfl
def Fc(op:Option (Nat×Nat×Nat))(j:Nat):Option (Nat×Nat):=match op with|some (i,j',k)=>(match Nat.beq j' j with|true=>some (i,k)|false=>none)|none=>none
def AV.adX:AV->Bool| .U _ _=>true|_=>false
def AV.pU:AV->Bool| .sub _ _=>true|_=>false
def Gq(kd:Kind)(x:AV)(k:AV->Option R):Option R:=match kd with| .slice t=>aB x.adX (k (.U t x.rows))|kd=>k (ld kd x)
def apq(h:Fc op j=none)(i:Nat):fw op i j=none:=by
 match op with
 |none=>rfl
 |some (i',j',k)=>
  simp only [Fc]at h;split at h
  ·cases h
  ·rename_i hb;have:j'≠j:=YY hb;simp [fw,this]
def amB{i k:Nat}(h:Fc op j=some (i,k)):op=some (i,j,k):=by
 match op with
 |none=>cases h
 |some (i',j',k')=>
  simp only [Fc]at h;split at h
  ·rename_i hb;injection h with h;injection h with h1 h2;rw [h1,h2,ct hb]
  ·cases h
def XQ(h:pZ kd x=true)(hs:x.pU=false):fj kd x=true:=by
 unfold pZ at h;split at h
 ·cases hs
 ·exact h
def XR(h:fj kd x=true):pZ kd x=true:=by
 unfold pZ;split
 ·simp [fj]at h
 ·exact h
def P2{row:Row}(hl:row.length=ks.length)(h:∀(j:Nat) (k:Kind) (x:AV),ks[j]?=some k->row[j]?=some x->pZ k x=true):pT ks row=true:=by
 induction ks generalizing row with
 |nil=>cases row with|nil=>rfl|cons x xs=>simp at hl
 |cons k ks ih=>
  cases row with
  |nil=>simp at hl
  |cons x xs=>
   simp only [pT,bc];exact⟨h 0 k x rfl rfl,ih (nv) λj k' x' hk hx=>h (j+1) k' x' (Jc) (EJ)⟩
def anB(hk:pT ks cs=true)(h:∀{j:Nat} {y:AV},xs[j]?=some y->pZ (ks.getD (off+j) .raw) y=true)(hb:off+xs.length<=ks.length):pT ks (setAt cs off xs)=true:=by
 have hl:=vZ hk;refine P2 (by rw [AK];exact hl) λj k x LL hx=> ?_;rw [yp xs cs off (by omega) j]at hx
 by_cases hj:off<=j∧j<off+xs.length
 ·rw [if_pos hj]at hx;have:=h hx;exact abL
 ·rw [if_neg hj]at hx;obtain⟨k',e1,e2⟩:=yu hk hx;rw [LL]at e1;injection e1 with e1;subst e1;exact e2
def pM(X:Cx)(t:TypeId)(p:AV)(M:ar)(k:AV->Option R):Option R:=
 match p with
 | .ep t' row off=>
   aB ((X.ti t).ok &&decide (off+(X.ti t).size <=(X.K t').length))
    (match(X.ti t).u.agg with
     |true=>k (.agg (vH (X.K t') row off (X.ti t).size))
     |false=>aB ((X.ti t).size ==1) (k (ld (Tm (X.K t') off) (row.getD off .top))))
 | .ptr id i off=>
   match gm M id with
   |some (.var ks cs)=>
    aB ((X.ti t).ok &&i==0&&decide (off+(X.ti t).size <=ks.length))
     (match(X.ti t).u.agg with
      |true=>k (.agg (vH ks cs off (X.ti t).size))
      |false=>aB ((X.ti t).size ==1&&Uk ks off ((X.ti t).ks.headD .raw).v) (k (ld ((X.ti t).ks.headD .raw).v (cs.getD off .top))))
   |some (.row t' xs)=>
    aB ((X.ti t).ok &&decide (off+(X.ti t).size <=(X.K t').length)&&decide (i<xs.length))
     (match(X.ti t).u.agg with
      |true=>k (.agg (vH (X.K t') (xs.getD i []) off (X.ti t).size))
      |false=>aB ((X.ti t).size ==1) (k (ld ((X.K t').getD off .raw) ((xs.getD i []).getD off .top))))
   |some (.aU t' xs op)=>
    aB ((X.ti t).ok &&decide (off+(X.ti t).size <=(X.K t').length)&&decide (i<xs.length))
     (match(X.ti t).u.agg with
      |true=>none
      |false=>aB ((X.ti t).size ==1) (match Fc op off with
       |some (i0,k0)=>aB (Nat.beq i i0) (k (.aa k0))
       |none=>Gq ((X.K t').getD off .raw) ((xs.getD i []).getD off .top) k))
   |_=>none
 |_=>none
def GQ(X:Cx):List (Nat×TypeId)->aD->aD->Option Bool
 | [],_,_=>some true
 |f::fs,xs,ys=>
  match GQ X fs xs ys with
  |none=>none
  |some r=>
   match(X.ti f.2).ok,(X.ti f.2).u,xs[f.1]?,ys[f.1]? with
   |true,.int _,some (.int ka a),some (.int kb b)=>(match ka==kb with|true=>some (a==b&&r)|false=>none)
   |true,.bool,some (.bool a),some (.bool b)=>some (a==b&&r)
   |_,_,_,_=>none
def w5(x:AV)(k:Bool->Option R):Option R:=
 match x with
 | .fD =>k true
 | .ja =>k false
 | .U _ xs=>match xs.isEmpty with|true=>none|false=>k false
 |_=>none
def XV{k:Bool->Option R}(h:w5 x k=some r):
 ∃b,k b=some r∧∀{K:TypeId->dv} {ρ:aT} {F:aO} {w:World} {v:Value},aw K ρ F w x v->∃a n c,v= .slice a n c∧a.isNone=b:=by
 unfold w5 at h;split at h
 ·exact⟨_,h,λ{K ρ F w v} hr=>by cases hr;exact⟨none,0,0,rfl,rfl⟩⟩
 ·exact⟨_,h,λ{K ρ F w v} hr=>by cases hr;exact⟨some _,0,_,rfl,rfl⟩⟩
 ·rename_i t xs;split at h
  ·cases h
  ·rename_i he;refine⟨_,h,λ{K ρ F w v} hr=> ?_⟩;cases hr with
   |iS t=>exact Bl
   |U t xs a cap vss hl jU iV hk hc hx=>exact⟨some _,_,_,rfl,rfl⟩
 ·cases h
def Fp(X:Cx)(op:BinOp)(t:TypeId)(x y:AV)(k:AV->Option R):Option R:=
 match x,y with
 | .int kx a,.int ky b=>
   match op with
   | .shl =>aB (decide (0<=b)) (k (.int kx (kx.wrap (a*2^(min b.toNat kx.bits)))))
   | .shr =>aB (decide (0<=b)) (k (.int kx (a.fdiv (2^(min b.toNat kx.bits)))))
   |_=>
    aB (kx==ky) (match op with
     | .add =>k (.int kx (kx.wrap (a+b)))
     | .sub =>k (.int kx (kx.wrap (a- b)))
     | .mul =>k (.int kx (kx.wrap (a*b)))
     | .quo =>aB (!(b==0)) (k (.int kx (kx.wrap (a.tdiv b))))
     | .rem =>aB (!(b==0)) (k (.int kx (a.tmod b)))
     | .and =>k (.int kx (kx.wrap (BitVec.ofInt kx.bits a&&&BitVec.ofInt kx.bits b).toNat))
     | .or =>k (.int kx (kx.wrap (BitVec.ofInt kx.bits a|||BitVec.ofInt kx.bits b).toNat))
     | .xor =>k (.int kx (kx.wrap (BitVec.ofInt kx.bits a^^^BitVec.ofInt kx.bits b).toNat))
     | .andNot =>k (.int kx (kx.wrap (BitVec.ofInt kx.bits a&&& ~~~ BitVec.ofInt kx.bits b).toNat))
     | .eql =>k (.bool (a==b))
     | .neq =>k (.bool (a != b))
     | .lss =>k (.bool (decide (a<b)))
     | .leq =>k (.bool (decide (a<=b)))
     | .gtr =>k (.bool (decide (b<a)))
     | .geq =>k (.bool (decide (b<=a)))
     |_=>none)
 | .bool a,.bool b=>
   match(X.ti t).ok,(X.ti t).u,op with
   |true,.bool,.eql =>k (.bool (a==b))
   |true,.bool,.neq =>k (.bool (!(a==b)))
   |_,_,_=>none
 | .agg xs,.agg ys=>
   match X.eqs t,(X.ti t).ok,(X.ti t).u with
   |true,true,.struct fs=>
    match GQ X fs xs ys with
    |none=>none
    |some b=>match op with| .eql =>k (.bool b)| .neq =>k (.bool (!b))|_=>none
   |_,_,_=>none
 |x,.fD =>
  match(X.ti t).ok,(X.ti t).u,op with
  |true,.slice _,.eql =>w5 x λb=>k (.bool b)
  |true,.slice _,.neq =>w5 x λb=>k (.bool (!b))
  |_,_,_=>none
 |_,_=>none
def alI(P:Program)(w:World)(op:BinOp)(t:TypeId)(x y:Operand)(ka kb:IntKind)(a b:Int):(eqGuard op t x y (.int ka a) (.int kb b)).run P w= .ok () w:=by
 unfold eqGuard;cases op<;>rfl
def WV(P:Program)(w:World)(op:BinOp)(t:TypeId)(x y:Operand)(a b:Bool):(eqGuard op t x y (.bool a) (.bool b)).run P w= .ok () w:=by
 unfold eqGuard;cases op<;>rfl
def HR{i:TypeInfo}{d:TypeDesc}{z:Value}(f:la X t i d z)(ha:(X.ti t).u.agg =false){vs:Array Value}{v:Value}(hv:vs[off]?=some v)(w:World):(part t vs off).run X.P w= .ok v w:=by
 simp only [part,dO,f.isAgg,ha,fg,hv,fX,jG,ly]
def XA(hX:X.Okb){ρ:aT}{F:aO}{w:World}{xs ys:aD}{vs us:Array Value}(h1:cq X.K ρ F w xs vs.toList)(h2:cq X.K ρ F w ys us.toList)(d:Nat):∀(gs:List Field) (b:Bool),(∀g∈gs,g.name≠ "_")→
 GQ X (gs.map λf=>(f.offset,f.type)) xs ys=some b->(Op.eqFields (d+1) vs us gs).run X.P w= .ok b w
 | [],b,_,h=>by
   simp only [wy,GQ,Option.some.injEq]at h;subst h;rfl
 |g::gs,b,hn,h=>by
  simp only [fW,GQ]at h;split at h
  ·cases h
  rename_i r hr;have ih:=XA hX h1 h2 d gs r (fun g hg=>hn g (by simp [hg])) hr;have ad1:g.name≠ "_" :=hn g (by simp)
  have cell:∀{zs:aD} {ws:Array Value} {x:AV},cq X.K ρ F w zs ws.toList->zs[g.offset]?=some x->∃v,ws[g.offset]?=some v∧aw X.K ρ F w x v:=by
   intro zs ws x hz hx;have aY:g.offset<zs.length:=(cy.1 hx).1;have hl:=hz.1;simp only [k8]at hl;obtain⟨u,hu⟩:∃u,ws[g.offset]?=some u:=⟨ws[g.offset]'(by omega),AZ (by omega)⟩;exact⟨u,hu,hz.2 g.offset _ _ hx (Rc)⟩
  split at h
  ·rename_i kt ka a kb c aQ hu Uq Up;cases hk:ka==kb with
   |false=>rw [hk]at h;cases h
   |true=>
    rw [hk]at h;have hk:=eq_of_beq hk;subst hk;simp only [Option.some.injEq]at h;subst h;obtain⟨i,dd,z,f⟩:=hX.facts aQ;have cE:X.P.underlying g.type=some (.int kt):=by
     have iP:=f.u;rw [hu]at iP;have hf:=f.iz;cases dd<;>simp [kJ]at iP
     subst iP;exact hf
    have ha:(X.ti g.type).u.agg =false:=by rw [hu];rfl
    obtain⟨v,hv,ig⟩:=cell h1 Uq;obtain⟨u,jW,iP⟩:=cell h2 Up;cases ig;cases iP;simp only [Op.eqFields,ne_eq,ad1,not_false_eq_true,ng,dO,HR f ha hv,HR f ha jW,fg,run_equalIn_int (P:=X.P) w d g.type ka kt a c cE];exact abS
  ·rename_i a c aQ hu Uq Up;simp only [Option.some.injEq]at h;subst h;obtain⟨i,dd,z,f⟩:=hX.facts aQ;have cE:X.P.underlying g.type=some .bool :=by
    have iP:=f.u;rw [hu]at iP;have hf:=f.iz;cases dd<;>simp [kJ]at iP
    exact hf
   have ha:(X.ti g.type).u.agg =false:=by rw [hu];rfl
   obtain⟨v,hv,ig⟩:=cell h1 Uq;obtain⟨u,jW,iP⟩:=cell h2 Up;cases ig;cases iP;simp only [Op.eqFields,ne_eq,ad1,not_false_eq_true,ng,dO,HR f ha hv,HR f ha jW,fg,run_equalIn_bool' (P:=X.P) w d g.type a c cE];exact abS
  ·cases h
def anJ(hX:X.Okb){op:BinOp}{u:TypeId}{y:AV}{a b:Operand}{k:AV->Option R}(h:Fp X op t x y k=some r):
 ∃z,k z=some r∧∀(ρ:aT) (F:aO) (w:World) (va vb:Value),aw X.K ρ F w x va->aw X.K ρ F w y vb->
  ∃v,(do eqGuard op t a b va vb;binOp op t va vb:Sem Value).run X.P w= .ok v w∧aw X.K ρ F w z v:=by
 unfold Fp at h;split at h
 ·rename_i kx a' ky b';have key:∀(z:AV) (v:Value),(∀(ρ:aT) (F:aO) (w:World),aw X.K ρ F w z v)->(∀w,(binOp op t (.int kx a') (.int ky b')).run X.P w= .ok v w)->∀(ρ:aT) (F:aO) (w:World) (va vb:Value),aw X.K ρ F w (.int kx a') va->aw X.K ρ F w (.int ky b') vb->
   ∃v,(do eqGuard op t a b va vb;binOp op t va vb:Sem Value).run X.P w= .ok v w∧aw X.K ρ F w z v:=by
   intro z v hz cC ρ F w va vb h1 h2;cases h1;cases h2;refine⟨v,?_,hz ρ F w⟩;rw [dO,alI];exact cC w
  cases op<;>simp only at h<;>first
   |(replace h:=bG h
     obtain⟨e,h⟩:=h
     first
      |(have e':=A9 e
        refine⟨_,h,key _ _ (λ_ _ _=> .int _ _) λw=> ?_⟩;unfold binOp Op.shift;simp [show¬b'<0 by omega]
        done)
      |(rw [fJ]at e
        subst e
        first
         |(refine⟨_,h,key _ _ (λ_ _ _=> .int _ _) λw=> ?_⟩
           first
            |(simp [binOp,Op.intArith];done)
            |(simp [binOp,Op.intBits];done))
         |(refine⟨_,h,key _ _ (λ_ _ _=> .bool _) λw=> ?_⟩
           simp [binOp,Op.intCmp];done)
         |(replace h:=bG h
           obtain⟨e2,h⟩:=h;refine⟨_,h,key _ _ (λ_ _ _=> .int _ _) λw=> ?_⟩;have hb:b'≠0:=by simpa using e2
           simp [binOp,Op.intDiv,hb];done)))
   |cases h
 ·rename_i a' b';cases aQ:(X.ti t).ok with
  |false=>simp [aQ]at h
  |true=>
   obtain⟨i,d,z,f⟩:=hX.facts aQ;have hu:=f.u;simp only [aQ]at h;split at h
   ·rename_i LH;have cE:X.P.underlying t=some .bool :=abV;refine⟨_,h,λρ F w va vb h1 h2=> ?_⟩;cases h1;cases h2;refine⟨_,?_,.bool _⟩;rw [dO,WV];exact run_eql_bool (P:=X.P) (w:=w) t a' b' cE
   ·rename_i LH;have cE:X.P.underlying t=some .bool :=abV;refine⟨_,h,λρ F w va vb h1 h2=> ?_⟩;cases h1;cases h2;refine⟨_,?_,.bool _⟩;rw [dO,WV];exact run_neq_bool (P:=X.P) (w:=w) t a' b' cE
   ·cases h
 ·rename_i xs ys;split at h
  ·rename_i fs heq aQ hu;split at h
   ·cases h
   ·rename_i bb Aa;obtain⟨i,d,z,f⟩:=hX.facts aQ;have vd:=hX.eqs t heq;have iP:=f.u;rw [hu]at iP;have cE:=f.iz;cases d<;>simp only [kJ]at iP<;>try cases iP
    rename_i gs;unfold zw at vd;rw [cE]at vd;simp only [bc,nU,iQ,bne_iff_ne]at vd;obtain⟨⟨hn,cY⟩,hg⟩:=vd;have pq:X.P.fieldsOf t=gs:=by simp [Program.fieldsOf,cE]
    have run:∀(ρ:aT) (F:aO) (w:World) (va vb:Array Value),cq X.K ρ F w xs va.toList->cq X.K ρ F w ys vb.toList->(Op.equalIn 10000 t (.agg va) (.agg vb)).run X.P w= .ok bb w:=by
     intro ρ F w va vb h1 h2;rw [run_equalIn_struct w 9999 t va vb (by rw [pq];exact cE) cY,pq];exact XA hX h1 h2 9998 gs.toList bb hn Aa
    split at h
    ·refine⟨_,h,λρ F w va vb h1 h2=> ?_⟩;cases h1 with
     |agg _ v1 gS oF=>
      cases h2 with
      |agg _ v2 kj gv=>
       refine⟨.bool bb,?_,.bool _⟩;rw [dO,run_eqGuard_agg (P:=X.P) w .eql t a b _ _ hg,fg,run_eql_struct,run ρ F w _ _ ⟨gS,oF⟩ ⟨kj,gv⟩];rfl
    ·refine⟨_,h,λρ F w va vb h1 h2=> ?_⟩;cases h1 with
     |agg _ v1 gS oF=>
      cases h2 with
      |agg _ v2 kj gv=>
       refine⟨.bool (!bb),?_,.bool _⟩;rw [dO,run_eqGuard_agg (P:=X.P) w .neq t a b _ _ hg,fg,run_neq_struct,run ρ F w _ _ ⟨gS,oF⟩ ⟨kj,gv⟩];rfl
    ·cases h
  ·cases h
 ·split at h
  ·rename_i e heq aQ hu;obtain⟨i,d,z',f⟩:=hX.facts aQ;have cE:=f.slice hu;obtain⟨bb,h,hv⟩:=XV h;refine⟨_,h,λρ F w va vb h1 h2=> ?_⟩;obtain⟨a',n,c,rfl,rfl⟩:=hv h1;cases h2;refine⟨.bool a'.isNone,?_,.bool _⟩;rw [eqGuard_at_slice,dO,fX,fg];exact Lib.run_eql_slice_nil w t _ a' n c 0 0 cE
  ·rename_i e heq aQ hu;obtain⟨i,d,z',f⟩:=hX.facts aQ;have cE:=f.slice hu;obtain⟨bb,h,hv⟩:=XV h;refine⟨_,h,λρ F w va vb h1 h2=> ?_⟩;obtain⟨a',n,c,rfl,rfl⟩:=hv h1;cases h2;refine⟨.bool (!a'.isNone),?_,.bool _⟩;rw [eqGuard_at_slice,dO,fX,fg];exact run_neq_slice_nil_any w t _ a' n c 0 0 cE
  ·cases h
 ·cases h
end
end Go.ae
namespace Go.ae
def rf{p:Prop}(h:p:=by simpa using h2):p:=h
def ado{p:Prop}(h:p:=by
 rename_i ha;refine⟨_,h,λ{w0 S F ρ w vp} hI hp=> ?_⟩;obtain⟨hk,a,vs,rfl,hr,hc⟩:=core hI hp;exact(D0 hX aQ hk hr hc lU).1 ha):p:=h
end Go.ae
namespace Go.ae
def wI:=@Go.Addr.add_add
def qX:=@List.getElem?_range
def jv:=@Option.map_some
def n8:=@List.getElem?_take
def oO:=@List.getElem?_drop
def fr:=@decide_eq_true_eq
def wA:=@Nat.zero_add
def nS:=@Array.getD_eq_getD_getElem?
end Go.ae
namespace Go.ae
open Go
noncomputable section
variable {X:Cx} {R:Type}
variable {w0 w:World} {S:Sc} {F:aO} {ρ:aT} {M:ar}
variable{a:Addr}{hd:Hd}{i:Nat}{row:Row}{t:TypeId}{K:TypeId->dv}{ks:dv}{vs:eU}
def n9(w:World)(a:Addr)(vs:eU):Prop:=∀(j:Nat) v,vs[j]?=some v->w.cell? (a.add j)=some v
def X6(hX:X.Okb)(aQ:(X.ti t).ok =true)(hl:vs.length=(X.ti t).size)(hc:n9 w a vs):
 ((X.ti t).u.agg =true->(Instr.loadAt t (.pointer (some a))).run X.P w= .ok (.agg vs.toArray) w)∧
 ((X.ti t).u.agg =false->∀v,vs=[v]->(Instr.loadAt t (.pointer (some a))).run X.P w= .ok v w):=by
 obtain⟨i,d,z,f⟩:=hX.facts aQ;constructor
 ·intro ha;unfold Instr.loadAt Instr.sureAddr loadVar;simp only [dO,fX,fg,f.isAgg,ha,ng,f.sizeOf,<-hl,run_loadCells_list w a vs hc]
 ·intro ha v hv;have h0:=hc 0 v (by simp [hv]);simp only [Addr.add,ng]at h0;unfold Instr.loadAt Instr.sureAddr loadVar;simp [f.isAgg,ha,run_load,h0]
def cq.drop_take{xs:aD}(h:cq K ρ F w xs vs)(off n:Nat):cq K ρ F w ((xs.drop off).take n) ((vs.drop off).take n):=by
 refine⟨by simp [h.1],λj x v hx hv=> ?_⟩;rw [n8]at hx hv;split at hx
 ·rename_i hj;rw [if_pos hj]at hv;rw [oO]at hx hv;exact h.2 _ x v hx hv
 ·cases hx
def n9.drop_take(h:n9 w a vs)(off n:Nat):n9 w (a.add off) ((vs.drop off).take n):=by
 intro j v hv;rw [n8]at hv;split at hv
 ·rw [oO]at hv;rw [wI];exact h _ v hv
 ·cases hv
def Inv.Pd(hI:Inv X w0 S F ρ M w){id:Nat}{cs:aD}(hb:M[id]?=some (.var ks cs))(hh:ρ[id]?=some hd):
 cZ ks cs=true∧∃g cur e,hd.v= .slice (some ⟨g,0,none⟩) 1 1∧hd.sz=cs.length∧w.heap[g]?=some (.cells cur e (0,0))∧cq X.K ρ F w cs cur.toList∧n9 w ⟨g,0,none⟩ cur.toList∧X.xG ks e=true:=by
 obtain⟨h1,h2,g,cur,e,hv,hg,hr,hy⟩:=hI.rep id _ hd hb hh;refine⟨h1,g,cur,e,hv,h2,hg,hr,λj v hj=> ?_,hy⟩;rw [ju,wA,qW w g j cur e (0,0) hg];simpa using hj
def iN.yq{xs:aH}(h:iN X ρ F w hd (.row t xs))(hi:xs[i]?=some row):
 cZ (X.K t) row=true∧hd.sz=(X.K t).length ∧∃g o c cur vs,hd.v= .slice (some ⟨g,o,none⟩) xs.length c∧w.heap[g]?=some (.cells cur t (0,0))∧xs.length<=c∧c<=maxLen∧o+c*hd.sz<=cur.size∧
  cq X.K ρ F w row vs∧n9 w ⟨g,o+i*hd.sz,none⟩ vs∧(∀(j:Nat) v,vs[j]?=some v->cur[o+i*hd.sz+j]?=some v):=by
 obtain⟨h1,h2,h3⟩:=h;have hk:=h2 i row hi;refine⟨hk,h1,?_⟩;rcases h3 with⟨_,he⟩|⟨g,o,c,cur,hv,hg,h4,h5,h6,h7⟩
 ·subst he;simp at hi
 ·have hlen:=gK hk;have dL:∃vs:eU,vs.length=row.length∧∀(j:Nat) x v,row[j]?=some x->vs[j]?=some v->cur[o+i*hd.sz+j]?=some v∧aw X.K ρ F w x v:=by
   refine⟨(List.range row.length).map λj=>cur.getD (o+i*hd.sz+j) undef,by simp,λj x v hx hv=> ?_⟩;obtain⟨u,hu,hr⟩:=h7 i row hi j x hx;have hj:=(cy.1 hx).1;rw [gW,qX hj]at hv;simp only [jv,Option.some.injEq]at hv;have:cur.getD (o+i*hd.sz+j) undef=u:=by rw [nS,hu];rfl
   rw [this]at hv;subst hv;exact⟨hu,hr⟩
  obtain⟨vs,hl,dL⟩:=dL;have FV:∀(j:Nat) v,vs[j]?=some v->cur[o+i*hd.sz+j]?=some v:=by
   intro j v hj;have oE:=(cy.1 hj).1;exact(dL j (row[j]'(by omega)) v (cJ (by omega)) hj).1
  refine⟨g,o,c,cur,vs,hv,hg,h4,h5,h6,⟨hl,λj x v hx hv=>(dL j x v hx hv).2⟩,λj v hj=> ?_,FV⟩;rw [ju,qW w g _ cur t (0,0) hg];exact FV j v hj
def Inv.yq(hI:Inv X w0 S F ρ M w){id:Nat}{t:TypeId}{xs:aH}(hb:M[id]?=some (.row t xs)){hd:Hd}(hh:ρ[id]?=some hd){i:Nat}{row:Row}(hi:xs[i]?=some row):
 cZ (X.K t) row=true∧hd.sz=(X.K t).length ∧∃g o c cur vs,hd.v= .slice (some ⟨g,o,none⟩) xs.length c∧w.heap[g]?=some (.cells cur t (0,0))∧xs.length<=c∧c<=maxLen∧o+c*hd.sz<=cur.size∧
  cq X.K ρ F w row vs∧n9 w ⟨g,o+i*hd.sz,none⟩ vs∧(∀(j:Nat) v,vs[j]?=some v->cur[o+i*hd.sz+j]?=some v):=(hI.rep id _ hd hb hh).yq hi
def lx{α:Type}{xs:List α}{d:α}(h:i<xs.length):xs[i]?=some (xs.getD i d):=by
 simp [List.getD,cJ h]
def cq.one{x:AV}(h:cq K ρ F w [x] vs):∃v,vs=[v]∧aw K ρ F w x v:=by
 obtain⟨h1,h2⟩:=h
 match vs,h1 with
 | [v],_=>exact⟨v,rfl,h2 0 x v rfl rfl⟩
def D0(hX:X.Okb)(aQ:(X.ti t).ok =true)(hk:cZ ks row=true)(hr:cq X.K ρ F w row vs)(hc:n9 w a vs){off:Nat}
 (hb:off+(X.ti t).size <=ks.length):
 ((X.ti t).u.agg =true->∃v,(Instr.loadAt t (.pointer (some (a.add off)))).run X.P w= .ok v w∧aw X.K ρ F w (.agg (vH ks row off (X.ti t).size)) v)∧
 ((X.ti t).u.agg =false->(X.ti t).size =1->∃v,(Instr.loadAt t (.pointer (some (a.add off)))).run X.P w= .ok v w∧aw X.K ρ F w (row.getD off .top) v):=by
 have hl:=gK hk;have xX:=hr.1;have qd:=hr.drop_take off (X.ti t).size;have sG:=hc.drop_take off (X.ti t).size;have hlen:((vs.drop off).take (X.ti t).size).length =(X.ti t).size :=eR;obtain⟨l1,l2⟩:=X6 (w:=w) hX aQ hlen sG;constructor
 ·intro ha;refine⟨_,l1 ha,?_⟩;rw [Rz hk _ _ hb];exact .agg _ _ qd.1 qd.2
 ·intro ha h1;have aY:off<row.length:=by omega
  have e:(row.drop off).take (X.ti t).size =[row.getD off .top]:=by
   rw [h1,Qj aY,List.take_succ_cons,List.take_zero];simp only [List.getD,cJ aY,ni]
  rw [e]at qd;obtain⟨v,hv,jy⟩:=qd.one;exact⟨v,l2 ha v hv,jy⟩
def Xz(hX:X.Okb){p:AV}{k:AV->Option R}{r:R}(h:pM X t p M k=some r):
 ∃z,k z=some r∧∀{w0:World} {S:Sc} {F:aO} {ρ:aT} {w:World} {vp:Value},Inv X w0 S F ρ M w->aw X.K ρ F w p vp->∃v,(Instr.loadAt t vp).run X.P w= .ok v w∧aw X.K ρ F w z v:=by
 unfold pM at h;simp only [cG]at h;split at h
 ·rename_i t' row off;replace h:=bG h;obtain⟨h1,h⟩:=h;simp only [bc,fr]at h1;split at h
  ·rename_i ha;refine⟨_,h,λ{w0 S F ρ w vp} hI hp=> ?_⟩;cases hp with
   |ep _ _ _ a vs hk hl hc hr=>exact(D0 hX h1.1 hk ⟨hl,hr⟩ (λj v hv=>(hc j v hv).1) h1.2).1 ha
  ·rename_i ha;replace h:=bG h;obtain⟨h2,h⟩:=h;refine⟨_,h,λ{w0 S F ρ w vp} hI hp=> ?_⟩;cases hp with
   |ep _ _ _ a vs hk hl hc hr=>
    obtain⟨v,mD,ig⟩:=(D0 hX h1.1 hk ⟨hl,hr⟩ (λj v hv=>(hc j v hv).1) h1.2).2 ha (rf);refine⟨v,mD,?_⟩;have hs:(X.ti t).size =1:=rf;have oX:off<(X.K t').length :=by omega
    rw [aqs oX,yt]
    ·exact ig
    ·have aY:off<row.length:=by rw [gK hk];exact oX
     exact pF hk (cJ oX) (lx aY)
 ·rename_i id i off;split at h
  ·rename_i ks cs hb;replace h:=bG h;obtain⟨h1,h⟩:=h;simp only [bc,fr,fJ]at h1;obtain⟨⟨aQ,vP⟩,lU⟩:=h1;subst vP;have core:∀{w0:World} {S:Sc} {F:aO} {ρ:aT} {w:World} {vp:Value},Inv X w0 S F ρ M w->aw X.K ρ F w (.ptr id 0 off) vp->
    cZ ks cs=true∧∃a vs,vp= .pointer (some (Addr.add a off))∧cq X.K ρ F w cs vs∧n9 w a vs:=by
    intro w0 S F ρ w vp hI hp;cases hp with
    |ptr _ _ _ hd g o n c aA hv=>
     obtain⟨hk,g',cur,e,eN,cX,hg,hr,hc,_⟩:=hI.Pd hb aA;rw [hv]at eN;injection eN with h1 h2 h3;injection h1 with h1;injection h1 with h1 h4 h5;subst h1;subst h4;refine⟨hk,⟨g,0,none⟩,cur.toList,?_,hr,hc⟩;simp [ju]
   split at h
   ·exact ado
   ·rename_i ha;replace h:=bG h;obtain⟨h2,h⟩:=h;simp only [bc,fJ]at h2;refine⟨_,h,λ{w0 S F ρ w vp} hI hp=> ?_⟩;obtain⟨hk,a,vs,rfl,hr,hc⟩:=core hI hp;obtain⟨v,mD,ig⟩:=(D0 hX aQ hk hr hc lU).2 ha h2.1;refine⟨v,mD,?_⟩;have aY:off<cs.length:=by have:=gK hk;omega
    rw [yt (pF hk (aqt h2.2 (by omega)) (lx aY))];exact ig
  ·rename_i t' xs hb;replace h:=bG h;obtain⟨h1,h⟩:=h;simp only [bc,fr]at h1;obtain⟨⟨aQ,lU⟩,hi⟩:=h1;have core:∀{w0:World} {S:Sc} {F:aO} {ρ:aT} {w:World} {vp:Value},Inv X w0 S F ρ M w->aw X.K ρ F w (.ptr id i off) vp->
    cZ (X.K t') (xs.getD i [])=true∧∃a vs,vp= .pointer (some (Addr.add a off))∧cq X.K ρ F w (xs.getD i []) vs∧n9 w a vs:=by
    intro w0 S F ρ w vp hI hp;cases hp with
    |ptr _ _ _ hd g o n c aA hv=>
     obtain⟨hk,cX,g',o',c',cur,vs,eN,hg,_,_,_,hr,hc,_⟩:=hI.yq hb aA (lx (d:=[]) hi);rw [hv]at eN;injection eN with h1 h2 h3;injection h1 with h1;injection h1 with h1 h4 h5;subst h1;subst h4;refine⟨hk,_,vs,?_,hr,hc⟩;simp [ju]
   split at h
   ·exact ado
   ·rename_i ha;replace h:=bG h;obtain⟨h2,h⟩:=h;refine⟨_,h,λ{w0 S F ρ w vp} hI hp=> ?_⟩;obtain⟨hk,a,vs,rfl,hr,hc⟩:=core hI hp;have hs:(X.ti t).size =1:=rf;obtain⟨v,mD,ig⟩:=(D0 hX aQ hk hr hc lU).2 ha hs;refine⟨v,mD,?_⟩;have oX:off<(X.K t').length :=by omega
    have aY:off<(xs.getD i []).length :=by rw [gK hk];exact oX
    rw [show(X.K t').getD off .raw =(X.K t')[off]by simp [List.getD,cJ oX],yt (pF hk (cJ oX) (lx aY))];exact ig
  ·rename_i t' xs op hb;replace h:=bG h;obtain⟨h1,h⟩:=h;simp only [bc,fr]at h1;obtain⟨⟨aQ,lU⟩,hi⟩:=h1;split at h
   ·cases h
   ·rename_i ha;replace h:=bG h;obtain⟨h2,h⟩:=h;have hs:(X.ti t).size =1:=rf;have oX:off<(X.K t').length :=by omega
    have core:∀{w0:World} {S:Sc} {F:aO} {ρ:aT} {w:World} {vp:Value},Inv X w0 S F ρ M w->aw X.K ρ F w (.ptr id i off) vp->
     (pZ ((X.K t').getD off .raw) ((xs.getD i []).getD off .top)=true∧(X.K t').getD off .raw ≠ .any)∧∃v,(Instr.loadAt t vp).run X.P w= .ok v w∧(∀k,fw op i off=some k->∃h,ρ[k]?=some h∧v=h.v)∧(fw op i off=none->rk X ρ F w ((xs.getD i []).getD off .top) v):=by
     intro w0 S F ρ w vp hI hp;cases hp with
     |ptr _ _ _ hd g o n c aA hv=>
      obtain⟨q0,q1,q2,q3,q4⟩:=hI.aU.rep hb aA;have lu:=lx (d:=([]:Row)) hi;have tU:=vZ (q2 i _ lu);have aY:off<(xs.getD i []).length :=by omega
      have hx:(xs.getD i [])[off]?=some ((xs.getD i []).getD off .top):=lx aY;obtain⟨kd,e1,e2⟩:=yu (q2 i _ lu) hx;refine⟨⟨by simp only [List.getD,e1,ni];exact e2,by simp only [List.getD,e1,ni];exact q0 _ _ (kY e1)⟩,?_⟩;rcases q4 with⟨q4,_⟩|⟨g',o',c',cur,q4,q5,q6,q7,q8,q9⟩
      ·rw [hv]at q4;cases q4
      ·rw [hv]at q4;injection q4 with e1 e2 e3;injection e1 with e1;injection e1 with e1 e4 e5;subst e1;subst e4;obtain⟨v,fy,ho,hn⟩:=q9 i _ lu off _ hx;refine⟨v,?_,ho,hn⟩;refine(X6 (w:=w) hX aQ (vs:=[v]) (by simp [hs]) (λj u hj=> ?_)).2 ha v rfl;cases j with
       |zero=>
        simp at hj;subst hj;rw [ju,qW w g _ cur t' (0,0) q5];simpa using fy
       |succ j=>simp at hj
    split at h
    ·rename_i i0 k0 ho;replace h:=bG h;obtain⟨h3,h⟩:=h;have vP:i=i0:=ct h3;subst vP;have sB:=amB ho;refine⟨_,h,λ{w0 S F ρ w vp} hI hp=> ?_⟩;obtain⟨_,v,mD,ig,_⟩:=core hI hp;obtain⟨h',e1,e2⟩:=ig k0 (by rw [sB];simp [fw]);exact⟨v,mD,by rw [e2];exact .aa k0 h' e1⟩
    ·rename_i ho;have hon:=apq ho i;have plain:∀{w0:World} {S:Sc} {F:aO} {ρ:aT} {w:World} {vp:Value},Inv X w0 S F ρ M w->aw X.K ρ F w (.ptr id i off) vp->(pZ ((X.K t').getD off .raw) ((xs.getD i []).getD off .top)=true∧(X.K t').getD off .raw ≠ .any)∧
      ∃v,(Instr.loadAt t vp).run X.P w= .ok v w∧(((xs.getD i []).getD off .top).pU =false->aw X.K ρ F w ((xs.getD i []).getD off .top) v):=by
      intro w0 S F ρ w vp hI hp;obtain⟨hk,v,mD,_,Uv⟩:=core hI hp;refine⟨hk,v,mD,λiu=> ?_⟩;have:=Uv hon;unfold rk at this;split at this
      ·rename_i e;rw [e]at iu;cases iu
      ·exact this
     unfold Gq at h;split at h
     ·rename_i kd te mo;replace h:=bG h;obtain⟨h3,h⟩:=h;refine⟨_,h,λ{w0 S F ρ w vp} hI hp=> ?_⟩;obtain⟨⟨hk,_⟩,v,mD,ig⟩:=plain hI hp;refine⟨v,mD,?_⟩;rw [mo]at hk;generalize (xs.getD i []).getD off .top =x at h3 hk ig;cases x<;>simp only [AV.adX,jG]at h3
      have hk:(te==_)=true:=hk;rw [fJ]at hk;subst hk;exact ig rfl
     ·rename_i mo;refine⟨_,h,λ{w0 S F ρ w vp} hI hp=> ?_⟩;obtain⟨⟨hk,afX⟩,v,mD,ig⟩:=plain hI hp;have iu:((xs.getD i []).getD off .top).pU =false:=by
       unfold pZ at hk;split at hk
       ·rename_i te _ _ e1 _;exact absurd e1 (mo te)
       ·generalize (xs.getD i []).getD off .top =x at hk;cases x<;>first|rfl|skip
        generalize (X.K t').getD off .raw =kd at hk afX;cases kd<;>first|(simp [fj,AV.pure,AV.leaf]at hk;done)|exact absurd rfl afX
      refine⟨v,mD,?_⟩;rw [yt (XQ hk iu)];exact ig iu
  ·cases h
 ·cases h
end
end Go.ae
namespace Go.ae
def iF{p:Prop}(h:p:=by rw [h];rfl):p:=h
def uO{p:Prop}(h:p:=by
 rw [nY,PN]at this;omega):p:=h
def BK{p:Prop}(h:p:=by injection hk with hk;subst hk;exact z9 a ha):p:=h
def adi{p:Prop}(h:p:=by
 simp only [ru]at h;exact⟨_,_,h,rfl,cz.refl _ _,λ{w0 S F ρ w} hI=>⟨F,hI,bH.refl _ _ _,λ_ hv=>hv⟩⟩):p:=h
def Jx{p:Prop}(h:p:=by have:=(cy.1 hb).1;have:=hI.len;omega):p:=h
def acB{p:Prop}(h:p:=by
 intro y hy;obtain⟨j,hj⟩:=wm hy;exact OI (P0 iB (by omega) hj)):p:=h
def aco{p:Prop}(h:p:=by
 injection e1 with e1;injection e1 with e1 e4 e5;subst e1;subst e4;exact⟨vs,hr,hc⟩):p:=h
def yK{p:Prop}(h:p:=by simpa using hu):p:=h
def Bn{p:Prop}(h:p:=by simpa using hy):p:=h
def Bm{p:Prop}(h:p:=by simp [s7]):p:=h
def abQ{p:Prop}(h:p:=by
 simp only [A2,fC,lZ,sZ,k8];omega):p:=h
def abH{p:Prop}(h:p:=by exact AH (nK.2 j _ u hy hj) (J0 _ (kY hy)) hI.one):p:=h
def abF{p:Prop}(h:p:=by simp only [fw];rw [if_neg (λh=>hn ⟨h.1.symm,h.2.symm⟩)]):p:=h
def Jd{p:Prop}(h:p:=by simpa using hb):p:=h
end Go.ae
namespace Go.ae
def lZ:=@List.length_take
def sZ:=@List.length_drop
def nY:=@Nat.add_mul
def Bb:=@Nat.add_zero
def fC:=@List.length_append
def kZ:=@List.flatMap_cons
def mu:=@List.append_assoc
def rR:=@List.length_set
def oL:=@Nat.le_of_ble_eq_true
def PQ:=@List.getElem?_toArray
def Iu:=@Go.run_storeCells_at
def PO:=@Go.setRow_other
def nj:=@Nat.mul_le_mul_right
def PN:=@Nat.one_mul
def Eb:=@Go.setRow_heap
def A2:=@List.size_toArray
def wm:=@List.getElem?_of_mem
end Go.ae
namespace Go.ae
open Go
noncomputable section
variable {X:Cx} {R:Type}
variable {w0 w:World} {S:Sc} {F:aO} {ρ:aT} {M:ar}
variable{x:AV}{cur:Array Value}{hd:Hd}{g i i' j n o off:Nat}{op:Option (Nat×Nat×Nat)}{r:R}{e t:TypeId}{xs:aH}
def s7:AV->List Nat| .ptr id _ _=>[id]|_=>[]
def mJ:AV->List Nat| .aa id=>[id]|_=>[]
def lA:AV->List Nat| .aa id=>[id]| .vw id _ _=>[id]|_=>[]
def fp(k:Kind)(x:AV)(M:ar)(c:AV->ar->Option R):Option R:=
 match k,x with
 | .slice t,.fD =>c (.U t []) M
 | .slice t,.aa id=>
   match gm M id with
   |some (.row t' xs)=>aB (t==t') (c (.U t' xs) (M.set id (.di t' xs)))
   |some (.di t' xs)=>aB (t==t') (c (.U t' xs) M)
   |_=>none
 |_,x=>c x M
def ru:dv->aD->ar->(aD->ar->Option R)->Option R
 |k::ks,x::xs,M,c=>fp k x M λx' M'=>ru ks xs M' λeW ue=>c (x'::eW) ue
 |_,xs,M,c=>c xs M
def WW(jy:iN X ρ F w hd (.row t xs)):
 (hd.b9=none∧xs=[]∧hd.v= .slice none 0 0)∨∃g,hd.b9=some g∧∀(F':aO),(∀a,F a->F' a)->(∀a,a.block=g->F' a)->aw X.K ρ F' w (.U t xs) hd.v:=by
 have asW:=jy;obtain⟨h1,h2,h3⟩:=jy;rcases h3 with⟨h3,h4⟩|⟨g,o,c,cur,hv,hg,h4,h5,h6,h7⟩
 ·exact .inl ⟨by simp [Hd.b9,Value.b9,h3],h4,h3⟩
 ·refine .inr ⟨g,j8,λF' hF hF'=> ?_⟩;rw [hv];have er:∀i:Nat,i<xs.length->∃vs,cq X.K ρ F w (xs.getD i []) vs∧n9 w ⟨g,o+i*hd.sz,none⟩ vs:=by
   intro i hi;obtain⟨_,_,g',o',c',af4,vs,eN,_,_,_,_,hr,hc,_⟩:=asW.yq (lx (d:=[]) hi);rw [hv]at eN;injection eN with e1 e2 e3;exact aco
  let vss:List eU:=(List.range xs.length).map λi=>if h:i<xs.length then(er i h).choose else []
  have afD:∀(i:Nat) vs,vss[i]?=some vs->∃h:i<xs.length,vs=(er i h).choose :=by
   intro i vs dL;have hi:i<xs.length:=by
    have:=(cy.1 dL).1;simpa [vss]using this
   refine⟨hi,?_⟩;simp only [vss,gW,qX hi,jv,Option.some.injEq,dif_pos hi]at dL;exact dL.symm
  refine .U t xs ⟨g,o,none⟩ c vss (by simp [vss]) h4 h5 h2 ?_ ?_
  ·intro i vs dL;obtain⟨hi,rfl⟩:=afD i vs dL;obtain⟨hr,hc⟩:=(er i hi).choose_spec;refine⟨by rw [hr.1,gK (h2 i _ (lx hi))],λj v hj=> ?_⟩;have:=hc j v hj;rw [ju]at this⊢;rw [<-h1];rw [show o+(i*hd.sz+j)=o+i*hd.sz+j by omega];exact⟨this,hF' _ rfl⟩
  ·intro i row vs asU dL j x v hx eN;obtain⟨hi,rfl⟩:=afD i vs dL;obtain⟨hr,_⟩:=(er i hi).choose_spec;have e:row=xs.getD i []:=by
    have:=lx (d:=([]:Row)) hi;rw [asU]at this;injection this
   subst e;exact(hr.2 j x v hx eN).mono (λ_ _ h=>h) hF (λ_ _ _ h=>h)
def alJ(hI:Inv X w0 S F ρ M w){id:Nat}(hb:M[id]?=some (.row t xs))(hh:ρ[id]?=some hd):
 (hd.b9=none∧xs=[]∧hd.v= .slice none 0 0)∨∃g,hd.b9=some g∧∀(F':aO),(∀a,F a->F' a)->(∀a,a.block=g->F' a)->aw X.K ρ F' w (.U t xs) hd.v:=WW (hI.rep id _ hd hb hh)
def Inv.JQ(hI:Inv X w0 S F ρ M w){id:Nat}{b b':bU}{hd:Hd}(hb:M[id]?=some b)(hh:ρ[id]?=some hd)(bM:hd.b9=none)(jy:iN X ρ F w hd b')(hn:b'.ji=false:=by rfl):Inv X w0 S F ρ (M.set id b') w where
 os:=hI.os
 tape:=hI.tape
 output:=hI.output
 size:=hI.size
 frame:=hI.frame
 len:=Bp
 rep:=λid' c h' hc bT=>by
  by_cases aA:id'=id
  ·exact adw
  ·rw [fP (Ne.symm aA)]at hc;exact hI.rep id' c h' hc bT
 sep:=λid' c h' g' hc kU bT ij=>by
  by_cases aA:id'=id
  ·subst aA;rw [hh]at bT;injection bT with bT;subst bT;rw [bM]at ij;cases ij
  ·rw [fP (Ne.symm aA)]at hc;exact hI.sep id' c h' g' hc kU bT ij
 fZ:=λi j c d hc h' k po h1 h2 h3 h4 h5 h6 h7=>by
  by_cases hi:i=id
  ·subst hi;rw [hh]at h5;injection h5 with h5;subst h5;rw [bM]at h7;cases h7
  ·by_cases hj:j=id
   ·subst hj;rw [hh]at h6;injection h6 with h6;subst h6;rw [bM];simp
   ·rw [fP (Ne.symm hi)]at h1;rw [fP (Ne.symm hj)]at h2;exact hI.fZ i j c d hc h' k po h1 h2 h3 h4 h5 h6 h7
 fz:=hI.fz
 fa:=hI.fa
 one:=hI.one
 dQ:=hI.dQ
 fin:=hI.fin
 aU:=hI.aU.set hn λg h' _ bT hg=>by rw [hh]at bT;injection bT with bT;subst bT;rw [bM]at hg;cases hg
def yw{k:Kind}{c:AV->ar->Option R}(h:fp k x M c=some r):
 ∃x' M',c x' M'=some r∧M'.length=M.length∧cz (mJ x) M M'∧∀{w0:World} {S:Sc} {F:aO} {ρ:aT} {w:World},Inv X w0 S F ρ M w->∃F',Inv X w0 S F' ρ M' w∧bH F F' ρ ρ w w∧∀v,aw X.K ρ F w x v->aw X.K ρ F' w x' v:=by
 unfold fp at h;simp only [cG]at h;split at h
 ·exact⟨_,_,h,rfl,cz.refl _ _,λ{w0 S F ρ w} hI=>⟨F,hI,bH.refl _ _ _,λv hv=>by cases hv;exact .iS _⟩⟩
 ·rename_i t id;split at h
  ·rename_i t' xs hb;replace h:=bG h;obtain⟨_,h⟩:=h;refine⟨_,_,h,by simp,cz.set _ _ _,λ{w0 S F ρ w} hI=> ?_⟩;have aY:id<ρ.length:=Jx;have hh:ρ[id]?=some ρ[id]:=cJ aY;rcases alJ hI hb hh with⟨h1,h2,h3⟩|⟨g,h1,h2⟩
   ·refine⟨F,hI.JQ hb hh h1 ?_,bH.refl _ _ _,λv hv=> ?_⟩
    ·subst h2;show aw _ _ _ _ _ _;rw [h3];exact .iS _
    ·cases hv with
     |aa _ hd aA=>
      rw [hh]at aA;injection aA with aA;subst aA;subst h2;rw [h3];exact .iS _
   ·have hr:=h2 (λa=>F a∨a.block=g) (λ_ h=> .inl h) (λ_ h=> .inr h);refine⟨_,hI.freeze hb rfl hh h1 (b':= .di t' xs) rfl hr,⟨λ_ h=> .inl h,λ_ _ h=>h,λ_ _=>rfl⟩,λv hv=> ?_⟩;cases hv with
    |aa _ hd aA=>
     rw [hh]at aA;injection aA with aA;subst aA;exact hr
  ·rename_i t' xs hb;replace h:=bG h;obtain⟨_,h⟩:=h;refine⟨_,_,h,rfl,cz.refl _ _,λ{w0 S F ρ w} hI=>⟨F,hI,bH.refl _ _ _,λv hv=> ?_⟩⟩;cases hv with
   |aa _ hd aA=>exact hI.rep id _ hd hb aA
  ·cases h
 ·exact⟨_,_,h,rfl,cz.refl _ _,λ{w0 S F ρ w} hI=>⟨F,hI,bH.refl _ _ _,λ_ hv=>hv⟩⟩
def DV:∀(ks:dv) (xs:aD) (M:ar) {c:aD->ar->Option R} {r:R},ru ks xs M c=some r->
 ∃eW M',c eW M'=some r∧M'.length=M.length∧cz (xs.flatMap mJ) M M'∧∀{w0:World} {S:Sc} {F:aO} {ρ:aT} {w:World},Inv X w0 S F ρ M w->∃F',Inv X w0 S F' ρ M' w∧bH F F' ρ ρ w w∧∀vs,cq X.K ρ F w xs vs->cq X.K ρ F' w eW vs
 | [],xs,M,c,r,h=>adi
 |k::ks,[],M,c,r,h=>adi
 |k::ks,x::xs,M,c,r,h=>by
  simp only [ru]at h;obtain⟨x',M1,h,gS,Ab,h1⟩:=yw (X:=X) h;obtain⟨eW,M2,h,kj,U3,h2⟩:=DV ks xs M1 h;refine⟨_,_,h,by omega,by rw [kZ];exact Ab.trans U3,λ{w0 S F ρ w} hI=> ?_⟩;obtain⟨F1,i1,g1,r1⟩:=h1 hI;obtain⟨F2,i2,g2,r2⟩:=h2 i1;refine⟨F2,i2,g1.trans g2,λvs dL=> ?_⟩
  match vs,dL.1 with
  |v::vs',hl=>
   have hx:aw X.K ρ F w x v:=dL.2 0 x v rfl rfl;have hr:=r2 vs' ⟨nv,λj y u hy hu=>(dL.2 (j+1) y u (Bn) (yK)).grow g1⟩;refine⟨by simp [hr.1],λj y u hy hu=> ?_⟩;cases j with
   |zero=>simp at hy hu;subst hy;subst hu;exact(r1 v hx).grow g2
   |succ j=>exact hr.2 j y u (Bn) (yK)
def DU(cur:Array Value)(vs:eU)(o:Nat)(hb:o+vs.length<=cur.size)(j:Nat):
 (cur.toList.take o++vs++cur.toList.drop (o+vs.length)).toArray[j]?=if o<=j∧j<o+vs.length then vs[j- o]? else cur[j]?:=by
 simp only [PQ,mu]
 by_cases h1:j<o
 ·rw [gj (eR),if_neg (by omega),n8,if_pos h1];simp
 ·rw [jt (eR)];have e:(List.take o cur.toList).length =o:=eR;rw [e]
  by_cases h2:j<o+vs.length
  ·rw [if_pos ⟨by omega,h2⟩,gj (by omega)]
  ·rw [if_neg (by omega),jt (by omega),oO];rw [show o+vs.length+(j- o- vs.length)=j by omega];simp
def OF(hX:X.Okb)(aQ:(X.ti t).ok =true)(hg:w.heap[g]?=some (.cells cur e (0,0))){v:Value}(hs:v.cells.size=(X.ti t).size)
 (hb:o+v.cells.size<=cur.size) (h1:∀u∈v.cells.toList,u.oneCell'=true):
 (Instr.storeAt t (.pointer (some ⟨g,o,none⟩)) v).run X.P w= .ok () (w.setRow g (cur.toList.take o++v.cells.toList++cur.toList.drop (o+v.cells.toList.length)).toArray):=by
 obtain⟨i,d,z,f⟩:=hX.facts aQ;have cY:=Iu X.P g o e v.cells.toList 0 cur w hg (Jd) h1;simp only [Bb]at cY;unfold Instr.storeAt Instr.sureAddr storeVar;simp only [dO,fX,fg,f.sizeOf,hs,ne_eq,not_true_eq_false,ly,cY]
def DF(w:World)(g:Nat)(cs:Array Value):w.grownBy (w.setRow g cs) (some g):=
 ⟨rfl,rfl,rfl,by simp,λk _ hk=>PO w g k cs (λe=>hk (by rw [e]))⟩
def DP(h:x.plain=true):x.leaf=true∨∃cs,x= .agg cs:=by
 cases x<;>simp_all [AV.plain,AV.leaf]
def aou{m sz:Nat}(hj:j<sz)(hm:off+m<=sz):(o+i*sz+off<=o+i'*sz+j∧o+i'*sz+j<o+i*sz+off+m) ↔ (i'=i∧off<=j∧j<off+m):=by
 constructor
 ·rintro⟨h1,h2⟩;rcases Nat.lt_trichotomy i' i with h|h|h
  ·have:(i'+1)*sz<=i*sz:=nj _ (by omega);exact uO
  ·subst h;exact⟨rfl,by omega,by omega⟩
  ·have:(i+1)*sz<=i'*sz:=nj _ (by omega);exact uO
 ·rintro⟨rfl,h1,h2⟩;omega
def j9.store{eW:aH}{mj:Option (Nat×Nat×Nat)}(h:j9 X ρ F w hd t xs op){c:Nat}(hv:hd.v= .slice (some ⟨g,o,none⟩) n c)(hg:w.heap[g]?=some (.cells cur e (0,0)))
  {vs:eU} (hi:i<xs.length) (hb:off+vs.length<=(X.K t).length) (hF:∀a,F a->a.block≠g) (xo:∀p k,lK w hd xs op (some p) k->k≠g) (hlen:eW.length=xs.length)
 (sB:∀i j k,mj=some (i,j,k)->i<xs.length∧j<(X.K t).length)
 (qK:∀(i':Nat) fF,eW[i']?=some fF->∃row,xs[i']?=some row∧pT (X.K t) fF=true∧∀(j:Nat) x,fF[j]?=some x->
   (i'=i∧off<=j∧j<off+vs.length∧∀v,vs[j- off]?=some v->(∀k,fw mj i' j=some k->∃h,ρ[k]?=some h∧v=h.v)∧(fw mj i' j=none->x.pU=false∧aw X.K ρ F w x v))∨
   (¬(i'=i∧off<=j∧j<off+vs.length)∧row[j]?=some x∧fw mj i' j=fw op i' j)):
 let w':=w.setRow g (cur.toList.take (o+i*hd.sz+off)++vs++cur.toList.drop (o+i*hd.sz+off+vs.length)).toArray
 o+i*hd.sz+off+vs.length<=cur.size∧j9 X ρ F w' hd t eW mj∧∀p k,lK w' hd eW mj p k->lK w hd xs op p k:=by
 intro w';obtain⟨q0,q1,q2,q3,q4⟩:=h;rcases q4 with⟨q4,_⟩|⟨g',o',c',af4,q4,q5,q6,q7,q8,q9⟩
 ·rw [hv]at q4;cases q4
 rw [hv]at q4;injection q4 with e1 e2 e3;injection e1 with e1;injection e1 with e1 e4 e5;subst e1;subst e4;subst e2;subst e3;rw [hg]at q5;injection q5 with q5;injection q5 with q5 q5';subst q5;subst q5';have Sl:o+i*hd.sz+off+vs.length<=cur.size:=by
  have:(i+1)*hd.sz<=c*hd.sz:=nj _ (by omega);exact uO
 have hw':w'.heap[g]?=some (.cells (cur.toList.take (o+i*hd.sz+off)++vs++cur.toList.drop (o+i*hd.sz+off+vs.length)).toArray e (0,0)):=Eb w g cur _ e _ hg;have jI:∀a v,F a->w.cell? a=some v->w'.cell? a=some v:=λa v ha hc=>OQ (PO w g a.block _ (hF a ha)) hc;have ad2:∀{i':Nat} {fF:Row} {j:Nat} {x:AV},eW[i']?=some fF->fF[j]?=some x->j<hd.sz:=by
  intro i' fF j x h1 h2;obtain⟨_,_,hk,_⟩:=qK i' fF h1;rw [q1,<-vZ hk];exact(cy.1 h2).1
 have FQ:∀(i' j:Nat),j<hd.sz->(cur.toList.take (o+i*hd.sz+off)++vs++cur.toList.drop (o+i*hd.sz+off+vs.length)).toArray[o+i'*hd.sz+j]?=if i'=i∧off<=j∧j<off+vs.length then vs[j- off]? else cur[o+i'*hd.sz+j]?:=by
  intro i' j hj;rw [DU cur vs _ Sl];have tR:=aou (o:=o) (i:=i) (i':=i') (off:=off) (j:=j) (m:=vs.length) (sz:=hd.sz) hj (by omega)
  by_cases hc:i'=i∧off<=j∧j<off+vs.length
  ·rw [if_pos hc,if_pos (tR.2 hc)];obtain⟨rfl,_,_⟩:=hc
   congr 1;omega
  ·rw [if_neg hc,if_neg (λh=>hc (tR.1 h))]
 have dy:∀(i' j:Nat),j<hd.sz->¬(i'=i∧off<=j∧j<off+vs.length)->cellOf w' hd i' j=cellOf w hd i' j:=by
  intro i' j hj hn;simp only [cellOf,hv];rw [ju,qW w' g _ _ e (0,0) hw',qW w g _ cur e (0,0) hg,<-pG,FQ i' j hj,if_neg hn]
 refine⟨Sl,⟨q0,q1,λi' fF h1=>(qK i' fF h1).choose_spec.2.1,λi j k hk=>by rw [hlen];exact sB i j k hk,.inr ⟨g,o,c,_,by rw [hlen];exact hv,hw',by rw [hlen];exact q6,q7,?_,λi' fF h1 j x h2=> ?_⟩⟩,λp k hh=> ?_⟩
 ·simp only [A2,fC,lZ,sZ,k8];omega
 ·obtain⟨row,h3,_,h4⟩:=qK i' fF h1;have hj:=ad2 h1 h2;rw [FQ i' j hj];rcases h4 j x h2 with⟨c1,c2,c3,h5⟩|⟨hn,h5,h6⟩
  ·rw [if_pos ⟨c1,c2,c3⟩];have aY:j- off<vs.length:=by omega
   obtain⟨h6,h7⟩:=h5 _ (cJ aY);refine⟨_,cJ aY,h6,λho=> ?_⟩;obtain⟨h8,h9⟩:=h7 ho;unfold rk;split
   ·cases h8
   ·exact h9.mono (λ_ _ h=>h) (λ_ h=>h) jI
  ·rw [if_neg hn];obtain⟨v,h7,h8,h9⟩:=q9 i' row h3 j x h5;refine⟨v,h7,by rw [h6];exact h8,λho=> ?_⟩;rw [h6]at ho;have h9:=h9 ho;have fy:cellOf w hd i' j=some v:=by
    simp only [cellOf,hv];rw [ju,qW w g _ cur e (0,0) hg,<-pG];exact h7
   unfold rk at h9⊢;split at h9
   ·refine⟨h9.1.mono (λ_ _ h=>h) (λ_ h=>h) jI (λk hk=> ?_),h9.2⟩;exact PO w g k _ (xo (i',j) k (.inr ⟨i',j,row,_,_,v,rfl,h3,h5,ho,fy,hk⟩))
   ·exact h9.mono (λ_ _ h=>h) (λ_ h=>h) jI
 ·rcases hh with hh|⟨i',j,fF,e',ys,v,rfl,h1,h2,h3,h4,h5⟩
  ·exact .inl hh
  ·obtain⟨row,h6,_,h7⟩:=qK i' fF h1;have hj:=ad2 h1 h2;rcases h7 j _ h2 with⟨c1,c2,c3,h8⟩|⟨hn,h8,h9⟩
   ·have aY:j- off<vs.length:=by omega
    have:=((h8 _ (cJ aY)).2 h3).1;cases this
   ·exact .inr ⟨i',j,row,e',ys,v,rfl,h6,h8,by rw [<-h9];exact h3,by rw [<-dy i' j hj hn];exact h4,h5⟩
def Q2(op:Option (Nat×Nat×Nat))(i off:Nat):Bool:=match op with|none=>true|some (i0,j0,_)=>Nat.beq i i0&&Nat.beq off j0
def R0(op:Option (Nat×Nat×Nat))(off n:Nat):Bool:=match op with|none=>true|some (_,j0,_)=>Nat.blt j0 off||Nat.ble (off+n) j0
def anv{k:Nat}(h:Q2 op i off=true){j':Nat}(hn:¬(i'=i∧j'=off)):fw (some (i,off,k)) i' j'=fw op i' j':=by
 have e1:fw (some (i,off,k)) i' j'=none:=abF;rw [e1]
 match op with
 |none=>rfl
 |some (i0,j0,k0)=>
  simp only [Q2,bc]at h;have h1:=ct h.1;have h2:=ct h.2;subst h1;subst h2;exact abF
def an1(h:R0 op off n=true)(h1:off<=j)(h2:j<off+n):fw op i j=none:=by
 match op with
 |none=>rfl
 |some (i0,j0,k0)=>
  simp only [R0,sW]at h;simp only [fw];rw [if_neg];rintro⟨_,rfl⟩;rcases h with h|h
  ·have:j0<off:=by simpa using h
   omega
  ·have:=oL h;omega
def Bf(X:Cx)(t:TypeId)(p x:AV)(M:ar)(k:ar->Option R):Option R:=
 match p with
 | .ptr id i off=>
   match gm M id with
   |some (.var ks cs)=>
    aB (x.plain&&(X.ti t).ok &&i==0&&x.cells.length==(X.ti t).size &&decide (off+(X.ti t).size <=ks.length)&&tB ks off x.cells) (k (M.set id (.var ks (setAt cs off x.cells))))
   |some (.row _ _)=>
    aB x.plain (ru (X.ti t).ks x.cells M λxc M1=>
     match gm M1 id with
     |some (.row t' xs)=>
      aB ((X.ti t).ok &&xc.length==(X.ti t).size &&decide (off+(X.ti t).size <=(X.K t').length)&&tB (X.K t') off xc&&decide (i<xs.length)) (k (M1.set id (.row t' (xs.set i (setAt (xs.getD i []) off xc)))))
     |_=>none)
   |some (.aU t' xs op)=>
    match x with
    | .aa k0=>
      aB ((X.ti t).ok &&(X.ti t).size ==1&&decide (off<(X.K t').length)&&decide (i<xs.length)&&Q2 op i off)
       (match gm M k0 with
        |some (.row e _)=>aB ((X.K t').getD off .raw == .slice e) (k (M.set id (.aU t' xs (some (i,off,k0)))))
        |_=>none)
    |x=>aB (x.plain&&(X.ti t).ok &&x.cells.length==(X.ti t).size &&decide (off+(X.ti t).size <=(X.K t').length)&&tB (X.K t') off x.cells&&decide (i<xs.length)&&R0 op off (X.ti t).size) (k (M.set id (.aU t' (xs.set i (setAt (xs.getD i []) off x.cells)) op)))
   |_=>none
 |_=>none
def amI(hX:X.Okb){p:AV}{k:ar->Option R}(h:Bf X t p x M k=some r):
 ∃M',k M'=some r∧cz (s7 p++x.cells.flatMap mJ) M M'∧∀{w0:World} {S:Sc} {F:aO} {ρ:aT} {w:World} {vp vx:Value},Inv X w0 S F ρ M w->aw X.K ρ F w p vp->aw X.K ρ F w x vx->
  ∃w' F',(Instr.storeAt t vp vx).run X.P w= .ok () w'∧Inv X w0 S F' ρ M' w'∧bH F F' ρ ρ w w':=by
 unfold Bf at h;simp only [cG]at h;split at h
 ·rename_i id i off;split at h
  ·rename_i ks cs hb;replace h:=bG h;obtain⟨h1,h⟩:=h;simp only [bc,fr,fJ]at h1;obtain⟨⟨⟨⟨⟨pj,aQ⟩,vP⟩,hlen⟩,lU⟩,iB⟩:=h1;subst vP;refine⟨_,h,(cz.set _ _ _).mono (Bm),λ{w0 S F ρ w vp vx} hI hp hx=> ?_⟩;cases hp with
   |ptr _ _ _ hd g o n c aA hv=>
    obtain⟨hk,g',cur,e,eN,cX,hg,hr,hc,hy⟩:=hI.Pd hb aA;have ig:=eN;rw [hv]at eN;injection eN with e1 e2 e3;injection e1 with e1;injection e1 with e1 e4 e5;subst e1;subst e4;have J0:∀y∈x.cells,y.leaf=true:=acB;have nK:=hx.cells (DP pj) hI.one;have dL:vx.cells.size=(X.ti t).size :=by have:=nK.1;simp at this;omega
    have tU:=gK hk;have dy:=hr.1;simp only [k8]at dy;have mA:∀u∈vx.cells.toList,u.oneCell'=true:=by
     intro u hu;obtain⟨j,hj⟩:=wm hu;have oE:=(cy.1 hj).1;have hl:=nK.1;have hy:x.cells[j]?=some (x.cells[j]'(by omega)):=cJ (by omega);exact abH
    have cC:=OF (w:=w) hX aQ (o:=off) hg dL (by omega) mA;have e0:(0+0*hd.sz+off:Nat)=off:=by omega
    rw [e0];have fU:=DF w g (cur.toList.take off++vx.cells.toList++cur.toList.drop (off+vx.cells.toList.length)).toArray;have z9:∀a,F a->a.block≠g:=(hI.sep id _ hd g hb rfl aA (j8)).2.2;have j7:bH F F ρ ρ w (w.setRow g (cur.toList.take off++vx.cells.toList++cur.toList.drop (off+vx.cells.toList.length)).toArray):=
     ⟨λ_ h=>h,λ_ _ h=>h,hI.rB fU (λk hk a ha=>BK)⟩
    refine⟨_,F,cC,hI.write hb rfl aA (j8) fU ?_,j7⟩;refine⟨Yg hk iB (by omega),by rw [AK];exact cX,g,_,e,ig,Eb w g cur _ e _ hg,⟨?_,λj y u hy hu=> ?_⟩,hy⟩
    ·rw [AK];simp only [fC,lZ,sZ,k8];omega
    ·rw [yp x.cells cs off (by omega) j]at hy;have jW:(cur.toList.take off++vx.cells.toList++cur.toList.drop (off+vx.cells.toList.length)).toArray[j]?=some u:=yK;rw [DU cur vx.cells.toList off (eR) j]at jW;have el:vx.cells.toList.length=x.cells.length:=nK.1;rw [el]at jW
     by_cases hj:off<=j∧j<off+x.cells.length
     ·rw [if_pos hj]at hy jW;exact(nK.2 _ y u hy jW).grow j7
     ·rw [if_neg hj]at hy jW;exact(hr.2 j y u hy (by simpa using jW)).grow j7
  ·rename_i t0 xs0 px;replace h:=bG h;obtain⟨pj,h⟩:=h;obtain⟨xc,M1,h,gS,ei,CV⟩:=DV (X:=X) _ _ _ h;split at h
   ·rename_i t' xs hb;replace h:=bG h;obtain⟨h1,h⟩:=h;simp only [bc,fr,fJ]at h1;obtain⟨⟨⟨⟨aQ,hlen⟩,lU⟩,iB⟩,hi⟩:=h1;refine⟨_,h,(ei.trans (cz.set _ _ _)).mono (by intro i hi;rw [jS]at hi⊢;rcases hi with h|h;exact .inr h;exact .inl (by simpa [s7]using h)),λ{w0 S F0 ρ w vp vx} kq hp hx=> ?_⟩;obtain⟨F,hI,nN,mG⟩:=CV kq;cases hp with
    |ptr _ _ _ hd g o n c aA hv=>
     obtain⟨hk,cX,g',o',c',cur,vs,eN,hg,oF,gv,hc3,hr,hc,FV⟩:=hI.yq hb aA (lx (d:=[]) hi);have Uv:=eN;rw [hv]at eN;injection eN with e1 e2 e3;injection e1 with e1;injection e1 with e1 e4 e5;subst e1;subst e4;subst e3;have J0:∀y∈xc,y.leaf=true:=acB;have tU:=gK hk;have nK:cq X.K ρ F w xc vx.cells.toList:=mG _ (hx.cells (DP pj) kq.one);have dL:vx.cells.size=(X.ti t).size :=by have:=nK.1;simp at this;omega
     have mA:∀u∈vx.cells.toList,u.oneCell'=true:=by
      intro u hu;obtain⟨j,hj⟩:=wm hu;have oE:=(cy.1 hj).1;have hl:=nK.1;have hy:xc[j]?=some (xc[j]'(by omega)):=cJ (by omega);exact abH
     have Sl:o+i*hd.sz+hd.sz<=cur.size:=by
      have:(i+1)*hd.sz<=c*hd.sz:=nj _ (by omega);exact uO
     have cC:=OF (w:=w) hX aQ (o:=o+i*hd.sz+off) hg dL (by omega) mA;have fU:=DF w g (cur.toList.take (o+i*hd.sz+off)++vx.cells.toList++cur.toList.drop (o+i*hd.sz+off+vx.cells.toList.length)).toArray;have z9:∀a,F a->a.block≠g:=(hI.sep id _ hd g hb rfl aA (j8)).2.2;have j7:bH F F ρ ρ w (w.setRow g (cur.toList.take (o+i*hd.sz+off)++vx.cells.toList++cur.toList.drop (o+i*hd.sz+off+vx.cells.toList.length)).toArray):=
      ⟨λ_ h=>h,λ_ _ h=>h,hI.rB fU (λk hk a ha=>BK)⟩
     obtain⟨q1,q2,q3⟩:=hI.rep id _ hd hb aA;have q4:∀(i:Nat) row,xs[i]?=some row->∀(j:Nat) x,row[j]?=some x->∃v,cur[o+i*hd.sz+j]?=some v∧aw X.K ρ F w x v:=by
      rcases q3 with⟨q5,_⟩|⟨g2,o2,c2,aza,ig,jY,_,_,_,q7⟩
      ·rw [hv]at q5;cases q5
      ·rw [hv]at ig;injection ig with e1 e2 e3;injection e1 with e1;injection e1 with e1 e4 e5;subst e1;subst e4;rw [hg]at jY;injection jY with jY;injection jY with jY;subst jY;exact q7
     have Cz:xs[i]?=some (xs.getD i []):=lx hi;refine⟨_,F,cC,hI.write hb rfl aA (j8) fU ?_,nN.trans j7⟩;refine⟨cX,λi' fF fN=> ?_,.inr ⟨g,o,c,_,by rw [rR];exact Uv,Eb w g cur _ t' _ hg,by rw [rR];exact oF,gv,?_,λi' fF fN j y hy=> ?_⟩⟩
     ·by_cases nM:i'=i
      ·subst nM;rw [hY hi]at fN;injection fN with fN;subst fN;exact Yg hk iB (by omega)
      ·rw [fP (Ne.symm nM)]at fN;exact q2 i' fF fN
     ·exact abQ
     ·have el:vx.cells.toList.length=xc.length:=nK.1;rw [DU cur vx.cells.toList _ (eR) _];have nL:∀(i:Nat) row,xs[i]?=some row->row.length=hd.sz:=λi row h=>by rw [gK (q2 i row h),cX]
      by_cases nM:i'=i
      ·subst nM;rw [hY hi]at fN;injection fN with fN;subst fN;rw [yp xc _ off (by omega) j]at hy
       by_cases hj:off<=j∧j<off+xc.length
       ·rw [if_pos hj]at hy;rw [if_pos (by omega)];have vN:j- off<xc.length:=by omega
        have hu:vx.cells.toList[j- off]?=some (vx.cells.toList[j- off]'(by omega)):=cJ (by omega);refine⟨_,by rw [show o+i'*hd.sz+j-(o+i'*hd.sz+off)=j- off by omega];exact hu,(nK.2 _ y _ hy hu).grow j7⟩
       ·rw [if_neg hj]at hy;rw [if_neg (by omega)];obtain⟨u,hu,Uy⟩:=q4 i' _ Cz j y hy;exact⟨u,hu,Uy.grow j7⟩
      ·rw [fP (Ne.symm nM)]at fN;have GK:j<hd.sz:=by rw [<-nL i' fF fN];exact(cy.1 hy).1
       have c9:¬(o+i*hd.sz+off<=o+i'*hd.sz+j∧o+i'*hd.sz+j<o+i*hd.sz+off+vx.cells.toList.length):=by
        rcases Nat.lt_or_gt_of_ne nM with aY|hgt
        ·have:(i'+1)*hd.sz<=i*hd.sz:=nj _ (by omega);exact uO
        ·have:(i+1)*hd.sz<=i'*hd.sz:=nj _ (by omega);exact uO
       rw [if_neg c9];obtain⟨u,hu,Uy⟩:=q4 i' fF fN j y hy;exact⟨u,hu,Uy.grow j7⟩
   ·cases h
  ·rename_i t' xs op hb;have core:∀{w0:World} {S:Sc} {F:aO} {ρ:aT} {w:World} {vp vx:Value} {eW:aH} {mj:Option (Nat×Nat×Nat)},Inv X w0 S F ρ M w->aw X.K ρ F w (.ptr id i off) vp->(X.ti t).ok =true->i<xs.length->eW.length=xs.length->
    vx.cells.size=(X.ti t).size ->off+(X.ti t).size <=(X.K t').length ->(∀u∈vx.cells.toList,u.oneCell'=true)->(∀i j k,mj=some (i,j,k)->i<xs.length∧j<(X.K t').length)->
    (∀(i':Nat) fF,eW[i']?=some fF->∃row,xs[i']?=some row∧pT (X.K t') fF=true∧∀(j:Nat) x,fF[j]?=some x->
      (i'=i∧off<=j∧j<off+vx.cells.toList.length∧∀v,vx.cells.toList[j- off]?=some v->(∀k,fw mj i' j=some k->∃h,ρ[k]?=some h∧v=h.v)∧(fw mj i' j=none->x.pU=false∧aw X.K ρ F w x v))∨
      (¬(i'=i∧off<=j∧j<off+vx.cells.toList.length)∧row[j]?=some x∧fw mj i' j=fw op i' j))->
    ∃w' F',(Instr.storeAt t vp vx).run X.P w= .ok () w'∧Inv X w0 S F' ρ (M.set id (.aU t' eW mj)) w'∧bH F F' ρ ρ w w':=by
    intro w0 S F ρ w vp vx eW mj hI hp aQ hi hlen dL lU mA sB qK;cases hp with
    |ptr _ _ _ hd g o n c aA hv=>
     have bM:hd.b9=some g:=j8;obtain⟨a1,a2,z9,a4⟩:=hI.aU.aa (.out hb aA bM);have hr:=hI.aU.rep hb aA;obtain⟨q0,q1,q2,q3,q4⟩:=hr;rcases q4 with⟨q4,_⟩|⟨g',o',c',cur,q4,q5,q6,q7,q8,q9⟩
     ·rw [hv]at q4;cases q4
     have q4':=q4;rw [hv]at q4;injection q4 with e1 e2 e3;injection e1 with e1;injection e1 with e1 e4 e5;subst e1;subst e4;subst e2;subst e3;obtain⟨r1,r2,r3⟩:=j9.store (w:=w) ⟨q0,q1,q2,q3,.inr ⟨g,o,c,cur,q4',q5,q6,q7,q8,q9⟩⟩ hv q5 (i:=i) (off:=off) (vs:=vx.cells.toList) hi (eR) z9
      (λp k hk e=>by subst e;have:=(hI.aU.inj (.mU hb aA hk) (.out hb aA bM)).2;cases this) hlen sB qK
     have cC:=OF (w:=w) hX aQ (o:=o+i*hd.sz+off) q5 dL (by simpa using r1) mA;have fU:=DF w g (cur.toList.take (o+i*hd.sz+off)++vx.cells.toList++cur.toList.drop (o+i*hd.sz+off+vx.cells.toList.length)).toArray;exact⟨_,F,cC,hI.ary hb aA bM fU r2 r3,⟨λ_ h=>h,λ_ _ h=>h,hI.rB fU (λk hk a ha=>BK)⟩⟩
   split at h
   ·rename_i k0;replace h:=bG h;obtain⟨h1,h⟩:=h;simp only [bc,fr,fJ]at h1;obtain⟨⟨⟨⟨aQ,cX⟩,oX⟩,hi⟩,mQ⟩:=h1;split at h
    ·rename_i e rs hk0;replace h:=bG h;obtain⟨x9,h⟩:=h;refine⟨_,h,(cz.set _ _ _).mono (Bm),λ{w0 S F ρ w vp vx} hI hp hx=> ?_⟩;cases hx with
     |aa _ m4 TA=>
      have LP:=hI.rep k0 _ m4 hk0 TA;have h1c:m4.v.oneCell'=true:=hI.one _ _ TA;have uH:m4.v.cells= #[m4.v]:=by
       obtain⟨_,_,h|⟨g,o,c,cur,h,_⟩⟩:=LP
       ·rw [h.1];rfl
       ·exact iF
      refine core hI hp aQ hi rfl (by rw [uH,cX];rfl) (by omega) (λu hu=>by rw [uH]at hu;simp at hu;subst hu;exact h1c) (λi' j' k' gb=>by injection gb with gb;injection gb with e1 gb;injection gb with e2 e3;subst e1;subst e2;exact⟨hi,oX⟩) λi' fF er=> ?_;have aY:id<ρ.length:=Jx;obtain⟨_,_,q2,_,_⟩:=hI.aU.rep hb (cJ aY);refine⟨fF,er,q2 _ _ er,λj x hx=> ?_⟩;rw [uH]
      by_cases hc:i'=i∧off<=j∧j<off+1
      ·obtain⟨rfl,c2,c3⟩:=hc;have:j=off:=by omega
       subst this;refine .inl ⟨rfl,dZ _,by simp,λv hv=> ?_⟩;simp at hv;subst hv;exact⟨λk hk=>by simp [fw]at hk;subst hk;exact⟨m4,TA,rfl⟩,λhk=>by simp [fw]at hk⟩
      ·exact .inr ⟨by simpa using hc,hx,anv mQ (λh=>hc ⟨h.1,by omega,by omega⟩)⟩
    ·cases h
   ·rename_i mY;replace h:=bG h;obtain⟨h1,h⟩:=h;simp only [bc,fr,fJ]at h1;obtain⟨⟨⟨⟨⟨⟨pj,aQ⟩,hlen⟩,lU⟩,iB⟩,hi⟩,ayj⟩:=h1;refine⟨_,h,(cz.set _ _ _).mono (Bm),λ{w0 S F ρ w vp vx} hI hp hx=> ?_⟩;have aY:id<ρ.length:=Jx;obtain⟨q0,_,q2,q3,_⟩:=hI.aU.rep hb (cJ aY);have nK:=hx.cells (DP pj) hI.one;have hl:=nK.1;have zp:∀{j:Nat} {y:AV},x.cells[j]?=some y->fj ((X.K t').getD (off+j) .raw) y=true:=λhy=>P0 iB (by omega) hy;have J0:∀{j:Nat} {y:AV},x.cells[j]?=some y->y.leaf=true:=λhy=>OI (zp hy);have asY:∀{j:Nat} {y:AV},x.cells[j]?=some y->y.pU=false:=by
     intro j y hy;have h1:=zp hy;have hj:=(cy.1 hy).1;have h2:(X.K t').getD (off+j) .raw ≠ .any :=by
      rw [List.getD,cJ (by omega:off+j<(X.K t').length)];exact q0 _ _ (eH _)
     generalize (X.K t').getD (off+j) .raw =kd at h1 h2;cases y<;>first|rfl|skip
     cases kd<;>first|(simp [fj,AV.pure,AV.leaf]at h1;done)|exact absurd rfl h2
    have mA:∀u∈vx.cells.toList,u.oneCell'=true:=by
     intro u hu;obtain⟨j,hj⟩:=wm hu;have oE:=(cy.1 hj).1;have hy:x.cells[j]?=some (x.cells[j]'(by omega)):=cJ (by omega);exact AH (nK.2 j _ u hy hj) (J0 hy) hI.one
    refine core hI hp aQ hi (by simp) (by simpa [hlen]using hl) lU mA q3 λi' fF er=> ?_;have lu:=lx (d:=([]:Row)) hi;have hkr:=vZ (q2 i _ lu)
    by_cases nM:i'=i
    ·subst nM;rw [hY hi]at er;injection er with er;subst er;refine⟨_,lu,anB (q2 i' _ lu) (λhy=>XR (zp hy)) (by omega),λj y hy=> ?_⟩;rw [yp x.cells _ off (by omega) j]at hy
     by_cases hc:off<=j∧j<off+x.cells.length
     ·rw [if_pos hc]at hy;refine .inl ⟨rfl,hc.1,by omega,λv hv=>⟨λk hk=> ?_,λ_=>⟨asY hy,nK.2 _ y v hy hv⟩⟩⟩;rw [an1 ayj hc.1 (by omega)]at hk;cases hk
     ·rw [if_neg hc]at hy;exact .inr ⟨λh=>hc ⟨h.2.1,by omega⟩,hy,rfl⟩
    ·rw [fP (Ne.symm nM)]at er;exact⟨fF,er,q2 _ _ er,λj y hy=> .inr ⟨λh=>nM h.1,hy,rfl⟩⟩
  ·cases h
 ·cases h
end
end Go.ae
namespace Go.ae
def oe{p:Prop}(h:p:=by exact⟨_,h,xb.refl _⟩):p:=h
def wV{p:Prop}(h:p:=by rw [<-hI.len];simp):p:=h
def acw{p:Prop}(h:p:=by
 simp only [cellOf,p1];rw [ju,qW w g _ cur t (0,0) p2,<-pG];exact hv):p:=h
def EU{p:Prop}(h:p:=by rw [hI.len];exact aY):p:=h
def EO{p:Prop}(h:p:=by simpa using aY):p:=h
def abP{p:Prop}(h:p:=by injection h with h;injection h with h1 h2;exact⟨h1,h2⟩):p:=h
def yI{p:Prop}(h:p:=by cases hk):p:=h
def Rf{p:Prop}(h:p:=by rw [AX]at this;exact this):p:=h
end Go.ae
namespace Go.ae
open Go
noncomputable section
variable {X:Cx} {R:Type}
variable {w0 w:World} {S:Sc} {F:aO} {ρ:aT} {M:ar}
variable{id:Nat}{r:R}{k:ar->Option R}
inductive Src where
 |tmp(t:Nat)
 |cell(t c:Nat)
inductive Gh where
 |nest(s:Src)
 |flat(s:Src)
 |close(s:Src)
 |opn(s:Src)(i:Operand)(j:Nat)
 |axT(t:Nat)(j:Nat)
 |afs(s:Src)(t c j:Nat)
 |LW(t:Nat)(el:TypeId)
 |C2(t:Nat)(el:TypeId)
 |fp(t:Nat)(ty:TypeId)
def AV.qB:AV->AV| .sub t xs=> .U t xs|x=>x
def R2(X:Cx)(id:Nat)(M:ar)(k:ar->Option R):Option R:=
 match gm M id with
 |some (.row t xs)=>aB X.pk (k (M.set id (.aU t xs none)))
 |_=>k M
def Sx(id:Nat)(M:ar)(k:ar->Option R):Option R:=
 match gm M id with
 |some (.aU t xs none)=>k (M.set id (.row t (xs.map λr=>r.map AV.qB)))
 |_=>k M
def Fb(X:Cx)(id i j:Nat)(M:ar)(k:ar->Option R):Option R:=
 match gm M id with
 |some (.aU t xs none)=>
  match(X.K t).getD j .raw with
  | .slice e=>aB (decide (i<xs.length)&&Nat.blt j (X.K t).length &&((xs.getD i []).getD j .top).pU) (k (M.set id (.aU t xs (some (i,j,M.length)))++[.row e ((xs.getD i []).getD j .top).rows]))
  |_=>none
 |_=>k M
def RL(X:Cx)(id:Nat)(M:ar)(k:ar->Option R):Option R:=
 match gm M id with
 |some (.aU t xs (some (i,j,kk)))=>
  match gm M kk with
  |some (.row e ys)=>aB ((X.K t).getD j .raw == .slice e) (k ((M.set kk .dead).set id (.aU t (xs.set i ((xs.getD i []).set j (.sub e ys))) none)))
  |_=>none
 |_=>k M
def xb(X:Cx)(M M':ar):Prop:=∀{w0:World} {S:Sc} {F:aO} {ρ:aT} {w:World},Inv X w0 S F ρ M w->∃F' ρ',Inv X w0 S F' ρ' M' w∧bH F F' ρ ρ' w w
def xb.refl(M:ar):xb X M M:=λ{w0 S F ρ w} hI=>⟨F,ρ,hI,bH.refl _ _ _⟩
def anw{kd:Kind}{x:AV}(hk:kd≠ .any)(h:fj kd x=true):x.pU=false:=by
 cases x<;>first|rfl|skip
 cases kd<;>first|(simp [fj,AV.pure,AV.leaf]at h;done)|exact absurd rfl hk
def Inv.kill(hI:Inv X w0 S F ρ M w){b:bU}{hd:Hd}(hb:M[id]?=some b)(bY:b.fQ=false)(hh:ρ[id]?=some hd):Inv X w0 S F ρ (M.set id .dead) w:=by
 cases bM:hd.b9 with
 |none=>exact hI.JQ hb hh bM trivial
 |some g=>exact hI.write hb bY hh bM ⟨rfl,rfl,rfl,dZ _,λ_ _ _=>rfl⟩ trivial
def A4{g:Nat}(h:lJ ρ (M.set id .dead) g):lJ ρ M g:=by
 obtain⟨i,c,hd,q1,q2,q3,q4⟩:=h;rcases rT q1 with⟨_,rfl⟩|⟨_,q1⟩
 ·cases q2
 ·exact⟨i,c,hd,q1,q2,q3,q4⟩
def anx(hX:X.Okb)(h:R2 X id M k=some r):∃M',k M'=some r∧xb X M M':=by
 unfold R2 at h;rw [cG]at h;split at h
 ·rename_i t xs hb;replace h:=bG h;obtain⟨zZ,h⟩:=h;refine⟨_,h,λ{w0 S F ρ w} hI=> ?_⟩;have aY:=(cy.1 hb).1;have z4:id<ρ.length:=EU;have hh:ρ[id]?=some ρ[id]:=cJ z4;have mF:∀t,∀k∈X.K t,k≠ .any :=hX.Jz zZ;obtain⟨q1,q2,q3⟩:=hI.rep id _ _ hb hh;have mr:=hI.kill hb rfl hh;have ns:∀{i:Nat} {row:Row} {j:Nat} {x:AV},xs[i]?=some row->row[j]?=some x->x.pU=false:=by
   intro i row j x hi hx;have hl:=gK (q2 i row hi);have hj:j<(X.K t).length :=EY;exact anw (mF t _ (eH hj)) (pF (q2 i row hi) (cJ hj) hx)
  have hr:j9 X ρ F w ρ[id] t xs none:=by
   refine⟨mF,q1,λi row hi=>P2 (gK (q2 i row hi)) λj kd x hj hx=>XR (pF (q2 i row hi) hj hx),λi j k hk=>(yI),?_⟩;rcases q3 with q3|⟨g,o,c,cur,p1,p2,p3,p4,p5,p6⟩
   ·exact .inl q3
   ·refine .inr ⟨g,o,c,cur,p1,p2,p3,p4,p5,λi row hi j x hx=> ?_⟩;obtain⟨v,hv,hrv⟩:=p6 i row hi j x hx;refine⟨v,hv,λk hk=>(yI),λ_=> ?_⟩;have:=ns hi hx;unfold rk;split
    ·cases this
    ·exact hrv
  have hB:∀{p g},lK w ρ[id] xs none p g->p=none∧ρ[id].b9 =some g:=by
   intro p g hp;rcases hp with hp|⟨i,j,row,e,ys,v,_,h1,h2,_⟩
   ·exact hp
   ·have:=ns h1 h2;cases this
  have:=mr.install (id:=id) (b:= .dead) (Jk) rfl rfl hh hr (λp g hp=> ?_) (λp q g h1 h2=>(hB h1).1.trans (hB h2).1.symm)
  ·exact⟨F,ρ,Rf,bH.refl _ _ _⟩
  ·obtain⟨_,hg⟩:=hB hp;obtain⟨a1,a2,a3⟩:=hI.sep id _ _ g hb rfl hh hg;refine⟨a1,a2,a3,?_,λi q hq=> ?_⟩
   ·rintro⟨i,c,hd,u1,u2,u3,u4⟩;rcases rT u1 with⟨_,rfl⟩|⟨c9,u1⟩
    ·cases u2
    ·exact hI.fZ i id c _ hd _ g c9 u1 hb u2 rfl u3 hh u4 hg
   ·exact(hI.aU.aa (hq.pO rfl).2).2.2.2 ⟨id,_,_,hb,rfl,hh,hg⟩
 ·exact oe
def anD(h:Sx id M k=some r):∃M',k M'=some r∧xb X M M':=by
 unfold Sx at h;rw [cG]at h;split at h
 ·rename_i t xs hb;refine⟨_,h,λ{w0 S F ρ w} hI=> ?_⟩;have aY:=(cy.1 hb).1;have z4:id<ρ.length:=EU;have hh:ρ[id]?=some ρ[id]:=cJ z4;have hr:=hI.aU.rep hb hh;have mr:=hI.drop hb rfl;have facts:∀{p g},lK w ρ[id] xs none p g->g<w.heap.size∧(S g∨w0.heap.size<=g)∧(∀a,F a->a.block≠g)∧¬lJ ρ (M.set id .dead) g∧∀i q,¬Hid w ρ (M.set id .dead) i q g:=by
   intro p g hp;have oD:=Hid.mU hb hh hp;obtain⟨a1,a2,a3,a4⟩:=hI.aU.aa oD;exact⟨a1,a2,a3,λh=>a4 (A4 h),λi q h=>(h.pO rfl).1 (hI.aU.inj (h.pO rfl).2 oD).1⟩
  have jZ:=mr.aqz (λg=>∃p,lK w ρ[id] xs none (some p) g) (λg ⟨p,hp⟩=>let⟨a1,a2,_,a4,a5⟩:=facts hp;⟨a1,a2,a4,a5⟩);obtain⟨q0,q1,q2,_,q3⟩:=hr;have er:∀{i:Nat} {fF:Row},(xs.map λr=>r.map AV.qB)[i]?=some fF->∃row,xs[i]?=some row∧fF=row.map AV.qB:=by
   intro i fF hi;rw [gW]at hi;cases hx:xs[i]? with
   |none=>rw [hx]at hi;cases hi
   |some row=>rw [hx]at hi;simp at hi;exact⟨row,rfl,hi.symm⟩
  have jI:∀{row:Row} {j:Nat} {x':AV},(row.map AV.qB)[j]?=some x'->∃x,row[j]?=some x∧x'=x.qB:=by
   intro row j x' hj;rw [gW]at hj;cases hx:row[j]? with
   |none=>rw [hx]at hj;cases hj
   |some x=>rw [hx]at hj;simp at hj;exact⟨x,rfl,hj.symm⟩
  have LP:iN X ρ (λa=>F a∨∃p,lK w ρ[id] xs none (some p) a.block) w ρ[id] (.row t (xs.map λr=>r.map AV.qB)):=by
   refine⟨q1,λi fF vP=> ?_,?_⟩
   ·obtain⟨row,hi,rfl⟩:=er vP;have hl:=vZ (q2 i row hi);refine En (nv) λj kd x' hj eG=> ?_;obtain⟨x,hx,rfl⟩:=jI eG;obtain⟨qJ,e1,e2⟩:=yu (q2 i row hi) hx;rw [hj]at e1;injection e1 with e1;subst e1;cases hs:x.pU with
    |false=>
     have:x.qB=x:=by cases x<;>first|rfl|cases hs
     rw [this];exact XQ e2 hs
    |true=>
     cases x<;>simp only [AV.pU,jG]at hs
     cases kd with
     |slice te=>exact e2
     |any=>exact absurd rfl (q0 _ _ (kY hj))
     |_=>simp [pZ,fj,AV.pure,AV.leaf]at e2
   ·rcases q3 with⟨q3,q4⟩|⟨g,o,c,cur,p1,p2,p3,p4,p5,p6⟩
    ·exact .inl ⟨q3,by rw [q4];rfl⟩
    ·refine .inr ⟨g,o,c,cur,by simpa using p1,p2,by simpa using p3,p4,p5,λi fF vP j x' eG=> ?_⟩;obtain⟨row,hi,rfl⟩:=er vP;obtain⟨x,hx,rfl⟩:=jI eG;obtain⟨v,hv,_,hc⟩:=p6 i row hi j x hx;have hc:=hc rfl;refine⟨v,hv,?_⟩;have fy:cellOf w ρ[id] i j=some v:=acw;unfold rk at hc;split at hc
     ·rcases WW hc.1 with⟨_,e1,e2⟩|⟨g',e1,e2⟩
      ·have e2:v= .slice none 0 0:=e2;subst e1;subst e2;exact aw.iS _
      ·exact e2 _ (λ_ h=> .inl h) (λa ha=> .inr ⟨(i,j),.inr ⟨i,j,row,_,_,v,rfl,hi,hx,rfl,fy,by rw [ha];exact e1⟩⟩)
     ·rename_i iu;have:x.qB=x:=by cases x<;>first|rfl|exact absurd rfl (iu _ _)
      rw [this];exact hc.mono (λ_ _ h=>h) (λ_ h=> .inl h) (λ_ _ _ h=>h)
  refine⟨λa=>F a∨∃p,lK w ρ[id] xs none (some p) a.block,ρ,?_,⟨λ_ h=>Or.inl h,λ_ _ h=>h,λ_ _=>rfl⟩⟩;cases bM:ρ[id].b9 with
  |none=>
   have:=jZ.JQ (id:=id) (b:= .dead) (Jk) hh bM LP;exact Rf
  |some g=>
   obtain⟨a1,a2,a3,a4,a5⟩:=facts (.inl ⟨rfl,bM⟩);have:=jZ.aaI (id:=id) (b0:= .dead) (Jk) hh bM a1 a2 (λa ha e=> ?_) (λi c hd u1 u2 u3 u4=>a4 ⟨i,c,hd,u1,u2,u3,u4⟩) a5 LP
   ·exact Rf
   ·rcases ha with ha|⟨p,hp⟩
    ·exact a3 a ha e
    ·have:=(hI.aU.inj (.mU hb hh hp) (.mU hb hh (.inl ⟨rfl,by rw [bM,e]⟩))).2;cases this
 ·exact oe
def OG{i j:Nat}(h:Fb X id i j M k=some r):∃M',k M'=some r∧xb X M M':=by
 unfold Fb at h;rw [cG]at h;split at h
 ·rename_i t xs hb;split at h
  ·rename_i e x9;replace h:=bG h;obtain⟨h1,h⟩:=h;simp only [bc,fr]at h1;obtain⟨⟨hi,hj⟩,hsb⟩:=h1;have hj:j<(X.K t).length :=by simpa using hj
   refine⟨_,h,λ{w0 S F ρ w} hI=> ?_⟩;have aY:=(cy.1 hb).1;have z4:id<ρ.length:=EU;have hh:ρ[id]?=some ρ[id]:=cJ z4;have hr:=hI.aU.rep hb hh;have mr:=hI.drop hb rfl;obtain⟨q0,q1,q2,_,q3⟩:=hr;have lu:=lx (d:=([]:Row)) hi;have hl:=vZ (q2 i _ lu);have zV:(xs.getD i [])[j]?=some ((xs.getD i []).getD j .top):=lx (by omega);obtain⟨kd,e1,e2⟩:=yu (q2 i _ lu) zV;have ekd:kd= .slice e:=by rw [List.getD,e1]at x9;exact x9
   subst ekd;have hx:∃ys,(xs.getD i []).getD j .top = .sub e ys:=by
    generalize (xs.getD i []).getD j .top =x at hsb e2;cases x<;>simp only [AV.pU,jG]at hsb
    have e2:(e==_)=true:=e2;rw [fJ]at e2;subst e2;exact⟨_,rfl⟩
   obtain⟨ys,hx⟩:=hx;rw [hx]at zV⊢;rcases q3 with⟨_,q4⟩|⟨g,o,c,cur,p1,p2,p3,p4,p5,p6⟩
   ·subst q4;simp at hi
   obtain⟨v,hv,_,hc⟩:=p6 i _ lu j _ zV;obtain⟨oF,gv⟩:=hc rfl;have fy:cellOf w ρ[id] i j=some v:=acw;have jZ:Inv X w0 S F (ρ++[⟨v,(X.K e).length⟩]) (M.set id .dead ++[.row e ys]) w:=by
    refine mr.wT (λg' ij=> ?_) gv (oF.mono (λ_ _ h=>jr h) (λ_ h=>h) (λ_ _ _ h=>h) (λ_ _=>rfl));have hp:=Hid.sub hb hh lu zV rfl fy ij;obtain⟨a1,a2,a3,a4⟩:=hI.aU.aa hp;exact⟨a1,a2,a3,λi' b' bY u1 u2 u3 u4=>a4 (A4 ⟨i',b',bY,u1,u2,u3,u4⟩),λi' q h=>(h.pO rfl).1 (hI.aU.inj (h.pO rfl).2 hp).1⟩
   have qe:(ρ++[⟨v,(X.K e).length⟩])[id]?=some ρ[id]:=jr hh;have as2:(ρ++[(⟨v,(X.K e).length⟩:Hd)])[M.length]?=some ⟨v,(X.K e).length⟩:=wV;have KT:∀{i' j':Nat},fw (some (i,j,M.length)) i' j'=none->¬(i'=i∧j'=j):=by
    intro i' j' ho hc;simp only [fw]at ho;rw [if_pos ⟨hc.1.symm,hc.2.symm⟩]at ho;cases ho
   have jX:j9 X (ρ++[⟨v,(X.K e).length⟩]) F w ρ[id] t xs (some (i,j,M.length)):=by
    refine⟨q0,q1,q2,λi' j' k' gb=>by injection gb with gb;injection gb with e1 gb;injection gb with e2 e3;subst e1;subst e2;exact⟨hi,hj⟩,.inr ⟨g,o,c,cur,p1,p2,p3,p4,p5,λi' fF fN j' x' eG=> ?_⟩⟩;obtain⟨u,hu,_,vS⟩:=p6 i' fF fN j' x' eG;refine⟨u,hu,λk' gb=> ?_,λho=> ?_⟩
    ·simp only [fw]at gb;split at gb
     ·rename_i he;obtain⟨rfl,rfl⟩:=he;injection gb with gb;subst gb;rw [hv]at hu;injection hu with hu;subst hu;exact⟨_,as2,rfl⟩
     ·cases gb
    ·have vS:=vS rfl;unfold rk at vS⊢;split at vS
     ·exact⟨vS.1.mono (λ_ _ h=>jr h) (λ_ h=>h) (λ_ _ _ h=>h) (λ_ _=>rfl),vS.2⟩
     ·exact vS.mono (λ_ _ h=>jr h) (λ_ h=>h) (λ_ _ _ h=>h)
   have less:∀{p g'},lK w ρ[id] xs (some (i,j,M.length)) p g'->lK w ρ[id] xs none p g'∧p≠some (i,j):=by
    intro p g' hp;rcases hp with hp|⟨i',j',row,e',Gb,v',rfl,u1,u2,u3,u4,u5⟩
    ·exact⟨.inl hp,by rw [hp.1];simp⟩
    ·exact⟨.inr ⟨i',j',row,e',Gb,v',rfl,u1,u2,rfl,u4,u5⟩,λh=>KT u3 (abP)⟩
   have:=jZ.install (id:=id) (b:= .dead) (by rw [gj (EO),hY aY]) rfl rfl qe jX (λp g' hp=> ?_) (λp q g' h1 h2=>(hI.aU.inj (.mU hb hh (less h1).1) (.mU hb hh (less h2).1)).2)
   ·rw [List.set_append_left _ _ (EO),AX]at this;exact⟨F,_,this,⟨λ_ h=>h,λ_ _ h=>jr h,λ_ _=>rfl⟩⟩
   ·obtain⟨CJ,z0⟩:=less hp;have oD:=Hid.mU hb hh CJ;obtain⟨a1,a2,a3,a4⟩:=hI.aU.aa oD;refine⟨a1,a2,a3,?_,λi' q h=> ?_⟩
    ·rintro⟨i',b',bY,u1,u2,u3,u4⟩
     by_cases vg:i'<M.length
     ·rw [gj (by simpa using vg)]at u1;rw [gj (by rw [hI.len];exact vg)]at u3;exact a4 (A4 ⟨i',b',bY,u1,u2,u3,u4⟩)
     ·rw [jt (by rw [hI.len];omega)]at u3;have:i'- ρ.length=0:=by have:=(cy.1 u3).1;simp at this;omega
      rw [this]at u3;simp at u3;subst u3;exact z0 (hI.aU.inj oD (Hid.sub hb hh lu zV rfl fy u4)).2
    ·have h:=h.pop (Bp) rfl;exact(h.pO rfl).1 (hI.aU.inj (h.pO rfl).2 oD).1
  ·cases h
 ·exact oe
def ann(h:RL X id M k=some r):∃M',k M'=some r∧xb X M M':=by
 unfold RL at h;rw [cG]at h;split at h
 ·rename_i t xs i j kk hb;rw [cG]at h;split at h
  ·rename_i e ys hk;replace h:=bG h;obtain⟨x9,h⟩:=h;rw [fJ]at x9;refine⟨_,h,λ{w0 S F ρ w} hI=> ?_⟩;have aY:=(cy.1 hb).1;have afM:=(cy.1 hk).1;have z4:id<ρ.length:=EU;have hh:ρ[id]?=some ρ[id]:=cJ z4;have c9:kk≠id:=λe=>by subst e;rw [hb]at hk;cases hk
   have tV:ρ[kk]?=some (ρ[kk]'(by rw [hI.len];exact afM)):=cJ _;generalize ρ[kk]'(by rw [hI.len];exact afM)=UZ at tV;obtain⟨q0,q1,q2,q3,q4⟩:=hI.aU.rep hb hh;obtain⟨hi,hj⟩:=q3 i j kk rfl;have hbk:=hI.rep kk _ _ hk tV;have mr:=hI.kill hk rfl tV;have jZ:=mr.drop (id:=id) (by rw [fP c9];exact hb) rfl;have lu:=lx (d:=([]:Row)) hi;have hl:=vZ (q2 i _ lu);have KT:∀{i' j':Nat},¬(i'=i∧j'=j)->fw (some (i,j,kk)) i' j'=none:=by
    intro i' j' hc;simp only [fw];rw [if_neg (λh=>hc ⟨h.1.symm,h.2.symm⟩)]
   have jI:∀{i':Nat} {fF:Row} {j':Nat} {x':AV},(xs.set i ((xs.getD i []).set j (.sub e ys)))[i']?=some fF->fF[j']?=some x'->(i'=i∧j'=j∧x'= .sub e ys)∨(¬(i'=i∧j'=j)∧∃row,xs[i']?=some row∧row[j']?=some x'):=by
    intro i' fF j' x' h1 h2
    by_cases nM:i'=i
    ·subst nM;rw [hY hi]at h1;injection h1 with h1;subst h1
     by_cases CQ:j'=j
     ·subst CQ;rw [hY (by omega)]at h2;injection h2 with h2;exact .inl ⟨rfl,rfl,h2.symm⟩
     ·rw [fP (Ne.symm CQ)]at h2;exact .inr ⟨λh=>CQ h.2,_,lu,h2⟩
    ·rw [fP (Ne.symm nM)]at h1;exact .inr ⟨λh=>nM h.1,_,h1,h2⟩
   rcases q4 with⟨_,q5⟩|⟨g,o,c,cur,p1,p2,p3,p4,p5,p6⟩
   ·subst q5;simp at hi
   have zV:(xs.getD i [])[j]?=some ((xs.getD i []).getD j .top):=lx (by omega);obtain⟨v,hv,hov,_⟩:=p6 i _ lu j _ zV;obtain⟨h',e1,e2⟩:=hov kk (by simp [fw]);rw [tV]at e1;injection e1 with e1;subst e1;have fy:cellOf w ρ[id] i j=some UZ.v:=by
    simp only [cellOf,p1];rw [ju,qW w g _ cur t (0,0) p2,<-pG,<-e2];exact hv
   have jX:j9 X ρ F w ρ[id] t (xs.set i ((xs.getD i []).set j (.sub e ys))) none:=by
    refine⟨q0,q1,λi' fF fN=> ?_,λ_ _ _ hk=>(yI),.inr ⟨g,o,c,cur,by rw [rR];exact p1,p2,by rw [rR];exact p3,p4,p5,λi' fF fN j' x' eG=> ?_⟩⟩
    ·by_cases nM:i'=i
     ·subst nM;rw [hY hi]at fN;injection fN with fN;subst fN;refine P2 (by rw [rR];exact hl) λj' kd x oE hx=> ?_
      by_cases CQ:j'=j
      ·subst CQ;rw [hY (by omega)]at hx;injection hx with hx;subst hx;rw [List.getD,oE]at x9;simp only [ni]at x9;subst x9;simp [pZ]
      ·rw [fP (Ne.symm CQ)]at hx;obtain⟨qJ,u1,u2⟩:=yu (q2 _ _ lu) hx;rw [oE]at u1;injection u1 with u1;subst u1;exact u2
     ·rw [fP (Ne.symm nM)]at fN;exact q2 _ _ fN
    ·rcases jI fN eG with⟨rfl,rfl,rfl⟩|⟨hn,row,u1,u2⟩
     ·refine⟨v,hv,λ_ hk=>(yI),λ_=> ?_⟩;rw [e2];refine⟨?_,hI.one _ _ tV⟩;have cX:UZ.sz=(X.K e).length :=hbk.1;rw [<-cX];exact hbk
     ·obtain⟨u,hu,_,vS⟩:=p6 i' row u1 j' x' u2;exact⟨u,hu,λ_ hk=>(yI),λ_=>vS (KT hn)⟩
   have split:∀{p g'},lK w ρ[id] (xs.set i ((xs.getD i []).set j (.sub e ys))) none p g'->(p=some (i,j)∧UZ.b9=some g')∨(p≠some (i,j)∧lK w ρ[id] xs (some (i,j,kk)) p g'):=by
    intro p g' hp;rcases hp with hp|⟨i',j',row,e',Gb,v',rfl,u1,u2,u3,u4,u5⟩
    ·exact .inr ⟨by rw [hp.1];simp,.inl hp⟩
    ·rcases jI u1 u2 with⟨rfl,rfl,_⟩|⟨hn,row,m1,m2⟩
     ·rw [fy]at u4;injection u4 with u4;subst u4;exact .inl ⟨rfl,u5⟩
     ·exact .inr ⟨λh=>hn (abP),.inr ⟨i',j',row,e',Gb,v',rfl,m1,m2,KT hn,u4,u5⟩⟩
   have ayu:((M.set kk .dead).set id .dead)[id]?=some .dead :=by rw [hY (EO)]
   have:=jZ.install (id:=id) (b:= .dead) ayu rfl rfl hh jX (λp g' hp=> ?_) (λp q g' h1 h2=> ?_)
   ·rw [AX]at this;exact⟨F,ρ,this,bH.refl _ _ _⟩
   ·rcases split hp with⟨_,hp⟩|⟨_,hp⟩
    ·obtain⟨a1,a2,a3⟩:=hI.sep kk _ _ g' hk rfl tV hp;refine⟨a1,a2,a3,λho=> ?_,λi' q h=> ?_⟩
     ·obtain⟨i',b',bY,u1,u2,u3,u4⟩:=A4 ho;rcases rT u1 with⟨_,rfl⟩|⟨hn,u1⟩
      ·cases u2
      ·exact hI.fZ i' kk b' _ bY _ g' hn u1 hk u2 rfl u3 tV u4 hp
     ·exact(hI.aU.aa ((h.pO rfl).2.pO rfl).2).2.2.2 ⟨kk,_,_,hk,rfl,tV,hp⟩
    ·have oD:=Hid.mU hb hh hp;obtain⟨a1,a2,a3,a4⟩:=hI.aU.aa oD;exact⟨a1,a2,a3,λh=>a4 (A4 (A4 h)),λi' q h=>(h.pO rfl).1 (hI.aU.inj ((h.pO rfl).2.pO rfl).2 oD).1⟩
   ·rcases split h1 with⟨e1,h1⟩|⟨e1,h1⟩<;>rcases split h2 with⟨e3,h2⟩|⟨e3,h2⟩
    ·exact e1.trans e3.symm
    ·exact((hI.aU.aa (Hid.mU hb hh h2)).2.2.2 ⟨kk,_,_,hk,rfl,tV,h1⟩).elim
    ·exact((hI.aU.aa (Hid.mU hb hh h1)).2.2.2 ⟨kk,_,_,hk,rfl,tV,h2⟩).elim
    ·exact(hI.aU.inj (Hid.mU hb hh h1) (Hid.mU hb hh h2)).2
  ·cases h
 ·exact oe
end
end Go.ae
namespace Go.ae
def adI{p:Prop}(h:p:=by
 rw [hv];refine⟨_,run_indexAt_slice hX aQ hu he h0 h1 w,?_⟩;rw [ju];have:=aw.ptr (K:=X.K) (ρ:=ρ) (F:=F) (w:=w) id n.toNat 0 hd g o xs.length c aA hv;rw [hs,cX]at this;simpa using this):p:=h
def adF{p:Prop}(h:p:=by
 rw [dC,gW]at tW;cases UQ:gs.toList[fi]? with
 |none=>rw [UQ]at tW;cases tW
 |some qf=>
  rw [UQ]at tW;simp at tW;exact⟨qf,by simpa using UQ,tW.1,tW.2⟩):p:=h
def uN{p:Prop}(h:p:=by rw [f2.size];exact f2.ks):p:=h
def BJ{p:Prop}(h:p:=by rw [f.zc];exact Ys _ _ _ _ _):p:=h
def adj{p:Prop}(h:p:=by
 cases hv with
 |ep _ _ _ a vs hk hl hc hr=>
  refine⟨_,cC _ _,?_⟩;rw [wI];exact .ep _ _ _ a vs hk hl hc hr):p:=h
def aca{p:Prop}(h:p:=by
 refine⟨_,run_indexAt_slice hX aQ hu he h0 h1 w,?_⟩;rw [<-cX];exact hp):p:=h
def uG{p:Prop}(h:p:=by simp at hi):p:=h
end Go.ae
namespace Go.ae
def Ef:=@Go.heap_alloc_new
def A1:=@Go.run_newObj
def A0:=@Go.World.alloc_eq
def yy:=@Go.World.grownBy_alloc
def D5:=@beq_eq_false_iff_ne
end Go.ae
namespace Go.ae
open Go
noncomputable section
variable {X:Cx} {R:Type}
variable {w0 w:World} {S:Sc} {F:aO} {ρ:aT} {M:ar}
variable{i x:AV}{k:AV->Option R}{fi:Nat}{r:R}{t:TypeId}{cs:aD}
def vv(X:Cx)(M:ar)(x:AV)(M':ar)(hyp:aT->aO->World->Prop)(s:Sem Value):Prop:=
 ∀{w0:World} {S:Sc} {F:aO} {ρ:aT} {w:World},Inv X w0 S F ρ M w->hyp ρ F w->
  ∃v w' ρ' F',s.run X.P w= .ok v w'∧Inv X w0 S F' ρ' M' w'∧bH F F' ρ ρ' w w'∧aw X.K ρ' F' w' x v
def alF{w:World}{o:Obj}:∀a v,w.cell? a=some v->(w.alloc o).cell? a=some v:=by
 intro a v h;rw [World.cell?_alloc_lt _ _ _ (block_lt_of_cell h)];exact h
def Inv.newVar(hI:Inv X w0 S F ρ M w){ks:dv}(hk:cZ ks cs=true){cur:Array Value}(hr:cq X.K ρ F w cs cur.toList)(e:TypeId)(hy:X.xG ks e=true):
 Inv X w0 S F (ρ++[⟨.slice (some ⟨w.heap.size,0,none⟩) 1 1,cs.length⟩]) (M++[.var ks cs]) (w.alloc (.cells cur e))∧
 bH F F ρ (ρ++[⟨.slice (some ⟨w.heap.size,0,none⟩) 1 1,cs.length⟩]) w (w.alloc (.cells cur e)):=by
 have j7:bH F F ρ (ρ++[⟨.slice (some ⟨w.heap.size,0,none⟩) 1 1,cs.length⟩]) w (w.alloc (.cells cur e)):=
  ⟨λ_ h=>h,λ_ _ h=>jr h,hI.rB (yy w _ none) (by simp)⟩
 refine⟨hI.push (yy w _ none) (hd:=⟨.slice (some ⟨w.heap.size,0,none⟩) 1 1,cs.length⟩) ?_ rfl ?_,j7⟩
 ·intro g hg;simp [Hd.b9,Value.b9]at hg;subst hg;simp
 ·exact⟨hk,rfl,_,_,_,rfl,Ef w _,hr.grow j7,hy⟩
def PW{hd:Hd}{g o n c:Nat}(hl:ρ.length=M.length)(hv:hd.v= .slice (some ⟨g,o,none⟩) n c)(i off:Nat):
 aw X.K (ρ++[hd]) F w (.ptr M.length i off) (.pointer (some ⟨g,o+i*hd.sz+off,none⟩)):=
 .ptr _ _ _ hd g o n c (by rw [<-hl];simp) hv
def mT(X:Cx)(t:TypeId):dv:=(X.ti t).ks.map Kind.v
def QG(X:Cx)(t:TypeId)(M:ar)(k:AV->ar->Option R):Option R:=
 aB (((X.ti t).ok &&X.xG (mT X t) t)&&cZ (mT X t) (X.ti t).zero) (k (.ptr M.length 0 0) (M++[.var (mT X t) (X.ti t).zero]))
def amP(hX:X.Okb){k:AV->ar->Option R}(h:QG X t M k=some r):
 ∃x M',k x M'=some r∧cz [] M M'∧vv X M x M' (λ_ _ _=>True) (Instr.alloc t true (.tuple #[])):=by
 unfold QG at h;replace h:=bG h;obtain⟨h1,h⟩:=h;simp only [bc]at h1;obtain⟨i,d,z,f⟩:=hX.facts h1.1.1;refine⟨_,_,h,cz.push _ _ _,λ{w0 S F ρ w} hI _=> ?_⟩;have hr:cq X.K ρ F w (X.ti t).zero z.cells.toList:=BJ;obtain⟨c6,hg⟩:=hI.newVar h1.2 hr t h1.1.2;refine⟨.pointer (some ⟨w.heap.size,0,none⟩),_,_,_,?_,c6,hg,?_⟩
 ·simp only [Instr.alloc,dO,f.zeroValue,fg,newVar,newRow,A1,fX,A0]
 ·have:=PW (X:=X) (F:=F) (w:=w.alloc (.cells z.cells t)) (hd:=⟨.slice (some ⟨w.heap.size,0,none⟩) 1 1,(X.ti t).zero.length⟩) hI.len rfl 0 0;exact qo
def SA(X:Cx)(t:TypeId)(x:AV)(M:ar)(k:AV->ar->Option R):Option R:=
 aB ((x.plain&&X.xG (mT X t) t)&&cZ (mT X t) x.cells) (k (.ptr M.length 0 0) (M++[.var (mT X t) x.cells]))
def anI{k:AV->ar->Option R}(h:SA X t x M k=some r):
 ∃y M',k y M'=some r∧cz [] M M'∧∀v,vv X M y M' (λρ F w=>aw X.K ρ F w x v) (Instr.box t v):=by
 unfold SA at h;replace h:=bG h;obtain⟨h1,h⟩:=h;simp only [bc]at h1;refine⟨_,_,h,cz.push _ _ _,λv {w0 S F ρ w} hI hx=> ?_⟩;have hr:=hx.cells (DP h1.1.1) hI.one;obtain⟨c6,hg⟩:=hI.newVar h1.2 hr t h1.1.2;refine⟨.pointer (some ⟨w.heap.size,0,none⟩),_,_,_,?_,c6,hg,?_⟩
 ·simp only [Instr.box,dO,newVar,newRow,A1,fX,fg,A0]
 ·have:=PW (X:=X) (F:=F) (w:=w.alloc (.cells v.cells t)) (hd:=⟨.slice (some ⟨w.heap.size,0,none⟩) 1 1,x.cells.length⟩) hI.len rfl 0 0;exact qo
def DR(X:Cx)(t:TypeId)(x:AV)(fi:Nat)(k:AV->Option R):Option R:=
 match(X.ti t).ok,(X.ti t).u with
 |true,.struct fs=>
  match fs[fi]? with
  |some (off,ft)=>
   aB ((X.ti ft).ok && !((X.ti ft).size ==0)) (match x with
    | .ptr id i o=>k (.ptr id i (o+off))
    | .ep t' row o=>k (.ep t' row (o+off))
    |_=>none)
  |none=>none
 |_,_=>none
def akW(hX:X.Okb)(h:DR X t x fi k=some r):
 ∃y,k y=some r∧∀{ρ:aT} {F:aO} {w:World} {v:Value},aw X.K ρ F w x v->∃u,(Instr.fieldAt t v fi).run X.P w= .ok u w∧aw X.K ρ F w y u:=by
 unfold DR at h;split at h
 ·rename_i fs aQ hu;obtain⟨i,d,z,f⟩:=hX.facts aQ;obtain⟨gs,cE,dC⟩:=f.struct hu;split at h
  ·rename_i off ft tW;replace h:=bG h;obtain⟨h1,h⟩:=h;simp only [bc,nU,D5]at h1;obtain⟨i2,d2,z2,f2⟩:=hX.facts h1.1;have hg:∃qf,gs[fi]?=some qf∧qf.offset=off∧qf.type=ft:=adF;obtain⟨qf,TB,rfl,rfl⟩:=hg;have cC:∀(w:World) (a:Addr),(Instr.fieldAt t (.pointer (some a)) fi).run X.P w= .ok (.pointer (some (a.add qf.offset))) w:=by
    intro w a;simp only [Instr.fieldAt,dO,gL cE,fg,TB,Instr.sureAddr,fX,fieldPlace,f2.sizeOf,h1.2,ly]
   split at h
   ·rename_i id i0 o;refine⟨_,h,λ{ρ F w v} hv=> ?_⟩;cases hv with
    |ptr _ _ _ hd g o' n c aA hv=>
     refine⟨_,cC _ _,?_⟩;rw [ju,show o'+i0*hd.sz+o+qf.offset=o'+i0*hd.sz+(o+qf.offset)by omega];exact .ptr _ _ _ hd g o' n c aA hv
   ·rename_i t' row o;refine⟨_,h,λ{ρ F w v} hv=> ?_⟩;exact adj
   ·cases h
  ·cases h
 ·cases h
def uj(X:Cx)(t:TypeId)(x i:AV)(M:ar)(k:AV->Option R):Option R:=
 match i with
 | .int _ n=>
   match(X.ti t).ok,(X.ti t).u with
   |true,.slice e=>
    aB ((X.ti e).ok) (match x with
     | .U t' xs=>aB (e==t'&&(decide (0<=n)&&decide (n<(xs.length:Int)))) (k (.ep t' (xs.getD n.toNat []) 0))
     | .aa id=>
       match gm M id with
       |some (.row t' xs)=>aB (e==t'&&(decide (0<=n)&&decide (n<(xs.length:Int)))) (k (.ptr id n.toNat 0))
       |some (.di t' xs)=>aB (e==t'&&(decide (0<=n)&&decide (n<(xs.length:Int)))) (k (.ep t' (xs.getD n.toNat []) 0))
       |some (.aU t' xs _)=>aB (e==t'&&(decide (0<=n)&&decide (n<(xs.length:Int)))) (k (.ptr id n.toNat 0))
       |_=>none
     | .kg id m=>aB (decide (0<=n)&&decide (n<(m:Int))) (k (.ptr id 0 (n.toNat*(X.ti e).size)))
     | .vw id lo m=>
       match gm M id with
       |some (.row t' _)=>aB (e==t'&&(decide (0<=n)&&decide (n<(m:Int)))) (k (.ptr id (lo+n.toNat) 0))
       |_=>none
     |_=>none)
   |true,.array len e=>
    aB ((X.ti e).ok &&(decide (0<=n)&&decide (n<(len:Int)))) (match x with
     | .ptr id j off=>k (.ptr id j (off+n.toNat*(X.ti e).size))
     | .ep t' row off=>k (.ep t' row (off+n.toNat*(X.ti e).size))
     |_=>none)
   |_,_=>none
 |_=>none
def run_indexAt_slice(hX:X.Okb){e:TypeId}(aQ:(X.ti t).ok =true)(hu:(X.ti t).u = .slice e)(he:(X.ti e).ok =true){a:Addr}{len cap:Nat}{kk:IntKind}{n:Int}(h0:0<=n)(h1:n<(len:Int))(w:World):
 (Instr.indexAt t (.slice (some a) len cap) (.int kk n)).run X.P w= .ok (.pointer (some (a.add (n.toNat*(X.ti e).size)))) w:=by
 obtain⟨i,d,z,f⟩:=hX.facts aQ;obtain⟨i2,d2,z2,f2⟩:=hX.facts he;have cE:=f.slice hu;simp [Instr.indexAt,asIntOf,gL cE,h0,h1,f2.sizeOf]
def XB{xs:aH}{v:Value}(hv:aw X.K ρ F w (.U t xs) v){i:Nat}(hi:i<xs.length):
 ∃a cap,v= .slice (some a) xs.length cap∧aw X.K ρ F w (.ep t (xs.getD i []) 0) (.pointer (some (a.add (i*(X.K t).length)))):=by
 cases hv with
 |iS=>exact uG
 |U _ _ a cap vss hl jU iV hk hc hr=>
  have jE:vss[i]?=some (vss[i]'(by omega)):=cJ (by omega);have lu:=lx (d:=([]:Row)) hi;obtain⟨c1,c2⟩:=hc i _ jE;have jy:aw X.K ρ F w (.ep t (xs.getD i []) 0) (.pointer (some ((a.add (i*(X.K t).length)).add 0))):=by
   refine .ep t _ 0 (a.add (i*(X.K t).length)) (vss[i]'(by omega)) (hk i _ lu) ?_ ?_ ?_
   ·rw [c1,gK (hk i _ lu)]
   ·intro j v hj;rw [wI];exact c2 j v hj
   ·exact hr i _ _ lu jE
  exact⟨a,cap,rfl,by simpa [Addr.add]using jy⟩
def akV(hX:X.Okb)(h:uj X t x i M k=some r):
 ∃y,k y=some r∧∀{w0:World} {S:Sc} {F:aO} {ρ:aT} {w:World} {v vi:Value},Inv X w0 S F ρ M w->aw X.K ρ F w x v->aw X.K ρ F w i vi->
  ∃u,(Instr.indexAt t v vi).run X.P w= .ok u w∧aw X.K ρ F w y u:=by
 unfold uj at h;simp only [cG]at h;split at h
 ·rename_i kk n;split at h
  ·rename_i e aQ hu;replace h:=bG h;obtain⟨he,h⟩:=h;obtain⟨i2,d2,z2,f2⟩:=hX.facts he;have cX:(X.K e).length =(X.ti e).size :=uN;split at h
   ·rename_i t' xs;replace h:=bG h;obtain⟨h1,h⟩:=h;simp only [bc,fr,fJ]at h1;obtain⟨rfl,h0,h1⟩:=h1;refine⟨_,h,λ{w0 S F ρ w v vi} hI hv hi=> ?_⟩;cases hi;obtain⟨a,cap,rfl,hp⟩:=XB hv (i:=n.toNat) (by omega);exact aca
   ·rename_i id;split at h
    ·rename_i t' xs hb;replace h:=bG h;obtain⟨h1,h⟩:=h;simp only [bc,fr,fJ]at h1;obtain⟨rfl,h0,h1⟩:=h1;refine⟨_,h,λ{w0 S F ρ w v vi} hI hv hi=> ?_⟩;cases hi;cases hv with
     |aa _ hd aA=>
      have mZ:n.toNat<xs.length:=by omega
      obtain⟨hk,hs,g,o,c,cur,vs,hv,hg,_⟩:=hI.yq hb aA (lx (d:=[]) mZ);exact adI
    ·rename_i t' xs hb;replace h:=bG h;obtain⟨h1,h⟩:=h;simp only [bc,fr,fJ]at h1;obtain⟨rfl,h0,h1⟩:=h1;refine⟨_,h,λ{w0 S F ρ w v vi} hI hv hi=> ?_⟩;cases hi;cases hv with
     |aa _ hd aA=>
      have hl:aw X.K ρ F w (.U e xs) hd.v:=hI.rep id _ hd hb aA;obtain⟨a,cap,hv,hp⟩:=XB hl (i:=n.toNat) (by omega);rw [hv];exact aca
    ·rename_i t' xs op hb;replace h:=bG h;obtain⟨h1,h⟩:=h;simp only [bc,fr,fJ]at h1;obtain⟨rfl,h0,h1⟩:=h1;refine⟨_,h,λ{w0 S F ρ w v vi} hI hv hi=> ?_⟩;cases hi;cases hv with
     |aa _ hd aA=>
      obtain⟨_,hs,_,_,hq⟩:=hI.aU.rep hb aA;rcases hq with⟨_,hq⟩|⟨g,o,c,cur,hv,_⟩
      ·subst hq;simp at h1;omega
      ·exact adI
    ·cases h
   ·rename_i id m;replace h:=bG h;obtain⟨h1,h⟩:=h;simp only [bc,fr]at h1;refine⟨_,h,λ{w0 S F ρ w v vi} hI hv hi=> ?_⟩;cases hi;cases hv with
    |kg _ _ hd g o n' c cap aA hv=>
     refine⟨_,run_indexAt_slice hX aQ hu he h1.1 h1.2 w,?_⟩;rw [ju];have:=aw.ptr (K:=X.K) (ρ:=ρ) (F:=F) (w:=w) id 0 (n.toNat*(X.ti e).size) hd g o n' c aA hv;exact qo
   ·rename_i id lo m;split at h
    ·rename_i t' xs hb;replace h:=bG h;obtain⟨h1,h⟩:=h;simp only [bc,fr,fJ]at h1;obtain⟨rfl,h0,h1⟩:=h1;refine⟨_,h,λ{w0 S F ρ w v vi} hI hv hi=> ?_⟩;cases hi;cases hv with
     |vw _ _ _ hd g o n' c cap aA hv hc lU=>
      obtain⟨q1,_⟩:=hI.rep _ _ hd hb aA;refine⟨_,run_indexAt_slice hX aQ hu he h0 h1 w,?_⟩;rw [ju];have:=aw.ptr (K:=X.K) (ρ:=ρ) (F:=F) (w:=w) id (lo+n.toNat) 0 hd g o n' c aA hv;rw [q1,cX]at this⊢;rw [show o+lo*(X.ti e).size +n.toNat*(X.ti e).size =o+(lo+n.toNat)*(X.ti e).size +0 by rw [nY];omega];exact this
     |rE=>simp at h1;omega
     |rD=>simp at h1;omega
    ·cases h
   ·cases h
  ·rename_i len e aQ hu;replace h:=bG h;obtain⟨h1,h⟩:=h;simp only [bc,fr]at h1;obtain⟨he,h0,h1⟩:=h1;obtain⟨i1,d1,z1,f1⟩:=hX.facts aQ;obtain⟨i2,d2,z2,f2⟩:=hX.facts he;have cE:=f1.array hu;have cC:∀(w:World) (a:Addr),(Instr.indexAt t (.pointer (some a)) (.int kk n)).run X.P w= .ok (.pointer (some (a.add (n.toNat*(X.ti e).size)))) w:=by
    intro w a;simp [Instr.indexAt,asIntOf,gL cE,Instr.sureAddr,h0,h1,f2.sizeOf]
   split at h
   ·rename_i id j off;refine⟨_,h,λ{w0 S F ρ w v vi} hI hv hi=> ?_⟩;cases hi;cases hv with
    |ptr _ _ _ hd g o' n' c aA hv=>
     refine⟨_,cC _ _,?_⟩;rw [ju,show o'+j*hd.sz+off+n.toNat*(X.ti e).size =o'+j*hd.sz+(off+n.toNat*(X.ti e).size)by omega];exact .ptr _ _ _ hd g o' n' c aA hv
   ·rename_i t' row off;refine⟨_,h,λ{w0 S F ρ w v vi} hI hv hi=> ?_⟩;cases hi;exact adj
   ·cases h
  ·cases h
 ·cases h
def Bs(X:Cx)(t:TypeId)(cs:aD)(off:Nat)(k:AV->Option R):Option R:=
 aB ((X.ti t).ok &&decide (off+(X.ti t).size <=cs.length)) (match(X.ti t).u.agg with
  |true=>k (.agg ((cs.drop off).take (X.ti t).size))
  |false=>aB ((X.ti t).size ==1) (k (cs.getD off .top)))
def Xy(hX:X.Okb){off:Nat}(h:Bs X t cs off k=some r):
 ∃y,k y=some r∧∀{ρ:aT} {F:aO} {w:World} {vs:Array Value},cq X.K ρ F w cs vs.toList->∃u,(part t vs off).run X.P w= .ok u w∧aw X.K ρ F w y u:=by
 unfold Bs at h;replace h:=bG h;obtain⟨h1,h⟩:=h;simp only [bc,fr]at h1;obtain⟨i,d,z,f⟩:=hX.facts h1.1;split at h
 ·rename_i ha;refine⟨_,h,λ{ρ F w vs} hr=> ?_⟩;refine⟨.agg (vs.extract off (off+(X.ti t).size)),by simp [part,f.isAgg,ha,f.sizeOf],?_⟩;have h2:=hr.drop_take off (X.ti t).size;have e:vs.extract off (off+(X.ti t).size)=((vs.toList.drop off).take (X.ti t).size).toArray :=by
   apply qV;simp [List.extract_eq_take_drop]
  rw [e];exact .agg _ _ h2.1 h2.2
 ·rename_i ha;replace h:=bG h;obtain⟨h2,h⟩:=h;have hs:(X.ti t).size =1:=rf;refine⟨_,h,λ{ρ F w vs} hr=> ?_⟩;have aY:off<cs.length:=by omega
  have hl:=hr.1;simp only [k8]at hl;obtain⟨u,hu⟩:∃u,vs[off]?=some u:=⟨vs[off]'(by omega),AZ (by omega)⟩;refine⟨u,?_,hr.2 off _ _ (lx aY) (Rc)⟩;simp only [part,dO,f.isAgg,ha,fg,hu,fX,jG,ly]
def Eu(X:Cx)(t:TypeId)(x:AV)(fi:Nat)(k:AV->Option R):Option R:=
 match(X.ti t).ok,(X.ti t).u,x with
 |true,.struct fs,.agg cs=>
  match fs[fi]? with
  |some (off,ft)=>Bs X ft cs off k
  |none=>none
 |_,_,_=>none
def amM(hX:X.Okb)(h:Eu X t x fi k=some r):
 ∃y,k y=some r∧∀{ρ:aT} {F:aO} {w:World} {v:Value},aw X.K ρ F w x v->∃u,(Instr.field t v fi).run X.P w= .ok u w∧aw X.K ρ F w y u:=by
 unfold Eu at h;split at h
 ·rename_i fs cs aQ hu;obtain⟨i,d,z,f⟩:=hX.facts aQ;obtain⟨gs,cE,dC⟩:=f.struct hu;split at h
  ·rename_i off ft tW;have hg:∃qf,gs[fi]?=some qf∧qf.offset=off∧qf.type=ft:=adF;obtain⟨qf,TB,rfl,rfl⟩:=hg;obtain⟨y,hy,cC⟩:=Xy hX h;refine⟨y,hy,λ{ρ F w v} hv=> ?_⟩;cases hv with
   |agg _ vs hl hr=>
    obtain⟨u,h1,h2⟩:=cC (vs:=vs.toArray) ⟨nv,by simpa using hr⟩;refine⟨u,?_,h2⟩;simp only [Instr.field,dO,gL cE,fg,TB,asAgg,fX,h1]
  ·cases h
 ·cases h
def Et(X:Cx)(t:TypeId)(x i:AV)(k:AV->Option R):Option R:=
 match(X.ti t).ok,(X.ti t).u,x,i with
 |true,.array len e,.agg cs,.int _ n=>aB ((X.ti e).ok &&(decide (0<=n)&&decide (n<(len:Int)))) (Bs X e cs (n.toNat*(X.ti e).size) k)
 |true,.str,.str s,.int _ n=>aB (decide (0<=n)) (match s[n.toNat]? with|none=>none|some b=>k (.int .u8 b.toNat))
 |_,_,_,_=>none
def amL(hX:X.Okb)(h:Et X t x i k=some r):
 ∃y,k y=some r∧∀{ρ:aT} {F:aO} {w:World} {v vi:Value},aw X.K ρ F w x v->aw X.K ρ F w i vi->∃u,(Instr.index t v vi).run X.P w= .ok u w∧aw X.K ρ F w y u:=by
 unfold Et at h;split at h
 ·rename_i len e cs kk n aQ hu;replace h:=bG h;obtain⟨h1,h⟩:=h;simp only [bc,fr]at h1;obtain⟨he,h0,h1⟩:=h1;obtain⟨i1,d1,z1,f1⟩:=hX.facts aQ;obtain⟨i2,d2,z2,f2⟩:=hX.facts he;have cE:=f1.array hu;obtain⟨y,hy,cC⟩:=Xy hX h;refine⟨y,hy,λ{ρ F w v vi} hv hi=> ?_⟩;cases hi;cases hv with
  |agg _ vs hl hr=>
   obtain⟨u,h3,h4⟩:=cC (vs:=vs.toArray) ⟨nv,by simpa using hr⟩;refine⟨u,?_,h4⟩;simp only [Instr.index,asIntOf,dO,fX,gL cE,fg,h0,h1,and_self,ng,f2.sizeOf,h3]
 ·rename_i s kk n aQ hu;replace h:=bG h;obtain⟨h0,h⟩:=h;have h0:=A9 h0;obtain⟨i1,d1,z1,f1⟩:=hX.facts aQ;have cE:X.P.underlying t=some .string :=by
   have:=f1.u;rw [hu]at this;cases d1<;>simp [kJ]at this;exact f1.iz
  split at h
  ·cases h
  ·rename_i b hb;refine⟨_,h,λ{ρ F w v vi} hv hi=> ?_⟩;cases hi;cases hv;refine⟨.int .u8 b.toNat,?_,.int _ _⟩;simp only [Instr.index,asIntOf,dO,fX,gL cE,fg,h0,ng,hb]
 ·cases h
end
end Go.ae
namespace Go.ae
def Fg{p:Prop}(h:p:=by
 unfold Builtin.len_;simp [gL cE,goInt]):p:=h
def acs{p:Prop}(h:p:=by
 simp only [zv,Option.some.injEq]at h;subst h
 match vs,hr.1 with
 | [],_=>rfl):p:=h
def abT{p:Prop}(h:p:=by
 injection h with h;injection h with _ h;subst h;cases hv;exact⟨_,_,rfl⟩):p:=h
def EK{p:Prop}(h:p:=by simpa using hq):p:=h
def aa5{p:Prop}(h:p:=by rw [lZ,sZ,show min m (eW.length- lo)=m by omega]):p:=h
def Bk{p:Prop}(h:p:=by exact⟨_,_,rfl⟩):p:=h
end Go.ae
namespace Go.ae
def Qn:=@List.zipIdx_cons
def nX:=@List.foldl_cons
def IP:=@Array.getElem?_setIfInBounds_ne
def Ql:=@Array.foldl_toList
end Go.ae
namespace Go.ae
open Go
noncomputable section
variable {X:Cx} {R:Type}
variable {w0 w w':World} {S:Sc} {F:aO} {ρ:aT} {M:ar}
variable{x:AV}{k:AV->Option R}{P:Program}{r:R}{t:TypeId}{K:TypeId->dv}{v:Value}{xs:aH}
def rowsOf(M:ar):AV->Option (Option TypeId×aH)
 | .U t xs=>some (some t,xs)
 | .fD =>some (none,[])
 | .aa id=>match gm M id with|some (.row t xs)=>some (some t,xs)|some (.di t xs)=>some (some t,xs)|_=>none
 | .vw id lo m=>match gm M id with|some (.row t xs)=>some (some t,(xs.drop lo).take m)|_=>none
 | .ja =>some (none,[])
 |_=>none
def OV(hI:Inv X w0 S F ρ M w){o:Option TypeId}(h:rowsOf M x=some (o,xs))(hv:aw X.K ρ F w x v):∃a c,v= .slice a xs.length c:=by
 unfold rowsOf at h;simp only [cG]at h;split at h
 ·injection h with h;injection h with _ h;subst h;cases hv with
  |iS=>exact Bk
  |U=>exact Bk
 ·exact abT
 ·split at h
  ·rename_i hb;injection h with h;injection h with _ h;subst h;cases hv with
   |aa _ hd aA=>
    rcases(hI.rep _ _ hd hb aA).2.2 with⟨h1,h2⟩|⟨g,o,c,cur,h1,_⟩
    ·subst h2;exact⟨_,_,h1⟩
    ·exact⟨_,_,h1⟩
  ·rename_i t eW hb;injection h with h;injection h with _ h;subst h;cases hv with
   |aa _ hd aA=>
    have hr:aw X.K ρ F w (.U t eW) hd.v:=hI.rep _ _ hd hb aA;generalize hd.v=v at hr;cases hr with
    |iS=>exact Bk
    |U=>exact Bk
  ·cases h
 ·split at h
  ·rename_i id lo m ob t eW hb;injection h with h;injection h with _ h;subst h;cases hv with
   |vw _ _ _ hd g o n c cap aA hv hc lU=>
    have hlen:n=eW.length:=by
     rcases(hI.rep _ _ hd hb aA).2.2 with⟨h1,h2⟩|⟨g',o',c',cur,h1,_⟩
     ·rw [hv]at h1;cases h1
     ·rw [hv]at h1;injection h1
    refine⟨some ⟨g,o+lo*hd.sz,none⟩,cap,?_⟩;exact aa5
   |rE=>exact Bk
   |rD=>exact Bk
  ·cases h
 ·exact abT
 ·cases h
def Xi(hI:Inv X w0 S F ρ M w)(h:rowsOf M x=some (some t,xs))(hx:∀id lo m,x≠ .vw id lo m)(hv:aw X.K ρ F w x v):
 (∀(i:Nat) row,xs[i]?=some row->cZ (X.K t) row=true)∧
 ((v= .slice none 0 0∧xs=[])∨∃a c,v= .slice (some a) xs.length c∧∃vss:List eU,vss.length=xs.length∧
   ∀(i:Nat) row vs,xs[i]?=some row->vss[i]?=some vs->cq X.K ρ F w row vs∧n9 w (a.add (i*(X.K t).length)) vs):=by
 have core:∀{v:Value} {t:TypeId} {xs:aH},aw X.K ρ F w (.U t xs) v->(∀(i:Nat) row,xs[i]?=some row->cZ (X.K t) row=true)∧
  ((v= .slice none 0 0∧xs=[])∨∃a c,v= .slice (some a) xs.length c∧∃vss:List eU,vss.length=xs.length∧
    ∀(i:Nat) row vs,xs[i]?=some row->vss[i]?=some vs->cq X.K ρ F w row vs∧n9 w (a.add (i*(X.K t).length)) vs):=by
  intro v t xs hv;cases hv with
  |iS=>exact⟨λi row h=>dB,.inl ⟨rfl,rfl⟩⟩
  |U _ _ a cap vss hl jU iV hk hc hr=>
   refine⟨hk,.inr ⟨a,cap,rfl,vss,hl,λi row vs hi dL=>⟨⟨?_,hr i row vs hi dL⟩,λj u hj=> ?_⟩⟩⟩
   ·rw [(hc i vs dL).1,gK (hk i row hi)]
   ·rw [wI];exact((hc i vs dL).2 j u hj).1
 unfold rowsOf at h;simp only [cG]at h;split at h
 ·injection h with h;injection h with h1 h2;injection h1 with h1;subst h1;subst h2;exact core hv
 ·injection h with h;injection h with h1 h2;cases h1
 ·split at h
  ·rename_i id t' eW hb;injection h with h;injection h with h1 h2;injection h1 with h1;subst h1;subst h2;cases hv with
   |aa _ hd aA=>
    obtain⟨h1,h2,h3⟩:=hI.rep _ _ hd hb aA;refine⟨h2,?_⟩;rcases h3 with h3|⟨g,o,c,cur,eN,hg,h4,h5,h6,h7⟩
    ·exact .inl h3
    ·have hex:∀i:Nat,i<eW.length->∃vs,cq X.K ρ F w (eW.getD i []) vs∧n9 w ⟨g,o+i*hd.sz,none⟩ vs:=by
      intro i hi;obtain⟨_,_,g',o',c',af4,vs,ig,_,_,_,_,hr,hc,_⟩:=hI.yq hb aA (lx (d:=[]) hi);rw [eN]at ig;injection ig with e1 e2 e3;exact aco
     refine .inr ⟨_,c,eN,(List.range eW.length).map λi=>if h:i<eW.length then(hex i h).choose else [],by simp,λi row vs hi dL=> ?_⟩;have lR:=(cy.1 hi).1;simp only [gW,qX lR,jv,Option.some.injEq,dif_pos lR]at dL;subst dL;have e:row=eW.getD i []:=by
      have:=lx (d:=([]:Row)) lR;rw [hi]at this;injection this
     subst e;obtain⟨hr,hc⟩:=(hex i lR).choose_spec;refine⟨hr,?_⟩;rw [ju,<-h1];exact hc
  ·rename_i id t' eW hb;injection h with h;injection h with h1 h2;injection h1 with h1;subst h1;subst h2;cases hv with
   |aa _ hd aA=>exact core (hI.rep _ _ hd hb aA)
  ·cases h
 ·exact absurd rfl (hx _ _ _)
 ·injection h with h;injection h with h1 h2;cases h1
 ·cases h
def Xs(hI:Inv X w0 S F ρ M w)(h:rowsOf M x=some (some t,xs))(hv:aw X.K ρ F w x v):
 (∀(i:Nat) row,xs[i]?=some row->cZ (X.K t) row=true)∧
 ((v= .slice none 0 0∧xs=[])∨∃a c,v= .slice (some a) xs.length c∧∃vss:List eU,vss.length=xs.length∧
   ∀(i:Nat) row vs,xs[i]?=some row->vss[i]?=some vs->cq X.K ρ F w row vs∧n9 w (a.add (i*(X.K t).length)) vs):=by
 by_cases hx:∃id lo m,x= .vw id lo m
 ·obtain⟨id,lo,m,rfl⟩:=hx;unfold rowsOf at h;simp only [cG]at h;split at h
  ·rename_i t' eW hb;injection h with h;injection h with h1 h2;injection h1 with h1;subst h1;subst h2;cases hv with
   |vw _ _ _ hd g o n c cap aA hv hc lU=>
    obtain⟨q1,q2,q3⟩:=hI.rep _ _ hd hb aA;have mE:rowsOf M (.aa id)=some (some t',eW):=by simp [cG,rowsOf,hb]
    obtain⟨hk,iC⟩:=Xi hI mE (λ_ _ _ e=>by cases e) (.aa id hd aA);have xo:∀(i:Nat) row,((eW.drop lo).take m)[i]?=some row->i<m∧eW[lo+i]?=some row:=by
     intro i row hi;rw [n8]at hi;split at hi
     ·rename_i z7;rw [oO]at hi;exact⟨z7,hi⟩
     ·cases hi
    refine⟨λi row hi=>hk _ row (xo i row hi).2,?_⟩;rcases iC with⟨h1,_⟩|⟨a,c2,h1,vss,hl,dL⟩
    ·rw [hv]at h1;cases h1
    ·rw [hv]at h1;injection h1 with e1 e2 e3;injection e1 with e1;refine .inr ⟨⟨g,o+lo*hd.sz,none⟩,cap,?_,(vss.drop lo).take m,?_,λi row vs hi jE=> ?_⟩
     ·exact aa5
     ·rw [lZ,sZ,lZ,sZ,hl]
     ·obtain⟨z7,hr⟩:=xo i row hi;have ayd:vss[lo+i]?=some vs:=by
       rw [n8,if_pos z7,oO]at jE;exact jE
      obtain⟨r1,r2⟩:=dL _ _ _ hr ayd;refine⟨r1,?_⟩;rw [<-e1,ju]at r2;rw [ju,q1,show o+lo*(X.K t').length +i*(X.K t').length =o+(lo+i)*(X.K t').length by rw [nY];omega];exact r2
   |rE=>exact⟨λi row hi=>uG,.inl ⟨rfl,by simp⟩⟩
   |rD _ _ a cap=>exact⟨λi row hi=>uG,.inr ⟨a,cap,by simp,[],by simp,λi row vs hi _=>uG⟩⟩
  ·cases h
 ·exact Xi hI h (λid lo m e=>hx ⟨id,lo,m,e⟩) hv
def FJ(M:ar)(x:AV)(k:Nat->Option R):Option R:=match x with| .aa id=>(match gm M id with|some (.aU _ xs _)=>k xs.length|_=>none)|_=>none
def Yv{k:Nat->Option R}(h:FJ M x k=some r):∃id t xs op,x= .aa id∧M[id]?=some (.aU t xs op)∧k xs.length=some r:=by
 unfold FJ at h;split at h
 ·rename_i id;split at h
  ·rename_i t xs op hb;rw [cG]at hb;exact⟨id,t,xs,op,rfl,hb,h⟩
  ·cases h
 ·cases h
def tt(X:Cx)(t:TypeId)(x:AV)(M:ar)(k:AV->Option R):Option R:=
 match(X.ti t).ok,(X.ti t).u,x with
 |true,.array n _,_=>k (.int .i64 n)
 |true,.str,.str s=>k (.int .i64 s.size)
 |true,.slice _,.kg _ m=>k (.int .i64 m)
 |true,.slice _,.vw _ _ m=>k (.int .i64 m)
 |true,.slice _,x=>match rowsOf M x with|some (_,xs)=>k (.int .i64 xs.length)|none=>FJ M x λn=>k (.int .i64 n)
 |_,_,_=>none
def anH(hX:X.Okb){ty:TypeId}(h:tt X t x M k=some r):
 ∃y,k y=some r∧∀{w0:World} {S:Sc} {F:aO} {ρ:aT} {w:World} {v:Value},Inv X w0 S F ρ M w->aw X.K ρ F w x v->∃u,(Builtin.len_ #[t] ty #[v]).run X.P w= .ok u w∧aw X.K ρ F w y u:=by
 unfold tt at h;split at h
 ·rename_i n e aQ hu;obtain⟨i,d,z,f⟩:=hX.facts aQ;have cE:=f.array hu;refine⟨_,h,λ{w0 S F ρ w v} hI hv=>⟨.int .i64 n,?_,.int _ _⟩⟩;exact Fg
 ·rename_i s aQ hu;obtain⟨i,d,z,f⟩:=hX.facts aQ;have cE:X.P.underlying t=some .string :=by
   have:=f.u;rw [hu]at this;cases d<;>simp [kJ]at this;exact f.iz
  refine⟨_,h,λ{w0 S F ρ w v} hI hv=>⟨.int .i64 s.size,?_,.int _ _⟩⟩;cases hv;exact Fg
 ·rename_i e id m aQ hu;obtain⟨i,d,z,f⟩:=hX.facts aQ;have cE:=f.slice hu;refine⟨_,h,λ{w0 S F ρ w v} hI hv=>⟨.int .i64 m,?_,.int _ _⟩⟩;cases hv;exact Fg
 ·rename_i e id lo m aQ hu;obtain⟨i,d,z,f⟩:=hX.facts aQ;have cE:=f.slice hu;refine⟨_,h,λ{w0 S F ρ w v} hI hv=>⟨.int .i64 m,?_,.int _ _⟩⟩;cases hv<;>(unfold Builtin.len_;simp [gL cE,goInt])
 ·rename_i e aQ hu _ _;obtain⟨i,d,z,f⟩:=hX.facts aQ;have cE:=f.slice hu;split at h
  ·rename_i o xs er;refine⟨_,h,λ{w0 S F ρ w v} hI hv=>⟨.int .i64 xs.length,?_,.int _ _⟩⟩;obtain⟨a,c,rfl⟩:=OV hI er hv;exact Fg
  ·obtain⟨id,t',xs,op,rfl,hb,h⟩:=Yv h;refine⟨_,h,λ{w0 S F ρ w v} hI hv=>⟨.int .i64 xs.length,?_,.int _ _⟩⟩;cases hv with
   |aa _ hd aA=>
    obtain⟨_,_,_,_,hq⟩:=hI.aU.rep hb aA;have hl:∃a c,hd.v= .slice a xs.length c:=by
     rcases hq with⟨hq,e⟩|⟨g,o,c,cur,hv,_⟩
     ·subst e;exact⟨_,_,hq⟩
     ·exact⟨_,_,hv⟩
    obtain⟨a,c,hv⟩:=hl;rw [hv];exact Fg
 ·cases h
def Tp(x y:Int):Int:=if y<x then y else x
def imax(x y:Int):Int:=if y>x then y else x
def zv(f:Int->Int->Int)(k:IntKind):Int->aD->Option Int
 |a,[]=>some a
 |a,.int k' b::rest=>match k==k' with|true=>zv f k (f a b) rest|false=>none
 |_,_=>none
def w7(f:Int->Int->Int)(xs:aD)(k:AV->Option R):Option R:=
 match xs with
 | .int kd a::rest=>match zv f kd a rest with|some n=>k (.int kd n)|none=>none
 |_=>none
def ZB{P:Program}{K:TypeId->dv}:∀(xs:aD) (kd:IntKind) (a n:Int) (vs:eU),zv Tp kd a xs=some n->cq K ρ F w xs vs->(vs.foldlM Builtin.min2 (.int kd a)).run P w= .ok (.int kd n) w
 | [],kd,a,n,vs,h,hr=>acs
 |x::xs,kd,a,n,vs,h,hr=>by
  cases x<;>simp only [zv]at h<;>try cases h
  rename_i k' b;split at h
  ·match vs,hr.1 with
   |v::vs,hl=>
    have hv:=hr.2 0 _ v rfl rfl;cases hv;rw [List.foldlM_cons,dO];simp only [Builtin.min2,fX,fg];exact ZB xs kd _ n vs h ⟨nv,λj y u hy hu=>hr.2 (j+1) y u (Bn) (yK)⟩
  ·cases h
def ZC{P:Program}{K:TypeId->dv}:∀(xs:aD) (kd:IntKind) (a n:Int) (vs:eU),zv imax kd a xs=some n->cq K ρ F w xs vs->(vs.foldlM Builtin.max2 (.int kd a)).run P w= .ok (.int kd n) w
 | [],kd,a,n,vs,h,hr=>acs
 |x::xs,kd,a,n,vs,h,hr=>by
  cases x<;>simp only [zv]at h<;>try cases h
  rename_i k' b;split at h
  ·match vs,hr.1 with
   |v::vs,hl=>
    have hv:=hr.2 0 _ v rfl rfl;cases hv;rw [List.foldlM_cons,dO];simp only [Builtin.max2,fX,fg];exact ZC xs kd _ n vs h ⟨nv,λj y u hy hu=>hr.2 (j+1) y u (Bn) (yK)⟩
  ·cases h
def aoD{xs:aD}(h:w7 Tp xs k=some r):
 ∃y,k y=some r∧∀{ρ:aT} {F:aO} {w:World} {vs:eU} (ts:Array TypeId) (ty:TypeId),cq K ρ F w xs vs->∃u,(Builtin.min_ ts ty vs.toArray).run P w= .ok u w∧aw K ρ F w y u:=by
 unfold w7 at h;split at h
 ·rename_i kd a rest;split at h
  ·rename_i n hn;refine⟨_,h,λ{ρ F w vs} ts ty hr=> ?_⟩
   match vs,hr.1 with
   |v::vs,hl=>
    have hv:=hr.2 0 _ v rfl rfl;cases hv;exact⟨_,by simpa [Builtin.min_]using ZB (P:=P) rest kd a n vs hn ⟨nv,λj y u hy hu=>hr.2 (j+1) y u (Bn) (yK)⟩,.int _ _⟩
  ·cases h
 ·cases h
def aoE{xs:aD}(h:w7 imax xs k=some r):
 ∃y,k y=some r∧∀{ρ:aT} {F:aO} {w:World} {vs:eU} (ts:Array TypeId) (ty:TypeId),cq K ρ F w xs vs->∃u,(Builtin.max_ ts ty vs.toArray).run P w= .ok u w∧aw K ρ F w y u:=by
 unfold w7 at h;split at h
 ·rename_i kd a rest;split at h
  ·rename_i n hn;refine⟨_,h,λ{ρ F w vs} ts ty hr=> ?_⟩
   match vs,hr.1 with
   |v::vs,hl=>
    have hv:=hr.2 0 _ v rfl rfl;cases hv;exact⟨_,by simpa [Builtin.max_]using ZC (P:=P) rest kd a n vs hn ⟨nv,λj y u hy hu=>hr.2 (j+1) y u (Bn) (yK)⟩,.int _ _⟩
  ·cases h
 ·cases h
def tp(place:Nat->Option (Nat×Nat)):aD->bA->Option aD
 |cells,[]=>some cells
 |cells,(i,x)::rest=>
  match place i with
  |none=>none
  |some (off,size)=>
   match x.plain&&x.cells.length==size&&decide (off+size<=cells.length)with
   |true=>tp place (setAt cells off x.cells) rest
   |false=>none
def N9(off:Nat):∀(vs:List (Value×Nat)) (cs:Array Value),(vs.foldl (λcs (x:Value×Nat)=>cs.setIfInBounds (off+x.2) x.1) cs).size =cs.size
 | [],cs=>rfl
 |x::vs,cs=>by simp [N9 off vs]
def Xn(off:Nat):∀(vs:eU) (n:Nat) (cs:Array Value),off+n+vs.length<=cs.size->∀j:Nat,
 ((vs.zipIdx n).foldl (λcs (x:Value×Nat)=>cs.setIfInBounds (off+x.2) x.1) cs)[j]?=if off+n<=j∧j<off+n+vs.length then vs[j-(off+n)]? else cs[j]?
 | [],n,cs,_,j=>eR
 |v::vs,n,cs,h,j=>by
  simp only [gE]at h;rw [Qn,nX,Xn off vs (n+1) _ (eR) j]
  by_cases h1:j=off+n
  ·subst h1;rw [if_neg (by omega),if_pos (by simp)];have aY:off+n<cs.size:=by omega
   simp [aY]
  ·by_cases h2:off+(n+1)<=j∧j<off+(n+1)+vs.length
   ·rw [if_pos h2,if_pos (eR),show j-(off+n)=(j-(off+(n+1)))+1 by omega];simp
   ·rw [if_neg h2,if_neg (eR),IP (by omega)]
def AO(mA:∀(id:Nat) hd,ρ[id]?=some hd->hd.v.oneCell'=true){K:TypeId->dv}{place:Nat->Option (Nat×Nat)}:∀(ps:bA) (cs out:aD) (vs:Array Value) (pv:List (Nat×Value)),tp place cs ps=some out->cq K ρ F w cs vs.toList->
 pv.length=ps.length->(∀(j:Nat) p q,ps[j]?=some p->pv[j]?=some q->p.1=q.1∧aw K ρ F w p.2 q.2)->∃us,Instr.fill place vs pv=some us∧cq K ρ F w out us.toList
 | [],cs,out,vs,pv,h,hr,hl,_=>by
   simp only [tp,Option.some.injEq]at h;subst h
   match pv,hl with
   | [],_=>exact⟨vs,rfl,hr⟩
 |(i,x)::ps,cs,out,vs,pv,h,hr,hl,hp=>by
  match pv,hl with
  |(i',v)::pv,hl=>
   obtain⟨e,hx⟩:=hp 0 _ _ rfl rfl;simp only at e hx;subst e;simp only [tp]at h;split at h
   ·cases h
   ·rename_i off size pj;split at h
    ·rename_i ad4;simp only [bc,fJ,fr]at ad4;obtain⟨⟨arQ,hlen⟩,hb⟩:=ad4;have nK:=hx.cells (DP arQ) mA;have xX:=nK.1;have dy:=hr.1;simp only [k8]at xX dy;have cX:v.cells.size=size:=by omega
     have jX:cq K ρ F w (setAt cs off x.cells) (v.cells.zipIdx.foldl (λcs (x:Value×Nat)=>cs.setIfInBounds (off+x.2) x.1) vs).toList :=by
      rw [<-Ql,Array.toList_zipIdx];refine⟨by rw [k8,N9,AK];exact dy,λj y u hy hu=> ?_⟩;rw [Ej,Xn off v.cells.toList 0 vs (eR) j]at hu;rw [yp x.cells cs off (by omega) j]at hy;simp only [Bb,k8]at hu;rw [cX]at hu;rw [hlen]at hy
      by_cases hj:off<=j∧j<off+size
      ·rw [if_pos hj]at hy hu;exact nK.2 _ y u hy hu
      ·rw [if_neg hj]at hy hu;exact hr.2 j y u hy (Rc)
     obtain⟨us,h1,h2⟩:=AO mA ps _ out _ pv h jX (nv) (λj p q oD hq=>hp (j+1) p q (by simpa using oD) (EK));refine⟨us,?_,h2⟩;have dL:vs.size=cs.length:=dy;have gN:¬(v.cells.size≠size∨off+v.cells.size>vs.size):=by omega
     simp only [Instr.fill,pj];rw [if_neg (by simpa using gN)];exact h1
    ·cases h
end
end Go.ae
namespace Go.ae
def qu{p:Prop}(h:p:=by simpa using h1):p:=h
def aci{p:Prop}(h:p:=by have:=aw.agg (K:=X.K) (ρ:=ρ) (F:=F) (w:=w) cs us.toList hr.1 hr.2;simpa using this):p:=h
end Go.ae
namespace Go.ae
def nV:=@List.mem_map
def fI:=@List.length_map
def ZL:=@List.getElem?_cons_succ
def ZK:=@List.drop_drop
def ZJ:=@List.getElem?_zipWith
def ZI:=@Go.RowKit.Below.heap_alloc
end Go.ae
namespace Go.ae
open Go
noncomputable section
variable {X:Cx} {R:Type}
variable {w0 w w':World} {S:Sc} {F:aO} {ρ:aT} {M:ar}
variable{t:TypeId}
def H3(X:Cx)(fs:List (Nat×TypeId))(i:Nat):Option (Nat×Nat):=(fs[i]?).map λp=>(p.1,(X.ti p.2).size)
def Ew(X:Cx)(t:TypeId)(ps:bA)(k:AV->Option R):Option R:=
 match(X.ti t).ok,(X.ti t).u with
 |true,.struct fs=>aB (fs.all λp=>(X.ti p.2).ok) (match tp (H3 X fs) (X.ti t).zero ps with|some cs=>k (.agg cs)|none=>none)
 |true,.array _ e=>aB ((X.ti e).ok) (match tp (λi=>some (i*(X.ti e).size,(X.ti e).size)) (X.ti t).zero ps with|some cs=>k (.agg cs)|none=>none)
 |_,_=>none
def W5(hX:X.Okb):∀(fs:List Field),(∀f∈fs,(X.ti f.type).ok =true)->∀w,(fs.mapM λf=>do pure (f.offset,<-sizeOf f.type):Sem (List (Nat×Nat))).run X.P w= .ok (fs.map λf=>(f.offset,(X.ti f.type).size)) w
 | [],_,w=>rfl
 |f::fs,h,w=>by
  obtain⟨i,d,z,ff⟩:=hX.facts (h f (by simp));rw [List.mapM_cons];simp only [dO,ff.sizeOf,fg,fX,W5 hX fs (λg hg=>h g (by simp [hg])) w,fW]
def amO(hX:X.Okb){ps:bA}{k:AV->Option R}{r:R}(h:Ew X t ps k=some r):
 ∃y,k y=some r∧∀{w0:World} {S:Sc} {F:aO} {ρ:aT} {w:World} (pv:List (Nat×Value)),Inv X w0 S F ρ M w->pv.length=ps.length->
  (∀(j:Nat) p q,ps[j]?=some p->pv[j]?=some q->p.1=q.1∧aw X.K ρ F w p.2 q.2)->∃u,(Instr.build t pv.toArray).run X.P w= .ok u w∧aw X.K ρ F w y u:=by
 unfold Ew at h;split at h
 ·rename_i fs aQ hu;replace h:=bG h;obtain⟨h1,h⟩:=h;obtain⟨i,d,z,f⟩:=hX.facts aQ;obtain⟨gs,cE,dC⟩:=f.struct hu;split at h
  ·rename_i cs ri;refine⟨_,h,λ{w0 S F ρ w} pv hI hl hp=> ?_⟩;have hz:cq X.K ρ F w (X.ti t).zero z.cells.toList:=BJ;obtain⟨us,hf,hr⟩:=AO hI.one ps _ cs z.cells pv ri hz hl hp;refine⟨.agg us,?_,aci⟩;have iy:∀g∈gs.toList,(X.ti g.type).ok =true:=by
    intro g hg;rw [iQ]at h1;exact h1 (g.offset,g.type) (by rw [dC];exact nV.2 ⟨g,hg,rfl⟩)
   have pj:(gs.mapM λf=>do pure (f.offset,<-sizeOf f.type):Sem (Array (Nat×Nat))).run X.P w= .ok (gs.toList.map λf=>(f.offset,(X.ti f.type).size)).toArray w:=by
    rw [Array.mapM_eq_mapM_toList,Sem.run_map,W5 hX gs.toList iy w];rfl
   have yP:(λi=>(gs.toList.map λf=>(f.offset,(X.ti f.type).size)).toArray[i]?)=H3 X fs:=by
    funext i
    rw [dC];simp [H3];cases gs[i]?<;>rfl
   unfold Instr.build;simp only [dO,f.zeroValue,fg,gL cE,pj];rw [show(λx=>(gs.toList.map λf=>(f.offset,(X.ti f.type).size)).toArray[x]?)=H3 X fs from yP,hf];rfl
  ·cases h
 ·rename_i n e aQ hu;replace h:=bG h;obtain⟨h1,h⟩:=h;obtain⟨i,d,z,f⟩:=hX.facts aQ;obtain⟨i2,d2,z2,f2⟩:=hX.facts h1;have cE:=f.array hu;split at h
  ·rename_i cs ri;refine⟨_,h,λ{w0 S F ρ w} pv hI hl hp=> ?_⟩;have hz:cq X.K ρ F w (X.ti t).zero z.cells.toList:=BJ;obtain⟨us,hf,hr⟩:=AO hI.one ps _ cs z.cells pv ri hz hl hp;refine⟨.agg us,?_,aci⟩;unfold Instr.build;simp only [dO,f.zeroValue,fg,gL cE,f2.sizeOf];rw [hf];rfl
  ·cases h
 ·cases h
def chunk(sz:Nat):Nat->aD->aH
 |0,_=>[]
 |n+1,l=>l.take sz::chunk sz n (l.drop sz)
def yl(sz:Nat):∀(n:Nat) (l:aD),(chunk sz n l).length =n
 |0,_=>rfl
 |n+1,l=>by simp [chunk,yl sz n]
def YO(sz:Nat):∀(n:Nat) (l:aD) (i:Nat),i<n->(chunk sz n l)[i]?=some ((l.drop (i*sz)).take sz)
 |0,_,_,h=>by omega
 |n+1,l,0,_=>by simp [chunk]
 |n+1,l,i+1,h=>by
  simp only [chunk,ZL];rw [YO sz n _ i (by omega),ZK]
  congr 3
  rw [nY];omega
def zc:Kind->AV->AV| .slice t,.fD => .U t []|_,x=>x
def kI(X:Cx)(t:TypeId):Row:=List.zipWith zc (X.ti t).ks (X.ti t).zero
def arl{k:Kind}{K:TypeId->dv}{x:AV}{v:Value}(h:aw K ρ F w x v):aw K ρ F w (zc k x) v:=by
 unfold zc;split
 ·cases h;exact .iS _
 ·exact h
def Pf{i:TypeInfo}{d:TypeDesc}{z:Value}(f:la X t i d z):cq X.K ρ F w (kI X t) z.cells.toList:=by
 have hz:cq X.K ρ F w (X.ti t).zero z.cells.toList:=BJ;have hl:(X.ti t).zero.length =(X.ti t).ks.length :=by rw [f.ks,f.zc,fI,k8,f.zs]
 refine⟨by rw [hz.1];simp [kI,hl],λj x v hx hv=> ?_⟩;unfold kI at hx;rw [ZJ]at hx;cases hk:(X.ti t).ks[j]? with
 |none=>simp [hk]at hx
 |some k=>
  cases sx:(X.ti t).zero[j]? with
  |none=>simp [hk,sx]at hx
  |some y=>
   simp only [hk,sx,Option.some.injEq]at hx;subst hx;exact arl (hz.2 j y v sx hv)
def Inv.newRow(hI:Inv X w0 S F ρ M w){xs:aH}{cur:Array Value}{c:Nat}(hk:∀(i:Nat) row,xs[i]?=some row->cZ (X.K t) row=true)(oF:xs.length<=c)(gv:c<=maxLen)
 (FV:c*(X.K t).length <=cur.size) (hr:∀(i:Nat) row,xs[i]?=some row->∀(j:Nat) x,row[j]?=some x->∃v,cur[i*(X.K t).length +j]?=some v∧aw X.K ρ F w x v) (hg:w.grownBy w' none) (cX:w'.heap.size=w.heap.size):
 Inv X w0 S F (ρ++[⟨.slice (some ⟨w.heap.size,0,none⟩) xs.length c,(X.K t).length⟩]) (M++[.row t xs]) (w'.alloc (.cells cur t))∧
 bH F F ρ (ρ++[⟨.slice (some ⟨w.heap.size,0,none⟩) xs.length c,(X.K t).length⟩]) w (w'.alloc (.cells cur t)):=by
 have fU:w.grownBy (w'.alloc (.cells cur t)) none:=⟨hg.os,hg.tape,hg.output,eR,λk hk _=>(ZI w' _ k (by omega)).trans (hg.block k hk (by simp))⟩;have j7:bH F F ρ (ρ++[⟨.slice (some ⟨w.heap.size,0,none⟩) xs.length c,(X.K t).length⟩]) w (w'.alloc (.cells cur t)):=
  ⟨λ_ h=>h,λ_ _ h=>jr h,hI.rB fU (by simp)⟩
 refine⟨hI.push fU (hd:=⟨.slice (some ⟨w.heap.size,0,none⟩) xs.length c,(X.K t).length⟩) ?_ rfl ?_,j7⟩
 ·intro g ij;simp [Hd.b9,Value.b9]at ij;subst ij;exact eR
 ·refine⟨rfl,hk,.inr ⟨w.heap.size,0,c,cur,rfl,by rw [<-cX];exact Ef w' _,oF,gv,by simpa using FV,λi row hi j x hx=> ?_⟩⟩;obtain⟨v,h1,h2⟩:=hr i row hi j x hx;exact⟨v,qu,h2.grow j7⟩
def ux{hd:Hd}(hl:ρ.length=M.length):aw X.K (ρ++[hd]) F w (.aa M.length) hd.v:= .aa _ _ (by rw [<-hl];simp)
def vq(X:Cx)(e:TypeId):bA->ar->(bA->ar->Option R)->Option R
 | [],M,c=>c [] M
 |(i,x)::ps,M,c=>
  match(X.ti e).u.agg,x with
  |true,.agg cs=>ru (X.ti e).ks cs M λqj M'=>vq X e ps M' λmC ue=>c ((i,.agg qj)::mC) ue
  |false,x=>fp ((X.ti e).ks.headD .raw) x M λx' M'=>vq X e ps M' λmC ue=>c ((i,x')::mC) ue
  |_,_=>none
def am8(y:AV)(j:Nat)(hj:j∈mJ y):j∈y.cells.flatMap mJ:=by
 cases y with
 |aa id=>simpa [AV.cells]using hj
 |_=>exact absurd hj (by simp [mJ])
def Yi{e:TypeId}:∀(ps:bA) (M:ar) {c:bA->ar->Option R} {r:R},vq X e ps M c=some r->
 ∃mC M',c mC M'=some r∧M'.length=M.length∧mC.length=ps.length∧cz (ps.flatMap λp=>p.2.cells.flatMap mJ) M M'∧∀{w0:World} {S:Sc} {F:aO} {ρ:aT} {w:World},Inv X w0 S F ρ M w->∃F',Inv X w0 S F' ρ M' w∧bH F F' ρ ρ w w∧
  ∀pv:List (Nat×Value),pv.length=ps.length->(∀(j:Nat) p q,ps[j]?=some p->pv[j]?=some q->p.1=q.1∧aw X.K ρ F w p.2 q.2)->(∀(j:Nat) p q,mC[j]?=some p->pv[j]?=some q->p.1=q.1∧aw X.K ρ F' w p.2 q.2)
 | [],M,c,r,h=>⟨[],M,h,rfl,rfl,cz.refl _ _,λ{w0 S F ρ w} hI=>⟨F,hI,bH.refl _ _ _,λ_ _ h=>h⟩⟩
 |(i,x)::ps,M,c,r,h=>by
  simp only [vq]at h;have fin:∀(x':AV) (M1:ar),M1.length=M.length->cz (x.cells.flatMap mJ) M M1->(∀{w0:World} {S:Sc} {F:aO} {ρ:aT} {w:World},Inv X w0 S F ρ M w->∃F',Inv X w0 S F' ρ M1 w∧bH F F' ρ ρ w w∧∀v,aw X.K ρ F w x v->aw X.K ρ F' w x' v)->
   vq X e ps M1 (λmC ue=>c ((i,x')::mC) ue)=some r->∃mC M',c mC M'=some r∧M'.length=M.length∧mC.length=((i,x)::ps).length ∧cz (((i,x)::ps).flatMap λp=>p.2.cells.flatMap mJ) M M'∧∀{w0:World} {S:Sc} {F:aO} {ρ:aT} {w:World},Inv X w0 S F ρ M w->∃F',Inv X w0 S F' ρ M' w∧bH F F' ρ ρ w w∧
   ∀pv:List (Nat×Value),pv.length=((i,x)::ps).length ->(∀(j:Nat) p q,((i,x)::ps)[j]?=some p->pv[j]?=some q->p.1=q.1∧aw X.K ρ F w p.2 q.2)->(∀(j:Nat) p q,mC[j]?=some p->pv[j]?=some q->p.1=q.1∧aw X.K ρ F' w p.2 q.2):=by
   intro x' M1 gS Ab h1 h;obtain⟨mC,M2,h,kj,hl3,U3,h2⟩:=Yi ps M1 h;refine⟨_,_,h,by omega,by simp [hl3],by rw [kZ];exact Ab.trans U3,λ{w0 S F ρ w} hI=> ?_⟩;obtain⟨F1,i1,g1,r1⟩:=h1 hI;obtain⟨F2,i2,g2,r2⟩:=h2 i1;refine⟨F2,i2,g1.trans g2,λpv hl hp=> ?_⟩
   match pv,hl with
   |q0::pv,hl=>
    obtain⟨e0,LD⟩:=hp 0 _ _ rfl rfl;have asV:=r2 pv (nv) (λj p q GD GB=>by
     obtain⟨a,b⟩:=hp (j+1) p q (by simpa using GD) (by simpa using GB);exact⟨a,b.grow g1⟩)
    intro j p q GD GB;cases j with
    |zero=>simp at GD GB;subst GD;subst GB;exact⟨e0,(r1 _ LD).grow g2⟩
    |succ j=>exact asV j p q (by simpa using GD) (by simpa using GB)
  split at h
  ·rename_i cs ha;obtain⟨qj,M1,h,gS,Ab,h1⟩:=DV (X:=X) _ _ _ h;refine fin (.agg qj) M1 gS Ab (λ{w0 S F ρ w} hI=> ?_) h;obtain⟨F1,i1,g1,r1⟩:=h1 hI;refine⟨F1,i1,g1,λv hv=> ?_⟩;cases hv with
   |agg _ vs hl hr=>
    have:=r1 vs ⟨hl,hr⟩;exact .agg _ _ this.1 this.2
  ·obtain⟨x',M1,h,gS,Ab,h1⟩:=yw (X:=X) h;refine fin x' M1 gS (Ab.mono λi hi=> ?_) h1 h;exact am8 _ _ hi
  ·cases h
def DM(X:Cx)(t:TypeId)(len:Nat)(ps:bA)(M:ar)(k:AV->ar->Option R):Option R:=
 match(X.ti t).ok,(X.ti t).u with
 |true,.slice e=>
  aB ((X.ti e).ok &&decide (0<(X.ti e).size)&&decide (len*(X.ti e).size <=16777216))
   (vq X e ps M λmC M1=>
     match tp (λi=>some (i*(X.ti e).size,(X.ti e).size)) ((List.replicate len (kI X e)).flatten) mC with
     |some cs=>
      aB ((chunk (X.ti e).size len cs).all λrow=>cZ (X.K e) row) (k (.aa M1.length) (M1++[.row e (chunk (X.ti e).size len cs)]))
     |none=>none)
 |_,_=>none
end
end Go.ae
namespace Go.ae
def afv{p:Prop}(h:p:=by
 have h1:us.size=len*z2.cells.size:=by
  have aux:∀(pv:List (Nat×Value)) (place:Nat->Option (Nat×Nat)) (a b:Array Value),Instr.fill place a pv=some b->b.size=a.size:=by
   intro pv
   induction pv with
   |nil=>intro place a b h;simp only [Instr.fill,Option.some.injEq]at h;rw [h]
   |cons p pv ih=>
    obtain⟨ix,v⟩:=p;intro place a b h;simp only [Instr.fill]at h;split at h
    ·cases h
    ·split at h
     ·cases h
     ·have:=ih place _ b h;rw [this,<-Ql];exact N9 _ _ _
  have:=aux pv _ _ us hf;simpa using this
 have:=hr.1;simp only [k8]at this;rw [<-this,h1,nJ]):p:=h
def afu{p:Prop}(h:p:=by
 unfold Instr.buildSlice;simp only [dO,gL cE,fg,f2.sizeOf];rw [if_neg (by omega)]
 by_cases h0:len*(X.ti e).size =0
 ·have e0:(Array.range (len*z2.cells.size)).map (z2.cells[· %z2.cells.size]!)= #[]:=by rw [nJ,h0];simp
  rw [e0]at hf;rw [if_pos h0];simp only [dO,fX,fg];have e1:(Array.range (len*(X.ti e).size)).map (λx=>(#[]:Array Value)[x %(#[]:Array Value).size]!)= #[]:=by rw [h0];simp
  rw [e1,hf];simp only [newRow,dO,A1,fg,fX,A0]
 ·rw [if_neg h0];simp only [dO,fX,fg,f2.zeroValue];rw [nJ]at hf;rw [nJ,hf];simp only [newRow,dO,A1,fg,fX,A0]):p:=h
def ea{p:Prop}(h:p:=by decide):p:=h
def adD{p:Prop}(h:p:=by
 have h2:cn<=cn*(X.ti e).bytes :=Is _ GO;have h3:((cn*(X.ti e).bytes :Nat):Int)<=140737488355328:=by rw [Int.natCast_mul];exact sF
 generalize cn*(X.ti e).bytes =m at*;omega):p:=h
def Sa{p:Prop}(h:p:=by
 rw [Y3 z2.cells (by omega)];exact Xa (Pf f2) len):p:=h
def JT{p:Prop}(h:p:=by simp [IntKind.wrap,IntKind.bits,IntKind.signed];omega):p:=h
def Fh{p:Prop}(h:p:=by have:=(cy.1 hi).1;simpa using this):p:=h
def acy{p:Prop}(h:p:=by
 have:(i2.bytes:Int)*(ln:Int)<=(i2.bytes:Int)*(cn:Int):=aoW (by omega) (by omega);omega):p:=h
def EV{p:Prop}(h:p:=by rw [f2.size];exact f2.zs):p:=h
def acd{p:Prop}(h:p:=by
 rw [gj hj]at hx;rw [gj (by rw [h.1];exact hj)]at hv;exact h.2 j x v hx hv):p:=h
def abY{p:Prop}(h:p:=by rw [jT,nJ,YV,YW,PJ (by omega)]):p:=h
def aaX{p:Prop}(h:p:=by rw [<-f2.bytes,Int.mul_comm];exact sF):p:=h
end Go.ae
namespace Go.ae
def yC:=@List.length_range
def mv:=@List.append_nil
def Is:=@Nat.le_mul_of_pos_right
def Ea:=@Nat.sub_self
def D8:=@List.getElem?_eq_none
def PJ:=@Nat.mod_eq_of_lt
def Im:=@List.replicate_succ
def Y0:=@List.set_append_right
def wi:=@List.getElem?_replicate
def PF:=@List.ext_getElem?
def uo:=@Int.eq_ofNat_of_zero_le
def yx:=@List.flatten_cons
def YW:=@Nat.add_mul_mod_self_right
def Pz:=@getElem!_pos
def YV:=@Nat.add_comm
def aoW:=@Int.mul_le_mul_of_nonneg_left
end Go.ae
namespace Go.ae
open Go
noncomputable section
variable {X:Cx} {R:Type}
variable {w0 w w':World} {S:Sc} {F:aO} {ρ:aT} {M:ar}
def D1{n:Nat}(h:n<=140737488355328):n<=maxLen:=j5 h (ea)
def Xa{K:TypeId->dv}{row:Row}{vs:eU}(h:cq K ρ F w row vs):∀n,cq K ρ F w (List.replicate n row).flatten (List.replicate n vs).flatten
 |0=>⟨rfl,λj x v hx _=>tc⟩
 |n+1=>by
  have ih:=Xa h n;rw [Im,Im,yx,yx];refine⟨by rw [fC,fC,h.1,ih.1],λj x v hx hv=> ?_⟩
  by_cases hj:j<row.length
  ·exact acd
  ·rw [jt (by omega)]at hx;rw [jt (by rw [h.1];omega),h.1]at hv;exact ih.2 _ x v hx hv
def Y3(vs:Array Value)(hs:0<vs.size):∀n,((Array.range (n*vs.size)).map (vs[· %vs.size]!)).toList =(List.replicate n vs.toList).flatten :=by
 intro n
 induction n with
 |zero=>simp
 |succ n ih=>
  rw [List.replicate_succ',List.flatten_append,<-ih];apply PF;intro j;simp only [Array.toList_map,Array.toList_range,gW,yx,List.flatten_nil,mv];have e:(n+1)*vs.size=n*vs.size+vs.size:=by rw [nY,PN]
  by_cases h1:j<n*vs.size
  ·rw [gj (qu),qX (by omega),gW,qX h1]
  ·by_cases h2:j<(n+1)*vs.size
   ·rw [jt (eR),qX h2];simp only [fI,yC,jv];have h3:j %vs.size=j- n*vs.size:=by
     rw [show j=(j- n*vs.size)+n*vs.size by omega,YW,PJ (by omega)];omega
    have h4:j- n*vs.size<vs.size:=by omega
    rw [h3,Ej,AZ h4,Pz vs _ h4]
   ·rw [jt (eR),D8 (eR),D8 (eR)];rfl
def YN{K:TypeId->dv}{cs:aD}{us:eU}(h:cq K ρ F w cs us){sz n:Nat}{i:Nat}{row:Row}(hi:(chunk sz n cs)[i]?=some row){j:Nat}{x:AV}(hx:row[j]?=some x):
 ∃v,us[i*sz+j]?=some v∧aw K ρ F w x v:=by
 have lR:i<n:=by have:=(cy.1 hi).1;rwa [yl]at this
 rw [YO sz n cs i lR]at hi;injection hi with hi;subst hi;rw [n8]at hx;split at hx
 ·rw [oO]at hx;have aY:=(cy.1 hx).1;have hl:=h.1;have hu:us[i*sz+j]?=some (us[i*sz+j]'(by omega)):=cJ (by omega);exact⟨_,hu,h.2 _ x _ hx hu⟩
 ·cases hx
def WK(hX:X.Okb){t:TypeId}{len:Nat}{ps:bA}{k:AV->ar->Option R}{r:R}(h:DM X t len ps M k=some r):
 ∃y M',k y M'=some r∧cz (ps.flatMap λp=>p.2.cells.flatMap mJ) M M'∧∀{w0:World} {S:Sc} {F:aO} {ρ:aT} {w:World} (pv:List (Nat×Value)),Inv X w0 S F ρ M w->pv.length=ps.length->
  (∀(j:Nat) p q,ps[j]?=some p->pv[j]?=some q->p.1=q.1∧aw X.K ρ F w p.2 q.2)->
  ∃v w' ρ' F',(Instr.buildSlice t len pv.toArray).run X.P w= .ok v w'∧Inv X w0 S F' ρ' M' w'∧bH F F' ρ ρ' w w'∧aw X.K ρ' F' w' y v∧∀g,g<w.heap.size->w'.heap[g]?=w.heap[g]?:=by
 unfold DM at h;split at h
 ·rename_i e aQ hu;replace h:=bG h;obtain⟨h1,h⟩:=h;simp only [bc,fr]at h1;obtain⟨⟨he,mc⟩,iV⟩:=h1;obtain⟨i,d,z,f⟩:=hX.facts aQ;obtain⟨i2,d2,z2,f2⟩:=hX.facts he;have cE:=f.slice hu;obtain⟨mC,M1,h,gS,kj,ei,CV⟩:=Yi _ _ h;split at h
  ·rename_i cs ri;replace h:=bG h;obtain⟨iB,h⟩:=h;refine⟨_,_,h,(ei.trans (cz.push [] _ _)).mono (by simp),λ{w0 S F0 ρ w} pv kq hl hp=> ?_⟩;obtain⟨F,hI,nN,z0⟩:=CV kq;have oD:=z0 pv hl hp;have nJ:z2.cells.size=(X.ti e).size :=EV;have jT:(X.K e).length =(X.ti e).size :=uN;have hz:cq X.K ρ F w (List.replicate len (kI X e)).flatten ((Array.range (len*z2.cells.size)).map (z2.cells[· %z2.cells.size]!)).toList :=Sa;obtain⟨us,hf,hr⟩:=AO hI.one mC _ cs _ pv ri hz (by omega) oD;have ayz:cs.length=len*(X.ti e).size :=afv;have Fj:=hI.newRow (t:=e) (xs:=chunk (X.ti e).size len cs) (cur:=us) (c:=len) (λi row hi=>by
    rw [iQ]at iB;exact iB row (kY hi)) (by rw [yl];exact dZ _)
    (by
      have:len<=len*(X.ti e).size :=Is _ mc;exact D1 (by omega))
    (by have:=hr.1;simp only [k8]at this;rw [jT];omega)
    (λi row hi j x hx=>by
      obtain⟨v,h1,h2⟩:=YN hr hi hx;rw [jT];exact⟨v,by rw [Ej]at h1;exact h1,h2⟩)
    (w':=w) ⟨rfl,rfl,rfl,dZ _,λ_ _ _=>rfl⟩ rfl
   refine⟨.slice (some ⟨w.heap.size,0,none⟩) len len,_,_,F,?_,Fj.1,nN.trans Fj.2,?_,λg hg=>ZI w _ g hg⟩
   ·exact afu
   ·have:=ux (X:=X) (F:=F) (w:=w.alloc (.cells us e)) (hd:=⟨.slice (some ⟨w.heap.size,0,none⟩) (chunk (X.ti e).size len cs).length len,(X.K e).length⟩) hI.len;simpa [yl]using this
  ·cases h
 ·cases h
def OO(X:Cx)(t:TypeId)(l c:AV)(M:ar)(k:AV->ar->Option R):Option R:=
 match(X.ti t).ok,(X.ti t).u,l,c with
 |true,.slice e,.int _ l,.int _ c=>
  aB ((X.ti e).ok &&decide (0<(X.ti e).size)&&decide (0<(X.ti e).bytes)&&cZ (X.K e) (kI X e)&&(decide (0<=l)&&decide (l<=c)&&decide (c*(X.ti e).bytes <=140737488355328)))
   (k (.aa M.length) (M++[.row e (List.replicate l.toNat (kI X e))]))
 |_,_,_,_=>none
def akU(hX:X.Okb){t:TypeId}{l c:AV}{k:AV->ar->Option R}{r:R}(h:OO X t l c M k=some r):
 ∃y M',k y M'=some r∧cz [] M M'∧∀{vl vc:Value},vv X M y M' (λρ F w=>aw X.K ρ F w l vl∧aw X.K ρ F w c vc) (Instr.makeSlice t vl vc):=by
 unfold OO at h;split at h
 ·rename_i e k1 l k2 c aQ hu;replace h:=bG h;obtain⟨h1,h⟩:=h;simp only [bc,fr]at h1;obtain⟨⟨⟨⟨he,mc⟩,GO⟩,tT⟩,⟨kS,jq⟩,sF⟩:=h1;obtain⟨i,d,z,f⟩:=hX.facts aQ;obtain⟨i2,d2,z2,f2⟩:=hX.facts he;have cE:=f.slice hu;have nJ:z2.cells.size=(X.ti e).size :=EV;have jT:(X.K e).length =(X.ti e).size :=uN;obtain⟨cn,rfl⟩:=uo (show 0<=c by omega);obtain⟨ln,rfl⟩:=uo kS;have lT:cn<=140737488355328:=adD;have x8:ln<=cn:=by omega
  refine⟨_,_,h,cz.push _ _ _,λ{vl vc w0 S F ρ w} hI hv=> ?_⟩;obtain⟨h1,h2⟩:=hv;cases h1;cases h2;have Fj:=hI.newRow (t:=e) (xs:=List.replicate ln (kI X e)) (cur:=(Array.range (cn*(X.ti e).size)).map (z2.cells[· %z2.cells.size]!)) (c:=cn) (λi row hi=>by
   have:=kY hi;rw [List.mem_replicate]at this;rw [this.2];exact tT) (by simpa using x8) (D1 lT) (by simp [jT])
   (λi row hi j x hx=>by
     have lR:i<ln:=Fh;rw [wi,if_pos lR]at hi;injection hi with hi;subst hi;have Gy:=Pf (X:=X) (ρ:=ρ) (F:=F) (w:=w) f2;have hj:=(cy.1 hx).1;have kj:=Gy.1;simp only [k8]at kj;have vN:j<z2.cells.size:=by omega
     have Tz:i*(X.K e).length +j<cn*(X.ti e).size :=by
      rw [jT];have:(i+1)*(X.ti e).size <=cn*(X.ti e).size :=nj _ (by omega);exact uO
     have hm:(i*(X.K e).length +j) %z2.cells.size=j:=abY;refine⟨z2.cells[j],?_,Gy.2 j x _ hx (by simp [vN])⟩;rw [Array.getElem?_map,Array.getElem?_range,if_pos Tz];simp only [jv,hm];rw [Pz z2.cells j vN])
   (w':=w) ⟨rfl,rfl,rfl,dZ _,λ_ _ _=>rfl⟩ rfl
  refine⟨.slice (some ⟨w.heap.size,0,none⟩) ln cn,_,_,F,?_,Fj.1,Fj.2,?_⟩
  ·have Us:IntKind.i64.wrap (ln:Int)=ln:=by simp [IntKind.wrap,IntKind.bits,IntKind.signed];omega
   have Ut:IntKind.i64.wrap (cn:Int)=cn:=JT;have gw:(i2.bytes:Int)*(cn:Int)<=140737488355328:=aaX;have hbl:(i2.bytes:Int)*(ln:Int)<=140737488355328:=acy;have gN:¬((((cn:Int)<0∨(281474976710656:Int)<(i2.bytes:Int)*(cn:Int))∨(ln:Int)<0)∨(cn:Int)<(ln:Int)):=by omega
   unfold Instr.makeSlice;simp only [dO,gL cE,fg,asInt,asIntOf,fX,f2.typeInfo,Us,Ut];rw [if_neg (by simpa using gN)]
   by_cases h0:cn*(X.ti e).size =0
   ·have:cn=0:=by rcases Nat.mul_eq_zero.1 h0 with h|h;exact h;omega
    subst this;have e9:∀g:Nat->Value,(Array.range 0).map g= #[]:=by intro g;simp
    simp [f2.sizeOf,newRow,e9]
   ·simp [f2.sizeOf,newRow,f2.zeroValue,h0]
  ·have:=ux (X:=X) (F:=F) (w:=w.alloc (.cells ((Array.range (cn*(X.ti e).size)).map (z2.cells[· %z2.cells.size]!)) e)) (hd:=⟨.slice (some ⟨w.heap.size,0,none⟩) (List.replicate ln (kI X e)).length cn,(X.K e).length⟩) hI.len;exact qo
 ·cases h
def zcN:Kind->AV->AV| .slice t,.fD => .sub t []|_,x=>x
def Bv(X:Cx)(t:TypeId):Row:=List.zipWith zcN (X.ti t).ks (X.ti t).zero
def QE(X:Cx)(t:TypeId)(l c:AV)(M:ar)(k:AV->ar->Option R):Option R:=
 match(X.ti t).ok,(X.ti t).u,l,c with
 |true,.slice e,.int _ l,.int _ c=>
  aB (X.pk&&(X.ti e).ok &&decide (0<(X.ti e).size)&&decide (0<(X.ti e).bytes)&&pT (X.K e) (Bv X e)&&(decide (0<=l)&&decide (l<=c)&&decide (c*(X.ti e).bytes <=140737488355328)))
   (k (.aa M.length) (M++[.aU e (List.replicate l.toNat (Bv X e)) none]))
 |_,_,_,_=>none
def amK(hX:X.Okb){t:TypeId}{l c:AV}{k:AV->ar->Option R}{r:R}(h:QE X t l c M k=some r):
 ∃y M',k y M'=some r∧cz [] M M'∧∀{vl vc:Value},vv X M y M' (λρ F w=>aw X.K ρ F w l vl∧aw X.K ρ F w c vc) (Instr.makeSlice t vl vc):=by
 unfold QE at h;split at h
 ·rename_i e k1 l k2 c aQ hu;replace h:=bG h;obtain⟨h1,h⟩:=h;simp only [bc,fr]at h1;obtain⟨⟨⟨⟨⟨zZ,he⟩,mc⟩,GO⟩,tT⟩,⟨kS,jq⟩,sF⟩:=h1;obtain⟨i,d,z,f⟩:=hX.facts aQ;obtain⟨i2,d2,z2,f2⟩:=hX.facts he;have cE:=f.slice hu;have nJ:z2.cells.size=(X.ti e).size :=EV;have jT:(X.K e).length =(X.ti e).size :=uN;obtain⟨cn,rfl⟩:=uo (show 0<=c by omega);obtain⟨ln,rfl⟩:=uo kS;have lT:cn<=140737488355328:=adD;have x8:ln<=cn:=by omega
  refine⟨_,_,h,cz.push _ _ _,λ{vl vc w0 S F ρ w} hI hv=> ?_⟩;obtain⟨h1,h2⟩:=hv;cases h1;cases h2
  let cur:=(Array.range (cn*(X.ti e).size)).map (z2.cells[· %z2.cells.size]!)
  let hd:Hd:=⟨.slice (some ⟨w.heap.size,0,none⟩) ln cn,(X.K e).length⟩
  have fU:w.grownBy (w.alloc (.cells cur e)) none:=yy w _ none;have mr:Inv X w0 S F (ρ++[hd]) (M++[.dead]) (w.alloc (.cells cur e)):=by
   refine hI.push fU (λg hg=> ?_) rfl trivial;simp [hd,Hd.b9,Value.b9]at hg;subst hg;simp
  have hh:(ρ++[hd])[M.length]?=some hd:=wV;have hz:cq X.K (ρ++[hd]) F (w.alloc (.cells cur e)) (X.ti e).zero z2.cells.toList:=by rw [f2.zc];exact Ys _ _ _ _ _
  have Un:(X.ti e).zero.length =(X.ti e).ks.length :=by rw [f2.ks,f2.zc,fI,k8,f2.zs]
  have mZ:∀{row:Row} {j:Nat} {x:AV} {ii:Nat},(List.replicate ln (Bv X e))[ii]?=some row->row[j]?=some x->ii<ln∧∃(hj:j<z2.cells.size),(x.pU=false∧aw X.K (ρ++[hd]) F (w.alloc (.cells cur e)) x z2.cells[j])∨∃e',x= .sub e' []∧z2.cells[j]= .slice none 0 0:=by
   intro row j x ii hi hx;have lR:ii<ln:=Fh;refine⟨lR,?_⟩;rw [wi,if_pos lR]at hi;injection hi with hi;subst hi;have LD:=hx;unfold Bv at hx;rw [ZJ]at hx;cases hk:(X.ti e).ks[j]? with
   |none=>simp [hk]at hx
   |some kd=>
    cases sx:(X.ti e).zero[j]? with
    |none=>simp [hk,sx]at hx
    |some y=>
     simp only [hk,sx,Option.some.injEq]at hx;subst hx;have kj:=hz.1;simp only [k8]at kj;have hj:j<z2.cells.size:=by have:=(cy.1 sx).1;omega
     have Gz:=hz.2 j y z2.cells[j] sx (by simp [hj]);refine⟨hj,?_⟩;unfold zcN;split
     ·refine .inr ⟨_,rfl,?_⟩;generalize z2.cells[j]=u at Gz;cases Gz;rfl
     ·refine .inl ⟨?_,Gz⟩;generalize z2.cells[j]=u at Gz;cases Gz<;>rfl
  have FQ:∀{ii j:Nat},ii<ln->(hj:j<z2.cells.size)->cur[0+ii*(X.K e).length +j]?=some z2.cells[j]:=by
   intro ii j lR vN;have Tz:ii*(X.K e).length +j<cn*(X.ti e).size :=by
    rw [jT];have:(ii+1)*(X.ti e).size <=cn*(X.ti e).size :=nj _ (by omega);exact uO
   have hm:(ii*(X.K e).length +j) %z2.cells.size=j:=abY;simp only [cur];rw [wA,Array.getElem?_map,Array.getElem?_range,if_pos Tz];simp only [jv,hm];rw [Pz z2.cells j vN]
  have y5:(w.alloc (.cells cur e)).heap[w.heap.size]?=some (.cells cur e (0,0)):=Ef w _;have hr:j9 X (ρ++[hd]) F (w.alloc (.cells cur e)) hd e (List.replicate ln (Bv X e)) none:=by
   refine⟨hX.Jz zZ,rfl,λi row hi=> ?_,λ_ _ _ hk=>(yI),.inr ⟨w.heap.size,0,cn,cur,by simp [hd],y5,by simpa using x8,D1 lT,by simp [hd,cur,jT],λii row hi j x hx=> ?_⟩⟩
   ·have:=kY hi;rw [List.mem_replicate]at this;rw [this.2];exact tT
   ·obtain⟨lR,hj,hc⟩:=mZ hi hx;refine⟨_,FQ lR hj,λ_ hk=>(yI),λ_=> ?_⟩;rcases hc with⟨hs,hr⟩|⟨e',rfl,hv⟩
    ·unfold rk;split
     ·cases hs
     ·exact hr
    ·rw [hv];exact⟨⟨rfl,λi row hi=>uG,.inl ⟨rfl,rfl⟩⟩,rfl⟩
  have hB:∀{p g},lK (w.alloc (.cells cur e)) hd (List.replicate ln (Bv X e)) none p g->p=none∧g=w.heap.size:=by
   intro p g hp;rcases hp with⟨h1,h2⟩|⟨ii,j,row,e',ys,v,_,h1,h2,_,h4,h5⟩
   ·exact⟨h1,by simp [hd,Hd.b9,Value.b9]at h2;exact h2.symm⟩
   ·obtain⟨lR,hj,hc⟩:=mZ h1 h2;rcases hc with⟨hs,_⟩|⟨e'',_,hv⟩
    ·cases hs
    ·simp only [cellOf,hd]at h4;rw [ju,qW _ _ _ cur e (0,0) y5,<-pG,FQ lR hj,hv]at h4;injection h4 with h4;subst h4;simp [Value.b9]at h5
  have jZ:=mr.install (id:=M.length) (b:= .dead) (by simp) rfl rfl hh hr (λp g hp=> ?_) (λp q g h1 h2=>(hB h1).1.trans (hB h2).1.symm)
  ·rw [Y0 _ _ (dZ _)]at jZ;simp only [Ea,List.set_cons_zero]at jZ;refine⟨.slice (some ⟨w.heap.size,0,none⟩) ln cn,_,_,F,?_,jZ,⟨λ_ h=>h,λ_ _ h=>jr h,hI.rB fU (by simp)⟩,ux (M:=M) (hd:=hd) hI.len⟩;have Us:IntKind.i64.wrap (ln:Int)=ln:=JT;have Ut:IntKind.i64.wrap (cn:Int)=cn:=JT;have gw:(i2.bytes:Int)*(cn:Int)<=140737488355328:=aaX;have hbl:(i2.bytes:Int)*(ln:Int)<=140737488355328:=acy;have gN:¬((((cn:Int)<0∨(281474976710656:Int)<(i2.bytes:Int)*(cn:Int))∨(ln:Int)<0)∨(cn:Int)<(ln:Int)):=by omega
   unfold Instr.makeSlice;simp only [dO,gL cE,fg,asInt,asIntOf,fX,f2.typeInfo,Us,Ut];rw [if_neg (by simpa using gN)]
   by_cases h0:cn*(X.ti e).size =0
   ·have:cn=0:=by rcases Nat.mul_eq_zero.1 h0 with h|h;exact h;omega
    subst this;have e9:∀g:Nat->Value,(Array.range 0).map g= #[]:=by intro g;simp
    simp [f2.sizeOf,newRow,e9,cur]
   ·simp [f2.sizeOf,newRow,f2.zeroValue,h0,cur]
  ·obtain⟨_,rfl⟩:=hB hp;refine⟨by simp,.inr hI.size,λa ha e=> ?_,?_,λi q h=> ?_⟩
   ·have:=hI.fz a ha;omega
   ·rintro⟨i,b,bY,u1,u2,u3,u4⟩
    by_cases aY:i<M.length
    ·rw [gj aY]at u1;rw [gj (EU)]at u3;have:=(hI.sep i b bY _ u1 u2 u3 u4).1;omega
    ·rw [jt (by omega)]at u1;have h0:i- M.length=0:=by have:=(cy.1 u1).1;simp at this;omega
     rw [h0]at u1;simp at u1;subst u1;cases u2
   ·have h:=(h.pop hI.len rfl).back hI.aU hI.len (λ_ _ h _=>h) (λ_ _ h _=>h) λk q1 _ _ _=>fU.block k q1 (by simp);have:=(hI.aU.aa h).1;omega
 ·cases h
end
end Go.ae
namespace Go.ae
def aa1{p:Prop}(h:p:=by rw [gj (cy.1 hb).1];exact hb):p:=h
def aa0{p:Prop}(h:p:=by rw [gj (cy.1 hh).1];exact hh):p:=h
end Go.ae
namespace Go.ae
def nm:=@List.all_cons
def IJ:=@Bool.and_eq_true_iff
end Go.ae
namespace Go.ae
open Go
noncomputable section
variable {X:Cx} {R:Type} {M:ar}
variable{len:Nat}{r:R}{t:TypeId}{ps:bA}
def Inv.at3{w0 w w':World}{S:Sc}{F F':aO}{ρ:aT}{hd:Hd}{b:bU}(hI:Inv X w0 S F ρ M w)(hN:Inv X w0 S F' (ρ++[hd]) (M++[b]) w')(hF:∀a,F a->F' a)(hp:∀g,g<w.heap.size->w'.heap[g]?=w.heap[g]?)(hw:∀a v,F a->w.cell? a=some v->w'.cell? a=some v):
 Inv X w0 S F' ρ M w' where
 os:=hN.os
 tape:=hN.tape
 output:=hN.output
 size:=hN.size
 frame:=hN.frame
 len:=hI.len
 rep:=λid b' bY hb hh=>by
  cases iH:b'.fQ with
  |false=>exact(hI.rep id b' bY hb hh).mono (λ_ _ h=>h) hF hw (λg hg=>hp g (hI.sep id b' bY g hb iH hh hg).1)
  |true=>
   have h1:(M++[b])[id]?=some b':=aa1;have h2:(ρ++[hd])[id]?=some bY:=aa0;have hr:=hI.rep id b' bY hb hh;cases b' with
   |dead=>trivial
   |aU _ _ _=>trivial
   |di t xs=>exact aw.mono (λ_ _ h=>h) hF hw hr
   |_=>simp [bU.fQ]at iH
 sep:=λid b' bY g hb iH hh hg=>by
  have h1:(M++[b])[id]?=some b':=aa1;have h2:(ρ++[hd])[id]?=some bY:=aa0;exact hN.sep id b' bY g h1 iH h2 hg
 fZ:=hI.fZ
 fz:=hN.fz
 fa:=λg=>(hI.fa g).mono (λ_ _ h=>h) hF hw
 one:=hI.one
 dQ:=hN.dQ
 fin:=hN.fin
 aU:=by
  have pm:∀{id:Nat} {c:bU},M[id]?=some c->(M++[b])[id]?=some c:=λh=>Jw;have pr:∀{id:Nat} {c:Hd},ρ[id]?=some c->(ρ++[hd])[id]?=some c:=λh=>Jw;have up:∀{id p g},Hid w' ρ M id p g->Hid w' (ρ++[hd]) (M++[b]) id p g:=by
   intro id p g hh;cases hh with
   |out hb hh hg=>exact .out (pm hb) (pr hh) hg
   |sub hb hh hi hj ho hc hg=>exact .sub (pm hb) (pr hh) hi hj ho hc hg
  refine⟨λhh=> ?_,λh1 h2=>hN.aU.inj (up h1) (up h2),λhb hh=>(hI.aU.rep hb hh).mono (λ_ _ h=>h) hF hw (λg hg=>hp g (hI.aU.aa (.out hb hh hg)).1) λi j row e ys v g hi hx ho hc hg=>hp g (hI.aU.aa (.sub hb hh hi hx ho hc hg)).1⟩;obtain⟨a1,a2,a3,a4⟩:=hN.aU.aa (up hh);exact⟨a1,a2,a3,λ⟨i,c,h,q1,q2,q3,q4⟩=>a4 ⟨i,c,h,pm q1,q2,pr q3,q4⟩⟩
def y3:AV->Bool| .int _ _| .bool _| .str _| .U _ _=>true|_=>false
def JY:Bool->AV->Bool|true,.agg cs=>cs.all y3|false,x=>y3 x|_,_=>false
def asP:AV->Bool| .agg cs=>cs.all y3|x=>y3 x
def Zy{kd:Kind}{x:AV}{c:AV->ar->Option R}(h:y3 x=true):fp kd x M c=c x M:=by
 cases x<;>simp [y3]at h<;>cases kd<;>rfl
def YD:∀(ks:dv) (xs:aD) {M:ar} {c:aD->ar->Option R},xs.all y3=true->ru ks xs M c=c xs M
 | [],xs,M,c,_=>by cases xs<;>rfl
 |_::_,[],M,c,_=>rfl
 |kd::ks,x::xs,M,c,h=>by
  rw [nm,bc]at h;simp only [ru];rw [Zy h.1,YD ks xs h.2]
def Pm{e:TypeId}:∀(ps:bA) {M:ar} {c:bA->ar->Option R},(ps.all λp=>JY (X.ti e).u.agg p.2)=true->vq X e ps M c=c ps M
 | [],M,c,_=>rfl
 |(i,x)::ps,M,c,h=>by
  rw [nm,bc]at h;obtain⟨h1,h2⟩:=h;cases ha:(X.ti e).u.agg with
  |true=>
   rw [ha]at h1;cases x<;>simp only [JY,jG]at h1
   simp only [vq,ha];rw [YD _ _ h1,Pm ps h2]
  |false=>
   rw [ha]at h1;simp only [vq,ha];rw [Zy (by simpa [JY]using h1),Pm ps h2]
def ym(X:Cx)(t:TypeId)(len:Nat)(ps:bA)(k:AV->Option R):Option R:=
 match(X.ti t).ok,(X.ti t).u with
 |true,.slice e=>
  aB ((((X.ti e).ok &&decide (0<(X.ti e).size)&&decide (len*(X.ti e).size <=16777216))&&(ps.all λp=>JY (X.ti e).u.agg p.2))&&X.pk)
   (match tp (λi=>some (i*(X.ti e).size,(X.ti e).size)) ((List.replicate len (kI X e)).flatten) ps with
     |some cs=>aB ((chunk (X.ti e).size len cs).all λrow=>cZ (X.K e) row) (k (.U e (chunk (X.ti e).size len cs)))
     |none=>none)
 |_,_=>none
def akX(hX:X.Okb){k:AV->Option R}(h:ym X t len ps k=some r):
 ∃y,k y=some r∧(∀(R':Type) (k':AV->Option R'),ym X t len ps k'=k' y)∧∀{M:ar} {w0:World} {S:Sc} {F:aO} {ρ:aT} {w:World} (pv:List (Nat×Value)),Inv X w0 S F ρ M w->pv.length=ps.length->
  (∀(j:Nat) p q,ps[j]?=some p->pv[j]?=some q->p.1=q.1∧aw X.K ρ F w p.2 q.2)->
  ∃v w' ρ' F',(Instr.buildSlice t len pv.toArray).run X.P w= .ok v w'∧Inv X w0 S F' ρ' M w'∧bH F F' ρ ρ' w w'∧aw X.K ρ' F' w' y v:=by
 unfold ym at h;split at h
 ·rename_i e aQ hu;replace h:=bG h;obtain⟨h1,h⟩:=h;split at h
  ·rename_i cs ri;replace h:=bG h;obtain⟨iB,h⟩:=h;refine⟨_,h,λR' k'=>by unfold ym;simp only [aQ,hu,h1,ri,iB,aB],λ{M w0 S F ρ w} pv hI hl hp=> ?_⟩;obtain⟨h1,zZ⟩:=IJ.1 h1;obtain⟨h1,h3⟩:=IJ.1 h1;have hb:DM X t len ps M (λy M'=>some (y,M'))=some (.aa M.length,M++[.row e (chunk (X.ti e).size len cs)]):=by
    unfold DM;simp only [aQ,hu,h1,aB];rw [Pm ps h3];simp only [ri,iB,aB]
   obtain⟨y1,M1,he,_,hd⟩:=WK hX hb;injection he with he;injection he with GN UW;subst GN;subst UW;obtain⟨v,w',ρ',F1,cC,mr,sD,CG,iK⟩:=hd pv hI hl hp;have dR:∃hd,ρ'=ρ++[hd]:=by
    have gS:=mr.len;have kj:=hI.len;rw [fC,List.length_singleton]at gS;have aY:ρ.length<ρ'.length:=by omega
    refine⟨ρ'[ρ.length],PF λj=> ?_⟩
    by_cases hj:j<ρ.length
    ·rw [gj hj,cJ hj];exact sD.dR j _ (cJ hj)
    ·by_cases vN:j=ρ.length
     ·subst vN;rw [jt (dZ _),Ea,cJ aY];rfl
     ·rw [D8 (by omega),D8 (eR)]
   obtain⟨kU,rfl⟩:=dR;have hz:fp (.slice e) (.aa M.length) (M++[.row e (chunk (X.ti e).size len cs)]) (λx M=>some (x,M))=some (.U e (chunk (X.ti e).size len cs),M++[.di e (chunk (X.ti e).size len cs)]):=by
    simp [cG,fp,aB]
   obtain⟨x',M2,he,_,_,CV⟩:=yw (X:=X) hz;injection he with he;injection he with GN UW;subst GN;subst UW;obtain⟨F2,jZ,jY,hv⟩:=CV mr;have hg:=sD.trans jY;exact⟨v,w',ρ,F2,cC,hI.at3 jZ hg.hF iK (λa v ha hc=>hg.hw a v ha hc),⟨hg.hF,λ_ _ h=>h,hg.hb⟩,(hv v CG).pure (hX.ok zZ).kinds rfl⟩
  ·cases h
 ·cases h
def ayc:AV->Bool| .dE _ [] []=>false| .dE _ _ _=>true|_=>false
def asS(ps:bA):Bool:=ps.any λp=>p.2.cells.any ayc
def O9(X:Cx)(t:TypeId)(len:Nat)(ps:bA)(M:ar)(k:AV->ar->Option R):Option R:=
 match(X.ti t).ok,(X.ti t).u with
 |true,.slice e=>
  aB ((X.ti e).ok &&decide (0<(X.ti e).size)&&decide (len*(X.ti e).size <=16777216))
   (match tp (λi=>some (i*(X.ti e).size,(X.ti e).size)) ((List.replicate len (kI X e)).flatten) ps with
     |some cs=>aB (cZ (List.replicate cs.length .any) cs&&X.xG (List.replicate cs.length .any) e) (k (.kg M.length len) (M++[.var (List.replicate cs.length .any) cs]))
     |none=>none)
 |_,_=>none
def alo(hX:X.Okb){k:AV->ar->Option R}(h:O9 X t len ps M k=some r):
 ∃y M',k y M'=some r∧cz [] M M'∧∀{w0:World} {S:Sc} {F:aO} {ρ:aT} {w:World} (pv:List (Nat×Value)),Inv X w0 S F ρ M w->pv.length=ps.length->
  (∀(j:Nat) p q,ps[j]?=some p->pv[j]?=some q->p.1=q.1∧aw X.K ρ F w p.2 q.2)->
  ∃v w' ρ' F',(Instr.buildSlice t len pv.toArray).run X.P w= .ok v w'∧Inv X w0 S F' ρ' M' w'∧bH F F' ρ ρ' w w'∧aw X.K ρ' F' w' y v:=by
 unfold O9 at h;split at h
 ·rename_i e aQ hu;replace h:=bG h;obtain⟨h1,h⟩:=h;simp only [bc,fr]at h1;obtain⟨⟨he,mc⟩,iV⟩:=h1;obtain⟨i,d,z,f⟩:=hX.facts aQ;obtain⟨i2,d2,z2,f2⟩:=hX.facts he;have cE:=f.slice hu;split at h
  ·rename_i cs ri;replace h:=bG h;obtain⟨iB,h⟩:=h;rw [bc]at iB;obtain⟨iB,hyy⟩:=iB;refine⟨_,_,h,cz.push _ _ _,λ{w0 S F ρ w} pv hI hl hp=> ?_⟩;have nJ:z2.cells.size=(X.ti e).size :=EV;have hz:cq X.K ρ F w (List.replicate len (kI X e)).flatten ((Array.range (len*z2.cells.size)).map (z2.cells[· %z2.cells.size]!)).toList :=Sa;obtain⟨us,hf,hr⟩:=AO hI.one ps _ cs _ pv ri hz hl hp;obtain⟨c6,hg⟩:=hI.newVar iB hr e hyy;refine⟨.slice (some ⟨w.heap.size,0,none⟩) len len,_,_,F,?_,c6,hg,?_⟩
   ·exact afu
   ·exact .kg _ _ ⟨.slice (some ⟨w.heap.size,0,none⟩) 1 1,cs.length⟩ _ _ 1 1 _ (wV) rfl
  ·cases h
 ·cases h
end
end Go.ae
namespace Go.ae
def adP{p:Prop}(h:p:=by
 intro o v d n hr hb;cases o with
 |none=>cases v with
  |none=>simp only [kz,Option.some.injEq]at hb;exact .inl ⟨rfl,rfl,hb⟩
  |some _=>exact hr.elim
 |some x=>cases v with
  |none=>exact hr.elim
  |some v=>
   cases x<;>simp only [kz]at hb<;>try cases hb
   cases hr;exact .inr ⟨_,rfl,rfl⟩):p:=h
def ab5{p:Prop}(h:p:=by simp [Instr.sliceAt,Instr.slice,hu,Instr.sliceBounds,hs,Instr.sliceBound,asIntOf,h1,h2]):p:=h
end Go.ae
namespace Go.ae
def lz:=@List.length_nil
def dX:=@Nat.zero_le
def A7:=@Int.le_refl
end Go.ae
namespace Go.ae
open Go
noncomputable section
variable {X:Cx} {R:Type}
variable {w0 w w':World} {S:Sc} {F:aO} {ρ:aT} {M:ar}
variable{x:AV}{h l:Int}{hi lo mx:Option AV}{r:R}{t:TypeId}{xs:aH}
def kz(d:Int):Option AV->Option Int
 |none=>some d
 |some (.int _ n)=>some n
 |_=>none
def ot(K:TypeId->dv)(ρ:aT)(F:aO)(w:World):Option AV->Option Value->Prop
 |none,none=>True
 |some x,some v=>aw K ρ F w x v
 |_,_=>False
def rS(xs:aH)(lo hi:Option AV):aH:=
 match lo,hi with
 |none,none=>xs
 |none,some h=>xs.take h.toI.toNat
 |some l,none=>xs.drop l.toI.toNat
 |some l,some h=>(xs.take h.toI.toNat).drop l.toI.toNat
def wG(X:Cx)(t:TypeId)(x:AV)(lo hi mx:Option AV)(M:ar)(k:AV->ar->Option R):Option R:=
 match(X.ti t).ok,(X.ti t).u with
 |true,.slice e=>
  match rowsOf M x with
  |some (_,xs)=>
   match kz 0 lo,kz xs.length hi,kz xs.length mx with
   |some l,some h,some m=>
    aB ((X.ti e).ok && !(mx.isSome&&hi.isNone)&&(decide (0<=l)&&decide (l<=h)&&decide (h<=m)&&decide (m<=(xs.length:Int))))
     (match x with
      | .U t' xs=>aB (e==t') (k (.U t' (rS xs lo hi)) M)
      | .fD =>k .fD M
      | .aa id=>
        match gm M id with
        |some (.row t' xs)=>aB (e==t') (k (.aa M.length) (M.set id .dead ++[.row t' (rS xs lo hi)]))
        |some (.di t' xs)=>aB (e==t') (k (.U t' (rS xs lo hi)) M)
        |_=>none
      |_=>none)
   |_,_,_=>none
  |none=>none
 |_,_=>none
def DO{P:Program}{e:TypeId}{size:Nat}(cE:P.underlying t=some (.slice e))(hs:∀w,(sizeOf e).run P w= .ok size w){a:Option Addr}{len cap:Nat}{vl vh vm:Option Value}{K:TypeId->dv}
 (h1:ot K ρ F w lo vl) (h2:ot K ρ F w hi vh) (h3:ot K ρ F w mx vm) {m:Int} (e1:kz 0 lo=some l) (e2:kz len hi=some h) (e3:kz len mx=some m) (mY:¬(mx.isSome=true∧hi.isNone=true)) (b1:0<=l) (b2:l<=h) (b3:h<=m) (b4:m<=len) (b5:len<=cap):
 ∃mm:Nat,h.toNat<=mm∧mm<=cap∧(Instr.sliceAt t (.slice a len cap) vl vh vm).run P w= .ok (.slice (if mm=l.toNat then a else a.map (·.add (l.toNat*size))) (h.toNat- l.toNat) (mm- l.toNat)) w:=by
 obtain⟨ln,rfl⟩:=uo b1;obtain⟨hn,rfl⟩:=uo (show 0<=h by omega);obtain⟨mn,rfl⟩:=uo (show 0<=m by omega);have bound:∀(o:Option AV) (v:Option Value) (d:Int) (n:Nat),ot K ρ F w o v->kz d o=some (n:Int)->(o=none∧v=none∧d=n)∨∃kd,v=some (.int kd n)∧o.isSome=true:=adP;have hu:∀w,(underlying t).run P w= .ok (.slice e) w:=λw=>gL cE w;rcases bound lo vl 0 ln h1 e1 with⟨o1,rfl,d1⟩|⟨k1,rfl,s1⟩<;>rcases bound hi vh len hn h2 e2 with⟨o2,rfl,d2⟩|⟨k2,rfl,s2⟩<;>rcases bound mx vm len mn h3 e3 with⟨o3,rfl,d3⟩|⟨k3,rfl,s3⟩
 ·refine⟨cap,by omega,dZ _,?_⟩;have e0:ln=0:=by omega
  have Ah:hn=len:=by omega
  subst e0;subst Ah;simp [Instr.sliceAt,Instr.slice,hu,Instr.sliceBounds,hs]
 ·exact absurd ⟨s3,by rw [o2];rfl⟩ mY
 ·refine⟨cap,by omega,dZ _,?_⟩;have e0:ln=0:=by omega
  subst e0;have:hn<=cap:=by omega
  simp [Instr.sliceAt,Instr.slice,hu,Instr.sliceBounds,hs,Instr.sliceBound,asIntOf,this]
 ·refine⟨mn,by omega,by omega,?_⟩;have e0:ln=0:=by omega
  subst e0;have h1:hn<=mn:=by omega
  have h2:mn<=cap:=by omega
  exact ab5
 ·refine⟨cap,by omega,dZ _,?_⟩;have Ah:hn=len:=by omega
  subst Ah;have h1:ln<=hn:=by omega
  simp [Instr.sliceAt,Instr.slice,hu,Instr.sliceBounds,hs,Instr.sliceBound,asIntOf,h1]
 ·exact absurd ⟨s3,by rw [o2];rfl⟩ mY
 ·refine⟨cap,by omega,dZ _,?_⟩;have h1:ln<=hn:=by omega
  have h2:hn<=cap:=by omega
  exact ab5
 ·refine⟨mn,by omega,by omega,?_⟩;have h1:ln<=hn:=by omega
  have h2:hn<=mn:=by omega
  have h3:mn<=cap:=by omega
  simp [Instr.sliceAt,Instr.slice,hu,Instr.sliceBounds,hs,Instr.sliceBound,asIntOf,h1,h2,h3]
def DT(e1:kz 0 lo=some l)(e2:kz xs.length hi=some h):rS xs lo hi=(xs.take h.toNat).drop l.toNat:=by
 cases lo with
 |none=>
  simp only [kz,Option.some.injEq]at e1;subst e1;cases hi with
  |none=>simp only [kz,Option.some.injEq]at e2;subst e2;simp [rS]
  |some x=>cases x<;>simp only [kz]at e2<;>try cases e2
           simp [rS,AV.toI]
 |some y=>
  cases y<;>simp only [kz]at e1<;>try cases e1
  cases hi with
  |none=>simp only [kz,Option.some.injEq]at e2;subst e2;simp [rS,AV.toI]
  |some x=>cases x<;>simp only [kz]at e2<;>try cases e2
           simp [rS,AV.toI]
def aqa{v:Value}(hv:aw X.K ρ F w (.U t xs) v){l h m:Nat}(b2:l<=h)(b3:h<=xs.length):
 ∀{a:Option Addr} {cap:Nat},v= .slice a xs.length cap->h<=m->m<=cap->aw X.K ρ F w (.U t ((xs.take h).drop l)) (.slice (if m=l then a else a.map (·.add (l*(X.K t).length))) (h- l) (m- l)):=by
 intro a cap oC CN hm2;cases hv with
 |iS=>
  injection oC with e1 e2 e3;subst e1;subst e3;have h0:h=0:=by simpa using b3
  have l0:l=0:=by omega
  have m0:m=0:=by omega
  subst h0;subst l0;subst m0;exact .iS t
 |U _ _ a' azb vss hl jU iV hk hc hr=>
  injection oC with e1 e2 e3;subst e1;subst e3;have e:(if m=l then some a' else(some a').map (·.add (l*(X.K t).length)))=some (if m=l then a' else a'.add (l*(X.K t).length)):=by split<;>rfl
  rw [e];have hlen:((xs.take h).drop l).length =h- l:=eR;have:=aw.U (K:=X.K) (ρ:=ρ) (F:=F) (w:=w) t ((xs.take h).drop l) (if m=l then a' else a'.add (l*(X.K t).length)) (m- l) ((vss.take h).drop l) (by simp [hl]) (by rw [hlen];omega) (by omega) ?_ ?_ ?_
  ·rw [hlen]at this;exact this
  ·intro i row hi;rw [oO,n8]at hi;split at hi
   ·exact hk _ row hi
   ·cases hi
  ·intro i vs hi;rw [oO,n8]at hi;split at hi
   ·rename_i aY;obtain⟨c1,c2⟩:=hc _ vs hi;refine⟨c1,λj u hj=> ?_⟩;rw [if_neg (by omega),wI];have:=c2 j u hj;rw [show l*(X.K t).length +(i*(X.K t).length +j)=(l+i)*(X.K t).length +j by rw [nY];omega];exact this
   ·cases hi
  ·intro i row vs hi dL;rw [oO,n8]at hi dL;split at hi
   ·rename_i aY;rw [if_pos aY]at dL;exact hr _ row vs hi dL
   ·cases hi
def amJ(hX:X.Okb){k:AV->ar->Option R}(h:wG X t x lo hi mx M k=some r):
 ∃y M',k y M'=some r∧cz (mJ x) M M'∧∀{v:Value} {vl vh vm:Option Value},vv X M y M' (λρ F w=>aw X.K ρ F w x v∧ot X.K ρ F w lo vl∧ot X.K ρ F w hi vh∧ot X.K ρ F w mx vm) (Instr.sliceAt t v vl vh vm):=by
 unfold wG at h;simp only [cG]at h;split at h
 ·rename_i e aQ hu;obtain⟨i,d,z,f⟩:=hX.facts aQ;have cE:=f.slice hu;split at h
  ·rename_i o xs er;split at h
   ·rename_i l h' m e1 e2 e3;replace h:=bG h;obtain⟨h1,h⟩:=h;simp only [bc,nU,Bool.and_eq_false_iff,fr]at h1;obtain⟨⟨he,mY⟩,⟨⟨b1,b2⟩,b3⟩,b4⟩:=h1;have Tv:¬(mx.isSome=true∧hi.isNone=true):=by
     rintro⟨p,q⟩;rcases mY with hh|hh
     ·rw [p]at hh;cases hh
     ·rw [q]at hh;cases hh
    obtain⟨i2,d2,z2,f2⟩:=hX.facts he;have cX:(X.K e).length =(X.ti e).size :=uN;have eb:(h':Int)<=xs.length:=by omega
    have core:∀{ρ:aT} {F:aO} {w:World} {v:Value} {vl vh vm:Option Value},aw X.K ρ F w (.U e xs) v->ot X.K ρ F w lo vl->ot X.K ρ F w hi vh->ot X.K ρ F w mx vm->
     ∃u,(Instr.sliceAt t v vl vh vm).run X.P w= .ok u w∧aw X.K ρ F w (.U e (rS xs lo hi)) u:=by
     intro ρ F w v vl vh vm hv r1 r2 r3;have oC:∃a cap,v= .slice a xs.length cap∧xs.length<=cap:=by
      cases hv with
      |iS=>exact⟨_,_,rfl,by simp⟩
      |U _ _ a cap _ _ jU=>exact⟨_,_,rfl,jU⟩
     obtain⟨a,cap,oC,jU⟩:=oC;obtain⟨mm,m1,m2,cC⟩:=DO (P:=X.P) (size:=(X.ti e).size) cE f2.sizeOf (a:=a) (len:=xs.length) (cap:=cap) r1 r2 r3 e1 e2 e3 Tv b1 b2 b3 b4 jU;rw [oC];refine⟨_,cC,?_⟩;rw [DT e1 e2,<-cX];exact aqa hv (by omega) (by omega) oC m1 m2
    split at h
    ·rename_i t' eW;replace h:=bG h;obtain⟨h2,h⟩:=h;rw [fJ]at h2;subst h2;simp only [cG,rowsOf,Option.some.injEq,Prod.mk.injEq]at er;obtain⟨_,rfl⟩:=er;refine⟨_,_,h,cz.refl _ _,λ{v vl vh vm w0 S F ρ w} hI hh=> ?_⟩;obtain⟨hv,r1,r2,r3⟩:=hh;obtain⟨u,h3,h4⟩:=core hv r1 r2 r3;exact⟨u,w,ρ,F,h3,hI,bH.refl _ _ _,h4⟩
    ·simp only [cG,rowsOf,Option.some.injEq,Prod.mk.injEq]at er;obtain⟨_,rfl⟩:=er;refine⟨_,_,h,cz.refl _ _,λ{v vl vh vm w0 S F ρ w} hI hh=> ?_⟩;obtain⟨hv,r1,r2,r3⟩:=hh;cases hv;simp only [lz]at eb e2 e3 b4;obtain⟨mm,m1,m2,cC⟩:=DO (P:=X.P) (size:=(X.ti e).size) cE f2.sizeOf (a:=none) (len:=0) (cap:=0) r1 r2 r3 e1 e2 e3 Tv b1 b2 b3 b4 (dZ _);refine⟨_,w,ρ,F,cC,hI,bH.refl _ _ _,?_⟩;have l0:l.toNat=0:=by omega
     have h0:h'.toNat=0:=by omega
     have m0:mm=0:=by omega
     rw [l0,h0,m0];exact .fD
    ·rename_i id;split at h
     ·rename_i t' eW hb;replace h:=bG h;obtain⟨h2,h⟩:=h;rw [fJ]at h2;subst h2;simp only [cG,rowsOf,hb,Option.some.injEq,Prod.mk.injEq]at er;obtain⟨_,rfl⟩:=er;refine⟨_,_,h,((cz.set _ _ _).trans (cz.push [] _ _)).mono (by simp [mJ]),λ{v vl vh vm w0 S F ρ w} hI hh=> ?_⟩;obtain⟨hv,r1,r2,r3⟩:=hh;cases hv with
      |aa _ hd aA=>
       obtain⟨q1,q2,q3⟩:=hI.rep id _ hd hb aA;have oC:∃a cap,hd.v= .slice a eW.length cap∧eW.length<=cap:=by
        rcases q3 with⟨q3,q4⟩|⟨g,o,c,cur,q3,_,q4,_⟩
        ·subst q4;exact⟨_,_,q3,dZ _⟩
        ·exact⟨_,_,q3,q4⟩
       obtain⟨a,cap,oC,jU⟩:=oC;obtain⟨mm,m1,m2,cC⟩:=DO (P:=X.P) (size:=(X.ti e).size) cE f2.sizeOf (a:=a) (len:=eW.length) (cap:=cap) r1 r2 r3 e1 e2 e3 Tv b1 b2 b3 b4 jU;rw [oC];have hlen:(rS eW lo hi).length =h'.toNat- l.toNat:=by rw [DT e1 e2];simp;omega
       have zq:∀bY:Hd,bY.v= .slice (if mm=l.toNat then a else a.map (·.add (l.toNat*(X.ti e).size))) (h'.toNat- l.toNat) (mm- l.toNat)->bY.sz=(X.K e).length ->
        Inv X w0 S F (ρ++[bY]) (M.set id .dead ++[.row e (rS eW lo hi)]) w:=by
        intro bY eN bX;have vj:∀g,bY.b9=some g->hd.b9=some g:=by
         intro g hg;simp only [Hd.b9,eN,oC]at hg⊢;cases a with
         |none=>split at hg<;>simp [Value.b9]at hg
         |some a=>
          split at hg
          ·exact hg
          ·simp only [jv,Value.b9,Option.some.injEq]at hg⊢;rw [<-hg];unfold Addr.add;split<;>rfl
        refine hI.move hb rfl aA (w':=w) (row:=none) ⟨rfl,rfl,rfl,dZ _,λ_ _ _=>rfl⟩ (.inl rfl) (λg hg=>⟨(hI.sep id _ hd g hb rfl aA (vj g hg)).1,.inl (vj g hg)⟩) (by rw [eN];rfl) ?_;refine⟨bX,λi row fN=> ?_,?_⟩
        ·rw [DT e1 e2,oO,n8]at fN;split at fN
         ·exact q2 _ row fN
         ·cases fN
        ·rcases q3 with⟨q3,q4⟩|⟨g,o,c,cur,q3,hg,q4,q5,q6,q7⟩
         ·subst q4;rw [q3]at oC;injection oC with a1 a2 a3;subst a1;subst a3;simp only [lz]at b4 eb;have l0:l.toNat=0:=by omega
          have h0:h'.toNat=0:=by omega
          have m0:mm=0:=by omega
          refine .inl ⟨?_,by rw [DT e1 e2];simp⟩;rw [eN,l0,h0,m0];rfl
         ·rw [q3]at oC;injection oC with a1 a2 a3;subst a1;subst a3;refine .inr ⟨g,if mm=l.toNat then o else o+l.toNat*(X.ti e).size,mm- l.toNat,cur,?_,hg,by rw [hlen];omega,by omega,?_,λi row fN j y hy=> ?_⟩
          ·rw [eN,hlen];split
           ·rfl
           ·rw [jv,ju]
          ·rw [bX,cX];rw [q1,cX]at q6;split
           ·rename_i heq;rw [heq,Ea,Nat.zero_mul];have:=dX (c*(X.ti e).size);omega
           ·have k1:l.toNat+(mm- l.toNat)<=c:=by omega
            have k2:=nj (X.ti e).size k1;rw [nY]at k2;omega
          ·have lR:=(cy.1 fN).1;rw [hlen]at lR;rw [DT e1 e2,oO,n8]at fN;split at fN
           ·obtain⟨u,sy,iP⟩:=q7 _ row fN j y hy;refine⟨u,?_,iP.mono (λ_ _ h=>jr h) (λ_ h=>h) (λ_ _ _ h=>h)⟩;rw [if_neg (by omega),bX,cX];rw [q1,cX]at sy;rw [show o+l.toNat*(X.ti e).size +i*(X.ti e).size +j=o+(l.toNat+i)*(X.ti e).size +j by rw [nY];omega];exact sy
           ·cases fN
       refine⟨_,w,_,F,cC,zq ⟨_,(X.K e).length⟩ rfl rfl,⟨λ_ h=>h,λ_ _ h=>jr h,λ_ _=>rfl⟩,?_⟩;exact ux (M:=M) (hd:=⟨_,(X.K e).length⟩) hI.len
     ·rename_i t' eW hb;replace h:=bG h;obtain⟨h2,h⟩:=h;rw [fJ]at h2;subst h2;simp only [cG,rowsOf,hb,Option.some.injEq,Prod.mk.injEq]at er;obtain⟨_,rfl⟩:=er;refine⟨_,_,h,cz.refl _ _,λ{v vl vh vm w0 S F ρ w} hI hh=> ?_⟩;obtain⟨hv,r1,r2,r3⟩:=hh;cases hv with
      |aa _ hd aA=>
       obtain⟨u,h3,h4⟩:=core (hI.rep id _ hd hb aA) r1 r2 r3;exact⟨u,w,ρ,F,h3,hI,bH.refl _ _ _,h4⟩
     ·cases h
    ·cases h
   ·cases h
  ·cases h
 ·cases h
def yR(X:Cx)(t:TypeId)(x:AV)(lo hi:Option AV)(M:ar)(k:AV->Option R):Option R:=
 match x with
 | .aa id=>
   match(X.ti t).ok,(X.ti t).u with
   |true,.slice e=>
    match gm M id with
    |some (.row t' xs)=>
     match kz 0 lo,kz xs.length hi with
     |some l,some h=>aB (((X.ti e).ok &&e==t')&&(decide (0<=l)&&decide (l<=h)&&decide (h<=(xs.length:Int)))) (k (.vw id l.toNat (h.toNat- l.toNat)))
     |_,_=>none
    |_=>none
   |_,_=>none
 |_=>none
def ane(hX:X.Okb){k:AV->Option R}(h:yR X t x lo hi M k=some r):
 ∃y,k y=some r∧∀{w0:World} {S:Sc} {F:aO} {ρ:aT} {w:World} {v:Value} {vl vh:Option Value},Inv X w0 S F ρ M w->aw X.K ρ F w x v->ot X.K ρ F w lo vl->ot X.K ρ F w hi vh->
  ∃u,(Instr.sliceAt t v vl vh none).run X.P w= .ok u w∧aw X.K ρ F w y u:=by
 unfold yR at h;simp only [cG]at h;split at h
 ·rename_i id;split at h
  ·rename_i e aQ hu;obtain⟨i,d,z,f⟩:=hX.facts aQ;have cE:=f.slice hu;split at h
   ·rename_i t' xs hb;split at h
    ·rename_i l h' e1 e2;replace h:=bG h;obtain⟨h1,h⟩:=h;simp only [bc,fr,fJ]at h1;obtain⟨⟨he,rfl⟩,⟨b1,b2⟩,b3⟩:=h1;obtain⟨i2,d2,z2,f2⟩:=hX.facts he;have cX:(X.K e).length =(X.ti e).size :=uN;refine⟨_,h,λ{w0 S F ρ w v vl vh} hI hv r1 r2=> ?_⟩;cases hv with
     |aa _ hd aA=>
      obtain⟨q1,q2,q3⟩:=hI.rep id _ hd hb aA;rcases q3 with⟨q3,q4⟩|⟨g,o,c,cur,q3,_,q4,_⟩
      ·subst q4;simp only [lz]at b3 e2;obtain⟨mm,m1,m2,cC⟩:=DO (P:=X.P) (K:=X.K) (ρ:=ρ) (F:=F) (w:=w) (mx:=none) (vm:=none) (size:=(X.ti e).size) cE f2.sizeOf (a:=none) (len:=0) (cap:=0) r1 r2 trivial e1 e2 rfl (by simp) b1 b2 b3 (A7 _) (dZ _);rw [q3];refine⟨_,cC,?_⟩;have l0:l.toNat=0:=by omega
       have h0:h'.toNat=0:=by omega
       have m0:mm=0:=by omega
       rw [l0,h0,m0];exact .rE id 0
      ·obtain⟨mm,m1,m2,cC⟩:=DO (P:=X.P) (K:=X.K) (ρ:=ρ) (F:=F) (w:=w) (mx:=none) (vm:=none) (size:=(X.ti e).size) cE f2.sizeOf (a:=some ⟨g,o,none⟩) (len:=xs.length) (cap:=c) r1 r2 trivial e1 e2 rfl (by simp) b1 b2 b3 (A7 _) q4;rw [q3];refine⟨_,cC,?_⟩
       by_cases hm:mm=l.toNat
       ·rw [if_pos hm,show h'.toNat- l.toNat=0 by omega];exact .rD id _ _ _
       ·rw [if_neg hm,jv,ju,<-cX,<-q1];exact .vw id l.toNat _ hd g o xs.length c _ aA q3 (by omega) (by omega)
    ·cases h
   ·cases h
  ·cases h
 ·cases h
end
end Go.ae
namespace Go.ae
def aft{p:Prop}(h:p:=by
 intro k u CP;have tU:=(cy.1 CP).1;rw [qN]at tU;have hi:k/(X.K e).length <vss.length:=Nat.div_lt_of_lt_mul (by rw [YZ];exact tU);have hj:k %(X.K e).length <(X.K e).length :=Nat.mod_lt _ mc;have mF:k=k/(X.K e).length *(X.K e).length +k %(X.K e).length :=by rw [YZ];exact(Nat.div_add_mod k _).symm
 have jE:vss[k/(X.K e).length]?=some (vss[k/(X.K e).length]'hi):=cJ hi;have hyi:ys[k/(X.K e).length]?=some (ys[k/(X.K e).length]'(by omega)):=cJ (by omega);have hg:=IE vss hlen _ (k %(X.K e).length) _ jE hj;rw [<-mF]at hg;rw [CP]at hg;have nL:=gK (hk _ _ hyi);exact⟨_,_,_,_,_,mF,hyi,jE,cJ (by rw [nL];exact hj),hg.symm⟩):p:=h
def adQ{p:Prop}(h:p:=by
 have jE:vss[i]?=some (vss[i]'(by omega)):=cJ (by omega);have hj:=(cy.1 hy).1;have nL:=gK (hk i row hi);obtain⟨⟨r1,r2⟩,_⟩:=dL i row _ hi jE;have hu:(vss[i]'(by omega))[j]?=some ((vss[i]'(by omega))[j]'(by omega)):=cJ (by omega);exact⟨_,by rw [IE vss hlen i j _ jE (by omega)];exact hu,r2 j y _ hy hu⟩):p:=h
def adB{p:Prop}(h:p:=by
 intro i vs hi;have lR:=(cy.1 hi).1;obtain⟨⟨r1,_⟩,_⟩:=dL i (ys[i]'(by omega)) vs (cJ (by omega)) hi;rw [r1,gK (hk i _ (cJ (by omega)))]):p:=h
def adt{p:Prop}(h:p:=by
 simp only [lz,wA,jR]at mG cC;refine⟨_,_,_,F,cC,mG.1,mG.2,?_⟩;exact ux (M:=M) (hd:=⟨_,(X.K e).length⟩) hI.len):p:=h
def adn{p:Prop}(h:p:=by
 cases o with
 |none=>exact .inr ⟨rfl,by simpa using LK⟩
 |some e'=>left;simp only [fJ]at LK;rw [LK]):p:=h
def EW{p:Prop}(h:p:=by simp [Hd.b9,Value.b9,q3]):p:=h
def Rx{p:Prop}(h:p:=by cases a<;>simp [Builtin.firstCells,loadCells,loadCellsFrom]):p:=h
def Js{p:Prop}(h:p:=by simp [Hd.b9,Value.b9]at hg):p:=h
def acg{p:Prop}(h:p:=by
 have:xs.length*(X.K e).length <=i*(X.K e).length :=nj _ (by omega);omega):p:=h
def Jp{p:Prop}(h:p:=by simp [Builtin.firstCells]):p:=h
def Jn{p:Prop}(h:p:=by exact⟨u,sy,iP.grow j7⟩):p:=h
def abA{p:Prop}(h:p:=by exact ux (M:=M) (hd:=⟨.slice none 0 0,(X.K e).length⟩) hI.len):p:=h
end Go.ae
namespace Go.ae
def jR:=@List.nil_append
def D9:=@List.getElem?_cons_zero
def YZ:=@Nat.mul_comm
def PE:=@Array.getElem?_append_left
def D7:=@List.eq_nil_of_length_eq_zero
end Go.ae
namespace Go.ae
open Go
noncomputable section
variable {X:Cx} {R:Type}
variable {w0 w w':World} {S:Sc} {F:aO} {ρ:aT} {M:ar}
variable{x:AV}{c m n:Nat}{P:Program}{e t ty u:TypeId}{i:TypeInfo}{v:Value}{ys:aH}{news:eU}
def IE{α:Type}{sz:Nat}:∀(vss:List (List α)),(∀(i:Nat) vs,vss[i]?=some vs->vs.length=sz)->∀(i j:Nat) vs,vss[i]?=some vs->j<sz->vss.flatten[i*sz+j]?=vs[j]?
 | [],_,i,j,vs,h,_=>dB
 |v::vss,hl,0,j,vs,h,hj=>by
  simp at h;subst h;have:=hl 0 v rfl;rw [yx,gj (by omega)];simp
 |v::vss,hl,i+1,j,vs,h,hj=>by
  have h0:=hl 0 v rfl;rw [yx,jt (by rw [h0,nY];omega),h0];rw [show(i+1)*sz+j- sz=i*sz+j by rw [nY];omega];exact IE vss (λi vs h=>hl (i+1) vs (jh)) i j vs (jh) hj
def H4{α:Type}{sz:Nat}:∀(vss:List (List α)),(∀(i:Nat) vs,vss[i]?=some vs->vs.length=sz)->vss.flatten.length=vss.length*sz
 | [],_=>by simp
 |v::vss,hl=>by
  rw [yx,fC,hl 0 v rfl,H4 vss (λi vs h=>hl (i+1) vs (jh)),gE,nY];omega
def X1(hI:Inv X w0 S F ρ M w){o:Option TypeId}(h:rowsOf M x=some (o,ys))(ho:o=some e∨(o=none∧ys=[]))(hv:aw X.K ρ F w x v)(mc:0<(X.K e).length):
 (∀(i:Nat) row,ys[i]?=some row->cZ (X.K e) row=true)∧
 ∃a c,v= .slice a ys.length c∧∃news:eU,news.length=ys.length*(X.K e).length ∧(∀u∈news,u.oneCell'=true)∧
  (∀w2:World,w2.heap=w.heap->(Builtin.firstCells (X.K e).length ys.length v).run X.P w2= .ok news.toArray w2)∧
  ∀(i:Nat) row,ys[i]?=some row->∀(j:Nat) y,row[j]?=some y->∃u,news[i*(X.K e).length +j]?=some u∧aw X.K ρ F w y u:=by
 rcases ho with rfl|⟨rfl,rfl⟩
 ·obtain⟨hk,hc⟩:=Xs hI h hv;refine⟨hk,?_⟩;rcases hc with⟨rfl,rfl⟩|⟨a,c,rfl,vss,hl,dL⟩
  ·exact⟨none,0,rfl,[],by simp,by simp,λw2 _=>Jp,λi row h=>dB⟩
  ·have hlen:∀(i:Nat) vs,vss[i]?=some vs->vs.length=(X.K e).length :=adB;have qN:=H4 vss hlen;have yP:∀(k:Nat) u,vss.flatten[k]?=some u->∃i j,∃(row:Row) (vs:eU) (y:AV),k=i*(X.K e).length +j∧ys[i]?=some row∧vss[i]?=some vs∧row[j]?=some y∧vs[j]?=some u:=aft;refine⟨some a,c,rfl,vss.flatten,by rw [qN,hl],λu hu=> ?_,λw2 Gv=> ?_,λi row hi j y hy=> ?_⟩
   ·obtain⟨k,gb⟩:=wm hu;obtain⟨i,j,row,vs,y,_,h1,h2,h3,h4⟩:=yP k u gb;exact AH ((dL i row vs h1 h2).1.2 j y u h3 h4) (Pj (hk i row h1) h3) hI.one
   ·have:=run_firstCells_some (P:=X.P) w2 (X.K e).length ys.length a ys.length c vss.flatten (by rw [qN,hl]) (λk u CP=>by
     obtain⟨i,j,row,vs,y,mF,h1,h2,h3,h4⟩:=yP k u CP;have hc:=(dL i row vs h1 h2).2 j u h4;rw [wI,<-mF]at hc;unfold World.cell? at hc⊢;rw [Gv];exact hc)
    exact this
   ·have lR:=(cy.1 hi).1;exact adQ
 ·obtain⟨a,c,rfl⟩:=OV hI h hv;refine⟨λi row h=>dB,a,c,rfl,[],by simp,by simp,λw2 _=> ?_,λi row h=>dB⟩;simp only [lz];exact Rx
def E2(s:ByteArray):aH:=s.data.toList.map λb=>[.int .u8 b.toNat]
def JK:sL->AV->Bool
 | .str,.str _=>true
 | .slice _,.str _=>false
 | .slice _,_=>true
 |_,_=>false
def JL(X:Cx)(M:ar)(e:TypeId)(x:AV):Option aH:=
 match x with
 | .str s=>(match X.K e with| [.int .u8]=>some (E2 s)|_=>none)
 |x=>match rowsOf M x with
  |some (o,ys)=>(match(match o with|some e'=>e==e'|none=>ys.isEmpty)with|true=>some ys|false=>none)
  |none=>none
def Za{t:sL}(h:JK t x=true):t= .str ∨∃e,t= .slice e:=by
 unfold JK at h;split at h
 ·exact .inl rfl
 ·cases h
 ·exact .inr ⟨_,rfl⟩
 ·cases h
def aaa{d:TypeDesc}(h:kJ d= .str ∨∃e,kJ d= .slice e):d= .string ∨∃e,d= .slice e:=by
 cases d<;>first
  |exact .inl rfl
  |exact .inr ⟨_,rfl⟩
  |(rcases h with h|⟨e,h⟩<;>cases h)
structure ay1(X:Cx)(ρ:aT)(F:aO)(w:World)(e u:TypeId)(ys:aH)(v:Value):Prop where
 len:Builtin.lenOf v=pure ys.length
 ty:∃d,X.P.underlying u=some d∧(d= .string ∨∃e,d= .slice e)
 ks:∀(i:Nat) row,ys[i]?=some row->cZ (X.K e) row=true
 news:∃news:eU,news.length=ys.length*(X.K e).length ∧(∀u∈news,u.oneCell'=true)∧
  (∀w2:World,w2.heap=w.heap->(Builtin.firstCells (X.K e).length ys.length v).run X.P w2= .ok news.toArray w2)∧
  ∀(i:Nat) row,ys[i]?=some row->∀(j:Nat) y,row[j]?=some y->∃u,news[i*(X.K e).length +j]?=some u∧aw X.K ρ F w y u
def Y9(hX:X.Okb)(hI:Inv X w0 S F ρ M w)(hu:(X.ti u).ok =true)(hs:JK (X.ti u).u x=true)(h:JL X M e x=some ys)(hv:aw X.K ρ F w x v)(mc:0<(X.K e).length):ay1 X ρ F w e u ys v:=by
 obtain⟨i1,d1,z1,f1⟩:=hX.facts hu;have hun:=f1.iz;have qL:=f1.u
 by_cases afE:∃s,x= .str s
 ·obtain⟨s,rfl⟩:=afE;cases hv;simp only [JL]at h;split at h
  ·rename_i hK;injection h with h;subst h;have hl:(E2 s).length =s.size:=by rw [E2,fI,k8];rfl
   have hg:∀(i:Nat) row,(E2 s)[i]?=some row->∃b,s.data.toList[i]?=some b∧row=[.int .u8 b.toNat]:=by
    intro i row hi;unfold E2 at hi;rw [gW]at hi;cases hb:s.data.toList[i]? with
    |none=>rw [hb]at hi;cases hi
    |some b=>rw [hb]at hi;injection hi with hi;exact⟨b,rfl,hi.symm⟩
   refine⟨by rw [hl];rfl,⟨d1,hun,?_⟩,λi row hi=> ?_,s.data.toList.map λb=> .int .u8 b.toNat,by rw [hl,hK,fI,k8];exact(Nat.mul_one _).symm,λu hu=> ?_,λw2 _=> ?_,λi row hi j y hy=> ?_⟩
   ·exact aaa (qL▸Za hs)
   ·obtain⟨b,_,rfl⟩:=hg i row hi;rw [hK];rfl
   ·obtain⟨b,_,rfl⟩:=nV.1 hu;rfl
   ·rw [hl];show(pure ((s.extract 0 s.size).data.map λb=>Value.int .u8 b.toNat):Sem (Array Value)).run X.P w2=_;rw [ByteArray.extract_zero_size,fX]
    congr 1
    apply qV;simp
   ·obtain⟨b,hb,rfl⟩:=hg i row hi;cases j with
    |zero=>
     simp only [D9,Option.some.injEq]at hy;subst hy;exact⟨.int .u8 b.toNat,by rw [hK];simp [hb],.int _ _⟩
    |succ j=>simp at hy
  ·cases h
 ·have hx:JL X M e x=(match rowsOf M x with|some (o,ys)=>(match(match o with|some e'=>e==e'|none=>ys.isEmpty)with|true=>some ys|false=>none)|none=>none):=by
   cases x<;>first
    |rfl
    |exact absurd ⟨_,rfl⟩ afE
  rw [hx]at h;split at h
  ·rename_i o Gb er;split at h
   ·rename_i LK;injection h with h;subst h;have ho:o=some e∨(o=none∧Gb=[]):=adn;obtain⟨hk,a,c,rfl,news,h1,h2,h3,h4⟩:=X1 hI er ho hv mc;refine⟨rfl,⟨d1,hun,?_⟩,hk,news,h1,h2,h3,h4⟩;exact aaa (qL▸Za hs)
   ·cases h
  ·cases h
def P9(X:Cx)(ts:oQ)(s x:AV)(M:ar)(k:AV->ar->Option R):Option R:=
 match ts with
 | [t,u]=>
   match(X.ti t).ok,(X.ti t).u,(X.ti u).ok,JK (X.ti u).u x with
   |true,.slice e,true,true=>
    match JL X M e x with
    |some ys=>
     aB ((X.ti e).ok &&decide (0<(X.ti e).size)&&decide (0<(X.ti e).bytes))
      (match s with
       | .fD =>aB (decide (ys.length*(X.ti e).bytes <=140737488355328)) (k (.aa M.length) (M++[.row e ys]))
       | .aa id=>
         match gm M id with
         |some (.row e' xs)=>aB (e==e'&&decide ((xs.length+ys.length)*(X.ti e).bytes <=140737488355328)) (k (.aa M.length) (M.set id .dead ++[.row e (xs++ys)]))
         |_=>none
       |_=>none)
    |none=>none
   |_,_,_,_=>none
 |_=>none
def amx(ht:P.underlying t=some (.slice e))(hu:∃d,P.underlying u=some d∧(d= .string ∨∃e,d= .slice e))(hi:P.info? e=some i)
 {g o:Nat} {cur:Array Value} (hg:w.heap[g]?=some (.cells cur e (0,0)))   (hlen:Builtin.lenOf v=pure m)  (hl:news.length=m*i.size)
 (hf:(Builtin.firstCells i.size m v).run P w= .ok news.toArray w) (h1:∀u∈news,u.oneCell'=true) (BO:n+m<=c) (mQ:o+n*i.size+news.length<=cur.size):
 (Builtin.append_ #[t,u] ty #[.slice (some ⟨g,o,none⟩) n c,v]).run P w=
   .ok (.slice (some ⟨g,o,none⟩) (n+m) c) (w.setRow g (cur.toList.take (o+n*i.size)++news++cur.toList.drop (o+n*i.size+news.length)).toArray):=by
 have cY:=Iu P g (o+n*i.size) e news 0 cur w hg (by simpa using mQ) h1;simp only [Bb]at cY;obtain⟨d,hd,rfl|⟨e2,rfl⟩⟩:=hu<;>simp [Builtin.append_,gL ht,gL hd,sizeOf,typeInfo,hi,hlen,BO,hf,ju,cY]
def WJ(ht:P.underlying t=some (.slice e))(hu:∃d,P.underlying u=some d∧(d= .string ∨∃e,d= .slice e))(hi:P.info? e=some i)(hlen:Builtin.lenOf v=pure 0)
 (hf:(Builtin.firstCells i.size 0 v).run P w= .ok #[] w):
 (Builtin.append_ #[t,u] ty #[.slice none 0 0,v]).run P w= .ok (.slice none 0 0) w:=by
 obtain⟨d,hd,rfl|⟨e2,rfl⟩⟩:=hu<;>simp [Builtin.append_,gL ht,gL hd,sizeOf,typeInfo,hi,hlen,hf]
def N5{z:Value}(ht:P.underlying t=some (.slice e))(hu:∃d,P.underlying u=some d∧(d= .string ∨∃e,d= .slice e))(hi:P.info? e=some i)(hz:i.zero=some z)
 {b:Option Addr}  {olds:eU} (pq:(Builtin.firstCells i.size n (.slice b n c)).run P w.drew= .ok olds.toArray w.drew)
   (hlen:Builtin.lenOf v=pure m)  (hf:(Builtin.firstCells i.size m v).run P w.drew= .ok news.toArray w.drew) (hn:¬n+m<=c) (h63:n+m<=maxLen)
 (mQ:Builtin.nextslicecap (n+m) c*i.bytes<=281474976710656):
 (Builtin.append_ #[t,u] ty #[.slice b n c,v]).run P w=
   .ok (.slice (some ⟨w.heap.size,0,none⟩) (n+m) (grownCap w (n+m) c e))
    (w.drew.alloc (.cells (olds.toArray++news.toArray++Builtin.zeroCells z.cells (grownCap w (n+m) c e-(n+m))) e)):=by
 have TH:¬(9223372036854775807<((n:Int)+(m:Int))):=by simp only [maxLen]at h63;omega
 have ayD:¬(281474976710656<Builtin.nextslicecap (n+m) c*i.bytes):=by omega
 obtain⟨d,hd,rfl|⟨e2,rfl⟩⟩:=hu<;>(
  simp [Builtin.append_,gL ht,gL hd,sizeOf,typeInfo,zeroValue,hi,hz,hlen,hn,TH,ayD,Question.forced,hf,pq,newRow,grownCap]
  congr 2
  apply qV;simp [mu])
def amj(hX:X.Okb){ts:oQ}{s:AV}{k:AV->ar->Option R}{r:R}(h:P9 X ts s x M k=some r):
 ∃y M',k y M'=some r∧cz (mJ s) M M'∧∀{vs vx:Value},vv X M y M' (λρ F w=>aw X.K ρ F w s vs∧aw X.K ρ F w x vx) (Builtin.append_ ts.toArray ty #[vs,vx]):=by
 unfold P9 at h;simp only [cG]at h;split at h
 ·rename_i t u;split at h
  ·rename_i e aQ hu vd hsk;split at h
   ·rename_i ys er;replace h:=bG h;obtain⟨h1,h⟩:=h;simp only [bc,fr]at h1;obtain⟨⟨he,mc⟩,GO⟩:=h1;obtain⟨i,d,z,f⟩:=hX.facts aQ;obtain⟨i2,d2,z2,f2⟩:=hX.facts he;have ht:=f.slice hu;have jT:(X.K e).length =i2.size:=f2.ks;have So:0<(X.K e).length :=by rw [jT,<-f2.size];exact mc
    have ay8:0<i2.bytes:=by rw [<-f2.bytes];exact GO
    have nJ:z2.cells.size=i2.size:=f2.zs;have bound:∀n:Nat,n*(X.ti e).bytes <=140737488355328->n<=maxLen:=by
     intro n hn;refine D1 (j5 ?_ hn);exact Is _ GO
    have fresh:∀{w0:World} {S:Sc} {F:aO} {ρ:aT} {w:World} {M2:ar} (xs:aH) (olds news:eU) (c:Nat),Inv X w0 S F ρ M2 w->
     (∀(i:Nat) row,(xs++ys)[i]?=some row->cZ (X.K e) row=true)->olds.length=xs.length*(X.K e).length ->news.length=ys.length*(X.K e).length ->
     (∀(i:Nat) row,xs[i]?=some row->∀(j:Nat) y,row[j]?=some y->∃u,olds[i*(X.K e).length +j]?=some u∧aw X.K ρ F w y u)->
     (∀(i:Nat) row,ys[i]?=some row->∀(j:Nat) y,row[j]?=some y->∃u,news[i*(X.K e).length +j]?=some u∧aw X.K ρ F w y u)->xs.length+ys.length<=maxLen->
     Inv X w0 S F (ρ++[⟨.slice (some ⟨w.heap.size,0,none⟩) (xs.length+ys.length) (grownCap w (xs.length+ys.length) c e),(X.K e).length⟩]) (M2++[.row e (xs++ys)])
      (w.drew.alloc (.cells (olds.toArray++news.toArray++Builtin.zeroCells z2.cells (grownCap w (xs.length+ys.length) c e-(xs.length+ys.length))) e))∧
     bH F F ρ (ρ++[⟨.slice (some ⟨w.heap.size,0,none⟩) (xs.length+ys.length) (grownCap w (xs.length+ys.length) c e),(X.K e).length⟩]) w
      (w.drew.alloc (.cells (olds.toArray++news.toArray++Builtin.zeroCells z2.cells (grownCap w (xs.length+ys.length) c e-(xs.length+ys.length))) e)):=by
     intro w0 S F ρ w M2 xs olds news c hI hk GJ x8 mE vK iV;have jU:=grownCap_ge w (xs.length+ys.length) c e;have:=hI.newRow (t:=e) (xs:=xs++ys) (cur:=olds.toArray++news.toArray++Builtin.zeroCells z2.cells (grownCap w (xs.length+ys.length) c e-(xs.length+ys.length))) (c:=grownCap w (xs.length+ys.length) c e)
      hk (by rw [fC];exact jU) (grownCap_le_maxLen w _ c e iV)
      (by
        simp only [Array.size_append,A2,size_zeroCells,GJ,x8,nJ,<-jT,<-nY];rw [show xs.length+ys.length+(grownCap w (xs.length+ys.length) c e-(xs.length+ys.length))=grownCap w (xs.length+ys.length) c e by omega];exact dZ _)
      (λi row hi j y hy=>by
        have hj:=(cy.1 hy).1;have nL:=gK (hk i row hi)
        by_cases GL:i<xs.length
        ·rw [gj GL]at hi;obtain⟨u,h1,h2⟩:=mE i row hi j y hy;have aY:=(cy.1 h1).1;refine⟨u,?_,h2⟩;rw [Array.append_assoc,PE (EO)];exact qu
        ·rw [jt (by omega)]at hi;obtain⟨u,h1,h2⟩:=vK (i- xs.length) row hi j y hy;have aY:=(cy.1 h1).1;refine⟨u,?_,h2⟩;have e0:i*(X.K e).length +j- olds.length=(i- xs.length)*(X.K e).length +j:=by
          rw [GJ,Nat.sub_mul];exact acg
         have UR:olds.length<=i*(X.K e).length +j:=by
          rw [GJ];exact acg
         rw [Array.append_assoc,Array.getElem?_append_right (by simpa using UR)];simp only [A2];rw [e0,PE (EO)];simpa using h1)
      (w':=w.drew) ⟨rfl,rfl,rfl,dZ _,λ_ _ _=>rfl⟩ rfl
     rw [fC]at this;exact this
    split at h
    ·replace h:=bG h;obtain⟨hb,h⟩:=h;simp only [fr]at hb;refine⟨_,_,h,cz.push _ _ _,λ{vs vx w0 S F ρ w} hI hh=> ?_⟩;obtain⟨hs,hx⟩:=hh;cases hs;obtain⟨hlen,jW,hk,news,mZ,mA,z8,vK⟩:=Y9 hX hI vd hsk er hx So
     by_cases hm:ys.length=0
     ·have Uo:ys=[]:=D7 hm;subst Uo;have UG:news=[]:=D7 (by simpa using mZ);subst UG;have mq:=z8 w rfl;rw [jT]at mq;have cC:=WJ (w:=w) (ty:=ty) ht jW f2.info hlen mq;refine⟨_,w,ρ++[⟨.slice none 0 0,(X.K e).length⟩],F,cC,hI.wT (λg hg=>Js) rfl ⟨rfl,λi row h=>dB,.inl ⟨rfl,rfl⟩⟩,⟨λ_ h=>h,λ_ _ h=>jr h,λ_ _=>rfl⟩,?_⟩;exact abA
     ·have iV:=bound _ hb;have mq:=z8 w.drew rfl;rw [jT]at mq;have cC:=N5 (w:=w) (ty:=ty) ht jW f2.info f2.zero (b:=none) (n:=0) (c:=0) (olds:=[]) (Jp) hlen mq (by omega) (by omega) (by rw [wA,nextslicecap_zero (by omega),<-f2.bytes];omega);have mG:=fresh [] [] news 0 hI (Jc) (by simp) mZ (λi row h=>dB) vK (by simpa using iV);exact adt
    ·rename_i id;split at h
     ·rename_i e' xs hb;replace h:=bG h;obtain⟨h2,h⟩:=h;simp only [bc,fJ,fr]at h2;obtain⟨rfl,lU⟩:=h2;refine⟨_,_,h,((cz.set _ _ _).trans (cz.push [] _ _)).mono (by simp [mJ]),λ{vs vx w0 S F ρ w} hI hh=> ?_⟩;obtain⟨hs,hx⟩:=hh;cases hs with
      |aa _ hd aA=>
       obtain⟨hlen,jW,hk,news,mZ,mA,z8,vK⟩:=Y9 hX hI vd hsk er hx So;obtain⟨q1,q2,q3⟩:=hI.rep id _ hd hb aA;have mF:∀(i:Nat) row,(xs++ys)[i]?=some row->cZ (X.K e) row=true:=by
        intro i row hi
        by_cases GL:i<xs.length
        ·rw [gj GL]at hi;exact q2 i row hi
        ·rw [jt (by omega)]at hi;exact hk _ row hi
       have iV:=bound _ lU;have dead:∀{w:World},Inv X w0 S F ρ M w->Inv X w0 S F ρ (M.set id .dead) w:=by
        intro w hI;cases bM:hd.b9 with
        |none=>exact hI.JQ hb aA bM trivial
        |some g=>exact hI.write hb rfl aA bM ⟨rfl,rfl,rfl,dZ _,λ_ _ _=>rfl⟩ trivial
       rcases q3 with⟨q3,q4⟩|⟨g,o',c,cur,q3,hg,q4,q5,q6,q7⟩
       ·subst q4;rw [q3]
        by_cases hm:ys.length=0
        ·have Uo:ys=[]:=D7 hm;subst Uo;have UG:news=[]:=D7 (by simpa using mZ);subst UG;have mq:=z8 w rfl;rw [jT]at mq;have cC:=WJ (w:=w) (ty:=ty) ht jW f2.info hlen mq;refine⟨_,w,ρ++[⟨.slice none 0 0,(X.K e).length⟩],F,cC,(dead hI).wT (λg hg=>Js) rfl ⟨rfl,λi row h=>dB,.inl ⟨rfl,rfl⟩⟩,⟨λ_ h=>h,λ_ _ h=>jr h,λ_ _=>rfl⟩,?_⟩;exact abA
        ·have mq:=z8 w.drew rfl;rw [jT]at mq;have cC:=N5 (w:=w) (ty:=ty) ht jW f2.info f2.zero (b:=none) (n:=0) (c:=0) (olds:=[]) (Jp) hlen mq (by omega) (by simpa using iV) (by rw [wA,nextslicecap_zero (by omega),<-f2.bytes];simp at lU;omega);have mG:=fresh [] [] news 0 (dead hI) (Jc) (by simp) mZ (λi row h=>dB) vK (by simpa using iV);exact adt
       ·rw [q3]
        by_cases BO:xs.length+ys.length<=c
        ·have mQ:o'+xs.length*i2.size+news.length<=cur.size:=by
          rw [mZ,jT];rw [q1,jT]at q6;have:=nj i2.size BO;rw [nY]at this;omega
         have mq:=z8 w rfl;rw [jT]at mq;have cC:=amx (w:=w) (ty:=ty) ht jW f2.info hg hlen (by rw [mZ,jT]) mq mA BO mQ;have fU:=DF w g (cur.toList.take (o'+xs.length*i2.size)++news++cur.toList.drop (o'+xs.length*i2.size+news.length)).toArray;have bM:hd.b9=some g:=EW;have z9:∀a,F a->a.block≠g:=(hI.sep id _ hd g hb rfl aA bM).2.2;have j7:bH F F ρ (ρ++[⟨.slice (some ⟨g,o',none⟩) (xs.length+ys.length) c,(X.K e).length⟩]) w (w.setRow g (cur.toList.take (o'+xs.length*i2.size)++news++cur.toList.drop (o'+xs.length*i2.size+news.length)).toArray):=
          ⟨λ_ h=>h,λ_ _ h=>jr h,hI.rB fU (λk hk a ha=>BK)⟩
         refine⟨_,_,ρ++[⟨.slice (some ⟨g,o',none⟩) (xs.length+ys.length) c,(X.K e).length⟩],F,cC,hI.move hb rfl aA (row:=some g) fU (.inr bM.symm) (λg' ij=> ?_) rfl ?_,j7,ux (M:=M) (hd:=⟨_,(X.K e).length⟩) hI.len⟩
         ·simp [Hd.b9,Value.b9]at ij;subst ij;exact⟨by rw [size_setRow];exact(hI.sep id _ hd g hb rfl aA bM).1,.inl bM⟩
         ·refine⟨rfl,mF,.inr ⟨g,o',c,_,by rw [fC],Eb w g cur _ e _ hg,by rw [fC];exact BO,q5,?_,λi row hi j y hy=> ?_⟩⟩
          ·rw [q1]at q6;exact abQ
          ·have hj:=(cy.1 hy).1;have nL:=gK (mF i row hi);rw [DU cur news _ mQ];simp only [jT]at*
           by_cases GL:i<xs.length
           ·rw [gj GL]at hi;obtain⟨u,sy,iP⟩:=q7 i row hi j y hy;rw [q1]at sy;have:(i+1)*i2.size<=xs.length*i2.size:=nj _ (by omega);rw [nY,PN]at this;rw [if_neg (by omega)];exact Jn
           ·rw [jt (by omega)]at hi;obtain⟨u,sy,iP⟩:=vK (i- xs.length) row hi j y hy;have aY:=(cy.1 sy).1;have e0:(i- xs.length)*i2.size=i*i2.size- xs.length*i2.size:=Nat.sub_mul _ _ _;have UR:xs.length*i2.size<=i*i2.size:=nj _ (by omega);rw [if_pos (by omega)];rw [show o'+i*i2.size+j-(o'+xs.length*i2.size)=(i- xs.length)*i2.size+j by omega];exact Jn
        ·have mE:∃olds:eU,olds.length=xs.length*(X.K e).length ∧(∀w2:World,w2.heap=w.heap->(Builtin.firstCells (X.K e).length xs.length hd.v).run X.P w2= .ok olds.toArray w2)∧
          ∀(i:Nat) row,xs[i]?=some row->∀(j:Nat) y,row[j]?=some y->∃u,olds[i*(X.K e).length +j]?=some u∧aw X.K ρ F w y u:=by
          obtain⟨_,a',c',eN,olds,h1,_,h3,h4⟩:=X1 (e:=e) hI (x:= .aa id) (o:=some e) (ys:=xs) (by simp [cG,rowsOf,hb]) (.inl rfl) (.aa _ hd aA) So;exact⟨olds,h1,h3,h4⟩
         obtain⟨olds,GJ,pq,mE⟩:=mE;have mq:=z8 w.drew rfl;have UU:=pq w.drew rfl;rw [q3]at UU;rw [jT]at mq UU;have cC:=N5 (w:=w) (ty:=ty) ht jW f2.info f2.zero UU hlen mq BO (by omega) (growslice_fits (by omega) (by rw [<-f2.bytes];exact lU));have mG:=fresh xs olds news c (dead hI) mF GJ mZ mE vK iV;refine⟨_,_,_,F,cC,mG.1,mG.2,?_⟩;have:=ux (X:=X) (M:=M) (F:=F) (w:=w.drew.alloc (.cells (olds.toArray++news.toArray++Builtin.zeroCells z2.cells (grownCap w (xs.length+ys.length) c e-(xs.length+ys.length))) e))
          (hd:=⟨.slice (some ⟨w.heap.size,0,none⟩) (xs.length+ys.length) (grownCap w (xs.length+ys.length) c e),(X.K e).length⟩) hI.len
         exact this
     ·cases h
    ·cases h
   ·cases h
  ·cases h
 ·cases h
end
end Go.ae
namespace Go.ae
def EM{p:Prop}(h:p:=by simpa using cX):p:=h
def EL{p:Prop}(h:p:=by simpa using he):p:=h
def Jb{p:Prop}(h:p:=by simpa using hm):p:=h
end Go.ae
namespace Go.ae
def uB:=@List.drop_zero
def lY:=@Go.World.putObj_heap_other
def sS:=@Array.getElem?_eq_some_iff
def AW:=@List.take_of_length_le
def PD:=@Go.World.putObj_heap_same
def YS:=@Array.getElem?_modify
def Ij:=@Go.MapKept.run_getObj_map
def YQ:=@Go.MapKept.run_setObj_map
end Go.ae
namespace Go.ae
open Go Go.MapKept
noncomputable section
variable {X:Cx} {R:Type}
variable {w0 w w':World} {S:Sc} {F:aO} {ρ:aT} {M:ar}
variable{i x:AV}{k:AV->Option R}{ok:Bool}{kd:Kind}{r:R}{t:TypeId}
def qI:AV->AV->Bool
 | .int _ a,.int _ b=>a==b
 | .bool a,.bool b=>a==b
 | .str a,.str b=>a==b
 |_,_=>false
def dm:List (AV×AV)->AV->Option AV
 | [],_=>none
 |e::es,x=>match qI x e.1 with|true=>some e.2|false=>dm es x
def jK:List (AV×AV)->AV->AV->List (AV×AV)
 | [],x,y=>[(x,y)]
 |e::es,x,y=>match qI x e.1 with|true=>(x,y)::es|false=>e::jK es x y
def xm:sL->Option Kind
 | .int k=>some (.int k)
 | .bool =>some .bool
 | .str =>some .str
 |_=>none
def la.map{t k e:TypeId}{i:TypeInfo}{d:TypeDesc}{z:Value}(f:la X t i d z)(h:(X.ti t).u = .map k e):X.P.underlying t=some (.map k e):=by
 have h1:=f.iz;have h2:=f.u;rw [h]at h2;cases d<;>simp_all [kJ]
structure af9(X:Cx)(kt:TypeId)(kd:Kind)(d:TypeDesc):Prop where
 iz:X.P.underlying kt=some d
 ne:kd≠ .any
 key:∀{ρ:aT} {F:aO} {w:World} {x:AV} {v:Value},fj kd x=true->aw X.K ρ F w x v->IsKey d v
 same:∀{ρ:aT} {F:aO} {w:World} {x y:AV} {v u:Value},fj kd x=true->fj kd y=true->aw X.K ρ F w x v->aw X.K ρ F w y u->Instr.sameNow d v u=some (qI x y)∧(qI x y=true->u=v)
def afA(hX:X.Okb){kt:TypeId}(aQ:(X.ti kt).ok =true)(h:xm (X.ti kt).u =some kd):∃d,af9 X kt kd d:=by
 obtain⟨i,d,z,f⟩:=hX.facts aQ;refine⟨d,f.iz,?_,?_,?_⟩
 all_goals rw [f.u]at h
 ·rintro rfl;cases d<;>simp [kJ,xm]at h
 ·intro ρ F w x v hx hr;cases d<;>simp [kJ,xm]at h<;>subst h<;>cases x<;>simp [fj]at hx<;>cases hr<;>simp [IsKey,hx]
 ·intro ρ F w x y v u hx hy hr hs;cases d<;>simp [kJ,xm]at h<;>subst h<;>cases x<;>simp [fj]at hx<;>cases y<;>simp [fj]at hy<;>cases hr<;>cases hs<;>simp_all [Instr.sameNow,qI]
  all_goals (intro hb;exact((bytes_beq _ _).1 hb).symm)
def Cf(X:Cx)(ρ:aT)(F:aO)(w:World)(kd:Kind)(ag:Bool)(ks:dv)(es:List (AV×AV))(mes:List MapEntry):Prop:=
 mes.length=es.length∧∀(i:Nat) e me,es[i]?=some e->mes[i]?=some me->(fj kd e.1=true∧cZ ks e.2.cells=true∧e.2.shape ag=true)∧aw X.K ρ F w e.1 me.key∧aw X.K ρ F w e.2 me.val
def Cf.tail{ag:Bool}{ks:dv}{e:AV×AV}{es:List (AV×AV)}{me:MapEntry}{mes:List MapEntry}(h:Cf X ρ F w kd ag ks (e::es) (me::mes)):Cf X ρ F w kd ag ks es mes:=
 ⟨by simpa using h.1,λi e' Gn he hm=>h.2 (i+1) e' Gn (EL) (Jb)⟩
def find_spec{kt:TypeId}{kd:Kind}{d:TypeDesc}(hk:af9 X kt kd d){ag:Bool}{ks:dv}{x:AV}{v:Value}(hx:fj kd x=true)(hr:aw X.K ρ F w x v):∀(es:List (AV×AV)) (mes:List MapEntry) (n:Nat),Cf X ρ F w kd ag ks es mes->
 (dm es x=none∧Instr.findNow d v mes n=some none∧(∀y,jK es x y=es++[(x,y)]))∨
 ∃i e me,es[i]?=some e∧mes[i]?=some me∧dm es x=some e.2∧Instr.findNow d v mes n=some (some (n+i,me.val))∧me.key=v∧∀y,jK es x y=es.set i (x,y)
 | [],[],n,_=> .inl ⟨rfl,rfl,λ_=>rfl⟩
 | [],_::_,n,h=>by have:=h.1;simp at this
 |_::_,[],n,h=>by have:=h.1;simp at this
 |e::es,me::mes,n,h=>by
  obtain⟨⟨a1,a2,a3⟩,r1,r2⟩:=h.2 0 e me rfl rfl;obtain⟨s1,s2⟩:=hk.same hx a1 hr r1;cases hq:qI x e.1 with
  |true=>
   refine .inr ⟨0,e,me,rfl,rfl,by simp [dm,hq],?_,s2 hq,λy=>by simp [jK,hq]⟩;rw [hq]at s1;simp [Instr.findNow,s1]
  |false=>
   rw [hq]at s1;rcases find_spec hk hx hr es mes (n+1) h.tail with⟨h1,h2,h3⟩|⟨i,e',Gn,h1,h2,h3,h4,h5,h6⟩
   ·exact .inl ⟨by simp [dm,hq,h1],by simp [Instr.findNow,s1,h2],λy=>by simp [jK,hq,h3]⟩
   ·exact .inr ⟨i+1,e',Gn,qu,rf,by simp [dm,hq,h3],by simp [Instr.findNow,s1,h4];omega,h5,λy=>by simp [jK,hq,h6]⟩
def Pn(X:Cx)(t:TypeId)(M:ar)(k:AV->ar->Option R):Option R:=
 match(X.ti t).ok,(X.ti t).u with
 |true,.map kt et=>match xm (X.ti kt).u with|some kd=>k (.mp M.length) (M++[.map kd (X.ti et).u.agg (mT X et) []])|none=>none
 |_,_=>none
def alT(hX:X.Okb){k:AV->ar->Option R}(h:Pn X t M k=some r):
 ∃y M',k y M'=some r∧cz [] M M'∧vv X M y M' (λ_ _ _=>True) (Instr.makeMap t none):=by
 unfold Pn at h;split at h
 case h_2=>cases h
 rename_i kt et _ _;split at h
 case h_2=>cases h
 rename_i kd mo;have c9:kd≠ .any :=by rintro rfl;cases hu:(X.ti kt).u <;>simp [hu,xm]at mo
 refine⟨_,_,h,cz.push _ _ _,λ{w0 S F ρ w} hI _=> ?_⟩;have fU:w.grownBy (w.alloc (.map #[] 0)) none:=yy w _ none;have aY:w.heap.size<(w.alloc (.map #[] 0)).heap.size :=by simp
 refine⟨.map (some w.heap.size),w.alloc (.map #[] 0),ρ++[⟨.map (some w.heap.size),0⟩],F,rfl,?_,⟨λ_ h=>h,λ_ _ h=>jr h,λa ha=>fU.block _ (hI.fz a ha) (by simp)⟩,?_⟩
 ·refine hI.push (hd:=⟨.map (some w.heap.size),0⟩) fU (λg hg=> ?_) rfl ⟨c9,w.heap.size,#[],0,rfl,(MapKept.heap_alloc w _).1,rfl,λi e me he _=>Bl⟩;simp only [Hd.b9,Value.b9,Option.some.injEq]at hg;subst hg;exact⟨dZ _,aY⟩
 ·exact aw.mp (K:=X.K) _ ⟨.map (some w.heap.size),0⟩ (wV)
def B4(X:Cx)(t:TypeId)(x:AV):AV:=
 match(X.ti t).u.agg with
 |true=> .agg (vH (mT X t) x.cells 0 (X.ti t).size)
 |false=>ld ((mT X t).headD .raw) x
def Ft(X:Cx)(t:TypeId):AV:=
 match(X.ti t).u.agg with
 |true=> .agg (X.ti t).zero
 |false=>(X.ti t).zero.headD .top
def tm(X:Cx)(et:TypeId)(ok:Bool)(k:AV->Option R)(o:Option AV):Option R:=
 match o with
 |some x=>(match ok with|true=>k (.dc [B4 X et x,.bool true])|false=>k (B4 X et x))
 |none=>(match ok with|true=>k (.dc [Ft X et,.bool false])|false=>k (Ft X et))
def adV(X:Cx)(et:TypeId)(o:Option AV):AV:=match o with|some x=>B4 X et x|none=>Ft X et
def asN(ok:Bool)(x:AV)(b:Bool):AV:=match ok with|true=> .dc [x,.bool b]|false=>x
def JD:List (AV×AV)->AV->(Option AV->Option R)->Option R
 | [],_,k=>k none
 |e::es,x,k=>match qI x e.1 with|true=>k (some e.2)|false=>JD es x k
def Ih:∀(es:List (AV×AV)) (x:AV) (k:Option AV->Option R),JD es x k=k (dm es x)
 | [],_,_=>rfl
 |e::es,x,k=>by
  simp only [JD,dm];cases qI x e.1 with
  |true=>rfl
  |false=>exact Ih es x k
def asj(ks:dv):Bool:=ks.all λk=>match k with| .any =>false|_=>true
def uz(X:Cx)(t:TypeId)(x i:AV)(ok:Bool)(M:ar)(k:AV->Option R):Option R:=
 match(X.ti t).ok,(X.ti t).u with
 |true,.map kt et=>
  match xm (X.ti kt).u with
  |some kd=>
   aB ((X.ti kt).ok &&(X.ti et).ok &&fj kd i)
    (match x with
     | .lb =>tm X et ok k none
     | .mp id=>
       match gm M id with
       |some (.map qJ ag ks es)=>
        aB (qJ==kd&&ag==(X.ti et).u.agg &&ks==mT X et) (match asj ks with
         |true=>(match dm es i with|some y=>tm X et ok k (some y)|none=>tm X et ok k none)
         |false=>JD es i (tm X et ok k))
       |_=>none
     |_=>none)
  |none=>none
 |_,_=>none
def anV(hX:X.Okb)(aQ:(X.ti t).ok =true):(mT X t).length =(X.ti t).size :=by
 obtain⟨i,d,z,f⟩:=hX.facts aQ;simp [mT,f.ks,f.size]
def aqq(hX:X.Okb)(aQ:(X.ti t).ok =true)(hk:cZ (mT X t) x.cells=true)(hp:x.shape (X.ti t).u.agg =true):B4 X t x=x:=by
 have hl:=anV hX aQ;unfold B4;cases ha:(X.ti t).u.agg with
 |true=>
  rw [ha]at hp;cases x<;>simp [AV.shape]at hp
  rename_i cs;simp only [AV.cells]at hk⊢;rw [Rz hk _ _ (by omega)];have:=gK hk;rw [uB,AW (by omega)]
 |false=>
  rw [ha]at hp;have hc:x.cells=[x]:=by cases x<;>simp_all [AV.shape,AV.leaf,AV.cells]
  rw [hc]at hk;cases hv:mT X t with
  |nil=>rw [hv]at hk;simp [cZ]at hk
  |cons q qs=>
   rw [hv]at hk;simp only [cZ,bc]at hk;exact yt hk.1
def aoY(hX:X.Okb)(aQ:(X.ti t).ok =true):∃z,(∀w,(zeroValue t).run X.P w= .ok z w)∧∀{ρ:aT} {F:aO} {w:World},aw X.K ρ F w (Ft X t) z:=by
 obtain⟨i,d,z,f⟩:=hX.facts aQ;refine⟨z,f.zeroValue,λ{ρ F w}=> ?_⟩;have hz:cq X.K ρ F w (X.ti t).zero z.cells.toList:=BJ;have ei:=f.zag;unfold Ft;cases ha:(X.ti t).u.agg with
 |true=>
  rw [ha]at ei;cases z<;>simp [Lf]at ei
  rename_i cs;have:=aw.agg (K:=X.K) (ρ:=ρ) (F:=F) (w:=w) _ _ hz.1 hz.2;simpa [Value.cells]using this
 |false=>
  rw [ha]at ei;have h1:z.cells.toList=[z]:=by cases z<;>simp_all [Lf,Value.cells]
  rw [h1]at hz;have hl:=hz.1;cases sx:(X.ti t).zero with
  |nil=>rw [sx]at hl;simp at hl
  |cons y ys=>exact hz.2 0 y z (by rw [sx];rfl) rfl
def Ye{et:TypeId}{o:Option AV}(h:tm X et ok k o=some r):k (asN ok (adV X et o) o.isSome)=some r:=by
 unfold tm at h;cases o<;>cases ok<;>exact h
def ami(hX:X.Okb)(h:uz X t x i ok M k=some r):
 ∃y,k y=some r∧∀{w0:World} {S:Sc} {F:aO} {ρ:aT} {w:World} {v vi:Value},Inv X w0 S F ρ M w->aw X.K ρ F w x v->aw X.K ρ F w i vi->
  ∃u,(Instr.lookup t v vi ok).run X.P w= .ok u w∧aw X.K ρ F w y u:=by
 unfold uz at h;simp only [cG]at h;split at h
 case h_2=>cases h
 rename_i kt et tQ xY;split at h
 case h_2=>cases h
 rename_i kd mo;replace h:=bG h;obtain⟨hc,h⟩:=h;simp only [bc]at hc;obtain⟨⟨zp,afR⟩,hi⟩:=hc;obtain⟨ti,td,tz,tf⟩:=hX.facts tQ;have cE:=tf.map xY;obtain⟨d,mB⟩:=afA hX zp mo;obtain⟨z,hz,hzr⟩:=aoY hX afR;have out:∀{o:Option AV} {r:R},tm X et ok k o=some r->∃y,k y=some r∧∀{ρ:aT} {F:aO} {w:World} {vo:Option Value} {mes:List MapEntry} {v vi:Value},(match o,vo with|some a,some b=>aw X.K ρ F w (B4 X et a) b|none,none=>True|_,_=>False)->
  (∀w1:World,(Instr.lookup t v vi ok).run X.P w= .ok (match ok with|true=> .tuple #[vo.getD z,.bool vo.isSome]|false=>vo.getD z) w)->∃u,(Instr.lookup t v vi ok).run X.P w= .ok u w∧aw X.K ρ F w y u:=by
  intro o r h;refine⟨_,Ye h,λ{ρ F w vo mes v vi} hm cC=>⟨_,cC w,?_⟩⟩;have tG:aw X.K ρ F w (adV X et o) (vo.getD z):=by
   cases o with
   |none=>cases vo with|none=>exact hzr|some b=>exact hm.elim
   |some a=>cases vo with|none=>exact hm.elim|some b=>exact hm
  have hs:o.isSome=vo.isSome:=by
   cases o with
   |none=>cases vo with|none=>rfl|some b=>exact hm.elim
   |some a=>cases vo with|none=>exact hm.elim|some b=>rfl
  cases ok with
  |false=>exact tG
  |true=>
   refine .dc _ [_,_] rfl λj y u hy hu=> ?_
   match j with
   |0=>simp at hy hu;subst hy;subst hu;exact tG
   |1=>simp at hy hu;subst hy;subst hu;rw [hs];exact .bool _
   |j+2=>simp at hy
 cases x<;>simp only at h<;>try (cases h;done)
 case lb=>
  obtain⟨y,h,hd⟩:=out h;refine⟨y,h,λ{w0 S F ρ w v vi} hI hv jE=> ?_⟩;cases hv;refine hd (vo:=none) (mes:=[]) trivial λ_=> ?_;have hf:Instr.findNow d vi [] 0=some none:=rfl;cases ok<;>simp [Instr.lookup,gL cE,Result.andThen,run_checkKey mB.iz (mB.key hi jE),run_findKey mB.iz hf,hz]
 case mp id=>
  split at h
  case h_2=>cases h
  rename_i qJ ag ks es hb;replace h:=bG h;obtain⟨hc,h⟩:=h;simp only [bc,fJ]at hc;obtain⟨⟨rfl,rfl⟩,rfl⟩:=hc;have h':tm X et ok k (dm es i)=some r:=by
   split at h
   ·split at h
    ·rename_i y hy;rw [hy];exact h
    ·rename_i hy;rw [hy];exact h
   ·rw [Ih]at h;exact h
  obtain⟨y,h,hd⟩:=out h';refine⟨y,h,λ{w0 S F ρ w v vi} hI hv jE=> ?_⟩;cases hv with
  |mp _ bY aA=>
  obtain⟨_,g,mes,clock,hv,hh,cX,rL⟩:=hI.rep _ _ _ hb aA;rw [hv];have J1:Cf X ρ F w qJ (X.ti et).u.agg (mT X et) es mes.toList:=⟨EM,λj e me he hm=>rL j e me he (Jb)⟩;rcases find_spec mB hi jE es mes.toList 0 J1 with⟨f1,f2,_⟩|⟨j,e,me,e1,e2,f1,f2,_,_⟩
  ·refine hd (vo:=none) (mes:=[]) (by rw [f1];trivial) λ_=> ?_;cases ok<;>simp [Instr.lookup,gL cE,Ij hh,Result.andThen,run_checkKey mB.iz (mB.key hi jE),run_findKey mB.iz f2,hz]
  ·obtain⟨⟨a1,a2,a3⟩,r1,r2⟩:=J1.2 j e me e1 e2;refine hd (vo:=some me.val) (mes:=[]) (by rw [f1];show aw _ _ _ _ _ _;rw [aqq hX afR a2 a3];exact r2) λ_=> ?_;cases ok<;>simp [Instr.lookup,gL cE,Ij hh,Result.andThen,run_checkKey mB.iz (mB.key hi jE),run_findKey mB.iz f2]
def y0:AV->List Nat| .mp id=>[id]|_=>[]
def H5(X:Cx)(t:TypeId)(m i x:AV)(M:ar)(k:ar->Option R):Option R:=
 match(X.ti t).ok,(X.ti t).u,m with
 |true,.map kt et,.mp id=>
  match xm (X.ti kt).u with
  |some kd=>
   match gm M id with
   |some (.map qJ ag ks es)=>
    aB ((X.ti kt).ok &&fj kd i&&qJ==kd&&x.shape ag&&cZ ks x.cells) (k (M.set id (.map qJ ag ks (jK es i x))))
   |_=>none
  |none=>none
 |_,_,_=>none
def WR(hX:X.Okb){m:AV}{k:ar->Option R}(h:H5 X t m i x M k=some r):
 ∃M',k M'=some r∧cz (y0 m) M M'∧∀{w0:World} {S:Sc} {F:aO} {ρ:aT} {w:World} {vm vi vx:Value},Inv X w0 S F ρ M w->aw X.K ρ F w m vm->aw X.K ρ F w i vi->aw X.K ρ F w x vx->
  ∃w' F',(Instr.mapUpdate t vm vi vx).run X.P w= .ok () w'∧Inv X w0 S F' ρ M' w'∧bH F F' ρ ρ w w':=by
 unfold H5 at h;simp only [cG]at h;split at h
 case h_2=>cases h
 rename_i kt et id tQ xY;split at h
 case h_2=>cases h
 rename_i kd mo;split at h
 case h_2=>cases h
 rename_i qJ ag ks es hb;replace h:=bG h;obtain⟨hc,h⟩:=h;simp only [bc,fJ]at hc;obtain⟨⟨⟨⟨zp,hi⟩,rfl⟩,pf⟩,iB⟩:=hc;obtain⟨ti,td,tz,tf⟩:=hX.facts tQ;have cE:=tf.map xY;obtain⟨d,mB⟩:=afA hX zp mo;refine⟨_,h,cz.set _ _ _,λ{w0 S F ρ w vm vi vx} hI hm jE CB=> ?_⟩;cases hm with
 |mp _ hd aA=>
 obtain⟨c9,g,mes,clock,hv,hh,cX,rL⟩:=hI.rep _ _ _ hb aA;have vj:hd.b9=some g:=j8;have aY:g<w.heap.size:=(sS.1 hh).1;have ayg:=hI.sep _ _ _ _ hb rfl aA vj;rw [hv];have J1:Cf X ρ F w qJ ag ks es mes.toList:=⟨EM,λj e me he hm=>rL j e me he (Jb)⟩;have j7:∀o:Obj,w.grownBy (w.putObj g o) (some g):=λo=>⟨rfl,rfl,rfl,by simp,λq hq c9=>lY (λe=>c9 (by rw [e]))⟩;have hG:∀o:Obj,bH F F ρ ρ w (w.putObj g o):=λo=>⟨λ_ h=>h,λ_ _ h=>h,λa ha=>lY (ayg.2.2 a ha)⟩;have done:∀(FK:Array MapEntry) (RM:Nat),FK.size=(jK es i x).length ->(∀(j:Nat) e me,(jK es i x)[j]?=some e->FK[j]?=some me->(fj qJ e.1=true∧cZ ks e.2.cells=true∧e.2.shape ag=true)∧aw X.K ρ F w e.1 me.key∧aw X.K ρ F w e.2 me.val)->
  Inv X w0 S F ρ (M.set id (.map qJ ag ks (jK es i x))) (w.putObj g (.map FK RM)):=λFK RM h1 h2=>
  hI.write hb rfl aA vj (j7 _) ⟨c9,g,FK,RM,hv,PD aY,h1,λj e me he pn=>let⟨a,r1,r2⟩:=h2 j e me he pn;⟨a,r1.grow (hG _),r2.grow (hG _)⟩⟩
 rcases find_spec mB hi jE es mes.toList 0 J1 with⟨f1,f2,f3⟩|⟨j,e,me,e1,e2,f1,f2,f4,f3⟩
 ·refine⟨w.putObj g (.map (mes.push {key:=vi,val:=vx,born:=clock}) (clock+1)),F,?_,done _ _ (by rw [f3];simp [cX]) λq e me he pn=> ?_,hG _⟩
  ·simp [Instr.mapUpdate,gL cE,Ij hh,run_checkKey mB.iz (mB.key hi jE),run_findKey mB.iz f2,YQ _ hh,Result.andThen,World.putObj]
  ·rw [f3]at he
   by_cases hq:q<es.length
   ·rw [gj hq]at he;rw [Array.getElem?_push,if_neg (by omega)]at pn;exact rL q e me he pn
   ·have hq':q=es.length:=by have:=(cy.1 he).1;simp at this;omega
    subst hq';rw [jt (dZ _)]at he;simp at he;rw [<-cX,Array.getElem?_push,if_pos rfl]at pn;injection pn with pn;subst he;subst pn;exact⟨⟨hi,iB,pf⟩,jE,CB⟩
 ·have vM:mes[j]?=some me:=by simpa using e2
  have ay7:j<mes.size:=(sS.1 vM).1;refine⟨w.putObj g (.map (mes.modify j λe=>{e with key:=vi,val:=vx}) clock),F,?_,done _ _ (by rw [f3];simp [cX]) λq e' Gn he pn=> ?_,hG _⟩
  ·have mF:me.key=vi:=f4;simp [Instr.mapUpdate,gL cE,Ij hh,run_checkKey mB.iz (mB.key hi jE),run_findKey mB.iz f2,vM,mF,run_keyThatStays (mB.key hi jE),YQ _ hh,Result.andThen,World.putObj]
  ·rw [f3,sV]at he;rw [YS]at pn;split at he
   ·rename_i ej;subst ej;split at he
    ·injection he with he;subst he;rw [if_pos rfl,vM]at pn;simp at pn;subst pn;exact⟨⟨hi,iB,pf⟩,jE,CB⟩
    ·cases he
   ·rename_i ej;rw [if_neg ej]at pn;exact rL q e' Gn he pn
end
end Go.ae
namespace Go.ae
def adT{p:Prop}(h:p:=by
 refine(cz.set M id _).mono (λj hj=> ?_);simp only [fB]at hj;subst hj;unfold Ge at qc;split at qc
 ·split at qc
  ·simp only [Option.some.injEq,Prod.mk.injEq]at qc;simp [lA,qc.1]
  ·cases qc
 ·split at qc
  ·simp only [Option.some.injEq,Prod.mk.injEq]at qc;simp [lA,qc.1]
  ·cases qc
 ·cases qc):p:=h
def adx{p:Prop}(h:p:=by
 refine PF λj=> ?_;rw [sV];split
 ·rename_i hj;subst hj;have:=(cy.1 hb).1;rw [if_pos this,hb]
 ·rfl):p:=h
end Go.ae
namespace Go.ae
def fB:=@List.mem_singleton
end Go.ae
namespace Go.ae
open Go
noncomputable section
variable {X:Cx} {R:Type}
variable {w0 w w':World} {S:Sc} {F:aO} {ρ:aT} {M:ar}
variable{x:AV}{k:AV->ar->Option R}{cur:Array Value}{c c2 cap g id l lo m p size:Nat}{a:Option Addr}{P:Program}{r:R}{e e0 t ty u:TypeId}{ts:oQ}{xs zs:aH}{news:eU}
def aox{ys:aH}{vss:List eU}{a:Addr}{len:Nat}(hk:∀(i:Nat) row,ys[i]?=some row->cZ (X.K e) row=true)(hl:vss.length=ys.length)
 (dL:∀(i:Nat) row vs,ys[i]?=some row->vss[i]?=some vs->cq X.K ρ F w row vs∧n9 w (a.add (i*(X.K e).length)) vs) (mA:∀(id:Nat) hd,ρ[id]?=some hd->hd.v.oneCell'=true) (mc:0<(X.K e).length):
 ∃news:eU,news.length=ys.length*(X.K e).length ∧(∀u∈news,u.oneCell'=true)∧
  (∀w2:World,w2.heap=w.heap->(Builtin.firstCells (X.K e).length ys.length (.slice (some a) len c)).run X.P w2= .ok news.toArray w2)∧
  ∀(i:Nat) row,ys[i]?=some row->∀(j:Nat) y,row[j]?=some y->∃u,news[i*(X.K e).length +j]?=some u∧aw X.K ρ F w y u:=by
 have hlen:∀(i:Nat) vs,vss[i]?=some vs->vs.length=(X.K e).length :=adB;have qN:=H4 vss hlen;have yP:∀(k:Nat) u,vss.flatten[k]?=some u->∃i j,∃(row:Row) (vs:eU) (y:AV),k=i*(X.K e).length +j∧ys[i]?=some row∧vss[i]?=some vs∧row[j]?=some y∧vs[j]?=some u:=aft;refine⟨vss.flatten,by rw [qN,hl],λu hu=> ?_,λw2 Gv=> ?_,λi row hi j y hy=> ?_⟩
 ·obtain⟨k,gb⟩:=wm hu;obtain⟨i,j,row,vs,y,_,h1,h2,h3,h4⟩:=yP k u gb;exact AH ((dL i row vs h1 h2).1.2 j y u h3 h4) (Pj (hk i row h1) h3) mA
 ·have:=run_firstCells_some (P:=X.P) w2 (X.K e).length ys.length a len c vss.flatten (by rw [qN,hl]) (λk u CP=>by
   obtain⟨i,j,row,vs,y,mF,h1,h2,h3,h4⟩:=yP k u CP;have hc:=(dL i row vs h1 h2).2 j u h4;rw [wI,<-mF]at hc;unfold World.cell? at hc⊢;rw [Gv];exact hc)
  exact this
 ·have lR:=(cy.1 hi).1;exact adQ
def rF(xs:aH)(lo:Nat)(zs:aH):aH:=xs.take lo++zs++xs.drop (lo+zs.length)
def X3(h:lo+zs.length<=xs.length):(rF xs lo zs).length =xs.length:=by
 simp [rF];omega
def ZX(h:lo+zs.length<=xs.length){i:Nat}{row:Row}(hi:(rF xs lo zs)[i]?=some row):
 (lo<=i∧i<lo+zs.length∧zs[i- lo]?=some row)∨((i<lo∨lo+zs.length<=i)∧xs[i]?=some row):=by
 unfold rF at hi
 by_cases h1:i<lo
 ·rw [mu,gj (eR),n8,if_pos h1]at hi;exact .inr ⟨.inl h1,hi⟩
 ·by_cases h2:i<lo+zs.length
  ·rw [mu,jt (eR),gj (eR)]at hi;simp only [lZ]at hi;rw [show i- min lo xs.length=i- lo by omega]at hi;exact .inl ⟨by omega,h2,hi⟩
  ·rw [jt (eR)]at hi;simp only [fC,lZ,oO]at hi;rw [show lo+zs.length+(i-(min lo xs.length+zs.length))=i by omega]at hi;exact .inr ⟨.inr (by omega),hi⟩
def X7(hI:Inv X w0 S F ρ M w)(hb:M[id]?=some (.row e xs)){hd:Hd}(aA:ρ[id]?=some hd){o:Nat}(hv:hd.v= .slice (some ⟨g,o,none⟩) xs.length c)(hg:w.heap[g]?=some (.cells cur e (0,0)))
 (oF:xs.length<=c) (gv:c<=maxLen) (iC:o+c*hd.sz<=cur.size) (uH:∀(i:Nat) row,xs[i]?=some row->∀(j:Nat) x,row[j]?=some x->∃v,cur[o+i*hd.sz+j]?=some v∧aw X.K ρ F w x v)
    (hq:lo+zs.length<=xs.length) (tT:∀(i:Nat) row,zs[i]?=some row->cZ (X.K e) row=true) (mZ:news.length=zs.length*(X.K e).length)
 (vK:∀(i:Nat) row,zs[i]?=some row->∀(j:Nat) y,row[j]?=some y->∃u,news[i*(X.K e).length +j]?=some u∧aw X.K ρ F w y u):
 o+lo*hd.sz+news.length<=cur.size∧
 Inv X w0 S F ρ (M.set id (.row e (rF xs lo zs))) (w.setRow g (cur.toList.take (o+lo*hd.sz)++news++cur.toList.drop (o+lo*hd.sz+news.length)).toArray)∧
 bH F F ρ ρ w (w.setRow g (cur.toList.take (o+lo*hd.sz)++news++cur.toList.drop (o+lo*hd.sz+news.length)).toArray):=by
 obtain⟨q1,q2,_⟩:=hI.rep id _ hd hb aA;have bM:hd.b9=some g:=j8;have z9:∀a,F a->a.block≠g:=(hI.sep id _ hd g hb rfl aA bM).2.2;have fU:=DF w g (cur.toList.take (o+lo*hd.sz)++news++cur.toList.drop (o+lo*hd.sz+news.length)).toArray;have j7:bH F F ρ ρ w (w.setRow g (cur.toList.take (o+lo*hd.sz)++news++cur.toList.drop (o+lo*hd.sz+news.length)).toArray):=
  ⟨λ_ h=>h,λ_ _ h=>h,hI.rB fU (λk hk a ha=>BK)⟩
 have mQ:o+lo*hd.sz+news.length<=cur.size:=by
  rw [mZ,<-q1];have h1:(lo+zs.length)*hd.sz<=c*hd.sz:=nj _ (by omega);rw [nY]at h1;omega
 refine⟨mQ,hI.write hb rfl aA bM fU ?_,j7⟩;have mF:∀(i:Nat) row,(rF xs lo zs)[i]?=some row->cZ (X.K e) row=true:=by
  intro i row hi;rcases ZX hq hi with⟨_,_,h⟩|⟨_,h⟩
  ·exact tT _ row h
  ·exact q2 _ row h
 refine⟨q1,mF,.inr ⟨g,o,c,_,by rw [X3 hq];exact hv,Eb w g cur _ e _ hg,by rw [X3 hq];exact oF,gv,?_,λi row hi j y hy=> ?_⟩⟩
 ·simp only [A2,fC,lZ,sZ,k8];omega
 ·have hj:=(cy.1 hy).1;have nL:=gK (mF i row hi);rw [<-q1]at nL;rw [DU cur news _ mQ];rcases ZX hq hi with⟨h1,h2,h⟩|⟨h1,h⟩
  ·obtain⟨u,sy,iP⟩:=vK _ row h j y hy;have aY:=(cy.1 sy).1;rw [<-q1]at sy aY;have e0:(i- lo)*hd.sz=i*hd.sz- lo*hd.sz:=Nat.sub_mul _ _ _;have UR:lo*hd.sz<=i*hd.sz:=nj _ h1;rw [if_pos (by omega),show o+i*hd.sz+j-(o+lo*hd.sz)=(i- lo)*hd.sz+j by omega];exact Jn
  ·obtain⟨u,sy,iP⟩:=uH i row h j y hy;rw [if_neg]
   ·exact Jn
   ·rintro⟨g1,g2⟩;rw [mZ,<-q1]at g2;rcases h1 with h1|h1
    ·have:(i+1)*hd.sz<=lo*hd.sz:=nj _ (by omega);exact uO
    ·have:(lo+zs.length)*hd.sz<=i*hd.sz:=nj _ h1;rw [nY]at this;omega
def qP(xs:aH)(lo nd:Nat)(ys:aH):aH:=rF xs lo (ys.take nd)
def GU(z:Row)(xs:aH)(lo n:Nat):aH:=rF xs lo (List.replicate n z)
def apN(xs:aH)(lo:Nat)(ys:aH):qP xs lo 0 ys=xs:=by simp [qP,rF]
def apP(z:Row)(xs:aH)(lo:Nat):GU z xs lo 0=xs:=by simp [GU,rF]
def Ge(M:ar):AV->Option (Nat×Nat×Nat×TypeId×aH)
 | .aa id=>match gm M id with|some (.row t xs)=>some (id,0,xs.length,t,xs)|_=>none
 | .vw id lo m=>match gm M id with|some (.row t xs)=>some (id,lo,m,t,xs)|_=>none
 |_=>none
def Y7(hI:Inv X w0 S F ρ M w)(h:Ge M x=some (id,lo,m,t,xs)){v:Value}(hv:aw X.K ρ F w x v):
 M[id]?=some (.row t xs)∧lA x=[id]∧((m=0∧((∃c,v= .slice none 0 c)∨∃a c,v= .slice (some a) 0 c))∨
  ∃hd g o c cur cap,ρ[id]?=some hd∧lo+m<=xs.length∧v= .slice (some ⟨g,o+lo*hd.sz,none⟩) m cap∧hd.v= .slice (some ⟨g,o,none⟩) xs.length c∧w.heap[g]?=some (.cells cur t (0,0))∧xs.length<=c∧c<=maxLen∧o+c*hd.sz<=cur.size∧
   ∀(i:Nat) row,xs[i]?=some row->∀(j:Nat) x,row[j]?=some x->∃v,cur[o+i*hd.sz+j]?=some v∧aw X.K ρ F w x v):=by
 unfold Ge at h;simp only [cG]at h;split at h
 ·split at h
  ·rename_i hb;simp only [Option.some.injEq,Prod.mk.injEq]at h;obtain⟨rfl,rfl,rfl,rfl,rfl⟩:=h;cases hv with
   |aa _ hd aA=>
    refine⟨hb,rfl,?_⟩;rcases(hI.rep _ _ hd hb aA).2.2 with⟨h1,h2⟩|⟨g,o,c,cur,h1,h2,h3,h4,h5,h6⟩
    ·subst h2;exact .inl ⟨rfl,.inl ⟨_,h1⟩⟩
    ·exact .inr ⟨hd,g,o,c,cur,c,aA,by omega,qu,h1,h2,h3,h4,h5,h6⟩
  ·cases h
 ·split at h
  ·rename_i hb;simp only [Option.some.injEq,Prod.mk.injEq]at h;obtain⟨rfl,rfl,rfl,rfl,rfl⟩:=h;refine⟨hb,rfl,?_⟩;cases hv with
   |vw _ _ _ hd g o n c cap aA hv hc lU=>
    rcases(hI.rep _ _ hd hb aA).2.2 with⟨h1,h2⟩|⟨g',o',c',cur,h1,h2,h3,h4,h5,h6⟩
    ·rw [hv]at h1;cases h1
    ·have py:=h1;rw [hv]at h1;injection h1 with e1 e2 e3;injection e1 with e1;injection e1 with e1 e4 e5;subst e1;subst e4;subst e2;exact .inr ⟨hd,_,_,_,cur,cap,aA,lU,rfl,py,h2,h3,h4,h5,h6⟩
   |rE=>exact .inl ⟨rfl,.inl ⟨_,rfl⟩⟩
   |rD _ _ a cap=>exact .inl ⟨rfl,.inr ⟨a,cap,rfl⟩⟩
  ·cases h
 ·cases h
def RJ(X:Cx)(ts:oQ)(x y:AV)(M:ar)(k:AV->ar->Option R):Option R:=
 match ts with
 | [t,_]=>
   match(X.ti t).ok,(X.ti t).u with
   |true,.slice e=>
    match rowsOf M y with
    |some (o,ys)=>
     match Ge M x with
     |some (id,lo,m,t',xs)=>
      aB ((X.ti e).ok &&decide (0<(X.ti e).size)&&(match o with|some e'=>e==e'|none=>ys.isEmpty)&&(e==t')) (k (.int .i64 ((min ys.length m:Nat):Int)) (M.set id (.row t' (qP xs lo m ys))))
     |none=>none
    |none=>none
   |_,_=>none
 |_=>none
def api(ht:P.underlying t=some (.slice e))(hs:∀w,(sizeOf e).run P w= .ok size w)
 (hg:w.heap[g]?=some (.cells cur e0 (0,0))) (hf:(Builtin.firstCells size (min l m) (.slice a l c2)).run P w= .ok news.toArray w) (h1:∀u∈news,u.oneCell'=true) (mQ:p+news.length<=cur.size):
 (Builtin.copy_ #[t,u] ty #[.slice (some ⟨g,p,none⟩) m cap,.slice a l c2]).run P w= .ok (.int .i64 ((min l m:Nat):Int)) (w.setRow g (cur.toList.take p++news++cur.toList.drop (p+news.length)).toArray):=by
 have cY:=Iu P g p e0 news 0 cur w hg (by simpa using mQ) h1;simp only [Bb]at cY;have hf':(Builtin.firstCells size (Nat.min l m) (.slice a l c2)).run P w= .ok news.toArray w:=hf;simp [Builtin.copy_,gL ht,Builtin.lenOf,hs,hf',cY,goInt]
def run_copy_none(ht:P.underlying t=some (.slice e))(hs:∀w,(sizeOf e).run P w= .ok size w){b:Option Addr}:
 (Builtin.copy_ #[t,u] ty #[.slice b 0 cap,.slice a l c2]).run P w= .ok (.int .i64 0) w:=by
 have hf:(Builtin.firstCells size 0 (.slice a l c2)).run P w= .ok #[] w:=Rx;have hz:Nat.min l 0=0:=Nat.min_zero l;cases b<;>simp [Builtin.copy_,gL ht,Builtin.lenOf,hs,hz,hf,goInt,storeCells]
def anf(hX:X.Okb){y:AV}(h:RJ X ts x y M k=some r):
 ∃z M',k z M'=some r∧cz (lA x) M M'∧∀{vx vy:Value},vv X M z M' (λρ F w=>aw X.K ρ F w x vx∧aw X.K ρ F w y vy) (Builtin.copy_ ts.toArray ty #[vx,vy]):=by
 unfold RJ at h;split at h
 ·rename_i t u;split at h
  ·rename_i e aQ hu;split at h
   ·rename_i o ys er;split at h
    ·rename_i id lo m t' xs qc;replace h:=bG h;obtain⟨h1,h⟩:=h;simp only [bc,fr,fJ]at h1;obtain⟨⟨⟨he,mc⟩,LK⟩,rfl⟩:=h1;obtain⟨i,d,z,f⟩:=hX.facts aQ;obtain⟨i2,d2,z2,f2⟩:=hX.facts he;have ht:=f.slice hu;have cX:(X.K e).length =(X.ti e).size :=uN;have ho:o=some e∨(o=none∧ys=[]):=adn;have ei:cz (lA x) M (M.set id (.row e (qP xs lo m ys))):=adT;refine⟨_,_,h,ei,λ{vx vy w0 S F ρ w} hI hh=> ?_⟩;obtain⟨CB,hvy⟩:=hh;obtain⟨hb,_,J2⟩:=Y7 hI qc CB;have uQ:qP xs lo m ys=xs->M.set id (.row e (qP xs lo m ys))=M:=by
      intro e1;rw [e1];exact adx
     have GI:∃a c2,vy= .slice a ys.length c2:=OV hI er hvy;obtain⟨a,c2,rfl⟩:=GI;rcases J2 with⟨rfl,hv⟩|⟨hd,g,o',c,cur,cap,aA,UI,rfl,UX,hg,h3,h4,h5,h6⟩
     ·have e1:=apN xs lo ys;rw [uQ e1];refine⟨.int .i64 0,w,ρ,F,?_,hI,bH.refl _ _ _,by simpa using aw.int .i64 0⟩;rcases hv with⟨c,rfl⟩|⟨a',c,rfl⟩
      ·exact run_copy_none ht f2.sizeOf
      ·exact run_copy_none ht f2.sizeOf
     ·
      have asZ:∃news:eU,news.length=(ys.take m).length *(X.K e).length ∧(∀u∈news,u.oneCell'=true)∧(Builtin.firstCells (X.K e).length (min ys.length m) (.slice a ys.length c2)).run X.P w= .ok news.toArray w∧
       (∀(i:Nat) row,(ys.take m)[i]?=some row->cZ (X.K e) row=true)∧∀(i:Nat) row,(ys.take m)[i]?=some row->∀(j:Nat) y,row[j]?=some y->∃u,news[i*(X.K e).length +j]?=some u∧aw X.K ρ F w y u:=by
       have ayp:(ys.take m).length =min ys.length m:=by rw [lZ,Nat.min_comm]
       have Ux:∀(i:Nat) row,(ys.take m)[i]?=some row->i<m∧ys[i]?=some row:=by
        intro i row hi;rw [n8]at hi;split at hi
        ·exact⟨by assumption,hi⟩
        ·cases hi
       rcases ho with rfl|⟨rfl,rfl⟩
       ·obtain⟨hk,hc⟩:=Xs hI er hvy;rcases hc with⟨hv,rfl⟩|⟨a',c',hv,vss,hl,dL⟩
        ·injection hv with e1 e2 e3;subst e1;exact⟨[],by simp,by simp,Jp,λi row hi=>uG,λi row hi=>uG⟩
        ·injection hv with e1 e2 e3;subst e1;obtain⟨news,n1,n2,n3,n4⟩:=aox (X:=X) (ρ:=ρ) (F:=F) (w:=w) (e:=e) (ys:=ys.take m) (vss:=vss.take m) (a:=a') (len:=ys.length) (c:=c2) (λi row hi=>hk i row (Ux i row hi).2) (by rw [lZ,lZ,hl])
          (λi row vs hi jE=>by
            obtain⟨z7,fN⟩:=Ux i row hi;rw [n8,if_pos z7]at jE;exact dL i row vs fN jE) hI.one (by rw [cX];exact mc)
         rw [ayp]at n3;exact⟨news,n1,n2,n3 w rfl,λi row hi=>hk i row (Ux i row hi).2,n4⟩
       ·refine⟨[],by simp,by simp,?_,λi row hi=>uG,λi row hi=>uG⟩;simp only [lz,Nat.zero_min];exact Rx
      obtain⟨news,n1,n2,n3,n4,n5⟩:=asZ;have hq:lo+(ys.take m).length <=xs.length:=by rw [lZ];omega
      obtain⟨mQ,i1,g1⟩:=X7 hI hb aA UX hg h3 h4 h5 h6 hq n4 n1 n5;rw [cX]at n3;exact⟨_,_,ρ,F,api ht f2.sizeOf hg n3 n2 mQ,i1,g1,.int _ _⟩
    ·cases h
   ·cases h
  ·cases h
 ·cases h
def QF(X:Cx)(ts:oQ)(x:AV)(M:ar)(k:AV->ar->Option R):Option R:=
 match ts with
 | [t]=>
   match(X.ti t).ok,(X.ti t).u with
   |true,.slice e=>
    match Ge M x with
    |some (id,lo,m,t',xs)=>aB ((X.ti e).ok &&decide (0<(X.ti e).size)&&cZ (X.K e) (kI X e)&&(e==t')) (k (.dc []) (M.set id (.row t' (GU (kI X e) xs lo m))))
    |none=>none
   |_,_=>none
 |_=>none
def aot{z:Value}(ht:P.underlying t=some (.slice e))(hz:∀w,(zeroValue e).run P w= .ok z w)
 (hg:w.heap[g]?=some (.cells cur e0 (0,0))) (hm:0<m) (h1:∀u∈(Builtin.zeroCells z.cells m).toList,u.oneCell'=true) (mQ:p+(Builtin.zeroCells z.cells m).toList.length <=cur.size):
 (Builtin.clear_ #[t] ty #[.slice (some ⟨g,p,none⟩) m cap]).run P w= .ok (.tuple #[]) (w.setRow g (cur.toList.take p++(Builtin.zeroCells z.cells m).toList ++cur.toList.drop (p+(Builtin.zeroCells z.cells m).toList.length)).toArray):=by
 have cY:=Iu P g p e0 (Builtin.zeroCells z.cells m).toList 0 cur w hg (by simpa using mQ) h1;simp only [Bb]at cY;obtain⟨n,rfl⟩:=Nat.exists_eq_succ_of_ne_zero (Nat.pos_iff_ne_zero.1 hm);simp only [Builtin.clear_,PQ,D9,dO,gL ht,fg,hz,cY,fX]
def amN(hX:X.Okb)(h:QF X ts x M k=some r):
 ∃z M',k z M'=some r∧cz (lA x) M M'∧∀{vx:Value},vv X M z M' (λρ F w=>aw X.K ρ F w x vx) (Builtin.clear_ ts.toArray ty #[vx]):=by
 unfold QF at h;split at h
 ·rename_i t;split at h
  ·rename_i e aQ hu;split at h
   ·rename_i id lo m t' xs qc;replace h:=bG h;obtain⟨h1,h⟩:=h;simp only [bc,fr,fJ]at h1;obtain⟨⟨⟨he,mc⟩,tT⟩,rfl⟩:=h1;obtain⟨i,d,z,f⟩:=hX.facts aQ;obtain⟨i2,d2,z2,f2⟩:=hX.facts he;have ht:=f.slice hu;have cX:(X.K e).length =(X.ti e).size :=uN;have ei:cz (lA x) M (M.set id (.row e (GU (kI X e) xs lo m))):=adT;have pg:∀{ρ:aT} {F:aO} {w:World},aw X.K ρ F w (.dc []) (.tuple #[]):= .dc [] [] rfl (λj x v h _=>dB);refine⟨_,_,h,ei,λ{vx w0 S F ρ w} hI CB=> ?_⟩;obtain⟨hb,_,J2⟩:=Y7 hI qc CB;have hzero:∀{b:Option Addr} {cap:Nat},(Builtin.clear_ #[t] ty #[.slice b 0 cap]).run X.P w= .ok (.tuple #[]) w:=by
     intro b cap;cases b<;>simp [Builtin.clear_,gL ht]
    by_cases hm:m=0
    ·subst hm;have uQ:M.set id (.row e (GU (kI X e) xs lo 0))=M:=by
      rw [apP];exact adx
     rw [uQ];refine⟨.tuple #[],w,ρ,F,?_,hI,bH.refl _ _ _,pg⟩;rcases J2 with⟨_,⟨c,rfl⟩|⟨a,c,rfl⟩⟩|⟨hd,g,o',c,cur,cap,aA,UI,rfl,_⟩
     ·exact hzero
     ·exact hzero
     ·exact hzero
    ·rcases J2 with⟨e0,_⟩|⟨hd,g,o',c,cur,cap,aA,UI,rfl,UX,hg,h3,h4,h5,h6⟩
     ·exact absurd e0 hm
     ·have nJ:z2.cells.size=i2.size:=f2.zs;have Un:z2.cells.toList.length=(X.K e).length :=by rw [cX,f2.size,<-nJ];simp
      have RB:(Builtin.zeroCells z2.cells m).toList =(List.replicate m z2.cells.toList).flatten :=Y3 z2.cells (by rw [nJ,<-f2.size];exact mc) m;have Gy:cq X.K ρ F w (kI X e) z2.cells.toList:=Pf f2;have xX:∀(i:Nat) vs,(List.replicate m z2.cells.toList)[i]?=some vs->vs.length=(X.K e).length :=by
       intro i vs hi;rw [wi]at hi;split at hi
       ·injection hi with hi;subst hi;exact Un
       ·cases hi
      have mZ:(Builtin.zeroCells z2.cells m).toList.length =(List.replicate m (kI X e)).length *(X.K e).length :=by
       rw [RB,H4 _ xX];simp
      have mA:∀u∈(Builtin.zeroCells z2.cells m).toList,u.oneCell'=true:=by
       intro u hu;rw [RB]at hu;obtain⟨l,hl,LG⟩:=List.mem_flatten.1 hu;rw [Eh hl]at LG;obtain⟨j,hj⟩:=wm LG;have GK:=(cy.1 hj).1;have hx:(kI X e)[j]?=some ((kI X e)[j]'(by rw [gK tT,<-Un];exact GK)):=cJ _;exact AH (Gy.2 j _ u hx hj) (Pj tT hx) hI.one
      have hq:lo+(List.replicate m (kI X e)).length <=xs.length:=by simpa using UI
      obtain⟨mQ,i1,g1⟩:=X7 hI hb aA UX hg h3 h4 h5 h6 hq (λi row hi=>by
       rw [wi]at hi;split at hi
       ·injection hi with hi;subst hi;exact tT
       ·cases hi) mZ (λi row hi j y hy=>by
       rw [wi]at hi;split at hi
       ·rename_i z7;injection hi with hi;subst hi;have hj:=(cy.1 hy).1;have nL:=gK tT;have hv:z2.cells.toList[j]?=some (z2.cells.toList[j]'(by omega)):=cJ (by omega);refine⟨_,?_,Gy.2 j y _ hy hv⟩;rw [RB,IE _ xX i j z2.cells.toList (by rw [wi,if_pos z7]) (by omega)];exact hv
       ·cases hi)
      exact⟨_,_,ρ,F,aot ht f2.zeroValue hg (Nat.pos_of_ne_zero hm) mA mQ,i1,g1,pg⟩
   ·cases h
  ·cases h
 ·cases h
end
end Go.ae

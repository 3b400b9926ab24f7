/-
  The engine, part V: calls on a part of the memory; a function's contract out of its code.
-/
import Derived.Test.YtffabbjfdgmbjaaGreatW1
import Derived.Lib.UnsafeStr
import Derived.Lib.Builder
import Derived.Laws.Externs
import Derived.OrdersIn
import Derived.LoopNIn
import Derived.RangeFuncLeaves
set_option linter.all false
set_option linter.deprecated false
set_option maxHeartbeats 4000000
namespace Go.ae
def afx{p:Prop}(h:p:=by
 have tn:cq X.K ρ F w (first++c.args.toList.map e++eD) (v1++c.args.toList.map act.eval++v2):=(cq.append ⟨gS,r1⟩ (A3 hr _)).append ⟨kj,r2⟩;have y6:=gv hI tn;have e1:(v1.toArray++c.args.map act.eval)++v2.toArray=(v1++c.args.toList.map act.eval++v2).toArray :=by apply qV;simp
 refine⟨λ_ _=>trivial,?_⟩;rw [Ip _ _ _ (by simp [ho])];have cC:(execOp act.eval o).run X.P w= .ok (.enter g (v1++c.args.toList.map act.eval++v2).toArray) w:=by
  simp only [execOp,ho,resolve,kO,hv,Deferred.ofValue,dO,fX,fg,invoke];rw [e1];exact oF _ _
 rw [cC];refine⟨λhd=>by simp [jP,Fence.wide]at hd,?_⟩;have dq:CallsIn Fence.wide (n- 1) X.P g (v1++c.args.toList.map act.eval++v2).toArray w (λe w'=>∃v ρ' F',e= .returned v∧Inv X w0 S F' ρ' M' w'∧bH F F' ρ ρ' w w'∧aw X.K ρ' F' w' x v):=PM.2 y6;have jz:CallsIn (jP rd) (n- 1) X.P g (v1++c.args.toList.map act.eval++v2).toArray w (λe w'=>∃v ρ' F',e= .returned v∧Inv X w0 S F' ρ' M' w'∧bH F F' ρ ρ' w w'∧aw X.K ρ' F' w' x v):=dq;refine jz.mono ?_;rintro en w' ⟨v,ρ',F',rfl,h3,h4,h5⟩;exact hn v w' ρ' F' h3 h4 h5):p:=h
def uP{p:Prop}(h:p:=by simp only [mK,ho,Option.some.injEq]at hi;subst hi;exact ei):p:=h
def iG{p:Prop}(h:p:=by simp [execOp,ho]):p:=h
def fh{p:Prop}(h:p:=by simp [ho]):p:=h
def mN{p:Prop}(h:p:=by simp [mK,ho]at hi):p:=h
def sf{p:Prop}(h:p:=by apply qV;simp):p:=h
def JS{p:Prop}(h:p:=by simp [execOp,ho,resolve,kO,invoke,builtin,e2]):p:=h
def R7{p:Prop}(h:p:=by simp only [mK,ho,kO,hx,Option.some.injEq]at hi;subst hi;exact ei):p:=h
def Jt{p:Prop}(h:p:=by apply qV;simpa using hx):p:=h
def abW{p:Prop}(h:p:=by exact core (λ{ρ F w v} hv=>by rw [hx]at hv;cases hv;exact .inl ⟨_,rfl⟩) h):p:=h
def abo{p:Prop}(h:p:=by simp [execOp,ho,resolve,kO,invoke,builtin,e1,e2]):p:=h
def Ri{p:Prop}(h:p:=by simp [mK,ho,kO]at hi):p:=h
def Rh{p:Prop}(h:p:=by
 split
 ·exact QA _ _ _
 ·rfl):p:=h
def aba{p:Prop}(h:p:=by simp [execOp,ho,resolve,kO,invoke,builtin]):p:=h
def EF{p:Prop}(h:p:=by rw [hj]at hp;cases hp):p:=h
end Go.ae
namespace Go.ae
def wx:=@List.mem_range
def Ip:=@Go.Oper.semAt_eq
def PM:=@Go.callsIn_wide
end Go.ae
namespace Go.ae
open Go
noncomputable section
variable {X:Cx} {R:Type}
variable {w0 w w':World} {S:Sc} {F:aO} {ρ:aT} {M:ar}
variable{s:(Operand->Value)->Sem Value}{x:AV}{a:Act}{next:Act->World->Prop}{Q:Exit->Act->World->Prop}{n:Nat}{o:Oper}{e:Operand->AV}{ρe:Operand->Value}{rd:Option Nat}
def jP(rd:Option Nat):Fence:={Fence.wide with round:=rd}
def ev(X:Cx)(o:Oper)(e:Operand->AV)(M:ar)(x:AV)(M':ar):Prop:=
 ∀{rd:Option Nat} {n:Nat} {w0:World} {S:Sc} {F:aO} {ρ:aT} {w:World} {a:Act} {next:Act->World->Prop} {Q:Exit->Act->World->Prop},Inv X w0 S F ρ M w->(∀y,aw X.K ρ F w (e y) (a.eval y))->
  (∀v w' ρ' F',Inv X w0 S F' ρ' M' w'->bH F F' ρ ρ' w w'->aw X.K ρ' F' w' x v->next (a.put o.dst v) w')->o.wpIn (jP rd) n X.P a w next Q
def qq(X:Cx)(f:FuncId)(args:aD)(M:ar)(x:AV)(M':ar):Prop:=
 (∀(vs:Array Value) (w:World),(callFunc f vs).run X.P w= .ok (.enter f vs) w)∧
 ∀{w0:World} {S:Sc} {F:aO} {ρ:aT} {w:World} {vs:eU},Inv X w0 S F ρ M w->cq X.K ρ F w args vs->
  Calls X.P f vs.toArray w (λe w'=>∃v ρ' F',e= .returned v∧Inv X w0 S F' ρ' M' w'∧bH F F' ρ ρ' w w'∧aw X.K ρ' F' w' x v)
def I6(X:Cx)(id:Nat)(args:aD)(M:ar)(x:AV)(M':ar):Prop:=
 ∀{rd:Option Nat} {n:Nat} {w0:World} {S:Sc} {F:aO} {ρ:aT} {w:World} {vs:eU} {hd:Hd} {g:Nat},Inv X w0 S F ρ M w->cq X.K ρ F w args vs->ρ[id]?=some hd->hd.v= .pointer (some ⟨g,0,none⟩)->
  ∃f tmps ag body,(Instr.yield g vs.toArray).run X.P w= .ok (.round g f tmps ag body) w∧
   RoundIn (jP rd) n X.P g f tmps ag body w (λe w'=>∃v ρ' F',e= .returned v∧Inv X w0 S F' ρ' M' w'∧bH F F' ρ ρ' w w'∧aw X.K ρ' F' w' x v)
structure Nt where
 n:Nat
 mask:Nat
structure gg(R:Type) where
 nt:Nt
 wr:FuncId->aD->ar->Option cp
 call:FuncId->aD->ar->(AV->ar->Option R)->Option R
 yield:Nat->aD->ar->(AV->ar->Option R)->Option R
structure gg.mw(X:Cx)(T:gg R):Prop where
 call:∀{f args M k r},T.call f args M k=some r->∃x M',qq X f args M x M'∧k x M'=some r∧∀ids,T.wr f args M=some ids->cz ids M M'
 yield:∀{id args M k r},T.yield id args M k=some r->∃x M',I6 X id args M x M'∧k x M'=some r
def gT(X:Cx)(env:bA):Operand->AV
 | .tmp t=>look env t
 | .const v=>QJ v
 | .global g=>X.fa g
 | .func f=> .dE f [] []
def wF(hI:Inv X w0 S F ρ M w){env:bA}(h:gX X ρ F w env a.tmps)(y:Operand):aw X.K ρ F w (gT X env y) (a.eval y):=by
 cases y with
 |tmp t=>exact h t
 |const v=>exact ans _ _ _ _ v
 |global g=>exact hI.fa g
 |func f=>exact .dE f [] [] [] [] rfl rfl (λj x v h _=>dB) (λj x v h _=>dB)
def K9(op:UnOp)(x:AV)(k:AV->Option R):Option R:=
 match op,x with
 | .not,.bool b=>k (.bool (!b))
 | .neg,.int kd n=>k (.int kd (kd.wrap (0- n)))
 |_,_=>none
def JE(X:Cx)(s d:TypeId)(x:AV)(k:AV->Option R):Option R:=
 match(X.ti s).ok,(X.ti d).ok,(X.ti d).u,x with
 |true,true,.int kd,.int _ n=>k (.int kd (kd.wrap n))
 |_,_,_,_=>none
def H9(x:AV)(k:AV->Option R):Option R:=
 match x with
 | .ptr _ _ _=>k x
 | .ep _ _ _=>k x
 | .dE _ _ _=>k x
 |_=>none
def SJ(X:Cx)(o:Oper)(x:AV)(mx:Option Operand):Bool:=match x,o.dst,mx with| .aa _,some d,none=>X.vw d o.type|_,_,_=>false
def mkN(X:Cx)(o:Oper)(t:TypeId):Bool:=match o.dst with|some d=>X.vw d t|none=>false
def nw(X:Cx)(T:gg R)(e:Operand->AV)(o:Oper)(M:ar)(k:AV->ar->Option R):Option R:=
 match o.op with
 | .move x=>k (e x) M
 | .assign x=>k (e x) M
 | .pick c a b=>match e c with| .bool t=>(match t with|true=>k (e a) M|false=>k (e b) M)|_=>none
 | .alloc t=>QG X t M k
 | .box t x=>SA X t (e x) M k
 | .build t ps=>Ew X t (ps.toList.map λp=>(p.1,e p.2)) λy=>k y M
 | .buildSlice t n ps=>match asS (ps.toList.map λp=>(p.1,e p.2))with|true=>O9 X t n (ps.toList.map λp=>(p.1,e p.2)) M k|false=>DM X t n (ps.toList.map λp=>(p.1,e p.2)) M k
 | .load t x=>pM X t (e x) M λy=>k y M
 | .store t x y=>Bf X t (e x) (e y) M λM'=>k (.dc []) M'
 | .nilCheck x=>H9 (e x) λy=>k y M
 | .binOp op t x y _=>Fp X op t (e x) (e y) λz=>k z M
 | .unOp op _ x=>K9 op (e x) λz=>k z M
 | .convert s d x=>JE X s d (e x) λz=>k z M
 | .fieldAddr t x f=>DR X t (e x) f λy=>k y M
 | .field t x f=>Eu X t (e x) f λy=>k y M
 | .indexAddr t x i=>uj X t (e x) (e i) M λy=>k y M
 | .index t x i=>Et X t (e x) (e i) λy=>k y M
 | .slice t x lo hi mx=>match SJ X o (e x) mx with|true=>yR X t (e x) (lo.map e) (hi.map e) M λy=>k y M|false=>wG X t (e x) (lo.map e) (hi.map e) (mx.map e) M k
 | .makeSlice t l c=>match mkN X o t with|true=>QE X t (e l) (e c) M k|false=>OO X t (e l) (e c) M k
 | .extract x i=>match e x with| .dc vs=>(match vs[i]? with|some y=>k y M|none=>none)|_=>none
 | .makeFunc (.func f) first eD=>k (.dE f (first.toList.map e) (eD.toList.map e)) M
 | .call c=>
   match c.callee with
   | .value f=>
     match e f with
     | .dE g first eD=>T.call g (first++c.args.toList.map e++eD) M k
     | .gG id=>T.yield id (c.args.toList.map e) M λx M'=>aB (Nat.ble M.length M'.length) (k x M')
     |_=>none
   | .builtin .len =>match c.argTypes.toList,c.args.toList with| [t],[x]=>tt X t (e x) M λy=>k y M|_,_=>none
   | .builtin .min =>w7 Tp (c.args.toList.map e) λy=>k y M
   | .builtin .max =>w7 imax (c.args.toList.map e) λy=>k y M
   | .builtin .append =>match c.args.toList with| [s,x]=>P9 X c.argTypes.toList (e s) (e x) M k|_=>none
   | .builtin .copy =>match c.args.toList with| [s,x]=>RJ X c.argTypes.toList (e s) (e x) M k|_=>none
   | .builtin .clear =>match c.args.toList with| [s]=>QF X c.argTypes.toList (e s) M k|_=>none
   |_=>none
 | .makeMap t r=>match r with|none=>Pn X t M k|some _=>none
 | .lookup t x i ok=>uz X t (e x) (e i) ok M λy=>k y M
 | .mapUpdate t m i x=>H5 X t (e m) (e i) (e x) M λM'=>k (.dc []) M'
 | .insert t m i x=>H5 X t (e m) (e i) (e x) M λM'=>k (.dc []) M'
 |_=>none
def mK(T:gg R)(e:Operand->AV)(o:Oper)(M:ar):Option cp:=
 match o.op with
 | .alloc _=>some []
 | .box _ _=>some []
 | .makeSlice _ _ _=>some []
 | .buildSlice _ _ ps=>some ((ps.toList.map λp=>(p.1,e p.2)).flatMap λp=>p.2.cells.flatMap mJ)
 | .store _ x y=>some (s7 (e x)++(e y).cells.flatMap mJ)
 | .slice _ x _ _ _=>some (mJ (e x))
 | .call c=>
   match c.callee with
   | .value f=>
     match e f with
     | .dE g first eD=>T.wr g (first++c.args.toList.map e++eD) M
     | .gG _=>some (List.range M.length)
     |_=>none
   | .builtin .append =>match c.args.toList with| [s,_]=>some (mJ (e s))|_=>none
   | .builtin .copy =>match c.args.toList with| [s,_]=>some (lA (e s))|_=>none
   | .builtin .clear =>match c.args.toList with| [s]=>some (lA (e s))|_=>none
   | .builtin .unsafeSliceData =>some []
   | .builtin .unsafeString =>match c.args.toList with| [p,_]=>some (s7 (e p))|_=>none
   |_=>none
 | .makeMap _ _=>some []
 | .mapUpdate _ m _ _=>some (y0 (e m))
 | .insert _ m _ _=>some (y0 (e m))
 |_=>none
def vY(hd:∀c,o.op≠ .defer c){v:Value}(h:(execOp a.eval o).run X.P w= .ok (.value v) w')(hn:next (a.put o.dst v) w'):
 o.wpIn (jP rd) n X.P a w next Q:=by
 refine⟨λ_ _=>trivial,?_⟩;rw [Ip _ _ _ hd,h];exact hn
def Oo(hd:∀c,o.op≠ .defer c)(h:(execOp a.eval o).run X.P w= .ok .skip w')(hn:next (a.put o.dst undef) w'):
 o.wpIn (jP rd) n X.P a w next Q:=by
 refine⟨λ_ _=>trivial,?_⟩;rw [Ip _ _ _ hd,h];exact hn
def ev.kF(hd:∀c,o.op≠ .defer c)(hs:∀ρe,execOp ρe o=(do pure (.value (<-s ρe)):Sem Next))
 (h:∀{w0:World} {S:Sc} {F:aO} {ρ:aT} {w:World} {ρe:Operand->Value},Inv X w0 S F ρ M w->(∀y,aw X.K ρ F w (e y) (ρe y))->∃v,(s ρe).run X.P w= .ok v w∧aw X.K ρ F w x v):ev X o e M x M:=by
 intro rd n w0 S F ρ w a next Q hI hr hn;obtain⟨v,h1,h2⟩:=h hI hr;exact vY hd (by rw [hs,dO,h1];rfl) (hn v w ρ F hI (bH.refl _ _ _) h2)
def ev.qm(hd:∀c,o.op≠ .defer c){M':ar}(hs:∀ρe,execOp ρe o=(do pure (.value (<-s ρe)):Sem Next))
 (h:∀{w0:World} {S:Sc} {F:aO} {ρ:aT} {w:World} {ρe:Operand->Value},Inv X w0 S F ρ M w->(∀y,aw X.K ρ F w (e y) (ρe y))->∃v w' ρ' F',(s ρe).run X.P w= .ok v w'∧Inv X w0 S F' ρ' M' w'∧bH F F' ρ ρ' w w'∧aw X.K ρ' F' w' x v):ev X o e M x M':=by
 intro rd n w0 S F ρ w a next Q hI hr hn;obtain⟨v,w',ρ',F',h1,h2,h3,h4⟩:=h hI hr;exact vY hd (by rw [hs,dO,h1];rfl) (hn v w' ρ' F' h2 h3 h4)
def A3(hr:∀y,aw X.K ρ F w (e y) (ρe y))(xs:List Operand):cq X.K ρ F w (xs.map e) (xs.map ρe):=by
 refine⟨by simp,λj x v hx hv=> ?_⟩;rw [gW]at hx hv;cases h:xs[j]? with
 |none=>rw [h]at hx;cases hx
 |some y=>
  rw [h]at hx hv;simp only [jv,Option.some.injEq]at hx hv;subst hx;subst hv;exact hr y
def cq.append{xs ys:aD}{vs us:eU}(h:cq X.K ρ F w xs vs)(k:cq X.K ρ F w ys us):cq X.K ρ F w (xs++ys) (vs++us):=by
 refine⟨by simp [h.1,k.1],λj x v hx hv=> ?_⟩
 by_cases hj:j<xs.length
 ·exact acd
 ·rw [jt (by omega)]at hx;rw [jt (by rw [h.1];omega),h.1]at hv;exact k.2 _ x v hx hv
def yA(hr:∀y,aw X.K ρ F w (e y) (ρe y))(o:Option Operand):ot X.K ρ F w (o.map e) (o.map ρe):=by
 cases o with
 |none=>trivial
 |some y=>exact hr y
set_option maxHeartbeats 1600000 in
def XU(hX:X.Okb){T:gg R}(hT:T.mw X){k:AV->ar->Option R}{r:R}(h:nw X T e o M k=some r):
 ∃x M',ev X o e M x M'∧k x M'=some r∧∀ids,mK T e o M=some ids->cz ids M M':=by
 unfold nw at h;split at h
 ·rename_i x ho;exact⟨_,_,ev.kF (s:=λρe=>pure (ρe x)) (fh) (λρe=>iG) (λ{w0 S F ρ w ρe} hI hr=>⟨_,rfl,hr x⟩),h,λids hi=>mN⟩
 ·rename_i x ho;exact⟨_,_,ev.kF (s:=λρe=>pure (ρe x)) (fh) (λρe=>iG) (λ{w0 S F ρ w ρe} hI hr=>⟨_,rfl,hr x⟩),h,λids hi=>mN⟩
 ·rename_i c a b ho;split at h
  ·rename_i t hc;have afG:∀ρe,execOp ρe o=(do pure (.value (if<-asBool (ρe c)then ρe a else ρe b)):Sem Next):=λρe=>iG;split at h
   ·refine⟨_,_,λ{rd n w0 S F ρ w act next Q} hI hr hn=> ?_,h,λids hi=>mN⟩;have h1:=hr c;rw [hc]at h1;generalize hv:act.eval c=vc at h1;cases h1;exact vY (fh) (by rw [afG,hv];rfl) (hn _ w ρ F hI (bH.refl _ _ _) (hr a))
   ·refine⟨_,_,λ{rd n w0 S F ρ w act next Q} hI hr hn=> ?_,h,λids hi=>mN⟩;have h1:=hr c;rw [hc]at h1;generalize hv:act.eval c=vc at h1;cases h1;exact vY (fh) (by rw [afG,hv];rfl) (hn _ w ρ F hI (bH.refl _ _ _) (hr b))
  ·cases h
 ·rename_i t ho;obtain⟨x,M',h,ei,hd⟩:=amP hX h;exact⟨x,M',ev.qm (s:=λ_=>Instr.alloc t true (.tuple #[])) (fh) (λρe=>iG) (λ{w0 S F ρ w ρe} hI hr=>hd hI trivial),h,λids hi=>uP⟩
 ·rename_i t x ho;obtain⟨y,M',h,ei,hd⟩:=anI h;exact⟨y,M',ev.qm (s:=λρe=>Instr.box t (ρe x)) (fh) (λρe=>iG) (λ{w0 S F ρ w ρe} hI hr=>hd (ρe x) hI (hr x)),h,λids hi=>uP⟩
 ·rename_i t ps ho;obtain⟨y,h,hd⟩:=amO (M:=M) hX h;refine⟨y,M,ev.kF (s:=λρe=>Instr.build t (ps.map λ(i,x)=>(i,ρe x))) (fh) (λρe=>iG) (λ{w0 S F ρ w ρe} hI hr=> ?_),h,λids hi=>mN⟩;obtain⟨u,h1,h2⟩:=hd (ps.toList.map λp=>(p.1,ρe p.2)) hI (by simp) (λj p q hp hq=>by
   rw [gW]at hp hq;cases hj:ps.toList[j]? with
   |none=>exact EF
   |some z=>
    rw [hj]at hp hq;simp only [jv,Option.some.injEq]at hp hq;subst hp;subst hq;exact⟨rfl,hr z.2⟩)
  refine⟨u,?_,h2⟩;have:(ps.map λ(i,x)=>(i,ρe x))=(ps.toList.map λp=>(p.1,ρe p.2)).toArray :=sf;rw [this];exact h1
 ·rename_i t n ps ho;split at h
  ·obtain⟨y,M',h,ei,hd⟩:=alo hX h;refine⟨y,M',ev.qm (s:=λρe=>Instr.buildSlice t n (ps.map λ(i,x)=>(i,ρe x))) (fh) (λρe=>iG) (λ{w0 S F ρ w ρe} hI hr=> ?_),h,λids hi=>by simp only [mK,ho,Option.some.injEq]at hi;subst hi;exact ei.mono (λi hi=>by cases hi)⟩;have:=hd (ps.toList.map λp=>(p.1,ρe p.2)) hI (by simp) (λj p q hp hq=>by
    rw [gW]at hp hq;cases hj:ps.toList[j]? with
    |none=>exact EF
    |some z=>
     rw [hj]at hp hq;simp only [jv,Option.some.injEq]at hp hq;subst hp;subst hq;exact⟨rfl,hr z.2⟩)
   have e1:(ps.map λ(i,x)=>(i,ρe x))=(ps.toList.map λp=>(p.1,ρe p.2)).toArray :=sf;rw [e1];exact this
  ·obtain⟨y,M',h,ei,hd⟩:=WK hX h;refine⟨y,M',ev.qm (s:=λρe=>Instr.buildSlice t n (ps.map λ(i,x)=>(i,ρe x))) (fh) (λρe=>iG) (λ{w0 S F ρ w ρe} hI hr=> ?_),h,λids hi=>uP⟩;have:=hd (ps.toList.map λp=>(p.1,ρe p.2)) hI (by simp) (λj p q hp hq=>by
    rw [gW]at hp hq;cases hj:ps.toList[j]? with
    |none=>exact EF
    |some z=>
     rw [hj]at hp hq;simp only [jv,Option.some.injEq]at hp hq;subst hp;subst hq;exact⟨rfl,hr z.2⟩)
   have e1:(ps.map λ(i,x)=>(i,ρe x))=(ps.toList.map λp=>(p.1,ρe p.2)).toArray :=sf;rw [e1];obtain⟨v,w',ρ',F',h1,h2,h3,h4,_⟩:=this;exact⟨v,w',ρ',F',h1,h2,h3,h4⟩
 ·rename_i t x ho;obtain⟨y,h,hd⟩:=Xz hX h;exact⟨y,M,ev.kF (s:=λρe=>Instr.loadAt t (ρe x)) (fh) (λρe=>iG) (λ{w0 S F ρ w ρe} hI hr=>hd hI (hr x)),h,λids hi=>mN⟩
 ·rename_i t x y ho;obtain⟨M',h,ei,hd⟩:=amI hX h;refine⟨_,M',λ{rd n w0 S F ρ w act next Q} hI hr hn=> ?_,h,λids hi=>uP⟩;obtain⟨w',F',h1,h2,h3⟩:=hd hI (hr x) (hr y);refine Oo (fh) (w':=w') ?_ (hn undef w' ρ F' h2 h3 (.dc [] [] rfl (λj x v h _=>dB)));simp [execOp,ho,h1]
 ·rename_i x ho;unfold H9 at h;have core:∀(hp:∀{ρ:aT} {F:aO} {w:World} {v:Value},aw X.K ρ F w (e x) v->(∃a,v= .pointer (some a))∨∃f c1 c2,v= .func (.func f) c1 c2),k (e x) M=some r->∃y M',ev X o e M y M'∧k y M'=some r∧∀ids,mK T e o M=some ids->cz ids M M':=by
   intro hp h;refine⟨_,_,λ{rd n w0 S F ρ w act next Q} hI hr hn=> ?_,h,λids hi=>mN⟩;have h1:=hr x;refine vY (fh) (v:=act.eval x) (w':=w) ?_ (hn _ w ρ F hI (bH.refl _ _ _) h1);rcases hp h1 with⟨a,hv⟩|⟨f,c1,c2,hv⟩<;>simp [execOp,ho,hv]
  split at h
  ·rename_i id i off hx;exact abW
  ·rename_i t row off hx;exact abW
  ·rename_i f c1 c2 hx;exact core (λ{ρ F w v} hv=>by rw [hx]at hv;cases hv;exact .inr ⟨_,_,_,rfl⟩) h
  ·cases h
 ·rename_i op t x y u ho;obtain⟨z,h,hd⟩:=anJ (a:=x) (b:=y) (u:=u) hX h;exact⟨z,M,ev.kF (s:=λρe=>(do eqGuard op t x y (ρe x) (ρe y);binOp op t (ρe x) (ρe y))) (fh) (λρe=>iG) (λ{w0 S F ρ w ρe} hI hr=>hd ρ F w _ _ (hr x) (hr y)),h,λids hi=>mN⟩
 ·rename_i op t x ho;unfold K9 at h;split at h
  ·rename_i b hx;refine⟨_,M,ev.kF (s:=λρe=>Op.unary .not (ρe x)) (fh) (λρe=>iG) (λ{w0 S F ρ w ρe} hI hr=> ?_),h,λids hi=>mN⟩;have h1:=hr x;rw [hx]at h1;generalize ρe x=vx at h1;cases h1;exact⟨_,rfl,.bool _⟩
  ·rename_i kd n hx;refine⟨_,M,ev.kF (s:=λρe=>Op.unary .neg (ρe x)) (fh) (λρe=>iG) (λ{w0 S F ρ w ρe} hI hr=> ?_),h,λids hi=>mN⟩;have h1:=hr x;rw [hx]at h1;generalize ρe x=vx at h1;cases h1;exact⟨_,rfl,.int _ _⟩
  ·cases h
 ·rename_i s d x ho;unfold JE at h;split at h
  ·rename_i kd k0 n h1 h2 h3 hx;obtain⟨i1,d1,z1,f1⟩:=hX.facts h1;obtain⟨i2,d2,z2,f2⟩:=hX.facts h2;have cE:=f2.afB h3;refine⟨_,M,ev.kF (s:=λρe=>convert s d (ρe x)) (fh) (λρe=>iG) (λ{w0 S F ρ w ρe} hI hr=> ?_),h,λids hi=>mN⟩;have h4:=hr x;rw [hx]at h4;generalize ρe x=vx at h4;cases h4;refine⟨.int kd (kd.wrap n),?_,.int _ _⟩;unfold convert;simp only [dO,gL f1.iz,gL cE,fg,Conv.intToInt,fX]
  ·cases h
 ·rename_i t x f ho;obtain⟨y,h,hd⟩:=akW hX h;exact⟨y,M,ev.kF (s:=λρe=>Instr.fieldAt t (ρe x) f) (fh) (λρe=>iG) (λ{w0 S F ρ w ρe} hI hr=>hd (hr x)),h,λids hi=>mN⟩
 ·rename_i t x f ho;obtain⟨y,h,hd⟩:=amM hX h;exact⟨y,M,ev.kF (s:=λρe=>Instr.field t (ρe x) f) (fh) (λρe=>iG) (λ{w0 S F ρ w ρe} hI hr=>hd (hr x)),h,λids hi=>mN⟩
 ·rename_i t x i ho;obtain⟨y,h,hd⟩:=akV hX h;exact⟨y,M,ev.kF (s:=λρe=>Instr.indexAt t (ρe x) (ρe i)) (fh) (λρe=>iG) (λ{w0 S F ρ w ρe} hI hr=>hd hI (hr x) (hr i)),h,λids hi=>mN⟩
 ·rename_i t x i ho;obtain⟨y,h,hd⟩:=amL hX h;exact⟨y,M,ev.kF (s:=λρe=>Instr.index t (ρe x) (ρe i)) (fh) (λρe=>iG) (λ{w0 S F ρ w ρe} hI hr=>hd (hr x) (hr i)),h,λids hi=>mN⟩
 ·rename_i t x lo hi mx ho;split at h
  ·rename_i vJ;have z3:mx=none:=by
    unfold SJ at vJ;split at vJ
    ·rfl
    ·cases vJ
   obtain⟨y,h,hd⟩:=ane hX h;exact⟨y,M,ev.kF (s:=λρe=>Instr.sliceAt t (ρe x) (lo.map ρe) (hi.map ρe) none) (fh) (λρe=>by simp [execOp,ho,z3]) (λ{w0 S F ρ w ρe} hI hr=>hd hI (hr x) (yA hr lo) (yA hr hi)),h,λids hi=>cz.refl _ _⟩
  obtain⟨y,M',h,ei,hd⟩:=amJ hX h;exact⟨y,M',ev.qm (s:=λρe=>Instr.sliceAt t (ρe x) (lo.map ρe) (hi.map ρe) (mx.map ρe)) (fh) (λρe=>iG) (λ{w0 S F ρ w ρe} hI hr=>hd hI ⟨hr x,yA hr lo,yA hr hi,yA hr mx⟩),h,λids hi=>uP⟩
 ·rename_i t l c ho;split at h
  ·rename_i CM;obtain⟨y,M',h,ei,hd⟩:=amK hX h;exact⟨y,M',ev.qm (s:=λρe=>Instr.makeSlice t (ρe l) (ρe c)) (fh) (λρe=>iG) (λ{w0 S F ρ w ρe} hI hr=>hd hI ⟨hr l,hr c⟩),h,λids hi=>by simp [mK,ho]at hi;subst hi;exact ei⟩
  obtain⟨y,M',h,ei,hd⟩:=akU hX h;exact⟨y,M',ev.qm (s:=λρe=>Instr.makeSlice t (ρe l) (ρe c)) (fh) (λρe=>iG) (λ{w0 S F ρ w ρe} hI hr=>hd hI ⟨hr l,hr c⟩),h,λids hi=>uP⟩
 ·rename_i x i ho;split at h
  ·rename_i vs hx;split at h
   ·rename_i y hy;refine⟨y,M,ev.kF (s:=λρe=>Instr.extract (ρe x) i) (fh) (λρe=>iG) (λ{w0 S F ρ w ρe} hI hr=> ?_),h,λids hi=>mN⟩;have h1:=hr x;rw [hx]at h1;generalize ρe x=vx at h1;cases h1 with
    |dc _ us hl hu=>
     have hi:=(cy.1 hy).1;have qL:us[i]?=some (us[i]'(by omega)):=cJ (by omega);refine⟨us[i]'(by omega),?_,hu i y _ hy qL⟩;unfold Instr.extract;simp only [PQ,qL,fX]
   ·cases h
  ·cases h
 ·rename_i f first eD ho
  refine⟨_,M,ev.kF (s:=λρe=>Instr.makeFunc (.func f) (first.map ρe) (eD.map ρe)) (fh) (λρe=>iG) (λ{w0 S F ρ w ρe} hI hr=>⟨_,rfl,?_⟩),h,λids hi=>mN⟩;have h1:=A3 hr first.toList
  have h2:=A3 hr eD.toList;have:=aw.dE (K:=X.K) (ρ:=ρ) (F:=F) (w:=w) f _ _ _ _ h1.1 h2.1 h1.2 h2.2;have e1:(first.toList.map ρe).toArray =first.map ρe:=sf
  have e2:(eD.toList.map ρe).toArray =eD.map ρe:=sf;rw [e1,e2]at this;exact this
 ·rename_i c ho;split at h
  ·rename_i f kO;split at h
   ·rename_i g first eD hf
    obtain⟨x,M',⟨oF,gv⟩,h,ei⟩:=hT.call h;refine⟨x,M',λ{rd n w0 S F ρ w act next Q} hI hr hn=> ?_,h,λids hi=>ei ids (by simpa only [mK,ho,kO,hf]using hi)⟩;have h1:=hr f;rw [hf]at h1;generalize hv:act.eval f=vf at h1;cases h1 with
    |dE _ _ _ v1 v2 gS kj r1 r2=>
     exact afx
   ·rename_i id hf;obtain⟨x,M',hy,h⟩:=hT.yield h;replace h:=bG h;obtain⟨ayB,h⟩:=h;refine⟨x,M',λ{rd n w0 S F ρ w act next Q} hI hr hn=> ?_,h,λids hi=>by
     simp only [mK,ho,kO,hf,Option.some.injEq]at hi;subst hi;exact⟨oL ayB,λi hi hn=>absurd (wx.2 hi) hn⟩⟩
    have h1:=hr f;rw [hf]at h1;generalize hv:act.eval f=vf at h1;cases h1 with
    |gG _ hd g aA CU=>
     obtain⟨fn,tmps,ag,body,h2,h3⟩:=hy (rd:=rd) (n:=n- 1) hI (A3 hr c.args.toList) aA CU;refine⟨λ_ _=>trivial,?_⟩;rw [Ip _ _ _ (fh)];have cC:(execOp act.eval o).run X.P w= .ok (.round g fn tmps ag body) w:=by
      simp only [execOp,ho,resolve,kO,hv,Deferred.ofValue,dO,fX,fg,invoke];have e1: #[]++c.args.map act.eval=(c.args.toList.map act.eval).toArray :=sf;rw [e1];exact h2
     rw [cC];refine⟨λhd=>by simp [jP,Fence.wide]at hd,?_⟩;refine h3.mono ?_;rintro en w' ⟨v,ρ',F',rfl,h4,h5,h6⟩;exact hn v w' ρ' F' h4 h5 h6
   ·cases h
  ·rename_i kO;split at h
   ·rename_i t x ht hx;have e1:c.argTypes= #[t]:=by apply qV;simpa using ht
    have e2:c.args= #[x]:=Jt;obtain⟨y,h,hd⟩:=anH (ty:=o.type) hX h;exact⟨y,M,ev.kF (s:=λρe=>Builtin.len_ #[t] o.type #[ρe x]) (fh) (λρe=>abo) (λ{w0 S F ρ w ρe} hI hr=>hd hI (hr x)),h,λids hi=>Ri⟩
   ·cases h
  ·rename_i kO;obtain⟨y,h,hd⟩:=aoD (P:=X.P) (K:=X.K) h;refine⟨y,M,ev.kF (s:=λρe=>Builtin.min_ c.argTypes o.type (c.args.map ρe)) (fh) (λρe=>aba) (λ{w0 S F ρ w ρe} hI hr=> ?_),h,λids hi=>Ri⟩;have e1:c.args.map ρe=(c.args.toList.map ρe).toArray :=sf;rw [e1];exact hd _ _ (A3 hr _)
  ·rename_i kO;obtain⟨y,h,hd⟩:=aoE (P:=X.P) (K:=X.K) h;refine⟨y,M,ev.kF (s:=λρe=>Builtin.max_ c.argTypes o.type (c.args.map ρe)) (fh) (λρe=>aba) (λ{w0 S F ρ w ρe} hI hr=> ?_),h,λids hi=>Ri⟩;have e1:c.args.map ρe=(c.args.toList.map ρe).toArray :=sf;rw [e1];exact hd _ _ (A3 hr _)
  ·rename_i kO;split at h
   ·rename_i s x hx;have e2:c.args= #[s,x]:=Jt;obtain⟨y,M',h,ei,hd⟩:=amj (ty:=o.type) hX h;refine⟨y,M',ev.qm (s:=λρe=>Builtin.append_ c.argTypes o.type #[ρe s,ρe x]) (fh) (λρe=>JS) (λ{w0 S F ρ w ρe} hI hr=> ?_),h,λids hi=>R7⟩;have:=hd hI ⟨hr s,hr x⟩;exact qo
   ·cases h
  ·rename_i kO;split at h
   ·rename_i s x hx;have e2:c.args= #[s,x]:=Jt;obtain⟨y,M',h,ei,hd⟩:=anf (ty:=o.type) hX h;refine⟨y,M',ev.qm (s:=λρe=>Builtin.copy_ c.argTypes o.type #[ρe s,ρe x]) (fh) (λρe=>JS) (λ{w0 S F ρ w ρe} hI hr=> ?_),h,λids hi=>R7⟩;have:=hd hI ⟨hr s,hr x⟩;exact qo
   ·cases h
  ·rename_i kO;split at h
   ·rename_i s hx;have e2:c.args= #[s]:=Jt;obtain⟨y,M',h,ei,hd⟩:=amN (ty:=o.type) hX h;refine⟨y,M',ev.qm (s:=λρe=>Builtin.clear_ c.argTypes o.type #[ρe s]) (fh) (λρe=>JS) (λ{w0 S F ρ w ρe} hI hr=> ?_),h,λids hi=>R7⟩;have:=hd hI (hr s);exact qo
   ·cases h
  ·cases h
 ·rename_i t r' ho;split at h
  ·obtain⟨x,M',h,ei,hd⟩:=alT hX h;exact⟨x,M',ev.qm (s:=λ_=>Instr.makeMap t none) (fh) (λρe=>iG) (λ{w0 S F ρ w ρe} hI hr=>hd hI trivial),h,λids hi=>uP⟩
  ·cases h
 ·rename_i t x i ok ho;obtain⟨y,h,hd⟩:=ami hX h;exact⟨y,M,ev.kF (s:=λρe=>Instr.lookup t (ρe x) (ρe i) ok) (fh) (λρe=>iG) (λ{w0 S F ρ w ρe} hI hr=>hd hI (hr x) (hr i)),h,λids hi=>mN⟩
 ·rename_i t m i x ho;obtain⟨M',h,ei,hd⟩:=WR hX h;refine⟨_,M',λ{rd n w0 S F ρ w act next Q} hI hr hn=> ?_,h,λids hi=>uP⟩;obtain⟨w',F',h1,h2,h3⟩:=hd hI (hr m) (hr i) (hr x);refine Oo (fh) (w':=w') ?_ (hn undef w' ρ F' h2 h3 (.dc [] [] rfl (λj x v h _=>dB)));simp [execOp,ho,h1]
 ·rename_i t m i x ho;obtain⟨M',h,ei,hd⟩:=WR hX h;refine⟨_,M',λ{rd n w0 S F ρ w act next Q} hI hr hn=> ?_,h,λids hi=>uP⟩;obtain⟨w',F',h1,h2,h3⟩:=hd hI (hr m) (hr i) (hr x);refine Oo (fh) (w':=w') ?_ (hn undef w' ρ F' h2 h3 (.dc [] [] rfl (λj x v h _=>dB)));simp [execOp,ho,h1]
 ·cases h
section
variable {α:Type}
def pz(n:Nat)(k:Nat->Option R):Option R:=match n with|0=>k 0|m+1=>k (Nat.succ m)
def Vh(n:Int)(k:Int->Option R):Option R:=match n with| .ofNat m=>pz m λm=>k (.ofNat m)| .negSucc m=>pz m λm=>k (.negSucc m)
def RD(n:Nat)(k:Nat->Option R):pz n k=k n:=by cases n<;>rfl
def arY(n:Int)(k:Int->Option R):Vh n k=k n:=by cases n<;>(unfold Vh;exact RD _ λ_=>_)
noncomputable def sJ (f:α->(α->Option R)->Option R) (l:List α):(List α->Option R)->Option R:=
 List.rec (motive:=λ_=>(List α->Option R)->Option R) (λk=>k []) (λx _ ih k=>f x λx'=>ih λl'=>k (x'::l')) l
def tg{f:α->(α->Option R)->Option R}(hf:∀x k,f x k=k x):∀(l:List α) (k:List α->Option R),sJ f l k=k l
 | [],_=>rfl
 |x::l,k=>by
  show f x (λx'=>sJ f l λl'=>k (x'::l'))=k (x::l);rw [hf,tg hf l]
def Ag(x:AV)(k:AV->Option R):Option R:=
 match x with
 | .int kd n=>Vh n λn=>k (.int kd n)
 | .bool b=>(match b with|true=>k (.bool true)|false=>k (.bool false))
 | .ptr id i off=>pz id λid=>pz i λi=>pz off λoff=>k (.ptr id i off)
 | .aa id=>pz id λid=>k (.aa id)
 | .gG id=>pz id λid=>k (.gG id)
 | .mp id=>pz id λid=>k (.mp id)
 | .kg id n=>pz id λid=>pz n λn=>k (.kg id n)
 | .vw id lo n=>pz id λid=>pz lo λlo=>pz n λn=>k (.vw id lo n)
 |x=>k x
def E1(x:AV)(k:AV->Option R):Ag x k=k x:=by
 cases x<;>simp only [Ag,arY,RD]
 split<;>rfl
noncomputable def Af (x:AV) (k:AV->Option R):Option R:=
 match x with
 | .agg cs=>sJ Ag cs λcs=>k (.agg cs)
 | .dE f a b=>sJ Ag a λa=>sJ Ag b λb=>k (.dE f a b)
 |x=>Ag x k
def E0(x:AV)(k:AV->Option R):Af x k=k x:=by
 unfold Af;split
 ·exact tg E1 _ _
 ·rw [tg E1,tg E1]
 ·exact E1 _ _
noncomputable def sK (x:AV) (k:AV->Option R):Option R:=
 match x with
 | .dc cs=>sJ Af cs λcs=>k (.dc cs)
 |x=>Af x k
def RF(x:AV)(k:AV->Option R):sK x k=k x:=by
 unfold sK;split
 ·exact tg E0 _ _
 ·exact E0 _ _
noncomputable def Vi (e:AV×AV) (k:AV×AV->Option R):Option R:=Ag e.1 λa=>Af e.2 λb=>k (a,b)
def arZ(e:AV×AV)(k:AV×AV->Option R):Vi e k=k e:=by unfold Vi;rw [E1,E0]
noncomputable def Ae (b:bU) (k:bU->Option R):Option R:=
 match b with
 | .var ks cs=>sJ Af cs λcs=>k (.var ks cs)
 | .row t xs=>sJ (sJ Af) xs λxs=>k (.row t xs)
 | .map kd ag ks es=>sJ Vi es λes=>k (.map kd ag ks es)
 |b=>k b
def RE(b:bU)(k:bU->Option R):Ae b k=k b:=by
 unfold Ae;split
 ·exact tg E0 _ _
 ·exact tg (λ_ _=>tg E0 _ _) _ _
 ·exact tg arZ _ _
 ·rfl
noncomputable def Cc (M:ar) (id:Nat) (k:ar->Option R):Option R:=
 List.rec (motive:=λ_=>Nat->(ar->Option R)->Option R) (λ_ k=>k []) (λb tl ih n k=>Nat.rec (motive:=λ_=>Option R) (Ae b λb=>k (b::tl)) (λm _=>ih m λl=>k (b::l)) n) M id k
def QA:∀(M:ar) (id:Nat) (k:ar->Option R),Cc M id k=k M
 | [],_,_=>rfl
 |b::M,0,k=>by
  show(Ae b λb=>k (b::M))=_;rw [RE]
 |b::M,n+1,k=>by
  show(Cc M n λl=>k (b::l))=_;rw [QA M n]
noncomputable def uR (M:ar) (k:ar->Option R):Option R:=
 List.rec (motive:=λ_=>(ar->Option R)->Option R) (λk=>k []) (λb tl ih k=>List.rec (motive:=λ_=>Option R) (Ae b λb=>k [b]) (λ_ _ _=>ih λl=>k (b::l)) tl) M k
def P4:∀(M:ar) (k:ar->Option R),uR M k=k M
 | [],_=>rfl
 | [b],k=>by
   show(Ae b λb=>k [b])=_;rw [RE]
 |b::c::M,k=>by
  show(uR (c::M) λl=>k (b::l))=_;rw [P4 (c::M)]
noncomputable def K3 (e:Operand->AV) (o:Oper) (k:AV->ar->Option R) (x:AV) (M:ar):Option R:=
 match o.op with
 | .store _ p _=>(match e p with| .ptr id _ _=>Cc M id λM=>k x M|_=>k x M)
 | .mapUpdate _ m _ _=>(match e m with| .mp id=>Cc M id λM=>k x M|_=>k x M)
 | .insert _ m _ _=>(match e m with| .mp id=>Cc M id λM=>k x M|_=>k x M)
 | .alloc _=>sK x λx=>uR M λM=>k x M
 | .box _ _=>sK x λx=>uR M λM=>k x M
 | .makeSlice _ _ _=>sK x λx=>uR M λM=>k x M
 | .buildSlice _ _ _=>sK x λx=>uR M λM=>k x M
 | .makeMap _ _=>sK x λx=>uR M λM=>k x M
 | .slice _ _ _ _ _=>sK x λx=>uR M λM=>k x M
 | .call c=>(match c.callee with| .value _=>k x M| .builtin .append =>sK x λx=>uR M λM=>k x M|_=>sK x λx=>k x M)
 |_=>sK x λx=>k x M
def aqx(e:Operand->AV)(o:Oper)(k:AV->ar->Option R)(x:AV)(M:ar):K3 e o k x M=k x M:=by
 unfold K3;split<;>try (simp only [RF,P4];done)
 ·exact Rh
 ·exact Rh
 ·exact Rh
 ·split
  ·rfl
  ·simp only [RF,P4]
  ·exact RF _ _
end
end
end Go.ae
namespace Go.ae
def ads{p:Prop}(h:p:=by
 have iP:=f.u;rw [hu]at iP;have:=f.iz;cases d<;>simp [kJ]at iP
 subst iP;exact this):p:=h
def abZ{p:Prop}(h:p:=by
 injection h with h;subst h;cases h2;cases h1;exact key _ rfl rfl rfl):p:=h
def Ro{p:Prop}(h:p:=by apply qV;simpa using ha):p:=h
def abr{p:Prop}(h:p:=by
 rw [YU,dO,fX,fg];simp [binOp,Op.stringOp]):p:=h
end Go.ae
namespace Go.ae
def wv:=@Int.toNat_natCast
def YU:=@Go.eqGuard_at_string
def Ik:=@Go.eqGuard_at_pointer
end Go.ae
namespace Go.ae
open Go
noncomputable section
variable {X:Cx} {R:Type}
variable {w0 w w':World} {S:Sc} {F:aO} {ρ:aT} {M:ar}
variable{x:AV}{k:AV->ar->Option R}{op:BinOp}{o:Oper}{e:Operand->AV}{P:Program}{r:R}{T:gg R}{d s t:TypeId}{v:Value}
def Gs:List UInt8->List UInt8->Bool
 | [],[]=>true
 |x::xs,y::ys=>Nat.beq x.toNat y.toNat&&Gs xs ys
 |_,_=>false
def RA:∀(a b:List UInt8),Gs a b=(a==b)
 | [],[]=>rfl
 | [],_::_=>rfl
 |_::_,[]=>rfl
 |x::xs,y::ys=>by
  have hxy:Nat.beq x.toNat y.toNat=(x==y):=by
   cases h:Nat.beq x.toNat y.toNat with
   |true=>have:=UInt8.toNat_inj.1 (ct h);simp [this]
   |false=>
    have:x≠y:=λe=>by rw [e]at h;simp at h
    simp [this]
  simp only [Gs,List.cons_beq_cons,RA xs ys,hxy]
def SH(op:BinOp)(a b:ByteArray):Option AV:=
 match op with
 | .add =>(match decide (a.data.toList.length+b.data.toList.length<=1000000)with|true=>some (.str ⟨⟨a.data.toList++b.data.toList⟩⟩)|false=>none)
 | .eql =>some (.bool (Gs a.data.toList b.data.toList))
 | .neq =>some (.bool (!Gs a.data.toList b.data.toList))
 |_=>none
def SI(X:Cx)(t:TypeId)(x y:AV):Option Bool:=
 match(X.ti t).ok,(X.ti t).u with
 |true,.ptr e=>
  match x,y with
  | .gM,.gM =>some true
  | .ptr _ _ _,.gM =>some false
  | .ep _ _ _,.gM =>some false
  | .ptr a i o,.ptr b j p=>(match(X.ti e).ok &&(Nat.beq a b&&(Nat.beq i j&&Nat.beq o p))with|true=>some true|false=>none)
  |_,_=>none
 |_,_=>none
def BX(X:Cx)(s d:TypeId):Bool:=match X.ub with|none=>false|some u=>(Nat.beq s u.pt&&Nat.beq d u.up)||(Nat.beq s u.up&&Nat.beq d u.pt)
def SW(X:Cx)(x:AV)(M:ar):Bool:=
 match X.ub with
 |none=>false
 |some u=>match x with
  | .ptr id 0 0=>(match gm M id with|some (.var ks _)=>decide (ks=u.ks)|_=>false)
  |_=>false
def isNe(X:Cx)(g:FuncId):Bool:=match X.ub with|none=>false|some u=>Nat.beq g u.ne
def byteOf(row:Row):Option UInt8:=match row with| [.int .u8 (.ofNat n)]=>(match Nat.blt n 256 with|true=>some (UInt8.ofNat n)|false=>none)|_=>none
def bytesOf:Nat->aH->Option (List UInt8)
 |0,_=>some []
 |n+1,row::xs=>(match byteOf row with|some b=>(match bytesOf n xs with|some l=>some (b::l)|none=>none)|none=>none)
 |_+1,[]=>none
def Gt(X:Cx)(e:Operand->AV)(o:Oper):Bool:=
 match o.op with
 | .binOp _ _ x y _=>
   (match e x with
    | .str _=>(match e y with| .str _=>true|_=>false)
    | .gM =>(match e y with| .gM =>true|_=>false)
    | .ep _ _ _=>(match e y with| .gM =>true|_=>false)
    | .ptr _ _ _=>(match e y with| .gM =>true| .ptr _ _ _=>true|_=>false)
    |_=>false)
 | .convert s d _=>BX X s d
 | .slice _ x _ _ _=>(match e x with| .str _=>true|_=>false)
 | .call c=>
   match c.callee with
   | .builtin .unsafeSliceData =>true
   | .builtin .unsafeString =>true
   | .value f=>(match e f with| .dE g [] []=>isNe X g|_=>false)
   |_=>false
 |_=>false
def strOf:AV->Option ByteArray| .str s=>some s|_=>none
def OS{s:ByteArray}(h:strOf x=some s):x= .str s:=by
 cases x<;>simp [strOf]at h
 rw [h]
def aep(X:Cx)(op:BinOp)(t:TypeId)(x y:AV):Option AV:=
 match strOf x,strOf y with
 |some a,some b=>SH op a b
 |_,_=>match SI X t x y,op with
  |some b,.eql =>some (.bool b)
  |some b,.neq =>some (.bool (!b))
  |_,_=>none
def aeo(X:Cx)(t:TypeId)(x:AV)(lo hi:Option AV):Option AV:=
 match strOf x with
 |some s=>
  (match(X.ti t).ok,(X.ti t).u,kz 0 lo,kz s.data.toList.length hi with
   |true,.str,some l,some h=>(match decide (0<=l)&&decide (l<=h)&&decide (h<=(s.data.toList.length:Int))with
    |true=>some (.str ⟨⟨(s.data.toList.take h.toNat).drop l.toNat⟩⟩)
    |false=>none)
   |_,_,_,_=>none)
 |none=>none
def Cg(X:Cx)(e:Operand->AV)(o:Oper)(M:ar):Option (AV×ar):=
 match o.op with
 | .binOp op t x y _=>(match aep X op t (e x) (e y)with|some z=>some (z,M)|none=>none)
 | .convert _ _ x=>(match SW X (e x) M with|true=>some (e x,M)|false=>none)
 | .slice t x lo hi mx=>(match mx,aeo X t (e x) (lo.map e) (hi.map e)with|none,some z=>some (z,M)|_,_=>none)
 | .call c=>
   match c.callee with
   | .builtin .unsafeSliceData =>
     (match c.args.toList with
      | [x]=>(match e x with
        | .aa id=>(match gm M id with|some (.row _ (_::_))=>some (.ptr id 0 0,M)|_=>none)
        |_=>none)
      |_=>none)
   | .builtin .unsafeString =>
     (match c.argTypes.toList,c.args.toList with
      | [pt,_],[p,n]=>(match e p,e n with
        | .ptr id 0 0,.int .i64 (.ofNat m)=>(match gm M id with
          |some (.row t xs)=>(match(X.ti pt).ok,(X.ti pt).u,(X.ti t).ok with
           |true,.ptr t',true=>(match Nat.beq t' t&&(Nat.beq (X.ti t).size 1&&(Nat.blt 0 m&&Nat.ble m 1000000))with
            |true=>(match bytesOf m xs with|some l=>some (.str ⟨⟨l⟩⟩,M.set id .dead)|none=>none)
            |false=>none)
           |_,_,_=>none)
          |_=>none)
        |_,_=>none)
      |_,_=>none)
   | .value f=>(match e f with| .dE g [] []=>(match isNe X g,c.args.toList with|true,[x]=>some (e x,M)|_,_=>none)|_=>none)
   |_=>none
 |_=>none
def anU{row:Row}{b:UInt8}(h:byteOf row=some b):row=[.int .u8 b.toNat]:=by
 unfold byteOf at h;split at h
 ·rename_i n;split at h
  ·rename_i hn;have:n<256:=by simpa [Nat.blt_eq]using hn
   injection h with h;subst h;have e:(UInt8.ofNat n).toNat =n:=eR;rw [e];rfl
  ·cases h
 ·cases h
def XH:∀{n:Nat} {xs:aH} {l:List UInt8},bytesOf n xs=some l->l.length=n∧∀(j:Nat) b,l[j]?=some b->xs[j]?=some [.int .u8 b.toNat]
 |0,_,l,h=>by
  simp only [bytesOf,Option.some.injEq]at h;subst h;exact⟨rfl,λj b h=>dB⟩
 |n+1,[],l,h=>by simp [bytesOf]at h
 |n+1,row::xs,l,h=>by
  simp only [bytesOf]at h;split at h
  ·rename_i b hb;split at h
   ·rename_i l' hl;injection h with h;subst h;obtain⟨h1,h2⟩:=XH hl;refine⟨by simp [h1],λj b' hj=> ?_⟩;cases j with
    |zero=>simp only [D9,Option.some.injEq]at hj⊢;subst hj;exact anU hb
    |succ j=>simp only [ZL]at hj⊢;exact h2 j b' hj
   ·cases h
  ·cases h
def aph{a b:ByteArray}{z:AV}(h:SH op a b=some z)(x y:Operand)(w:World):
 ∃v,(do eqGuard op t x y (.string a) (.string b);binOp op t (.string a) (.string b):Sem Value).run X.P w= .ok v w∧aw X.K ρ F w z v:=by
 have tl:∀s:ByteArray,s.toList=s.data.toList:=λs=>ByteArray.toList_eq s;unfold SH at h;split at h
 ·split at h
  ·rename_i hl;injection h with h;subst h;have hs:a.size+b.size<=9223372036854775807:=by
    have:=A9 hl;simp only [k8]at this;show a.data.size+b.data.size<=_;omega
   refine⟨.string (a++b),?_,?_⟩
   ·rw [YU,dO,fX,fg];show(Op.stringOp .add a b).run X.P w=_;exact run_string_add_sum w a b hs
   ·have:(a++b)=⟨⟨a.data.toList++b.data.toList⟩⟩:=by
     apply ByteArray.ext;apply qV;simp
    rw [this];exact .str _
  ·cases h
 ·injection h with h;subst h;refine⟨.bool (a.toList==b.toList),?_,by rw [RA,tl,tl];exact .bool _⟩;exact abr
 ·injection h with h;subst h;refine⟨.bool (!(a.toList==b.toList)),?_,by rw [RA,tl,tl];exact .bool _⟩;exact abr
 ·cases h
def Zf(hX:X.Okb){p q:AV}{b:Bool}(h:SI X t p q=some b){u:Value}(h1:aw X.K ρ F w p v)(h2:aw X.K ρ F w q u)(x y:Operand):
 (op= .eql ->(do eqGuard op t x y v u;binOp op t v u:Sem Value).run X.P w= .ok (.bool b) w)∧(op= .neq ->(do eqGuard op t x y v u;binOp op t v u:Sem Value).run X.P w= .ok (.bool (!b)) w):=by
 unfold SI at h;split at h
 ·rename_i e aQ hu;obtain⟨i,d,z,f⟩:=hX.facts aQ;have cE:X.P.underlying t=some (.pointer e):=ads;have hpt:X.P.underlying t=some (.pointer (X.P.pointee t)):=by
   rw [cE];simp [Program.pointee,cE]
  have key:∀(p:Option Addr),v= .pointer p->u= .pointer none->p.isNone=b->(op= .eql ->(do eqGuard op t x y v u;binOp op t v u:Sem Value).run X.P w= .ok (.bool b) w)∧(op= .neq ->(do eqGuard op t x y v u;binOp op t v u:Sem Value).run X.P w= .ok (.bool (!b)) w):=by
   rintro p rfl rfl rfl;constructor
   ·rintro rfl;rw [Ik,dO,fX,fg];exact run_eql_pointer_nil w t p hpt
   ·rintro rfl;rw [Ik,dO,fX,fg];exact run_neq_pointer_nil w t p hpt
  split at h
  ·injection h with h;subst h;cases h1;cases h2;exact key _ rfl rfl rfl
  ·exact abZ
  ·exact abZ
  ·rename_i a i' o b' j p';split at h
   ·rename_i hb;injection h with h;subst h;simp only [bc]at hb;obtain⟨he,e1,e2,e3⟩:=hb;have e1:=ct e1;have e2:=ct e2;have e3:=ct e3;subst e1;subst e2;subst e3;obtain⟨i2,d2,z2,f2⟩:=hX.facts he;cases h1 with
    |ptr _ _ _ hd g o' n c aA hv=>
     cases h2 with
     |ptr _ _ _ kU g2 o2 n2 c2 B9 ig=>
      rw [aA]at B9;injection B9 with B9;subst B9;rw [hv]at ig;injection ig with q1 q2 q3;injection q1 with q1;injection q1 with q4 q5 q6;subst q4;subst q5;constructor
      ·rintro rfl;rw [Ik,dO,fX,fg];exact run_eql_ptr_same w _ cE f2.info
      ·rintro rfl;rw [Ik,dO,fX,fg];exact Lib.run_neq_ptr_same w _ cE f2.info
   ·cases h
  ·cases h
 ·cases h
def anA{e:TypeId}(hc:P.cellsOf e=1)(count off n:Nat)(hn:off+n<=count):liesAt P P.depth e count off e n=true:=by
 have hd:P.depth=(2*(P.types.size+Made.depth)+1)+1:=rfl;rw [hd];simp only [liesAt,sW];left;rw [hd];simp [rowAt,hc,hn,sameLayout,Nat.mod_one]
def aj2{w:World}(pt it ty e:TypeId)(hp:P.underlying pt=some (.pointer e))(hc:P.cellsOf e=1)(g o cells:Nat)(pf:w.shape? g=some (e,cells))(l:List UInt8)(h0:l≠ [])(hn:o+l.length<=cells)(h63:l.length<=9223372036854775807)
 (jI:∀j x,l[j]?=some x->w.cell? ((⟨g,o,none⟩:Addr).add j)=some (.int .u8 x.toNat)):
 (Builtin.unsafeString_ #[pt,it] ty #[.pointer (some ⟨g,o,none⟩),.int .i64 l.length]).run P w= .ok (.string ⟨l.toArray⟩) (w.freeze ⟨g,o,none⟩ l.length):=by
 have hl:l.length≠0:=by simpa using h0
 have hlb:=Lib.run_loadBytes (P:=P) w l ⟨g,o,none⟩ .empty jI;have as0:=anA (P:=P) hc (cells/P.cellsOf e) o l.length (by rw [hc];simpa using hn);have TH:¬(9223372036854775807:Int)<(l.length:Int):=by omega
 have iV:IntKind.i64.max=9223372036854775807:=rfl;have ayl:¬(l.length:Int)<0:=by omega
 change (asInt (.int .i64 l.length)>>= _).run P w=_
 simp [asInt,asIntOf,iV,TH,ayl,hl,variablesAt,pf,elemOf,gL hp,as0,hlb]
def amh(w:World)(g o n:Nat):w.grownBy (w.freeze ⟨g,o,none⟩ n) (some g):=by
 unfold World.freeze;split
 ·exact⟨rfl,rfl,rfl,dZ _,λ_ _ _=>rfl⟩
 ·refine⟨rfl,rfl,rfl,by simp,λk hk c9=> ?_⟩;have:k≠g:=λe=>c9 (by rw [e]);simp [YS,Ne.symm this]
def anX{w:World}(cE:P.underlying t=some .string)(s:ByteArray){lo hi:Option AV}{vl vh:Option Value}{K:TypeId->dv}(h1:ot K ρ F w lo vl)(h2:ot K ρ F w hi vh){l h:Int}(e1:kz 0 lo=some l)(e2:kz s.data.toList.length hi=some h)
 (b1:0<=l) (b2:l<=h) (b3:h<=s.data.toList.length):(Instr.sliceAt t (.string s) vl vh none).run P w= .ok (.string ⟨⟨(s.data.toList.take h.toNat).drop l.toNat⟩⟩) w:=by
 obtain⟨ln,rfl⟩:=uo b1;obtain⟨hn,rfl⟩:=uo (show 0<=h by omega);have bound:∀(o:Option AV) (v:Option Value) (d:Int) (n:Nat),ot K ρ F w o v->kz d o=some (n:Int)->(o=none∧v=none∧d=n)∨∃kd,v=some (.int kd n)∧o.isSome=true:=adP;have hu:∀w,(underlying t).run P w= .ok .string w:=λw=>gL cE w;have cX:s.size=s.data.toList.length:=by rw [k8];rfl
 have hs:∀a b:Nat,b<=s.size->s.extract a b=⟨⟨(s.data.toList.take b).drop a⟩⟩:=by
  intro a b hb;apply ByteArray.ext;rw [ByteArray.data_extract];apply qV;rw [Array.toList_extract,List.extract_eq_drop_take];rw [List.drop_take]
 have zq:(⟨⟨(s.data.toList.take hn).drop ln⟩⟩:ByteArray)=s.extract ln hn:=(hs ln hn (by omega)).symm;simp only [wv];rw [zq];rcases bound lo vl 0 ln h1 e1 with⟨o1,rfl,d1⟩|⟨k1,rfl,s1⟩<;>rcases bound hi vh s.data.toList.length hn h2 e2 with⟨o2,rfl,d2⟩|⟨k2,rfl,s2⟩
 ·have e0:ln=0:=by omega
  have Ah:hn=s.size:=by omega
  subst e0;subst Ah;simp [Instr.sliceAt,Instr.slice,hu,Instr.sliceBounds]
 ·have e0:ln=0:=by omega
  subst e0;have:hn<=s.size:=by omega
  simp [Instr.sliceAt,Instr.slice,hu,Instr.sliceBounds,Instr.sliceBound,asIntOf,this]
 ·have Ah:hn=s.size:=by omega
  subst Ah;have h1:ln<=s.size:=by omega
  simp [Instr.sliceAt,Instr.slice,hu,Instr.sliceBounds,Instr.sliceBound,asIntOf,h1]
 ·have h1:ln<=hn:=by omega
  have h2:hn<=s.size:=by omega
  simp [Instr.sliceAt,Instr.slice,hu,Instr.sliceBounds,Instr.sliceBound,asIntOf,h1,h2]
def aoo(h:BX X s d=true):∃u,X.ub=some u∧(s=u.pt∧d=u.up∨s=u.up∧d=u.pt):=by
 unfold BX at h;split at h
 ·cases h
 ·rename_i u hu;rw [sW,bc,bc]at h;rcases h with⟨a,b⟩|⟨a,b⟩
  ·exact⟨u,hu,.inl ⟨ct a,ct b⟩⟩
  ·exact⟨u,hu,.inr ⟨ct a,ct b⟩⟩
def ao0(hX:X.Okb)(Uw:BX X s d=true)(h:SW X x M=true)(hI:Inv X w0 S F ρ M w)(hv:aw X.K ρ F w x v):(convert s d v).run X.P w= .ok v w:=by
 obtain⟨u,hu,hsd⟩:=aoo Uw;have aQ:=hX.ub u hu;unfold SW at h;rw [hu]at h;simp only at h;split at h
 ·rename_i id;split at h
  ·rename_i ks cs hb;rw [cG]at hb;have iB:=A9 h;cases hv with
   |ptr _ _ _ hd g o n c aA hhv=>
    obtain⟨hk,g',cur,e,eN,cX,hg,hr,hc,hy⟩:=hI.Pd hb aA;rw [hhv]at eN;injection eN with e1 e2 e3;injection e1 with e1;injection e1 with e1 e4 e5;subst e1;subst e4;have hye:e=u.e:=by
     unfold Cx.xG at hy;rw [hu]at hy;simp only [iB,decide_true]at hy;exact ct hy
    subst hye;have aye:cur.size=u.ks.length:=by
     have h1:=hr.1;simp only [k8]at h1;rw [h1,gK hk,iB]
    have pf:w.shape? g=some (u.e,u.ks.length):=by simp [World.shape?,hg,aye]
    obtain⟨j,hj,hj0⟩:=aQ.bt;have e0:(⟨g,0+0*hd.sz+0,none⟩:Addr)=⟨g,0,none⟩:=by simp
    rw [e0];rcases hsd with⟨rfl,rfl⟩|⟨rfl,rfl⟩
    ·exact Lib.run_to_unsafe w ⟨g,0,none⟩ aQ.pt aQ.up hj hj0 pf aQ.ks
    ·exact Lib.run_from_unsafe w ⟨g,0,none⟩ aQ.up aQ.pt hj pf aQ.ax5
  ·cases h
 ·cases h
def aok(hX:X.Okb){M':ar}(hi:Gt X e o=true)(h:Cg X e o M=some (x,M')):
 ev X o e M x M'∧∀ids,mK T e o M=some ids->cz ids M M':=by
 unfold Cg at h;split at h
 ·rename_i op t a b u ho;refine⟨?_,λids aA=>by simp [mK,ho]at aA⟩;split at h
  ·rename_i z hz;injection h with h;injection h with h3 h4;subst h3;subst h4;intro rd n w0 S F ρ w act next Q hI hr hn;refine ev.kF (o:=o) (e:=e) (x:=z) (M:=M) (s:=λρe=>(do eqGuard op t a b (ρe a) (ρe b);binOp op t (ρe a) (ρe b))) (fh) (λρe=>iG) (λ{w0 S F ρ w ρe} hI hr=> ?_) hI hr hn;unfold aep at hz;split at hz
   ·rename_i s1 s2 h1 h2;have r1:=hr a;have r2:=hr b;rw [OS h1]at r1;rw [OS h2]at r2;generalize ρe a=va at r1;generalize ρe b=vb at r2;cases r1;cases r2;exact aph hz a b w
   ·split at hz
    ·rename_i bb hb;injection hz with hz;subst hz;exact⟨_,(Zf hX (op:= .eql) hb (hr a) (hr b) a b).1 rfl,.bool _⟩
    ·rename_i bb hb;injection hz with hz;subst hz;exact⟨_,(Zf hX (op:= .neq) hb (hr a) (hr b) a b).2 rfl,.bool _⟩
    ·cases hz
  ·cases h
 ·rename_i s d a ho;refine⟨?_,λids aA=>by simp [mK,ho]at aA⟩;split at h
  ·rename_i eh;injection h with h;injection h with h3 h4;subst h3;subst h4;have Uw:BX X s d=true:=by
    unfold Gt at hi;simp only [ho]at hi;exact hi
   intro rd n w0 S F ρ w act next Q hI hr hn;refine ev.kF (o:=o) (e:=e) (x:=e a) (M:=M) (s:=λρe=>convert s d (ρe a)) (fh) (λρe=>iG) (λ{w0 S F ρ w ρe} hI hr=> ?_) hI hr hn;exact⟨_,ao0 hX Uw eh hI (hr a),hr a⟩
  ·cases h
 ·rename_i t a lo CR mx ho;split at h
  ·rename_i z hz;injection h with h;injection h with h3 h4;subst h3;subst h4;refine⟨?_,λids aA=>cz.refl _ _⟩;unfold aeo at hz;split at hz
   ·rename_i s hs;split at hz
    ·rename_i l hh aQ hu e1 e2;split at hz
     ·rename_i hb;injection hz with hz;subst hz;simp only [bc,fr]at hb;obtain⟨⟨b1,b2⟩,b3⟩:=hb;obtain⟨i,d,z,f⟩:=hX.facts aQ;have cE:X.P.underlying t=some .string :=by
       have iP:=f.u;rw [hu]at iP;have:=f.iz;cases d<;>simp [kJ]at iP
       exact this
      intro rd n w0 S F ρ w act next Q hI hr hn;refine ev.kF (o:=o) (e:=e) (M:=M) (x:= .str ⟨⟨(s.data.toList.take hh.toNat).drop l.toNat⟩⟩) (s:=λρe=>Instr.sliceAt t (ρe a) (lo.map ρe) (CR.map ρe) none) (fh) (λρe=>iG) (λ{w0 S F ρ w ρe} hI hr=> ?_) hI hr hn;have r1:=hr a;rw [OS hs]at r1;generalize ρe a=va at r1;cases r1;exact⟨_,anX cE s (yA hr lo) (yA hr CR) e1 e2 b1 b2 b3,.str _⟩
     ·cases hz
    ·cases hz
   ·cases hz
  ·cases h
 ·rename_i c ho;split at h
  ·rename_i kO;split at h
   ·rename_i a ha;split at h
    ·rename_i id aA;split at h
     ·rename_i t r rs hb;injection h with h;injection h with h3 h4;subst h3;subst h4;rw [cG]at hb;have e2:c.args= #[a]:=Ro;refine⟨ev.kF (s:=λρe=>Builtin.unsafeSliceData_ c.argTypes o.type #[ρe a]) (fh) (λρe=>JS) (λ{w0 S F ρ w ρe} hI hr=> ?_),λids aA=>cz.refl _ _⟩;have r1:=hr a;rw [aA]at r1;generalize ρe a=va at r1;cases r1 with
      |aa _ hd hh=>
       obtain⟨q1,q2,q3⟩:=hI.rep id _ hd hb hh;rcases q3 with⟨_,q4⟩|⟨g,o',c',cur,q3,hg,q4,q5,q6,q7⟩
       ·cases q4
       ·rw [q3];refine⟨.pointer (some ⟨g,o',none⟩),Lib.run_unsafeSliceData_row w _ _ _ _ _ (by simp at q4;omega),?_⟩;have:=aw.ptr (K:=X.K) (F:=F) (w:=w) id 0 0 hd g o' _ _ hh q3;exact qo
     ·cases h
    ·cases h
   ·cases h
  ·rename_i kO;split at h
   ·rename_i pt it p n ht ha;split at h
    ·rename_i id m hp hn;split at h
     ·rename_i t xs hb;split at h
      ·rename_i t' aQ hu vd;split at h
       ·rename_i hc;split at h
        ·rename_i l hl;injection h with h;injection h with h3 h4;subst h3;subst h4;rw [cG]at hb;simp only [bc]at hc;obtain⟨c1,c2,c3,c4⟩:=hc;have c1:=ct c1;subst c1;have c2:=ct c2;have c3:0<m:=by simpa [Nat.blt_eq]using c3
         have c4:=oL c4;obtain⟨l1,l2⟩:=XH hl;have e1:c.argTypes= #[pt,it]:=by apply qV;simpa using ht
         have e2:c.args= #[p,n]:=Ro;obtain⟨i,d,z,f⟩:=hX.facts aQ;obtain⟨i2,d2,z2,f2⟩:=hX.facts vd;have cE:X.P.underlying pt=some (.pointer t'):=ads;have uH:X.P.cellsOf t'=1:=by
          have h1:=f2.size;rw [c2]at h1;simp [Program.cellsOf,f2.info,<-h1]
         refine⟨ev.qm (s:=λρe=>Builtin.unsafeString_ #[pt,it] o.type #[ρe p,ρe n]) (fh) (λρe=>abo) (λ{w0 S F ρ w ρe} hI hr=> ?_),λids aA=> ?_⟩
         ·have r1:=hr p;have r2:=hr n;rw [hp]at r1;rw [hn]at r2;generalize ρe p=vp at r1;generalize ρe n=vn at r2;cases r2;cases r1 with
          |ptr _ _ _ hd g0 o0 n0 c0 hh hv=>
           obtain⟨q1,q2,q3⟩:=hI.rep id _ hd hb hh;rcases q3 with⟨q3,_⟩|⟨g,o',c',cur,q3,hg,q4,q5,q6,q7⟩
           ·rw [hv]at q3;cases q3
           ·have q3':=q3;rw [hv]at q3';injection q3' with k1 k2 k3;injection k1 with k1;injection k1 with k4 k5 k6;subst k4;subst k5;subst k3;have cX:hd.sz=1:=by
             rw [q1];show(X.K t').length =1;have:(X.K t').length =i2.size:=f2.ks;rw [this,<-f2.size,c2]
            rw [cX]at q6 q7;have hm:m<=xs.length:=by
             have:=(cy.1 (l2 (m- 1) (l[m- 1]'(by omega)) (cJ (by omega)))).1;omega
            have pf:w.shape? g0=some (t',cur.size):=by simp [World.shape?,hg]
            have jI:∀j x,l[j]?=some x->w.cell? ((⟨g0,o0,none⟩:Addr).add j)=some (.int .u8 x.toNat):=by
             intro j x hj;obtain⟨v,mD,ig⟩:=q7 j _ (l2 j x hj) 0 _ rfl;cases ig;rw [ju,qW w g0 (o0+j) cur _ (0,0) hg];simpa using mD
            have cC:=aj2 (P:=X.P) (w:=w) pt it o.type t' cE uH g0 o0 cur.size pf l (λe=>by rw [e]at l1;simp at l1;omega) (by omega) (by omega) jI;have bM:hd.b9=some g0:=j8;have fU:=amh w g0 o0 l.length;have z9:∀a,F a->a.block≠g0:=(hI.sep id _ hd g0 hb rfl hh bM).2.2;refine⟨.string ⟨l.toArray⟩,w.freeze ⟨g0,o0,none⟩ l.length,ρ,F,?_,hI.write hb rfl hh bM fU trivial,⟨λ_ h=>h,λ_ _ h=>h,hI.rB fU (λk hk a ha=>BK)⟩,.str _⟩;rw [<-l1];simpa using cC
         ·simp only [mK,ho,kO]at aA;rw [ha]at aA;simp only [Option.some.injEq]at aA;subst aA;rw [hp];exact cz.set _ _ _
        ·cases h
       ·cases h
      ·cases h
     ·cases h
    ·cases h
   ·cases h
  ·rename_i f kO;split at h
   ·rename_i g hf;split at h
    ·rename_i a c9 ha;injection h with h;injection h with h3 h4;subst h3;subst h4;refine⟨?_,λids aA=>cz.refl _ _⟩;unfold isNe at c9;split at c9
     ·cases c9
     ·rename_i u LH;have hg:=ct c9;subst hg;obtain⟨fn,f1,f2,f3,f4,f5⟩:=(hX.ub u LH).ne;have e2:c.args= #[a]:=Ro;intro rd n w0 S F ρ w act next Q hI hr hn;have h1:=hr f;rw [hf]at h1;generalize hv:act.eval f=vf at h1;cases h1 with
      |dE _ _ _ v1 v2 gS kj r1 r2=>
       have mD:v1=[]:=by simpa using gS
       have ig:v2=[]:=by simpa using kj
       subst mD;subst ig;refine vY (fh) (v:=act.eval a) (w':=w) ?_ (hn _ w ρ F hI (bH.refl _ _ _) (hr a));simp only [execOp,ho,resolve,kO,hv,Deferred.ofValue,dO,fX,fg,invoke,e2];have e1:(#[]:Array Value)++ #[a].map act.eval++ #[]= #[act.eval a]:=by simp
       have h5:=run_callFunc_extern f1 f2 f3 f4 f5 #[act.eval a] w;rw [Lib.run_noEscape,fg]at h5;rw [e1];exact h5
    ·cases h
   ·cases h
  ·cases h
 ·cases h
def Vg(b:UInt8)(k:UInt8->Option R):Option R:=pz b.toNat λn=>k (UInt8.ofNat n)
def arX(b:UInt8)(k:UInt8->Option R):Vg b k=k b:=by unfold Vg;rw [RD,UInt8.ofNat_toNat]
noncomputable def Vf (x:AV) (k:AV->Option R):Option R:=
 match x with
 | .str s=>sJ Vg s.data.toList λl=>k (.str ⟨⟨l⟩⟩)
 |x=>k x
def RC(x:AV)(k:AV->Option R):Vf x k=k x:=by
 unfold Vf;split
 ·rw [tg arX]
 ·rfl
noncomputable def tq (X:Cx) (T:gg R) (e:Operand->AV) (o:Oper) (M:ar) (k:AV->ar->Option R):Option R:=
 match Gt X e o with
 |true=>(match Cg X e o M with|some (x,M')=>Vf x λx=>k x M'|none=>none)
 |false=>nw X T e o M k
noncomputable def p8 (X:Cx) (T:gg R) (e:Operand->AV) (o:Oper) (M:ar) (k:AV->ar->Option R):Option R:=
 match X.pk with
 |true=>tq X T e o M k
 |false=>tq X T e o M (K3 e o k)
def QD(X:Cx)(T:gg R)(e:Operand->AV)(o:Oper)(M:ar)(k:AV->ar->Option R):p8 X T e o M k=tq X T e o M k:=by
 unfold p8;split
 ·rfl
 ·rw [show K3 e o k=k from funext λx=>funext λM=>aqx e o k x M]
def anG(hX:X.Okb)(hT:T.mw X)(h:tq X T e o M k=some r):
 ∃x M',ev X o e M x M'∧k x M'=some r∧∀ids,mK T e o M=some ids->cz ids M M':=by
 unfold tq at h;split at h
 ·rename_i hi;split at h
  ·rename_i x M' hx;rw [RC]at h;obtain⟨h1,h2⟩:=aok (T:=T) hX hi hx;exact⟨x,M',@h1,h,h2⟩
  ·cases h
 ·exact XU hX hT h
def DW(hX:X.Okb)(hT:T.mw X)(h:p8 X T e o M k=some r):
 ∃x M',ev X o e M x M'∧k x M'=some r∧∀ids,mK T e o M=some ids->cz ids M M':=anG hX hT (by rwa [QD]at h)
end
end Go.ae
namespace Go.ae
def abx{p:Prop}(h:p:=by
 intro a v e hc;subst e;simp [World.cell?,h]at hc):p:=h
end Go.ae
namespace Go.ae
open Go
noncomputable section
variable {X:Cx} {R:Type}
variable{D:Nat}{w:World}
def less(F:aO)(D:Nat)(a:Addr):Prop:=F a∧a.block≠D
def aw.shrink{K:TypeId->dv}{ρ:aT}{F:aO}(hD:∀a v,a.block=D->w.cell? a≠some v){x:AV}{v:Value}(h:aw K ρ F w x v):aw K ρ (less F D) w x v:=by
 induction h with
 |top v=>exact .top v
 |int k n=>exact .int k n
 |bool b=>exact .bool b
 |str s=>exact .str s
 |agg cs vs hl _ ih=>exact .agg cs vs hl ih
 |dc cs vs hl _ ih=>exact .dc cs vs hl ih
 |gM=>exact .gM
 |ep t row off a vs hk hl hc _ ih=>exact .ep t row off a vs hk hl (λj v hv=>⟨(hc j v hv).1,(hc j v hv).2,λe=>hD _ v e (hc j v hv).1⟩) ih
 |ptr id i off hd g o n c aA hv=>exact .ptr id i off hd g o n c aA hv
 |iS t=>exact .iS t
 |U t xs a cap vss hl jU iV hk hc _ ih=>
  exact .U t xs a cap vss hl jU iV hk (λi vs dL=>⟨(hc i vs dL).1,λj v hv=>⟨((hc i vs dL).2 j v hv).1,((hc i vs dL).2 j v hv).2,λe=>hD _ v e ((hc i vs dL).2 j v hv).1⟩⟩) ih
 |aa id hd aA=>exact .aa id hd aA
 |fD=>exact .fD
 |dE f first eD vf vc hf hc _ _ jC fm=>exact .dE f first eD vf vc hf hc jC fm
 |jx=>exact .jx
 |gG id hd g aA hv=>exact .gG id hd g aA hv
 |mp id hd aA=>exact .mp id hd aA
 |lb=>exact .lb
 |kg id m hd g o n c cap aA hv=>exact .kg id m hd g o n c cap aA hv
 |vw id lo m hd g o n c cap aA hv hc hb=>exact .vw id lo m hd g o n c cap aA hv hc hb
 |rE id lo=>exact .rE id lo
 |rD id lo a cap=>exact .rD id lo a cap
 |ja a cap=>exact .ja a cap
def Dz{lp:Loop}(h:w.heap[D]?=some (.loop lp)):∀(a:Addr) v,a.block=D->w.cell? a≠some v:=abx
def akp{ds:Option (List Deferred)}(h:w.heap[D]?=some (.deferred ds)):∀(a:Addr) v,a.block=D->w.cell? a≠some v:=abx
def anR{o:Obj}{a:Addr}(h:a.block≠D):(w.putObj D o).cell? a=w.cell? a:=by
 unfold World.cell?;rw [lY h]
def aw.less{K:TypeId->dv}{ρ:aT}{F:aO}{w:World}{D:Nat}(hD:∀a v,a.block=D->w.cell? a≠some v)(o:Obj){x:AV}{v:Value}(h:aw K ρ F w x v):aw K ρ (less F D) (w.putObj D o) x v:=
 (h.shrink hD).mono (λ_ _ h=>h) (λ_ h=>h) (λa v ha hc=>by rw [anR ha.2];exact hc)
def gX.less{ρ:aT}{F:aO}{w:World}{D:Nat}(hD:∀a v,a.block=D->w.cell? a≠some v)(o:Obj){env:bA}{tmps:Array Value}(h:gX X ρ F w env tmps):gX X ρ (less F D) (w.putObj D o) env tmps:=
 λt=>(h t).less hD o
def iN.less{ρ:aT}{F:aO}{w:World}{D:Nat}(hD:∀a v,a.block=D->w.cell? a≠some v)(o:Obj){hd:Hd}{b:bU}(c9:b.fQ=false->∀g,hd.b9=some g->g≠D)(h:iN X ρ F w hd b):iN X ρ (less F D) (w.putObj D o) hd b:=by
 cases b with
 |var ks cs=>
  obtain⟨h1,h2,g,cur,e,hv,hh,hr,hy⟩:=h;exact⟨h1,h2,g,cur,e,hv,by rw [lY (c9 rfl g (j8))];exact hh,⟨hr.1,λj x v hx hv=>(hr.2 j x v hx hv).less hD o⟩,hy⟩
 |row t xs=>
  obtain⟨h1,h2,h3⟩:=h;refine⟨h1,h2,?_⟩;rcases h3 with h3|⟨g,of,c,cur,hv,hh,h4,h5,h6,h7⟩
  ·exact .inl h3
  ·refine .inr ⟨g,of,c,cur,hv,by rw [lY (c9 rfl g (j8))];exact hh,h4,h5,h6,λi row hi j x hx=> ?_⟩;obtain⟨v,fy,hr⟩:=h7 i row hi j x hx;exact⟨v,fy,hr.less hD o⟩
 |map kd ag ks es=>
  obtain⟨mo,g,mes,clock,hv,hh,cX,rL⟩:=h;exact⟨mo,g,mes,clock,hv,by rw [lY (c9 rfl g (j8))];exact hh,cX,λi e me he hm=>let⟨a,r1,r2⟩:=rL i e me he hm;⟨a,r1.less hD o,r2.less hD o⟩⟩
 |loop s env busy uZ=>
  obtain⟨g,lp,hv,hh,h1,h2,h3,h4,h5,h6⟩:=h;exact⟨g,lp,hv,by rw [lY (c9 rfl g (j8))];exact hh,h1,h2,h3,h4,h5.less hD o,h6⟩
 |L1=>
  obtain⟨g,hv,hh⟩:=h;exact⟨g,hv,by rw [lY (c9 rfl g (j8))];exact hh⟩
 |di t xs=>exact aw.less (K:=X.K) hD o h
 |dead=>trivial
 |aU _ _ _=>trivial
def j9.less{ρ:aT}{F:aO}{w:World}{D:Nat}(hD:∀a v,a.block=D->w.cell? a≠some v)(o:Obj){hd:Hd}{t:TypeId}{xs:aH}{op:Option (Nat×Nat×Nat)}(hg:∀g,hd.b9=some g->g≠D)
 (hs:∀(i j:Nat) row e ys v g,xs[i]?=some row->row[j]?=some (.sub e ys)->fw op i j=none->cellOf w hd i j=some v->Value.b9 v=some g->g≠D)
 (h:j9 X ρ F w hd t xs op):j9 X ρ (ae.less F D) (w.putObj D o) hd t xs op:=by
 obtain⟨h0,h1,h2,h3,h4⟩:=h;refine⟨h0,h1,h2,h3,?_⟩;rcases h4 with h4|⟨g,of,c,cur,hv,hh,h5,h6,h7,h8⟩
 ·exact .inl h4
 ·refine .inr ⟨g,of,c,cur,hv,by rw [lY (hg g (j8))];exact hh,h5,h6,h7,λi row hi j x hx=> ?_⟩;obtain⟨v,fy,ho,hr⟩:=h8 i row hi j x hx;refine⟨v,fy,ho,λhk=> ?_⟩;have hr:=hr hk;have jI:cellOf w hd i j=some v:=acv;unfold rk at hr⊢;split at hr
  ·exact⟨hr.1.less hD o (λ_ g' ij=>hs i j row _ _ v g' hi hx hk jI ij),hr.2⟩
  ·exact aw.less (K:=X.K) hD o hr
def Inv.H7{w0 w:World}{S:Sc}{F:aO}{ρ:aT}{M:ar}(hI:Inv X w0 S F ρ M w){D:Nat}(hF:F ⟨D,0,none⟩)(hD:∀a v,a.block=D->w.cell? a≠some v)(hN:∀a,S.F0 a->a.block≠D)(o:Obj):
 Inv X w0 S (less F D) ρ M (w.putObj D o) where
 os:=hI.os
 tape:=hI.tape
 output:=hI.output
 size:=by simpa using hI.size
 frame:=λg h1 h2=>by
  have c9:g≠D:=by
   rintro rfl;rcases hI.dQ _ hF with h|h|h
   ·exact hN _ h rfl
   ·exact h2 h
   ·simp only at h;omega
  rw [lY c9];exact hI.frame g h1 h2
 len:=hI.len
 rep:=λid b hd hb hh=>(hI.rep id b hd hb hh).less hD o (λck g bM e=>(hI.sep id b hd g hb ck hh bM).2.2 _ hF e.symm)
 sep:=λid b hd g hb ck hh bM=>let⟨a1,a2,a3⟩:=hI.sep id b hd g hb ck hh bM;⟨by simpa using a1,a2,λa ha=>a3 a ha.1⟩
 fZ:=hI.fZ
 fz:=λa ha=>by simpa using hI.fz a ha.1
 fa:=λg=>(hI.fa g).less hD o
 one:=hI.one
 dQ:=λa ha=>hI.dQ a ha.1
 fin:=λa ha=>⟨hI.fin a ha,hN a ha⟩
 aU:=by
  have ne:∀{id p g},Hid w ρ M id p g->g≠D:=λhh e=>(hI.aU.aa hh).2.2.1 _ hF e.symm;refine⟨λ{id p g} hh=> ?_,λ{id id' p p' g} h1 h2=> ?_,λ{id t xs op hd} hb hh=>(hI.aU.rep hb hh).less hD o (λg hg=>ne (.out hb hh hg)) λi j row e ys v g hi hx ho hc hg=>ne (.sub hb hh hi hx ho hc hg)⟩
  ·have hh:=hh.back hI.aU hI.len (λ_ _ h _=>h) (λ_ _ h _=>h) λg _ _ h3 _=>lY (λe=>h3 _ hF e.symm);obtain⟨a1,a2,a3,a4⟩:=hI.aU.aa hh;exact⟨by simpa using a1,a2,λa ha=>a3 a ha.1,a4⟩
  ·have b1:=h1.back hI.aU hI.len (λ_ _ h _=>h) (λ_ _ h _=>h) λg _ _ h3 _=>lY (λe=>h3 _ hF e.symm);have b2:=h2.back hI.aU hI.len (λ_ _ h _=>h) (λ_ _ h _=>h) λg _ _ h3 _=>lY (λe=>h3 _ hF e.symm);exact hI.aU.inj b1 b2
end
end Go.ae
namespace Go.ae
def Rg{p:Prop}(h:p:=by simp [Act.put,nS,IP c9]):p:=h
end Go.ae
namespace Go.ae
def Ba:=@List.map_map
def wk:=@beq_self_eq_true
end Go.ae
namespace Go.ae
open Go
noncomputable section
variable {X:Cx} {R:Type}
variable{x:AV}{a:Act}{ops:Array Oper}{tmps:Array Value}{d j:Nat}{nt:Nt}{o:Oper}{r:R}{v:Value}{w w':World}{F F' db:aO}{ρ:aT}
inductive Rd where
 |out
 |qE
 |at(id:Nat)
 deriving Inhabited,DecidableEq
structure Cy where
 r:Option Nat
 db:aO
 tv:Nat->Value
structure St where
 env:bA
 mem:ar
 gJ:cp
 rd:Rd
variable{st av stg:St}{k:St->Option R}
def Marks(F:aO)(w:World)(db:aO)(ds:List Deferred):Prop:=
 (∀a,db a->F a)∧∃ms:cp,ds=ms.map (λD=>({target:= .collected D,args:= #[]}:Deferred))∧ms.Nodup∧∀D∈ms,(∀a,db a->a.block≠D)∧F ⟨D,0,none⟩∧w.heap[D]?=some (.deferred (some []))
def JI(F:aO)(w:World)(db:aO):cp->List Deferred->Prop
 | [],ds=>Marks F w db ds
 |_::_,_=>False
def Fs(F:aO)(w:World)(rdc:Option Nat):Prop:=rdc=none∨∃g r,rdc=some g∧F ⟨g,0,none⟩∧w.heap[g]?=some (.loop r)
def Marks.nil(F:aO)(w:World)(h:∀a,db a->F a):Marks F w db []:=⟨h,[],rfl,List.nodup_nil,λ_ h=>dB⟩
def Marks.mono(hF:∀a,F a->F' a)(hb:∀a,F a->w'.heap[a.block]?=w.heap[a.block]?){ds:List Deferred}(h:Marks F w db ds):Marks F' w' db ds:=by
 obtain⟨h0,ms,h1,h2,h3⟩:=h;exact⟨λa ha=>hF _ (h0 a ha),ms,h1,h2,λD hD=>⟨(h3 D hD).1,hF _ (h3 D hD).2.1,(hb _ (h3 D hD).2.1).trans (h3 D hD).2.2⟩⟩
def JI.mono{F F':aO}{w w':World}{db:aO}(hF:∀a,F a->F' a)(hb:∀a,F a->w'.heap[a.block]?=w.heap[a.block]?):∀{ids:cp} {ds:List Deferred},JI F w db ids ds->JI F' w' db ids ds
 | [],_,hd=>Marks.mono hF hb hd
def Fs.mono(hF:∀a,F a->F' a)(hb:∀a,F a->w'.heap[a.block]?=w.heap[a.block]?){rdc:Option Nat}(hr:Fs F w rdc):Fs F' w' rdc:=by
 rcases hr with h|⟨g,r,h1,h2,h3⟩
 ·exact .inl h
 ·exact .inr ⟨g,r,h1,hF _ h2,(hb _ h2).trans h3⟩
structure eY(X:Cx)(nt:Nt)(st:St)(rdc:Cy)(F:aO)(ρ:aT)(a:Act)(w:World):Prop where
 env:gX X ρ F w st.env a.tmps
 size:a.tmps.size=nt.n
 defs:JI F w rdc.db st.gJ a.defers
 rd:Fs F w rdc.r
 kept:∀t,nt.mask.testBit t=false->a.tmps.getD t undef=rdc.tv t
def eY.grow{nt:Nt}{st:St}{rdc:Cy}{F F':aO}{ρ ρ':aT}{a:Act}{w w':World}(h:eY X nt st rdc F ρ a w)(g:bH F F' ρ ρ' w w'):eY X nt st rdc F' ρ' a w':=
 ⟨h.env.grow g,h.size,h.defs.mono g.hF g.hb,h.rd.mono g.hF g.hb,h.kept⟩
def nZ(X:Cx)(nt:Nt)(c:Code)(st:St)(e:Exit)(av:St):Prop:=
 ∀{rdc:Cy} {n:Nat} {w0:World} {S:Sc} {F:aO} {ρ:aT} {a:Act} {w:World} {Q:Exit->Act->World->Prop},Inv X w0 S F ρ st.mem w->eY X nt st rdc F ρ a w->
  (∀a' w' F' ρ',Inv X w0 S F' ρ' av.mem w'->eY X nt av rdc F' ρ' a' w'->bH F F' ρ ρ' w w'->Q e a' w')->c.wpIn (jP rdc.r) n X.P Q a w
def TN(jM:cp)(env:bA):bA:=env.filter λp=>jM.contains p.1
def pX(nt:Nt)(st:St)(dst:Option Tmp)(x:AV)(M:ar)(k:St->Option R):Option R:=
 match dst with
 |none=>k {st with mem:=M}
 |some d=>aB (Nat.blt d nt.n&&nt.mask.testBit d) (k {st with env:=(d,x)::st.env,mem:=M})
def gX.put{env:bA}(h:gX X ρ F w env tmps)(hd:d<tmps.size)(hx:aw X.K ρ F w x v):
 gX X ρ F w ((d,x)::env) (tmps.setIfInBounds d v):=by
 intro t;simp only [nf,look_nil]
 by_cases ht:t=d
 ·subst ht;simp only [wk,ng];have:(tmps.setIfInBounds t v).getD t undef=v:=by simp [nS,hd]
  rw [this];exact hx
 ·have:(t==d)=false:=by simpa using ht
  simp only [this,jG,ly];have e:(tmps.setIfInBounds d v).getD t undef=tmps.getD t undef:=by simp [nS,IP (Ne.symm ht)]
  rw [e];exact h t
def Zu{mask:Nat}(hd:mask.testBit d=true){tv:Nat->Value}(h:∀t,mask.testBit t=false->a.tmps.getD t undef=tv t):∀t,mask.testBit t=false->(a.put (some d) v).tmps.getD t undef=tv t:=by
 intro t ht;have c9:d≠t:=λe=>by subst e;rw [hd]at ht;cases ht
 rw [<-h t ht];exact Rg
def Ib{dst:Option Tmp}{M:ar}(hk:pX nt st dst x M k=some r):
 ∃av,k av=some r∧av.mem=M∧∀{rdc:Cy} {F:aO} {ρ:aT} {a:Act} {w:World} {v:Value},eY X nt st rdc F ρ a w->aw X.K ρ F w x v->eY X nt av rdc F ρ (a.put dst v) w:=by
 unfold pX at hk;cases dst with
 |none=>exact⟨_,hk,rfl,λ{rdc F ρ a w v} h _=>⟨h.env,h.size,h.defs,h.rd,h.kept⟩⟩
 |some d=>
  replace hk:=bG hk;obtain⟨hd,hk⟩:=hk;refine⟨_,hk,rfl,λ{rdc F ρ a w v} h hx=>⟨h.env.put (by rw [h.size];simp only [bc]at hd;simpa using hd.1) hx,by simp [Act.put,h.size],h.defs,h.rd,Zu (by simp only [bc]at hd;exact hd.2) h.kept⟩⟩
def w4(ops:Array Oper)(j:Nat):Option Nat:=(ops[j]?).bind (·.dst)
def oR(X:Cx)(T:gg R)(ops:Array Oper):List Oper->St->(St->Option R)->Option R
 | [],st,k=>k st
 |o::rest,st,k=>
  match o.guard with
  |none=>p8 X T (gT X st.env) o st.mem λx M=>pX T.nt st o.dst x M λav=>oR X T ops rest av k
  |some (j,want)=>
   match w4 ops j with
   |none=>none
   |some d=>
    match look st.env d with
    | .bool b=>
      match b with
      |true=>match want with
       |true=>p8 X T (gT X ((d,.bool true)::st.env)) o st.mem λx M=>pX T.nt {st with env:=(d,.bool true)::st.env} o.dst x M λav=>oR X T ops rest av k
       |false=>pX T.nt {st with env:=(d,.bool true)::st.env} o.dst (.dc []) st.mem λav=>oR X T ops rest av k
      |false=>match want with
       |false=>p8 X T (gT X ((d,.bool false)::st.env)) o st.mem λx M=>pX T.nt {st with env:=(d,.bool false)::st.env} o.dst x M λav=>oR X T ops rest av k
       |true=>pX T.nt {st with env:=(d,.bool false)::st.env} o.dst (.dc []) st.mem λav=>oR X T ops rest av k
    | .dc []=>pX T.nt st o.dst (.dc []) st.mem λav=>oR X T ops rest av k
    |_=>none
def Pe{K:TypeId->dv}:aw K ρ F w (.dc []) undef:= .dc [] [] rfl (λj x v h _=>dB)
def X2(hd:w4 ops j=some d){b:Bool}(h:tmps.getD d undef= .bool b):yielded ops tmps j=some b:=by
 unfold yielded;unfold w4 at hd;rw [hd];simp only [Option.bind_some];rw [nS]at h;cases ht:tmps[d]? with
 |none=>rw [ht]at h;simp [undef]at h
 |some v=>rw [ht]at h;simp only [ni]at h;rw [h]
def Xh(hd:w4 ops j=some d)(h:tmps.getD d undef=undef):yielded ops tmps j=none:=by
 unfold yielded;unfold w4 at hd;rw [hd];simp only [Option.bind_some];rw [nS]at h;cases ht:tmps[d]? with
 |none=>rfl
 |some v=>rw [ht]at h;simp only [ni]at h;rw [h];rfl
def amv{rdc:Cy}{n:Nat}{Q:Exit->Act->World->Prop}{i:Nat}{rest:cp}(ho:ops[i]?=some o)
 (h:wpOpIn (jP rdc.r) n X.P ops Q i (wpOpsIn (jP rdc.r) n X.P ops Q rest) a w):wpOpsIn (jP rdc.r) n X.P ops Q (i::rest) a w:=by
 rw [wpOpsIn_cons];exact h
def Ey(X:Cx)(nt:Nt)(ops:Array Oper)(o:Oper)(st av:St):Prop:=
 ∀{rdc:Cy} {n:Nat} {w0:World} {S:Sc} {F:aO} {ρ:aT} {a:Act} {w:World} {Q:Exit->Act->World->Prop} {K:Act->World->Prop},Inv X w0 S F ρ st.mem w->eY X nt st rdc F ρ a w->
  (∀a' w' F' ρ',Inv X w0 S F' ρ' av.mem w'->eY X nt av rdc F' ρ' a' w'->bH F F' ρ ρ' w w'->K a' w')->
  ∀i,ops[i]?=some o->wpOpIn (jP rdc.r) n X.P ops Q i K a w
def Z8{M':ar}(sB:ev X o (gT X stg.env) st.mem x M')
 (hg:∀{rdc:Cy} {F:aO} {ρ:aT} {a:Act} {w:World},eY X nt st rdc F ρ a w->eY X nt stg rdc F ρ a w∧Region.wanted o (yielded ops a.tmps)=true)
 (hm:av.mem=M') (hp:∀{rdc:Cy} {F:aO} {ρ:aT} {a:Act} {w:World} {v:Value},eY X nt stg rdc F ρ a w->aw X.K ρ F w x v->eY X nt av rdc F ρ (a.put o.dst v) w):Ey X nt ops o st av:=by
 intro rdc n w0 S F ρ a w Q K hI hs hk i hi;obtain⟨bX,hw⟩:=hg hs;unfold wpOpIn;simp only [hi,hw,ng];refine sB hI (λy=>wF hI bX.env y) ?_;intro v w' ρ' F' c6 fU hx;exact hk _ w' F' ρ' (hm▸c6) (hp (bX.grow fU) hx) fU
def Zl
 (hg:∀{rdc:Cy} {F:aO} {ρ:aT} {a:Act} {w:World},eY X nt st rdc F ρ a w->eY X nt stg rdc F ρ a w∧Region.wanted o (yielded ops a.tmps)=false)
 (hm:av.mem=st.mem) (hp:∀{rdc:Cy} {F:aO} {ρ:aT} {a:Act} {w:World} {v:Value},eY X nt stg rdc F ρ a w->aw X.K ρ F w (.dc []) v->eY X nt av rdc F ρ (a.put o.dst v) w):Ey X nt ops o st av:=by
 intro rdc n w0 S F ρ a w Q K hI hs hk i hi;obtain⟨bX,hw⟩:=hg hs;unfold wpOpIn;simp only [hi,hw,jG,ly];exact⟨λ_ _=>trivial,hk _ w F ρ (hm▸hI) (hp bX Pe) (bH.refl _ _ _)⟩
def OC(h:o.guard=none)(y:Nat->Option Bool):Region.wanted o y=true:=by unfold Region.wanted;rw [h]
def DN{want:Bool}(h:o.guard=some (j,want))(y:Nat->Option Bool):Region.wanted o y=(y j==some want):=by unfold Region.wanted;rw [h]
def eY.refine{nt:Nt}{st:St}{rdc:Cy}{F:aO}{ρ:aT}{a:Act}{w:World}(h:eY X nt st rdc F ρ a w){d:Nat}{x:AV}(hx:look st.env d=x):eY X nt {st with env:=(d,x)::st.env} rdc F ρ a w:=by
 refine⟨λt=> ?_,h.size,h.defs,h.rd,h.kept⟩;simp only [nf,look_nil]
 by_cases ht:t=d
 ·subst ht;simp only [wk,ng];rw [<-hx];exact h.env t
 ·have:(t==d)=false:=by simpa using ht
  simp only [this,jG,ly];exact h.env t
def an7(hX:X.Okb){T:gg R}(hT:T.mw X){rest:List Oper}(h:oR X T ops (o::rest) st k=some r):
 ∃av,Ey X T.nt ops o st av∧oR X T ops rest av k=some r:=by
 simp only [oR]at h;split at h
 ·rename_i GM;obtain⟨x,M',sB,h,_⟩:=DW hX hT h;obtain⟨av,h,hm,hp⟩:=Ib (X:=X) h;exact⟨av,Z8 (stg:=st) sB (λ{rdc F ρ a w} hs=>⟨hs,OC GM _⟩) hm hp,h⟩
 ·rename_i j want GM;split at h
  ·cases h
  ·rename_i d hd;have ac0:∀{b:Bool},look st.env d= .bool b->∀{rdc:Cy} {F:aO} {ρ:aT} {a:Act} {w:World},eY X T.nt st rdc F ρ a w->yielded ops a.tmps j=some b:=by
    intro b hb rdc F ρ a w hs;have:=hs.env d;rw [hb]at this;generalize hv:a.tmps.getD d undef=v at this;cases this;exact X2 hd hv
   have run:∀(b:Bool),look st.env d= .bool b->want=b->(p8 X T (gT X ((d,.bool b)::st.env)) o st.mem λx M=>pX T.nt {st with env:=(d,.bool b)::st.env} o.dst x M λav=>oR X T ops rest av k)=some r->
    ∃av,Ey X T.nt ops o st av∧oR X T ops rest av k=some r:=by
    intro b hb Uu h;obtain⟨x,M',sB,h,_⟩:=DW hX hT h;obtain⟨av,h,hm,hp⟩:=Ib (X:=X) h;refine⟨av,Z8 (stg:={st with env:=(d,.bool b)::st.env}) sB (λ{rdc F ρ a w} hs=>⟨hs.refine hb,?_⟩) hm hp,h⟩;rw [DN GM,ac0 hb hs,Uu];simp
   have skip:∀(b:Bool),look st.env d= .bool b->want≠b->(pX T.nt {st with env:=(d,.bool b)::st.env} o.dst (.dc []) st.mem λav=>oR X T ops rest av k)=some r->
    ∃av,Ey X T.nt ops o st av∧oR X T ops rest av k=some r:=by
    intro b hb Uu h;obtain⟨av,h,hm,hp⟩:=Ib (X:=X) h;refine⟨av,Zl (stg:={st with env:=(d,.bool b)::st.env}) (λ{rdc F ρ a w} hs=>⟨hs.refine hb,?_⟩) hm hp,h⟩;rw [DN GM,ac0 hb hs];simp only [D5,ne_eq,Option.some.injEq];exact λe=>Uu e.symm
   split at h
   ·rename_i b hb;split at h
    ·split at h
     ·exact run true hb rfl h
     ·exact skip true hb (by simp) h
    ·split at h
     ·exact run false hb rfl h
     ·exact skip false hb (by simp) h
   ·rename_i hb;obtain⟨av,h,hm,hp⟩:=Ib (X:=X) h;refine⟨av,Zl (stg:=st) (λ{rdc F ρ a w} hs=>⟨hs,?_⟩) hm hp,h⟩;have:=hs.env d;rw [hb]at this;generalize hv:a.tmps.getD d undef=v at this;have hu:v=undef:=by
     cases this with
     |dc _ vs hl _=>have:vs=[]:=D7 (nv);subst this;rfl
    rw [DN GM,Xh hd (hv.trans hu)];simp
   ·cases h
def XT(hX:X.Okb){T:gg R}(hT:T.mw X){ops:Array Oper}:∀(rest:List Oper) (m:Nat) {st:St} {k:St->Option R} {r:R},(∀(i:Nat),rest[i]?=ops[m+i]?)->oR X T ops rest st k=some r->
 ∃av,k av=some r∧∀{rdc:Cy} {n:Nat} {w0:World} {S:Sc} {F:aO} {ρ:aT} {a:Act} {w:World} {Q:Exit->Act->World->Prop},Inv X w0 S F ρ st.mem w->eY X T.nt st rdc F ρ a w->
  (∀a' w' F' ρ',Inv X w0 S F' ρ' av.mem w'->eY X T.nt av rdc F' ρ' a' w'->bH F F' ρ ρ' w w'->Q .normal a' w')->wpOpsIn (jP rdc.r) n X.P ops Q ((List.range rest.length).map (m+ ·)) a w
 | [],m,st,k,r,_,h=>⟨st,h,λ{rdc n w0 S F ρ a w Q} hI hs hq=>hq a w F ρ hI hs (bH.refl _ _ _)⟩
 |o::rest,m,st,k,r,hr,h=>by
  obtain⟨st1,h1,h⟩:=an7 hX hT h;obtain⟨jO,h,h2⟩:=XT hX hT rest (m+1) (λi=>by have:=hr (i+1);rw [show m+1+i=m+(i+1)by omega];simpa using this) h;refine⟨jO,h,λ{rdc n w0 S F ρ a w Q} hI hs hq=> ?_⟩;have ho:ops[m]?=some o:=by have:=hr 0;simpa using this.symm
  have hl:(List.range (o::rest).length).map (m+ ·)=m::(List.range rest.length).map ((m+1)+ ·):=by
   rw [gE,List.range_succ_eq_map,fW,Ba]
   congr 1
   apply List.map_congr_left;intro i _;exact eR
  rw [hl];refine amv ho (h1 hI hs ?_ m ho);intro a' w' F' ρ' c6 bX hg;exact h2 c6 bX (λAn ou qR qv zr zo FR=>hq An ou qR qv zr zo (hg.trans FR))
end
end Go.ae
namespace Go.ae
def KM{p:Prop}(h:p:=by
 rename_i hb;replace h:=bG h;obtain⟨e2,h⟩:=h;exact⟨_,h,λM' hM R' k'=>by have hm:=hM id (by simp [lA]);simp only [cG,uj,h1,h2,hm,hb,e,e2,aB]⟩):p:=h
def wY{p:Prop}(h:p:=by exact⟨y,h,λM' _ k'=>by unfold nw;simp only [ho];exact hd _ _⟩):p:=h
def adR{p:Prop}(h:p:=by
 rename_i hb;replace h:=bG h;obtain⟨e,h⟩:=h;split at h
 ·rename_i h1;exact⟨_,h,λM' hM R' k'=>by have hm:=hM id (by simp [s7]);simp only [cG,pM,hm,hb,h1,e,aB]⟩
 ·rename_i h1;replace h:=bG h;obtain⟨e2,h⟩:=h;exact⟨_,h,λM' hM R' k'=>by have hm:=hM id (by simp [s7]);simp only [cG,pM,hm,hb,h1,e,e2,aB]⟩):p:=h
def JU{p:Prop}(h:p:=by
 rename_i h1 h2;exact⟨_,h,λM' _ R' k'=>by simp only [tt,h1,h2]⟩):p:=h
def adv{p:Prop}(h:p:=by
 obtain⟨y,h,hd⟩:=Ph h;exact⟨y,h,λM' hM R' k'=>by unfold uz;have hm:=hM id (by simp [y0]);simp only [cG,h1,h2,h3,h4,hm,hb,h5,h6,h7,aB];exact hd R' k'⟩):p:=h
def adu{p:Prop}(h:p:=by
 simp only [ho]at h⊢;split at h
 ·rename_i z hz;injection h with h;injection h with h3 h4;subst h3;subst h4;exact⟨rfl,λM2=>by simp only [hz]⟩
 ·cases h):p:=h
def adm{p:Prop}(h:p:=by
 rename_i hc;simp only [hc]at h;obtain⟨y,h,hd⟩:=aqJ _ _ h;exact⟨y,h,λM' _ k'=>by unfold nw;simp only [ho,hc];exact hd _ _⟩):p:=h
def adl{p:Prop}(h:p:=by
 replace h:=bG h;obtain⟨e1,h⟩:=h;split at h
 ·rename_i cs h3;exact⟨_,h,λR' k'=>by simp only [h1,h2,h3,e1,aB]⟩
 ·cases h):p:=h
def R6{p:Prop}(h:p:=by exact⟨y,h,λM' hM k'=>by unfold nw;simp only [ho];exact hd M' hM _ _⟩):p:=h
def acA{p:Prop}(h:p:=by
 replace h:=bG h;obtain⟨e2,h⟩:=h;exact⟨_,h,λM' _ R' k'=>by simp only [cG,uj,h1,h2,e,e2,aB]⟩):p:=h
def yM{p:Prop}(h:p:=by exact⟨_,h,λR' k'=>rfl⟩):p:=h
def nu{p:Prop}(h:p:=by cases hq):p:=h
def ab6{p:Prop}(h:p:=by
 rename_i h1 h2;obtain⟨b,h,hd⟩:=apL h;exact⟨_,h,λR' k'=>hd _ _⟩):p:=h
def abO{p:Prop}(h:p:=by exact⟨_,h,λM' _ R' k'=>by simp only [cG,uj,h1,h2,e,aB]⟩):p:=h
def Rl{p:Prop}(h:p:=by unfold nw;simp only [ho]):p:=h
def abm{p:Prop}(h:p:=by
 rename_i h1 h2;exact⟨_,h,λR' k'=>by simp only [h1,h2]⟩):p:=h
def aa9{p:Prop}(h:p:=by exact⟨_,h,λM' _ k'=>by unfold nw;simp only [ho,hc]⟩):p:=h
def aaV{p:Prop}(h:p:=by exact⟨_,h,λR' k'=>by simp only [h1,h2,h3,e,aB]⟩):p:=h
def Ja{p:Prop}(h:p:=by simp [lA]):p:=h
end Go.ae
namespace Go.ae
open Go
noncomputable section
variable {X:Cx} {R R':Type} {M M':ar}
variable{i x:AV}{k:AV->Option R}{ps:Array (Nat×Operand)}{ok:Bool}{n:Nat}{o:Oper}{e:Operand->AV}{hi lo:Option AV}{r:R}{T:gg R}{T':gg R'}{t:TypeId}{ids:cp}
def uf(f:(R:Type)->(AV->Option R)->Option R):Prop:=∀{R:Type} {k:AV->Option R} {r:R},f R k=some r->∃y,k y=some r∧∀(R':Type) (k':AV->Option R'),f R' k'=k' y
def apL{k:Bool->Option R}(h:w5 x k=some r):∃b,k b=some r∧∀(R':Type) (k':Bool->Option R'),w5 x k'=k' b:=by
 unfold w5 at h;split at h
 ·exact yM
 ·exact yM
 ·split at h
  ·cases h
  ·rename_i he;exact⟨_,h,λR' k'=>by simp only [w5,he]⟩
 ·cases h
def aqL(op:BinOp)(t:TypeId)(x y:AV):uf λ_ k=>Fp X op t x y k:=by
 intro R k r h;simp only [Fp]at h⊢;split at h
 ·rename_i kx a ky b;cases op<;>simp only at h⊢<;>first
   |(replace h:=bG h;obtain⟨e,h⟩:=h
     first
      |(exact⟨_,h,λR' k'=>by simp only [e,aB]⟩)
      |(replace h:=bG h;obtain⟨e2,h⟩:=h
        exact⟨_,h,λR' k'=>by simp only [e,e2,aB]⟩)
      |(cases h))
   |cases h
 ·rename_i a b;split at h
  ·exact abm
  ·exact abm
  ·cases h
 ·rename_i xs ys;split at h
  ·rename_i fs h1 h2 h3;split at h
   ·cases h
   ·rename_i bb Aa;split at h
    ·exact⟨_,h,λR' k'=>by simp only [h1,h2,h3,Aa]⟩
    ·exact⟨_,h,λR' k'=>by simp only [h1,h2,h3,Aa]⟩
    ·cases h
  ·cases h
 ·split at h
  ·exact ab6
  ·exact ab6
  ·cases h
 ·cases h
def ar6(op:UnOp)(x:AV):uf λ_ k=>K9 op x k:=by
 intro R k r h;simp only [K9]at h⊢;split at h
 ·exact yM
 ·exact yM
 ·cases h
def apM(s d:TypeId)(x:AV):uf λ_ k=>JE X s d x k:=by
 intro R k r h;simp only [JE]at h⊢;split at h
 ·rename_i h1 h2 h3;exact⟨_,h,λR' k'=>by simp only [h1,h2,h3]⟩
 ·cases h
def aqI(x:AV):uf λ_ k=>H9 x k:=by
 intro R k r h;simp only [H9]at h⊢;split at h
 ·exact yM
 ·exact yM
 ·exact yM
 ·cases h
def amY(t:TypeId)(x:AV)(f:Nat):uf λ_ k=>DR X t x f k:=by
 intro R k r h;simp only [DR]at h⊢;split at h
 ·rename_i fs h1 h2;split at h
  ·rename_i off ft h3;replace h:=bG h;obtain⟨e,h⟩:=h;split at h
   ·exact aaV
   ·exact aaV
   ·cases h
  ·cases h
 ·cases h
def ZD(t:TypeId)(cs:aD)(off:Nat):uf λ_ k=>Bs X t cs off k:=by
 intro R k r h;simp only [Bs]at h⊢;replace h:=bG h;obtain⟨e,h⟩:=h;split at h
 ·rename_i h1;exact⟨_,h,λR' k'=>by simp only [h1,e,aB]⟩
 ·rename_i h1;replace h:=bG h;obtain⟨e2,h⟩:=h;exact⟨_,h,λR' k'=>by simp only [h1,e,e2,aB]⟩
def aoM(t:TypeId)(x:AV)(f:Nat):uf λ_ k=>Eu X t x f k:=by
 intro R k r h;simp only [Eu]at h⊢;split at h
 ·rename_i fs cs h1 h2;split at h
  ·rename_i off ft h3;obtain⟨y,h,hd⟩:=ZD _ _ _ h;exact⟨y,h,λR' k'=>hd R' k'⟩
  ·cases h
 ·cases h
def aoL(t:TypeId)(x i:AV):uf λ_ k=>Et X t x i k:=by
 intro R k r h;simp only [Et]at h⊢;split at h
 ·rename_i len e cs kk n h1 h2;replace h:=bG h;obtain⟨e1,h⟩:=h;obtain⟨y,h,hd⟩:=ZD _ _ _ h;exact⟨y,h,λR' k'=>by simp only [h1,h2,e1,aB];exact hd R' k'⟩
 ·rename_i h1 h2;replace h:=bG h;obtain⟨e1,h⟩:=h;split at h
  ·cases h
  ·rename_i b hb;exact⟨_,h,λR' k'=>by simp only [h1,h2,e1,hb,aB]⟩
 ·cases h
def aoN(t:TypeId)(ps:bA):uf λ_ k=>Ew X t ps k:=by
 intro R k r h;simp only [Ew]at h⊢;split at h
 ·rename_i fs h1 h2;exact adl
 ·rename_i n e h1 h2;exact adl
 ·cases h
def aqJ(f:Int->Int->Int)(xs:aD):uf λ_ k=>w7 f xs k:=by
 intro R k r h;simp only [w7]at h⊢;split at h
 ·split at h
  ·rename_i h1;exact⟨_,h,λR' k'=>by simp only [h1]⟩
  ·cases h
 ·cases h
def apv{p:AV}(h:pM X t p M k=some r):∃y,k y=some r∧∀(M':ar),(∀id∈s7 p,M'[id]?=M[id]?)->∀(R':Type) (k':AV->Option R'),pM X t p M' k'=k' y:=by
 unfold pM at h;simp only [cG]at h;split at h
 ·replace h:=bG h;obtain⟨e,h⟩:=h;split at h
  ·rename_i h1;exact⟨_,h,λM' _ R' k'=>by simp only [cG,pM,h1,e,aB]⟩
  ·rename_i h1;replace h:=bG h;obtain⟨e2,h⟩:=h;exact⟨_,h,λM' _ R' k'=>by simp only [cG,pM,h1,e,e2,aB]⟩
 ·rename_i id i off;split at h
  ·exact adR
  ·exact adR
  ·rename_i t' xs op hb;replace h:=bG h;obtain⟨e,h⟩:=h;split at h
   ·cases h
   ·rename_i h1;replace h:=bG h;obtain⟨e2,h⟩:=h;split at h
    ·rename_i i0 k0 h3;replace h:=bG h;obtain⟨e3,h⟩:=h;exact⟨_,h,λM' hM R' k'=>by have hm:=hM id (Bm);simp only [cG,pM,hm,hb,h1,e,e2,h3,e3,aB]⟩
    ·rename_i h3;unfold Gq at h;split at h
     ·rename_i h4;replace h:=bG h;obtain⟨e3,h⟩:=h;exact⟨_,h,λM' hM R' k'=>by have hm:=hM id (Bm);simp only [cG,pM,hm,hb,h1,e,e2,h3,Gq,h4,e3,aB]⟩
     ·rename_i h4;refine⟨_,h,λM' hM R' k'=> ?_⟩;have hm:=hM id (Bm);simp only [cG,pM,hm,hb,h1,e,e2,h3,aB];unfold Gq;split
      ·rename_i h5;exact absurd h5 (h4 _)
      ·rfl
  ·cases h
 ·cases h
def amC(h:uj X t x i M k=some r):∃y,k y=some r∧∀(M':ar),(∀id∈lA x,M'[id]?=M[id]?)->∀(R':Type) (k':AV->Option R'),uj X t x i M' k'=k' y:=by
 unfold uj at h;simp only [cG]at h;split at h
 ·split at h
  ·rename_i h1 h2;replace h:=bG h;obtain⟨e,h⟩:=h;split at h
   ·exact acA
   ·rename_i id;split at h
    ·exact KM
    ·exact KM
    ·exact KM
    ·cases h
   ·exact acA
   ·rename_i id lo m;split at h
    ·exact KM
    ·cases h
   ·cases h
  ·rename_i h1 h2;replace h:=bG h;obtain⟨e,h⟩:=h;split at h
   ·exact abO
   ·exact abO
   ·cases h
  ·cases h
 ·cases h
def Oq(h:∀id∈lA x,M'[id]?=M[id]?):rowsOf M' x=rowsOf M x:=by
 cases x<;>simp only [cG,rowsOf]
 ·rename_i id;rw [h id (Ja)]
 ·rename_i id lo m;rw [h id (Ja)]
def XW{e:TypeId}(h1:(X.ti t).ok =true)(h2:(X.ti t).u = .slice e)(hx:∀id m,x≠ .kg id m)(hx2:∀id lo m,x≠ .vw id lo m):tt X t x M k=match rowsOf M x with|some (_,xs)=>k (.int .i64 xs.length)|none=>FJ M x λn=>k (.int .i64 n):=by
 cases x<;>first
  |exact absurd rfl (hx _ _)
  |exact absurd rfl (hx2 _ _ _)
  |(unfold tt;simp only [h1,h2];rfl)
  |(unfold tt;simp only [h1,h2];generalize rowsOf M _=o;cases o<;>rfl)
def Em(h:tt X t x M k=some r):∃y,k y=some r∧∀(M':ar),(∀id∈lA x,M'[id]?=M[id]?)->∀(R':Type) (k':AV->Option R'),tt X t x M' k'=k' y:=by
 unfold tt at h;split at h
 ·exact JU
 ·exact JU
 ·exact JU
 ·exact JU
 ·rename_i e h1 h2 eG afC;split at h
  ·rename_i o xs hr;refine⟨_,h,λM' hM R' k'=> ?_⟩;have:=Oq (M:=M) (M':=M') hM;rw [XW h1 h2 eG afC,this,hr]
  ·rename_i hr;obtain⟨id,t',xs,op,rfl,hb,h⟩:=Yv h;refine⟨_,h,λM' hM R' k'=> ?_⟩;have:=Oq (M:=M) (M':=M') hM;have hm:=hM id (Ja);rw [XW h1 h2 eG afC,this,hr];simp only [FJ,cG,hm,hb]
 ·cases h
def aoz{mx:Option AV}{k:AV->ar->Option R}(hx:lA x=[])(h:wG X t x lo hi mx M k=some r):
 ∃y,k y M=some r∧∀(M':ar) (R':Type) (k':AV->ar->Option R'),wG X t x lo hi mx M' k'=k' y M':=by
 have er:∀M',rowsOf M' x=rowsOf M x:=λM'=>Oq (by rw [hx];simp);unfold wG at h;simp only [cG]at h;split at h
 ·rename_i e h1 h2;split at h
  ·rename_i o xs h3;split at h
   ·rename_i l hh m h4 h5 h6;replace h:=bG h;obtain⟨h7,h⟩:=h;split at h
    ·replace h:=bG h;obtain⟨h8,h⟩:=h;exact⟨_,h,λM' R' k'=>by unfold wG;simp only [cG,h1,h2,er M',h3,h4,h5,h6,h7,h8,aB]⟩
    ·exact⟨_,h,λM' R' k'=>by unfold wG;simp only [cG,h1,h2,er M',h3,h4,h5,h6,h7,aB]⟩
    ·simp [lA]at hx
    ·cases h
   ·cases h
  ·cases h
 ·cases h
def apu(h:yR X t x lo hi M k=some r):∃y,k y=some r∧∀(M':ar),(∀id∈lA x,M'[id]?=M[id]?)->∀(R':Type) (k':AV->Option R'),yR X t x lo hi M' k'=k' y:=by
 unfold yR at h;simp only [cG]at h;split at h
 ·rename_i id;split at h
  ·rename_i h1 h2;split at h
   ·rename_i hb;split at h
    ·rename_i h3 h4;replace h:=bG h;obtain⟨e,h⟩:=h;exact⟨_,h,λM' hM R' k'=>by have hm:=hM id (Ja);simp only [cG,yR,h1,h2,hm,hb,h3,h4,e,aB]⟩
    ·cases h
   ·cases h
  ·cases h
 ·cases h
def Ph{et:TypeId}{o:Option AV}(h:tm X et ok k o=some r):∃y,k y=some r∧∀(R':Type) (k':AV->Option R'),tm X et ok k' o=k' y:=
 ⟨_,Ye h,λR' k'=>by cases o<;>cases ok<;>rfl⟩
def an2(h:uz X t x i ok M k=some r):∃y,k y=some r∧∀(M':ar),(∀id∈y0 x,M'[id]?=M[id]?)->∀(R':Type) (k':AV->Option R'),uz X t x i ok M' k'=k' y:=by
 unfold uz at h;simp only [cG]at h;split at h
 case h_2=>cases h
 rename_i kt et h1 h2;split at h
 case h_2=>cases h
 rename_i kd h3;replace h:=bG h;obtain⟨h4,h⟩:=h;cases x<;>simp only at h<;>try (cases h;done)
 case lb=>
  obtain⟨y,h,hd⟩:=Ph h;exact⟨y,h,λM' _ R' k'=>by unfold uz;simp only [cG,h1,h2,h3,h4,aB];exact hd R' k'⟩
 case mp id=>
  split at h
  case h_2=>cases h
  rename_i qJ ag ks es hb;replace h:=bG h;obtain⟨h5,h⟩:=h;split at h
  ·rename_i h6;split at h
   ·rename_i y' h7;exact adv
   ·rename_i h7;exact adv
  ·rename_i h6;rw [Ih]at h;obtain⟨y,h,hd⟩:=Ph h;exact⟨y,h,λM' hM R' k'=>by unfold uz;have hm:=hM id (by simp [y0]);simp only [cG,h1,h2,h3,h4,hm,hb,h5,h6,aB,Ih];exact hd R' k'⟩
def uw(X:Cx)(e:Operand->AV)(o:Oper):Option cp:=
 match o.op with
 | .move _=>some []
 | .assign _=>some []
 | .pick _ _ _=>some []
 | .binOp _ _ _ _ _=>some []
 | .unOp _ _ _=>some []
 | .convert s d _=>(match BX X s d with|true=>none|false=>some [])
 | .fieldAddr _ _ _=>some []
 | .field _ _ _=>some []
 | .index _ _ _=>some []
 | .extract _ _=>some []
 | .makeFunc _ _ _=>some []
 | .nilCheck _=>some []
 | .build _ _=>some []
 | .load _ x=>some (s7 (e x))
 | .indexAddr _ x _=>some (lA (e x))
 | .slice _ x _ _ mx=>match SJ X o (e x) mx with|true=>some (lA (e x))|false=>match lA (e x)with| []=>some []|_=>none
 | .call c=>
   match c.callee with
   | .builtin .len =>some (c.args.toList.flatMap λx=>lA (e x))
   | .builtin .min =>some []
   | .builtin .max =>some []
   |_=>none
 | .lookup _ x _ _=>some (y0 (e x))
 |_=>none
def anu{k:AV->ar->Option R}(hq:uw X e o=some ids)(h:nw X T e o M k=some r):
 ∃y,k y M=some r∧∀(M':ar),(∀id∈ids,M'[id]?=M[id]?)->∀(k':AV->ar->Option R'),nw X T' e o M' k'=k' y M':=by
 unfold uw at hq;unfold nw at h;split at hq
 all_goals (rename_i ho;simp only [ho]at h)
 ·exact⟨_,h,λM' _ k'=>Rl⟩
 ·exact⟨_,h,λM' _ k'=>Rl⟩
 ·split at h
  ·rename_i t hc;split at h
   ·exact aa9
   ·exact aa9
  ·cases h
 ·obtain⟨y,h,hd⟩:=aqL (X:=X) _ _ _ _ h;exact wY
 ·obtain⟨y,h,hd⟩:=ar6 _ _ h;exact wY
 ·split at hq
  ·exact nu
  obtain⟨y,h,hd⟩:=apM (X:=X) _ _ _ h;exact wY
 ·obtain⟨y,h,hd⟩:=amY (X:=X) _ _ _ h;exact wY
 ·obtain⟨y,h,hd⟩:=aoM (X:=X) _ _ _ h;exact wY
 ·obtain⟨y,h,hd⟩:=aoL (X:=X) _ _ _ h;exact wY
 ·split at h
  ·rename_i vs hv;split at h
   ·rename_i y hy;exact⟨_,h,λM' _ k'=>by unfold nw;simp only [ho,hv,hy]⟩
   ·cases h
  ·cases h
 ·rename_i fn first eD
  cases fn with
  |func f=>exact⟨_,h,λM' _ k'=>Rl⟩
  |_=>cases h
 ·obtain⟨y,h,hd⟩:=aqI _ h;exact wY
 ·obtain⟨y,h,hd⟩:=aoN (X:=X) _ _ h;exact wY
 ·injection hq with hq;subst hq;obtain⟨y,h,hd⟩:=apv h;exact R6
 ·injection hq with hq;subst hq;obtain⟨y,h,hd⟩:=amC h;exact R6
 ·split at hq
  ·rename_i vJ;simp only [vJ]at h;injection hq with hq;subst hq;obtain⟨y,h,hd⟩:=apu h;exact⟨y,h,λM' hM k'=>by unfold nw;simp only [ho,vJ];exact hd M' hM _ _⟩
  ·rename_i vJ;simp only [vJ]at h;split at hq
   ·rename_i hx;obtain⟨y,h,hd⟩:=aoz hx h;exact⟨y,h,λM' hM k'=>by unfold nw;simp only [ho,vJ];exact hd M' _ _⟩
   ·exact nu
 ·rename_i c;split at hq
  ·rename_i hc;simp only [hc]at h;injection hq with hq;subst hq;split at h
   ·rename_i t x ht hx;obtain⟨y,h,hd⟩:=Em h;refine⟨y,h,λM' hM k'=> ?_⟩;unfold nw;simp only [ho,hc,ht,hx];exact hd M' (λid aA=>hM id (by rw [hx];simpa using aA)) _ _
   ·cases h
  ·exact adm
  ·exact adm
  ·exact nu
 ·injection hq with hq;subst hq;obtain⟨y,h,hd⟩:=an2 h;exact R6
 ·cases hq
def aol{M1:ar}(hi:Gt X e o=true)(hq:uw X e o=some ids)(h:Cg X e o M=some (x,M1)):M1=M∧∀M2,Cg X e o M2=some (x,M2):=by
 unfold Gt at hi;unfold uw at hq;unfold Cg at h⊢;split at hi
 ·rename_i op t a b u ho;exact adu
 ·rename_i s d a ho;simp only [ho,hi]at hq;exact nu
 ·rename_i t a lo CR mx ho;exact adu
 ·rename_i c ho;simp only [ho]at hq;split at hi
  ·rename_i hc;simp only [hc]at hq;cases hq
  ·rename_i hc;simp only [hc]at hq;cases hq
  ·rename_i f hc;simp only [hc]at hq;cases hq
  ·cases hi
 ·cases hi
def ant{k:AV->ar->Option R}(hq:uw X e o=some ids)(h:tq X T e o M k=some r):
 ∃y,k y M=some r∧∀(M':ar),(∀id∈ids,M'[id]?=M[id]?)->∀(k':AV->ar->Option R'),tq X T' e o M' k'=k' y M':=by
 unfold tq at h;split at h
 ·rename_i hi;split at h
  ·rename_i x M1 hx;rw [RC]at h;obtain⟨h1,h2⟩:=aol hi hq hx;subst h1;exact⟨x,h,λM' _ k'=>by unfold tq;simp only [hi,h2 M',RC]⟩
  ·cases h
 ·rename_i hi;obtain⟨y,h1,h2⟩:=anu (T':=T') hq h;exact⟨y,h1,λM' hM k'=>by unfold tq;simp only [hi];exact h2 M' hM k'⟩
def anZ{k:AV->ar->Option R}(hq:uw X e o=some ids)(h:p8 X T e o M k=some r):
 ∃y,k y M=some r∧∀(M':ar),(∀id∈ids,M'[id]?=M[id]?)->∀(k':AV->ar->Option R'),p8 X T' e o M' k'=k' y M':=by
 rw [QD]at h;obtain⟨y,h1,h2⟩:=ant (T':=T') hq h;exact⟨y,h1,λM' hM k'=>by rw [QD];exact h2 M' hM k'⟩
def FA(R:Type):gg R:=⟨⟨0,0⟩,λ_ _ _=>none,λ_ _ _ _=>none,λ_ _ _ _=>none⟩
def ZT(X:Cx)(R:Type):(FA R).mw X:=⟨λh=>by simp [FA]at h,λh=>by simp [FA]at h⟩
def X8(hX:X.Okb){k:AV->ar->Option R}(hq:uw X e o=some ids)(h:p8 X T e o M k=some r):
 ∃y,k y M=some r∧∀(M':ar),(∀id∈ids,M'[id]?=M[id]?)->ev X o e M' y M':=by
 obtain⟨y,h1,h2⟩:=anZ (T':=FA (AV×ar)) hq h;refine⟨y,h1,λM' hM=> ?_⟩;obtain⟨x,M1,h3,h4,_⟩:=DW hX (ZT X _) (h2 M' hM λx M=>some (x,M));injection h4 with h4;injection h4 with h4 h5;subst h4;subst h5;exact h3
def E3:List Oper->Nat
 | []=>0
 |o::os=>match o.op with
  | .buildSlice _ _ _=>E3 os+1
  | .call c=>(match c.callee with| .value _=>E3 os+1|_=>E3 os)
  |_=>E3 os
def JX(X:Cx)(ops:Array Oper)(e:Operand->AV)(o:Oper):Option (TypeId×Nat×Array (Nat×Operand)):=
 match o.op with
 | .buildSlice t n ps=>
   match(Nat.blt 1 (E3 ops.toList)&&Nat.blt 0 n)&&ps.toList.all λp=>asP (e p.2)with
   |true=>some (t,n,ps)
   |false=>none
 |_=>none
def Yd{ops:Array Oper}(h:JX X ops e o=some (t,n,ps)):o.op= .buildSlice t n ps:=by
 unfold JX at h;split at h
 ·rename_i ho;split at h
  ·injection h with h;injection h with h1 h;injection h with h2 h3;subst h1;subst h2;subst h3;exact ho
  ·cases h
 ·cases h
def Yz(hX:X.Okb)(ho:o.op= .buildSlice t n ps)(h:ym X t n (ps.toList.map λp=>(p.1,e p.2)) k=some r):
 ∃y,k y=some r∧∀(M':ar),ev X o e M' y M':=by
 obtain⟨y,h1,_,hd⟩:=akX hX h;refine⟨y,h1,λM'=>ev.qm (s:=λρe=>Instr.buildSlice t n (ps.map λ(i,x)=>(i,ρe x))) (fh) (λρe=>iG) (λ{w0 S F ρ w ρe} hI hr=> ?_)⟩;have:=hd (ps.toList.map λp=>(p.1,ρe p.2)) hI (by simp) (λj p q hp hq=>by
  rw [gW]at hp hq;cases hj:ps.toList[j]? with
  |none=>exact EF
  |some z=>
   rw [hj]at hp hq;simp only [jv,Option.some.injEq]at hp hq;subst hp;subst hq;exact⟨rfl,hr z.2⟩)
 have e1:(ps.map λ(i,x)=>(i,ρe x))=(ps.toList.map λp=>(p.1,ρe p.2)).toArray :=sf;rw [e1];exact this
end
end Go.ae
namespace Go.ae
def wW{p:Prop}(h:p:=by have:=each (j:=0) rfl;cases this):p:=h
def yL{p:Prop}(h:p:=by simpa using hi):p:=h
def abX{p:Prop}(h:p:=by
 have:=iQ.1 iy i hi;rw [bc]at this;simpa using this.1):p:=h
def abp{p:Prop}(h:p:=by
 have:=iQ.1 hk _ (eH hj);rw [e]at this;cases this):p:=h
end Go.ae
namespace Go.ae
def eQ:=@List.mem_cons_of_mem
def dI:=@List.mem_cons_self
def D6:=@List.nodup_cons
def PB:=@Option.isSome_iff_exists
end Go.ae
namespace Go.ae
open Go
noncomputable section
variable {X:Cx} {R:Type}
variable{i j:Nat}{f:Nat->Option Nat}{op:Option (Nat×Nat×Nat)}{t:TypeId}{xs:aH}{ρ':aT}
def eE(f:Nat->Option Nat):Nat->AV->AV
 |0,_=> .top
 |n+1,x=>
  match x with
  | .aa id=>match f id with|some j=> .aa j|none=> .top
  | .ptr id i off=>match f id with|some j=> .ptr j i off|none=> .top
  | .gG id=>match f id with|some j=> .gG j|none=> .top
  | .mp id=>match f id with|some j=> .mp j|none=> .top
  | .kg id m=>match f id with|some j=> .kg j m|none=> .top
  | .vw id lo m=>match f id with|some j=> .vw j lo m|none=> .top
  | .agg cs=> .agg (cs.map (eE f n))
  | .dc cs=> .dc (cs.map (eE f n))
  | .dE g first eD=> .dE g (first.map (eE f n)) (eD.map (eE f n))
  |x=>x
def vV(f:Nat->Option Nat)(ρ ρ':aT):Prop:=∀(id j:Nat) hd,f id=some j->ρ[id]?=some hd->ρ'[j]?=some hd
def aw.eE{K:TypeId->dv}(hK:∀t,∀k∈K t,k≠ .any){f:Nat->Option Nat}{ρ ρ':aT}(hf:vV f ρ ρ'){F:aO}{w:World}:∀(n:Nat) {x:AV} {v:Value},aw K ρ F w x v->aw K ρ' F w (eE f n x) v
 |0,_,v,_=> .top v
 |n+1,x,v,h=>by
  have ih:=λ{x:AV} {v:Value} (h:aw K ρ F w x v)=>aw.eE hK hf n h;have Lw:∀{xs:aD} {vs:eU},(∀(j:Nat) x v,xs[j]?=some x->vs[j]?=some v->aw K ρ F w x v)->∀(j:Nat) x v,(xs.map (ae.eE f n))[j]?=some x->vs[j]?=some v->aw K ρ' F w x v:=by
   intro xs vs h j x v hx hv;rw [gW]at hx;cases hj:xs[j]? with
   |none=>rw [hj]at hx;cases hx
   |some y=>
    rw [hj]at hx;simp only [jv,Option.some.injEq]at hx;subst hx;exact ih (h j y v hj hv)
  cases h with
  |top v=>exact .top v
  |int k n=>exact .int k n
  |bool b=>exact .bool b
  |str s=>exact .str s
  |agg cs vs hl h=>exact .agg _ vs (nv) (Lw h)
  |dc cs vs hl h=>exact .dc _ vs (nv) (Lw h)
  |gM=>exact .gM
  |ep t row off a vs hk hl hc h=>exact(aw.ep (ρ:=ρ) t row off a vs hk hl hc h).pure hK rfl
  |ptr id i off hd g o m c aA hv=>
   simp only [ae.eE];split
   ·rename_i j hj;exact .ptr j i off hd g o m c (hf id j hd hj aA) hv
   ·exact .top _
  |iS t=>exact .iS t
  |U t xs a cap vss hl jU iV hk hc h=>exact(aw.U (ρ:=ρ) t xs a cap vss hl jU iV hk hc h).pure hK rfl
  |aa id hd aA=>
   simp only [ae.eE];split
   ·rename_i j hj;exact .aa j hd (hf id j hd hj aA)
   ·exact .top _
  |fD=>exact .fD
  |dE g first eD vf vc h1 h2 h3 h4=>exact .dE g _ _ vf vc (qu) (rf) (Lw h3) (Lw h4)
  |jx=>exact .jx
  |gG id hd g aA hv=>
   simp only [ae.eE];split
   ·rename_i j hj;exact .gG j hd g (hf id j hd hj aA) hv
   ·exact .top _
  |mp id hd aA=>
   simp only [ae.eE];split
   ·rename_i j hj;exact .mp j hd (hf id j hd hj aA)
   ·exact .top _
  |lb=>exact .lb
  |kg id m hd g o n' c cap aA hv=>
   simp only [ae.eE];split
   ·rename_i j hj;exact .kg j m hd g o n' c cap (hf id j hd hj aA) hv
   ·exact .top _
  |vw id lo m hd g o n' c cap aA hv hc hb=>
   simp only [ae.eE];split
   ·rename_i j hj;exact .vw j lo m hd g o n' c cap (hf id j hd hj aA) hv hc hb
   ·exact .top _
  |rE id lo=>
   simp only [ae.eE];split
   ·exact .rE _ lo
   ·exact .top _
  |rD id lo a cap=>
   simp only [ae.eE];split
   ·exact .rD _ lo a cap
   ·exact .top _
  |ja a cap=>exact .ja a cap
def cq.eE{K:TypeId->dv}(hK:∀t,∀k∈K t,k≠ .any){f:Nat->Option Nat}{ρ ρ':aT}(hf:vV f ρ ρ'){F:aO}{w:World}(n:Nat){xs:aD}{vs:eU}(h:cq K ρ F w xs vs):cq K ρ' F w (xs.map (ae.eE f n)) vs:=by
 refine⟨by simpa using h.1,λj x v hx hv=> ?_⟩;rw [gW]at hx;cases hj:xs[j]? with
 |none=>rw [hj]at hx;cases hx
 |some y=>
  rw [hj]at hx;simp only [jv,Option.some.injEq]at hx;subst hx;exact(h.2 j y v hj hv).eE hK hf n
def zh(f:Nat->Option Nat)(n:Nat)(env:bA):bA:=env.map λp=>(p.1,eE f n p.2)
def Yx(f:Nat->Option Nat)(n:Nat):∀(env:bA) (t:Nat),look (zh f n env) t=eE f n (look env t)∨look (zh f n env) t= .top
 | [],t=> .inr rfl
 |(u,x)::env,t=>by
  unfold zh;simp only [fW,nf,look_nil]
  by_cases ht:t=u
  ·subst ht;simp
  ·have:(t==u)=false:=by simpa using ht
   simp only [this,jG,ly];exact Yx f n env t
def gX.eE(hX:X.Ok){f:Nat->Option Nat}{ρ ρ':aT}(hf:vV f ρ ρ'){F:aO}{w:World}(n:Nat){env:bA}{tmps:Array Value}(h:gX X ρ F w env tmps):gX X ρ' F w (zh f n env) tmps:=by
 intro t;rcases Yx f n env t with e|e
 ·rw [e];exact(h t).eE hX.kinds hf n
 ·rw [e];exact .top _
def Kind.fix:Kind->Bool| .any =>false|_=>true
def zg(f:Nat->Option Nat):Option (Nat×Nat×Nat)->Option (Nat×Nat×Nat)
 |some (i,j,k)=>match f k with|some k'=>some (i,j,k')|none=>some (i,j,k)
 |none=>none
def oj(f:Nat->Option Nat):bU->bU
 | .var ks cs=>match ks.all Kind.fix with|true=> .var ks cs|false=> .var ks (cs.map (eE f 4))
 | .loop s env b p=> .loop s (zh f 4 env) b p
 | .map kd ag ks es=>match ks.all Kind.fix with|true=> .map kd ag ks es|false=> .map kd ag ks (es.map λe=>(e.1,eE f 4 e.2))
 | .aU t xs op=> .aU t xs (zg f op)
 |b=>b
def od(f:Nat->Option Nat):bU->Bool
 | .var ks cs=>match ks.all Kind.fix with|true=>true|false=>cZ ks (cs.map (eE f 4))
 | .map _ ag ks es=>match ks.all Kind.fix with|true=>true|false=>es.all λe=>cZ ks (eE f 4 e.2).cells &&(eE f 4 e.2).shape ag
 | .aU _ _ (some (_,_,k))=>(f k).isSome
 |_=>true
def uk(f:Nat->Option Nat)(b:bU):(oj f b).fQ =b.fQ:=by
 cases b<;>simp only [oj]<;>first|rfl|(split<;>rfl)
def aw.fix{K:TypeId->dv}(hK:∀t,∀k∈K t,k≠ .any){ρ ρ':aT}{F:aO}{w:World}{ks:dv}(hk:ks.all Kind.fix=true){x:AV}{v:Value}(hx:cZ ks x.cells=true)(h:aw K ρ F w x v):aw K ρ' F w x v:=by
 have each:∀{j:Nat} {y:AV},x.cells[j]?=some y->y.pure=true:=λ{j y} hy=>by
  have hl:=gK hx;have hj:j<ks.length:=Rn;refine AM (λe=> ?_) (pF hx (cJ hj) hy);exact abp
 cases h with
 |agg cs vs hl hr=>exact .agg cs vs hl λj y u hy hu=>(hr j y u hy hu).pure hK (each hy)
 |top v=>have:=each (j:=0) (y:= .top) rfl;cases this
 |dc cs vs hl hr=>have:=each (j:=0) (y:= .dc cs) rfl;cases this
 |int k n=>exact .int k n
 |bool b=>exact .bool b
 |str s=>exact .str s
 |gM=>exact .gM
 |ep t row off a vs gb hl hc hr=>exact aw.pure hK (.ep t row off a vs gb hl hc hr) (each (j:=0) rfl)
 |iS t=>exact .iS t
 |U t xs a cap vss hl jU iV gb hc hr=>exact aw.pure hK (.U t xs a cap vss hl jU iV gb hc hr) (each (j:=0) rfl)
 |fD=>exact .fD
 |dE f first eD vf vc hf hc h1 h2=>exact aw.pure hK (.dE f first eD vf vc hf hc h1 h2) (each (j:=0) rfl)
 |jx=>exact .jx
 |lb=>exact .lb
 |ptr id i off hd g o n c aA hv=>exact wW
 |aa id hd aA=>exact wW
 |gG id hd g aA hv=>exact wW
 |kg id m hd g o n c cap aA hv=>exact wW
 |vw id lo m hd g o n c cap aA hv hc hb=>exact wW
 |rE id lo=>exact wW
 |rD id lo a cap=>exact wW
 |ja a cap=>exact .ja a cap
 |mp id hd aA=>exact wW
def Xx{kd:Kind}(mo:kd≠ .any){x:AV}(h:fj kd x=true):x.pure=true:=AM mo h
def iN.eE(hX:X.Ok){f:Nat->Option Nat}{ρ ρ':aT}(hf:vV f ρ ρ'){F:aO}{w:World}{hd:Hd}{b:bU}(aQ:od f b=true)(h:iN X ρ F w hd b):iN X ρ' F w hd (oj f b):=by
 cases b with
 |var ks cs=>
  obtain⟨h1,h2,g,cur,e,hv,hh,hr,hy⟩:=h;simp only [oj];simp only [od]at aQ;split
  ·rename_i hk;refine⟨h1,h2,g,cur,e,hv,hh,⟨hr.1,λj x v hx hv=>(hr.2 j x v hx hv).pure hX.kinds ?_⟩,hy⟩;have hl:=gK h1;have hj:j<ks.length:=EY;refine AM (λe=> ?_) (pF h1 (cJ hj) hx);exact abp
  ·rename_i hk;rw [hk]at aQ;exact⟨aQ,rf,g,cur,e,hv,hh,hr.eE hX.kinds hf 4,hy⟩
 |row t xs=>
  obtain⟨h1,h2,h3⟩:=h;refine⟨h1,h2,?_⟩;rcases h3 with h3|⟨g,o,c,cur,hv,hh,h4,h5,h6,h7⟩
  ·exact .inl h3
  ·refine .inr ⟨g,o,c,cur,hv,hh,h4,h5,h6,λi row hi j x hx=> ?_⟩;obtain⟨v,fy,hr⟩:=h7 i row hi j x hx;refine⟨v,fy,hr.pure hX.kinds ?_⟩;have hk:=h2 i row hi;have hl:=gK hk;have hj:j<(X.K t).length :=EY;exact AM (hX.kinds t _ (eH hj)) (pF hk (cJ hj) hx)
 |map kd ag ks es=>
  obtain⟨mo,g,mes,clock,hv,hh,cX,rL⟩:=h;simp only [oj];simp only [od]at aQ;split
  ·rename_i hk;exact⟨mo,g,mes,clock,hv,hh,cX,λi e me he hm=>let⟨a,r1,r2⟩:=rL i e me he hm;⟨a,r1.pure hX.kinds (Xx mo a.1),r2.fix hX.kinds hk a.2.1⟩⟩
  ·rename_i hk;rw [hk]at aQ;refine⟨mo,g,mes,clock,hv,hh,EM,λi e me he hm=> ?_⟩;rw [gW]at he;cases hi:es[i]? with
   |none=>rw [hi]at he;cases he
   |some e0=>
    rw [hi]at he;simp only [jv,Option.some.injEq]at he;subst he;obtain⟨a,r1,r2⟩:=rL i e0 me hi hm;have:=iQ.1 aQ e0 (kY hi);rw [bc]at this;exact⟨⟨a.1,this.1,this.2⟩,r1.pure hX.kinds (Xx mo a.1),r2.eE hX.kinds hf 4⟩
 |loop s env busy uZ=>
  obtain⟨g,lp,hv,hh,h1,h2,h3,h4,h5,h6⟩:=h;exact⟨g,lp,hv,hh,h1,h2,h3,h4,h5.eE hX hf 4,h6⟩
 |L1=>exact h
 |di t xs=>exact aw.pure hX.kinds h rfl
 |dead=>trivial
 |aU t xs op=>trivial
def Iw{b:bU}(h:oj f b= .aU t xs op):∃oy,b= .aU t xs oy∧op=zg f oy:=by
 cases b<;>simp only [oj]at h
 all_goals (try (split at h<;>cases h))
 all_goals cases h
 exact⟨_,rfl,rfl⟩
def Iz(aQ:od f (.aU t xs op)=true)(i j:Nat):fw (zg f op) i j=(fw op i j).bind f:=by
 match op with
 |none=>rfl
 |some (i',j',k)=>
  simp only [od]at aQ;obtain⟨k',gb⟩:=PB.1 aQ;simp only [zg,gb,fw];split<;>simp [gb]
def Oh(aQ:od f (.aU t xs op)=true){k:Nat}(h:fw op i j=some k):∃k',f k=some k':=by
 match op with
 |none=>cases h
 |some (i',j',k0)=>
  simp only [od]at aQ;simp only [fw]at h;split at h
  ·injection h with h;subst h;exact PB.1 aQ
  ·cases h
def j9.eE(hX:X.Ok){f:Nat->Option Nat}{ρ ρ':aT}(hf:vV f ρ ρ'){F:aO}{w:World}{hd:Hd}{t:TypeId}{xs:aH}{op:Option (Nat×Nat×Nat)}(aQ:od f (.aU t xs op)=true)
 (h:j9 X ρ F w hd t xs op):j9 X ρ' F w hd t xs (zg f op):=by
 obtain⟨h0,h1,h2,h3,h4⟩:=h;refine⟨h0,h1,h2,λi j k hk=> ?_,?_⟩
 ·match op,hk with
  |some (i',j',k'),hk=>
   have:=h3 i' j' k' rfl;simp only [zg]at hk;split at hk<;>(injection hk with hk;injection hk with e1 hk;injection hk with e2 e3;subst e1;subst e2;exact this)
 ·rcases h4 with h4|⟨g,o,c,cur,hv,hh,h5,h6,h7,h8⟩
  ·exact .inl h4
  ·refine .inr ⟨g,o,c,cur,hv,hh,h5,h6,h7,λi row hi j x hx=> ?_⟩;obtain⟨v,fy,ho,hr⟩:=h8 i row hi j x hx;refine⟨v,fy,λk hk=> ?_,λhk=> ?_⟩
   ·rw [Iz aQ]at hk;cases h9:fw op i j with
    |none=>rw [h9]at hk;cases hk
    |some k0=>
     rw [h9]at hk;obtain⟨h',e1,e2⟩:=ho k0 h9;exact⟨h',hf k0 k h' hk e1,e2⟩
   ·rw [Iz aQ]at hk;cases h9:fw op i j with
    |some k0=>
     obtain⟨k',e⟩:=Oh aQ h9;rw [h9]at hk;simp [e]at hk
    |none=>
     have hr:=hr h9;unfold rk at hr⊢;split at hr
     ·exact⟨hr.1.eE hX hf (b:= .row _ _) rfl,hr.2⟩
     ·rename_i iu;obtain⟨k,e1,e2⟩:=yu (h2 i row hi) hx;refine hr.pure hX.kinds (AM (hX.kinds t k (kY e1)) (k:=k) ?_);unfold pZ at e2;split at e2
      ·exact absurd rfl (iu _ _)
      ·exact e2
def kV.eE(hX:X.Ok){w0 qD w:World}{S S':Sc}{F:aO}{ρ ρ':aT}{M M':ar}(h:kV X w0 S F ρ M w){f:Nat->Option Nat}(hf:vV f ρ ρ')(dQ:Nat->Nat)
 (key:∀(id:Nat) t xs op hd,M'[id]?=some (.aU t xs op)->ρ'[id]?=some hd->∃b,M[dQ id]?=some b∧ρ[dQ id]?=some hd∧oj f b= .aU t xs op∧od f b=true)
 (Ty:∀(id id':Nat) b b',M'[id]?=some b->M'[id']?=some b'->b.ji=true->b'.ji=true->dQ id=dQ id'->id=id') (asX:∀g,lJ ρ' M' g->lJ ρ M g)
 (hS:∀(id:Nat) b p g,M'[id]?=some b->Hid w ρ M (dQ id) p g->(S g∨w0.heap.size<=g)->S' g∨qD.heap.size<=g):kV X qD S' F ρ' M' w:=by
 have back:∀{id:Nat} {p:Option (Nat×Nat)} {g:Nat},Hid w ρ' M' id p g->Hid w ρ M (dQ id) p g∧∃b,M'[id]?=some b∧b.ji=true:=by
  intro id p g hh;cases hh with
  |out hb hh hg=>
   obtain⟨b,k1,k2,k3,k4⟩:=key _ _ _ _ _ hb hh;obtain⟨oy,rfl,_⟩:=Iw k3;exact⟨.out k1 k2 hg,_,hb,rfl⟩
  |sub hb hh hi hj ho hc hg=>
   obtain⟨b,k1,k2,k3,k4⟩:=key _ _ _ _ _ hb hh;obtain⟨oy,rfl,rfl⟩:=Iw k3;refine⟨.sub k1 k2 hi hj ?_ hc hg,_,hb,rfl⟩;rw [Iz k4]at ho;cases h9:fw oy _ _ with
   |none=>rfl
   |some k0=>
    obtain⟨k',e⟩:=Oh k4 h9;rw [h9]at ho;simp [e]at ho
 refine⟨λ{id p g} hh=> ?_,λh1 h2=> ?_,λ{id t xs op hd} hb hh=> ?_⟩
 ·obtain⟨hb,b,hU,_⟩:=back hh;obtain⟨a1,a2,a3,a4⟩:=h.aa hb;exact⟨a1,hS id b p g hU hb a2,a3,λho=>a4 (asX g ho)⟩
 ·obtain⟨b1,c1,m1,n1⟩:=back h1;obtain⟨b2,c2,m2,n2⟩:=back h2;obtain⟨e1,e2⟩:=h.inj b1 b2;exact⟨Ty _ _ _ _ m1 m2 n1 n2 e1,e2⟩
 ·obtain⟨b,k1,k2,k3,k4⟩:=key _ _ _ _ _ hb hh;obtain⟨oy,rfl,rfl⟩:=Iw k3;exact(h.rep k1 k2).eE hX hf k4
def idx:cp->Nat->Option Nat
 | [],_=>none
 |i::is,id=>if id==i then some 0 else(idx is id).map (·+1)
def aag:∀{aM:cp} {id j:Nat},idx aM id=some j->aM[j]?=some id
 | [],id,j,h=>by simp [idx]at h
 |i::is,id,j,h=>by
  simp only [idx]at h;split at h
  ·rename_i hi;injection h with h;subst h;simpa using Eq.symm (yL)
  ·cases hx:idx is id with
   |none=>rw [hx]at h;cases h
   |some m=>
    rw [hx]at h;simp only [jv,Option.some.injEq]at h;subst h;simpa using aag hx
def ki(m:Nat)(aM:cp)(n:Nat)(j:Nat):Option Nat:=match Nat.blt j m with|true=>aM[j]?|false=>some (n+(j- m))
def sub(d:Hd)(ρ:aT)(aM:cp):aT:=aM.map λi=>ρ.getD i d
def ny(M:ar)(aM:cp):ar:=aM.map λi=>oj (idx aM) (M.getD i .dead)
def rW(M:ar)(aM:cp):Bool:=distinct aM&&aM.all λi=>Nat.blt i M.length&&od (idx aM) (M.getD i .dead)
where distinct:cp->Bool
 | []=>true
 |i::is=> !is.contains i&&distinct is
def NI:∀{aM:cp},rW.distinct aM=true->aM.Nodup
 | [],_=> .nil
 |i::is,h=>by
  simp only [rW.distinct,bc]at h;exact D6.2 ⟨by simpa using h.1,NI h.2⟩
def qz:ar->cp->ar->ar
 |M,i::is,b::bs=>qz (M.set i b) is bs
 |M,_,_=>M
def AN:∀(aM:cp) (bs M:ar),(qz M aM bs).length =M.length
 | [],_,_=>by simp [qz]
 |_::_,[],_=>by simp [qz]
 |i::is,b::bs,M=>by simp only [qz];rw [AN is bs];simp
def IA:∀(aM:cp) (bs M:ar) {id:Nat},id∉aM->(qz M aM bs)[id]?=M[id]?
 | [],_,_,_,_=>by simp [qz]
 |_::_,[],_,_,_=>by simp [qz]
 |i::is,b::bs,M,id,h=>by
  simp only [qz];rw [IA is bs _ (λh'=>h (eQ _ h')),fP (λe=>h (by rw [e];exact dI))]
def PY:∀(aM:cp) (bs M:ar),aM.Nodup->(∀i∈aM,i<M.length)->∀{j i:Nat} {b:bU},aM[j]?=some i->bs[j]?=some b->(qz M aM bs)[i]?=some b
 | [],_,_,_,_,j,i,b,h,_=>dB
 |_::_,[],_,_,_,j,i,b,_,h=>dB
 |i0::is,b0::bs,M,hn,hl,j,i,b,hi,hb=>by
  simp only [qz];rw [D6]at hn;cases j with
  |zero=>
   simp at hi hb;subst hi;subst hb;rw [IA is bs _ hn.1,hY (hl i0 dI)]
  |succ j=>
   simp at hi hb;exact PY is bs _ hn.2 (λk hk=>by simpa using hl k (eQ _ hk)) hi hb
def merge(m:Nat)(M:ar)(aM:cp)(Mc:ar):ar:=qz M aM ((Mc.take m).map (oj (ki m aM M.length))++List.replicate (aM.length- m) .dead)++(Mc.drop m).map (oj (ki m aM M.length))
def Be(m:Nat)(M:ar)(aM:cp)(Mc:ar):Bool:=Nat.ble m aM.length&&Nat.ble m Mc.length&&Mc.all (od (ki m aM M.length))
structure oS(m:Nat)(F F':aO)(ρ ρ':aT)(w w':World):Prop where
 hF:∀a,F a->F' a
 dR:∀(id:Nat) hd,id<m->ρ[id]?=some hd->ρ'[id]?=some hd
 hb:∀a,F a->w'.heap[a.block]?=w.heap[a.block]?
def bH.toF{F F':aO}{ρ:aT}{w w':World}(h:bH F F' ρ ρ' w w')(m:Nat):oS m F F' ρ ρ' w w':=⟨h.hF,λid hd _ hh=>h.dR id hd hh,h.hb⟩
def oS.hw{m:Nat}{F F':aO}{ρ:aT}{w w':World}(h:oS m F F' ρ ρ' w w'):∀a v,F a->w.cell? a=some v->w'.cell? a=some v:=λa _ ha hc=>OQ (h.hb a ha) hc
section
variable {w0 w w':World} {S:Sc} {F F':aO} {ρ lg:aT} {M kB:ar} {aM:cp}
def hand(w:World)(ρ:aT)(M:ar)(aM:cp)(F:aO):Sc:=⟨λg=>(∃i∈aM,∃b hd,M[i]?=some b∧b.fQ=false∧ρ[i]?=some hd∧hd.b9=some g)∨∃i∈aM,∃p,Hid w ρ M i p g,F⟩
def IS{d:Hd}(h:aM[j]?=some i)(hi:i<ρ.length):(sub d ρ aM)[j]?=ρ[i]?:=by
 simp only [sub,gW,h,jv,List.getD,cJ hi,ni]
def Qx(aY:∀i∈aM,i<ρ.length)(d:Hd):vV (idx aM) ρ (sub d ρ aM):=by
 intro id j hd hj hh;have:=aag hj;rw [IS this (aY _ (kY this)),hh]
def Inv.aez(hX:X.Ok)(hI:Inv X w0 S F ρ M w)(aQ:rW M aM=true)(d:Hd):Inv X w0 S F (ae.sub d ρ aM) (ny M aM) w∧Inv X w (hand w ρ M aM F) F (ae.sub d ρ aM) (ny M aM) w:=by
 unfold rW at aQ;rw [bc]at aQ;obtain⟨TD,iy⟩:=aQ;have sC:=NI TD;have aY:∀i∈aM,i<M.length:=λi hi=>abX;have mE:∀i∈aM,od (idx aM) (M.getD i .dead)=true:=λi hi=>by
  have:=iQ.1 iy i hi;rw [bc]at this;exact this.2
 have Sr:∀i∈aM,i<ρ.length:=λi hi=>by rw [hI.len];exact aY i hi
 have back:∀{j:Nat} {c:bU},(ny M aM)[j]?=some c->∃i b,aM[j]?=some i∧M[i]?=some b∧c=oj (idx aM) b∧od (idx aM) b=true:=by
  intro j c hc;simp only [ny,gW]at hc;cases hj:aM[j]? with
  |none=>rw [hj]at hc;cases hc
  |some i=>
   rw [hj]at hc;have hi:=aY i (kY hj);simp only [jv,Option.some.injEq,List.getD,cJ hi,ni]at hc;have h2:=mE i (kY hj);simp only [List.getD,cJ hi,ni]at h2;exact⟨i,M[i],rfl,cJ hi,hc.symm,h2⟩
 have yT:∀{j:Nat} {h:Hd},(ae.sub d ρ aM)[j]?=some h->∃i,aM[j]?=some i∧ρ[i]?=some h:=by
  intro j h hh;cases hj:aM[j]? with
  |none=>simp only [ae.sub,gW,hj]at hh;cases hh
  |some i=>rw [IS hj (Sr i (kY hj))]at hh;exact⟨i,rfl,hh⟩
 have h1:∀(id:Nat) b hd,(ny M aM)[id]?=some b->(ae.sub d ρ aM)[id]?=some hd->iN X (ae.sub d ρ aM) F w hd b:=by
  intro j c h hc hh;obtain⟨i,b,h1,h2,rfl,h3⟩:=back hc;obtain⟨i',py,h4⟩:=yT hh;rw [h1]at py;injection py with py;subst py;exact(hI.rep i b h h2 h4).eE hX (Qx Sr d) h3
 have h2:∀(j:Nat) c h g,(ny M aM)[j]?=some c->c.fQ=false->(ae.sub d ρ aM)[j]?=some h->h.b9=some g->(g<w.heap.size∧(S g∨w0.heap.size<=g)∧∀a,F a->a.block≠g)∧(hand w ρ M aM F) g:=by
  intro j c h g hc ck hh bM;obtain⟨i,b,h1,h2,rfl,h3⟩:=back hc;obtain⟨i',py,h4⟩:=yT hh;rw [h1]at py;injection py with py;subst py;rw [uk]at ck;exact⟨hI.sep i b h g h2 ck h4 bM,.inl ⟨i,kY h1,b,h,h2,ck,h4,bM⟩⟩
 have h3:∀(j j':Nat) c c' h h' g,j≠j'->(ny M aM)[j]?=some c->(ny M aM)[j']?=some c'->c.fQ=false->c'.fQ=false->(ae.sub d ρ aM)[j]?=some h->(ae.sub d ρ aM)[j']?=some h'->h.b9=some g->h'.b9≠some g:=by
  intro j j' c c' h h' g c9 hc sG ck lE hh bT bM;obtain⟨i,b,h1,h2,rfl,h3⟩:=back hc;obtain⟨i',b',py,h2',rfl,h3'⟩:=back sG;obtain⟨i2,e1,h4⟩:=yT hh;obtain⟨i2',e2,h4'⟩:=yT bT;rw [h1]at e1;injection e1 with e1;subst e1;rw [py]at e2;injection e2 with e2;subst e2;rw [uk]at ck lE;refine hI.fZ i i' b b' h h' g (λe=>c9 ?_) h2 h2' ck lE h4 h4' bM;subst e;have l1:=(cy.1 h1).1;have l2:=(cy.1 py).1;exact(List.getElem?_inj l1 sC).1 (h1.trans py.symm)
 have h4:∀(id:Nat) hd,(ae.sub d ρ aM)[id]?=some hd->hd.v.oneCell'=true:=by
  intro j h hh;obtain⟨i,_,h4⟩:=yT hh;exact hI.one i h h4
 have h5:∀g,aw X.K (ae.sub d ρ aM) F w (X.fa g) (.pointer (some ⟨g,0,none⟩)):=λg=>(hI.fa g).ao1 hX.kinds (hX.fa g);have h6:(ae.sub d ρ aM).length =(ny M aM).length :=by simp [ae.sub,ny]
 have h7:∀(qD:World) (S':Sc),(∀i∈aM,∀p g,Hid w ρ M i p g->(S g∨w0.heap.size<=g)->S' g∨qD.heap.size<=g)->kV X qD S' F (ae.sub d ρ aM) (ny M aM) w:=by
  intro qD S' hS;refine hI.aU.eE hX (Qx Sr d) (λj=>aM.getD j 0) (λj t xs op hd hc hh=> ?_) (λj j' c c' hc sG _ _ e=> ?_) (λg hg=> ?_) λj c p g hc hh hs=> ?_
  ·obtain⟨i,b,e1,e2,e3,e4⟩:=back hc;obtain⟨i',qg,e5⟩:=yT hh;rw [e1]at qg;injection qg with qg;subst qg;simp only [List.getD,e1,ni];exact⟨b,e2,e5,e3.symm,e4⟩
  ·obtain⟨i,b,e1,_,_,_⟩:=back hc;obtain⟨i',b',qg,_,_,_⟩:=back sG;simp only [List.getD,e1,qg,ni]at e;subst e;have l1:=(cy.1 e1).1;exact(List.getElem?_inj l1 sC).1 (e1.trans qg.symm)
  ·obtain⟨j,c,hd,hc,ck,hh,bM⟩:=hg;obtain⟨i,b,e1,e2,rfl,e4⟩:=back hc;obtain⟨i',qg,e5⟩:=yT hh;rw [e1]at qg;injection qg with qg;subst qg;rw [uk]at ck;exact⟨i,b,hd,e2,ck,e5,bM⟩
  ·obtain⟨i,b,e1,_,_,_⟩:=back hc;simp only [List.getD,e1,ni]at hh;exact hS i (kY e1) p g hh hs
 exact⟨⟨hI.os,hI.tape,hI.output,hI.size,hI.frame,h6,h1,λj c h g p1 p2 p3 p4=>(h2 j c h g p1 p2 p3 p4).1,h3,hI.fz,h5,h4,hI.dQ,hI.fin,h7 w0 S λ_ _ _ _ _ h=>h⟩,
  ⟨rfl,rfl,rfl,dZ _,λ_ _ _=>rfl,h6,h1,λj c h g p1 p2 p3 p4=>⟨(h2 j c h g p1 p2 p3 p4).1.1,.inl (h2 j c h g p1 p2 p3 p4).2,(h2 j c h g p1 p2 p3 p4).1.2.2⟩,h3,hI.fz,h5,h4,λa ha=> .inl ha,λa ha=>ha,h7 w _ λi hi p g hh _=> .inl (.inr ⟨i,hi,p,hh⟩)⟩⟩
def Inv.sub(hX:X.Ok)(hI:Inv X w0 S F ρ M w)(aQ:rW M aM=true)(d:Hd):Inv X w (hand w ρ M aM F) F (ae.sub d ρ aM) (ny M aM) w:=(hI.aez hX aQ d).2
end
end
end Go.ae
namespace Go.ae
def Bo{p:Prop}(h:p:=by simp [bU.fQ]):p:=h
end Go.ae
namespace Go.ae
open Go
noncomputable section
variable {X:Cx} {R:Type}
variable {w0 w w':World} {S:Sc} {F F':aO} {ρ lg:aT} {M kB:ar} {aM:cp} {m:Nat}
structure Qq(M:ar)(aM:cp):Prop where
 nd:aM.Nodup
 lt:∀i∈aM,i<M.length
def Yn(aQ:rW M aM=true):Qq M aM:=by
 unfold rW at aQ;rw [bc]at aQ;obtain⟨TD,iy⟩:=aQ;refine⟨NI TD,λi hi=> ?_⟩;exact abX
def Xu:(merge m M aM kB).length =M.length+(kB.length- m):=by
 simp [merge,AN]
def wc(hs:Qq M aM)(hm:Be m M aM kB=true){id:Nat}{b:bU}(h:(merge m M aM kB)[id]?=some b):
 (id∉aM∧id<M.length∧M[id]?=some b)∨b= .dead ∨∃j c,ki m aM M.length j=some id∧kB[j]?=some c∧b=oj (ki m aM M.length) c∧od (ki m aM M.length) c=true:=by
 unfold Be at hm;rw [bc,bc]at hm;obtain⟨⟨GG,hle⟩,iy⟩:=hm;have hle:m<=kB.length:=oL hle;have GG:m<=aM.length:=oL GG;have ro:∀{j:Nat} {c:bU},kB[j]?=some c->od (ki m aM M.length) c=true:=λhj=>iQ.1 iy _ (kY hj);unfold merge at h
 by_cases aA:id<M.length
 ·rw [gj (by rw [AN];exact aA)]at h
  by_cases Tr:id∈aM
  ·obtain⟨j,hj⟩:=wm Tr;have GK:=(cy.1 hj).1
   by_cases vM:j<m
   ·have UL:j<kB.length:=by omega
    have hb:((kB.take m).map (oj (ki m aM M.length))++List.replicate (aM.length- m) .dead)[j]?=some (oj (ki m aM M.length) kB[j]):=by
     rw [gj (eR),gW,n8,if_pos vM,cJ UL];rfl
    rw [PY aM _ M hs.nd hs.lt hj hb]at h;injection h with h;have:Nat.blt j m=true:=by simpa using vM
    exact .inr (.inr ⟨j,kB[j],by simp only [ki,this];exact hj,cJ UL,h.symm,ro (cJ UL)⟩)
   ·have hb:((kB.take m).map (oj (ki m aM M.length))++List.replicate (aM.length- m) .dead)[j]?=some .dead :=by
     rw [jt (eR),wi,if_pos (eR)]
    rw [PY aM _ M hs.nd hs.lt hj hb]at h;injection h with h;exact .inr (.inl h.symm)
  ·rw [IA aM _ M Tr]at h;exact .inl ⟨Tr,aA,h⟩
 ·rw [jt (by rw [AN];omega),AN,gW,oO]at h;cases hc:kB[m+(id- M.length)]? with
  |none=>rw [hc]at h;cases h
  |some c=>
   rw [hc]at h;simp only [jv,Option.some.injEq]at h;refine .inr (.inr ⟨_,c,?_,hc,h.symm,ro hc⟩);have:Nat.blt (m+(id- M.length)) m=false:=by
    rw [Bool.eq_false_iff];simp
   simp only [ki,this,Option.some.injEq];omega
def aoy(hI:Inv X w0 S F ρ M w)(hs:Qq M aM)(d:Hd)(hg:oS m F F' (sub d ρ aM) lg w w'):vV (ki m aM M.length) lg (ρ++lg.drop m):=by
 intro j id hd hj hh;have hlen:=hI.len;simp only [ki]at hj;split at hj
 ·rename_i hb;have vM:j<m:=Jd;have hi:id<ρ.length:=by rw [hlen];exact hs.lt id (kY hj)
  rw [gj hi];have h1:(sub d ρ aM)[j]?=some ρ[id]:=by rw [IS hj hi,cJ hi]
  have:=hg.dR j _ vM h1;rw [hh]at this;injection this with this;rw [cJ hi,this]
 ·rename_i hb;have vM:¬j<m:=λaY=>by rw [(by simpa using aY:Nat.blt j m=true)]at hb;cases hb
  simp only [Option.some.injEq]at hj;subst hj;rw [jt (by omega),oO,<-hh]
  congr 1
  omega
def Inv.merge(hX:X.Ok)(hI:Inv X w0 S F ρ M w)(aQ:rW M aM=true)(d:Hd)(hC:Inv X w (hand w ρ M aM F) F' lg kB w')(hg:oS m F F' (ae.sub d ρ aM) lg w w')(hm:Be m M aM kB=true):
 Inv X w0 S F' (ρ++lg.drop m) (ae.merge m M aM kB) w'∧bH F F' ρ (ρ++lg.drop m) w w'∧vV (ki m aM M.length) lg (ρ++lg.drop m):=by
 have hs:=Yn aQ;have KR:=aoy hI hs d hg;have hlen:=hI.len;have ay6:=hC.len;have cX:w.heap.size<=w'.heap.size:=hC.size;have iK:∀(id:Nat) hd,ρ[id]?=some hd->(ρ++lg.drop m)[id]?=some hd:=λid hd h=>Jw;have j7:bH F F' ρ (ρ++lg.drop m) w w':=⟨hg.hF,iK,hg.hb⟩;have apart:∀{id:Nat} {b:bU} {hd:Hd} {g:Nat},id∉aM->M[id]?=some b->b.fQ=false->ρ[id]?=some hd->hd.b9=some g->g<w.heap.size∧¬(hand w ρ M aM F) g:=by
  intro id b hd g iu hb ck hh bM;refine⟨(hI.sep id b hd g hb ck hh bM).1,?_⟩;rintro(⟨i,hi,b',bY,hU,lE,bT,jj⟩|⟨i,hi,p,hp⟩)
  ·exact hI.fZ id i b b' hd bY g (λe=>iu (e▸hi)) hb hU ck lE hh bT bM jj
  ·exact(hI.aU.aa hp).2.2.2 ⟨id,b,hd,hb,ck,hh,bM⟩
 have JB:∀{g:Nat},(hand w ρ M aM F) g->S g∨w0.heap.size<=g:=by
  rintro g (⟨i,_,b',bY,hU,lE,bT,jj⟩|⟨i,_,p,hp⟩)
  ·exact(hI.sep i b' bY g hU lE bT jj).2.1
  ·exact(hI.aU.aa hp).2.1
 have JG:∀{id:Nat} {p:Option (Nat×Nat)} {g:Nat},id∉aM->Hid w ρ M id p g->g<w.heap.size∧¬(hand w ρ M aM F) g:=by
  intro id p g iu hh;obtain⟨a1,_,_,a4⟩:=hI.aU.aa hh;refine⟨a1,?_⟩;rintro(⟨i,hi,b',bY,hU,lE,bT,jj⟩|⟨i,hi,p',hp⟩)
  ·exact a4 ⟨i,b',bY,hU,lE,bT,jj⟩
  ·exact iu ((hI.aU.inj hh hp).1 ▸hi)
 have cρ:∀{id:Nat} {h:Hd},id<M.length->(ρ++lg.drop m)[id]?=some h->ρ[id]?=some h:=by
  intro id h aA hh;rw [gj (by omega)]at hh;exact hh
 have vt:∀{j id:Nat} {c:bU} {h:Hd},ki m aM M.length j=some id->kB[j]?=some c->(ρ++lg.drop m)[id]?=some h->lg[j]?=some h:=by
  intro j id c h hj hc hh;have hl:j<lg.length:=by have:=(cy.1 hc).1;omega
  have:=KR j id _ hj (cJ hl);rw [hh]at this;injection this with this;rw [cJ hl,this]
 have Ti:∀{id:Nat} {t:TypeId} {xs:aH} {op:Option (Nat×Nat×Nat)} {hd:Hd},(ae.merge m M aM kB)[id]?=some (.aU t xs op)->(ρ++lg.drop m)[id]?=some hd->
  (id∉aM∧M[id]?=some (.aU t xs op)∧ρ[id]?=some hd)∨∃j oy,ki m aM M.length j=some id∧kB[j]?=some (.aU t xs oy)∧lg[j]?=some hd∧op=zg (ki m aM M.length) oy∧od (ki m aM M.length) (.aU t xs oy)=true:=by
  intro id t xs op hd hb hh;rcases wc hs hm hb with⟨iu,aY,hb⟩|e|⟨j,c,hj,hc,e,mE⟩
  ·exact .inl ⟨iu,hb,cρ aY hh⟩
  ·cases e
  ·obtain⟨oy,rfl,e2⟩:=Iw e.symm;exact .inr ⟨j,oy,hj,hc,vt hj hc hh,e2,mE⟩
 have R4:∀{id:Nat} {p:Option (Nat×Nat)} {g:Nat},Hid w' (ρ++lg.drop m) (ae.merge m M aM kB) id p g->(id∉aM∧Hid w ρ M id p g)∨∃j,ki m aM M.length j=some id∧Hid w' lg kB j p g:=by
  intro id p g hh;cases hh with
  |out hb hh hg=>
   rcases Ti hb hh with⟨n1,n2,n3⟩|⟨j,oy,n1,n2,n3,n4,n5⟩
   ·exact .inl ⟨n1,.out n2 n3 hg⟩
   ·exact .inr ⟨j,n1,.out n2 n3 hg⟩
  |sub hb hh hi hj ho hc hg=>
   rcases Ti hb hh with⟨n1,n2,n3⟩|⟨j,oy,n1,n2,n3,n4,n5⟩
   ·refine .inl ⟨n1,.sub n2 n3 hi hj ho ?_ hg⟩;rw [<-hc];exact(aoP (λg hg=>let⟨a1,a2⟩:=JG n1 (.out n2 n3 hg);hC.frame g a1 a2) _ _).symm
   ·refine .inr ⟨j,n1,.sub n2 n3 hi hj ?_ hc hg⟩;subst n4;rw [Iz n5]at ho;cases h9:fw oy _ _ with
    |none=>rfl
    |some k0=>
     obtain⟨k',e⟩:=Oh n5 h9;rw [h9]at ho;simp [e]at ho
 have FM:kV X w0 S F' (ρ++lg.drop m) (ae.merge m M aM kB) w':=by
  have Kf:∀{id:Nat} {p:Option (Nat×Nat)} {g:Nat},id∉aM->Hid w ρ M id p g->((hand w ρ M aM F) g∨w.heap.size<=g)->False:=by
   intro id p g iu hh h;obtain⟨a1,a2⟩:=JG iu hh;rcases h with h|h
   ·exact a2 h
   ·omega
  refine⟨λ{id p g} hh=> ?_,λ{id id' p p' g} h1 h2=> ?_,λ{id t xs op hd} hb hh=> ?_⟩
  ·rcases R4 hh with⟨n1,n2⟩|⟨j,n1,n2⟩
   ·obtain⟨a1,a2,a3,a4⟩:=hI.aU.aa n2;refine⟨kX a1 cX,a2,λa ha e=> ?_,?_⟩
    ·rcases hC.dQ a ha with h|h
     ·exact a3 a h e
     ·exact Kf n1 n2 (e▸h)
    ·rintro⟨i,b,hd,hb,ck,hh,bM⟩;rcases wc hs hm hb with⟨iu,aY,hb⟩|rfl|⟨j,c,hj,hc,rfl,mE⟩
     ·exact a4 ⟨i,b,hd,hb,ck,cρ aY hh,bM⟩
     ·exact absurd ck (Bo)
     ·rw [uk]at ck;exact Kf n1 n2 (hC.sep j c hd g hc ck (vt hj hc hh) bM).2.1
   ·obtain⟨a1,a2,a3,a4⟩:=hC.aU.aa n2;refine⟨a1,?_,a3,?_⟩
    ·rcases a2 with h|h
     ·exact JB h
     ·exact .inr (j5 hI.size h)
    ·rintro⟨i,b,hd,hb,ck,hh,bM⟩;rcases wc hs hm hb with⟨iu,aY,hb⟩|rfl|⟨j',c,oE,hc,rfl,mE⟩
     ·obtain⟨b1,b2⟩:=apart iu hb ck (cρ aY hh) bM;rcases a2 with h|h
      ·exact b2 h
      ·omega
     ·exact absurd ck (Bo)
     ·rw [uk]at ck;exact a4 ⟨j',c,hd,hc,ck,vt oE hc hh,bM⟩
  ·rcases R4 h1 with⟨n1,n2⟩|⟨j,n1,n2⟩<;>rcases R4 h2 with⟨m1,m2⟩|⟨j',m1,m2⟩
   ·exact hI.aU.inj n2 m2
   ·exact(Kf n1 n2 (hC.aU.aa m2).2.1).elim
   ·exact(Kf m1 m2 (hC.aU.aa n2).2.1).elim
   ·obtain⟨e1,e2⟩:=hC.aU.inj n2 m2;subst e1;rw [n1]at m1;injection m1 with m1;exact⟨m1,e2⟩
  ·rcases Ti hb hh with⟨n1,n2,n3⟩|⟨j,oy,n1,n2,n3,n4,n5⟩
   ·exact(hI.aU.rep n2 n3).mono iK hg.hF hg.hw (λg hg=>let⟨a1,a2⟩:=JG n1 (.out n2 n3 hg);hC.frame g a1 a2) λi j row e ys v g hi hx ho hc hg=>let⟨a1,a2⟩:=JG n1 (.sub n2 n3 hi hx ho hc hg);hC.frame g a1 a2
   ·subst n4;exact(hC.aU.rep n2 n3).eE hX KR n5
 refine⟨⟨hC.os.trans hI.os,hC.tape.trans hI.tape,hC.output.trans hI.output,j5 hI.size cX,λg h1 h2=> ?_,?_,λid b hd hb hh=> ?_,λid b hd g hb ck hh bM=> ?_,
  λid id' b b' hd bY g c9 hb hU ck lE hh bT bM jj=> ?_,hC.fz,λg=>(hI.fa g).grow j7,λid hd hh=> ?_,λa ha=> ?_,λa ha=>hg.hF _ (hI.fin a ha),FM⟩,j7,KR⟩
 ·refine(hC.frame g (kX h1 hI.size) (λh=> ?_)).trans (hI.frame g h1 h2);rcases JB h with h|h
  ·exact h2 h
  ·omega
 ·rw [Xu,fC,sZ];omega
 ·rcases wc hs hm hb with⟨iu,aY,hb⟩|rfl|⟨j,c,hj,hc,rfl,mE⟩
  ·have hh:=cρ aY hh
   by_cases ck:b.fQ=true
   ·exact(hI.rep id b hd hb hh).Ic iK hg.hF hg.hw ck
   ·refine(hI.rep id b hd hb hh).mono iK hg.hF hg.hw λg bM=> ?_;obtain⟨a1,a2⟩:=apart iu hb (by simpa using ck) hh bM;exact hC.frame g a1 a2
  ·trivial
  ·exact(hC.rep j c hd hc (vt hj hc hh)).eE hX KR mE
 ·rcases wc hs hm hb with⟨iu,aY,hb⟩|rfl|⟨j,c,hj,hc,rfl,mE⟩
  ·have hh:=cρ aY hh;obtain⟨a1,a2,a3⟩:=hI.sep id b hd g hb ck hh bM;refine⟨kX a1 cX,a2,λa ha e=> ?_⟩;rcases hC.dQ a ha with h|h|h
   ·exact a3 a h e
   ·exact(apart iu hb ck hh bM).2 (e▸h)
   ·omega
  ·exact absurd ck (Bo)
  ·rw [uk]at ck;obtain⟨a1,a2,a3⟩:=hC.sep j c hd g hc ck (vt hj hc hh) bM;refine⟨a1,?_,a3⟩;rcases a2 with a2|a2
   ·exact JB a2
   ·exact .inr (j5 hI.size a2)
 ·have mixed:∀{id id' j:Nat} {b c:bU} {hd bY:Hd} {g:Nat},id∉aM->M[id]?=some b->b.fQ=false->ρ[id]?=some hd->hd.b9=some g->kB[j]?=some c->c.fQ=false->lg[j]?=some bY->bY.b9=some g->False:=by
   intro id id' j b c hd bY g iu hb ck hh bM hc lE bT jj;obtain⟨a1,a2⟩:=apart iu hb ck hh bM;rcases(hC.sep j c bY g hc lE bT jj).2.1 with h|h
   ·exact a2 h
   ·omega
  rcases wc hs hm hb with⟨iu,aY,hb⟩|rfl|⟨j,c,hj,hc,rfl,mE⟩
  ·rcases wc hs hm hU with⟨afK,vg,hU⟩|rfl|⟨j',c',oE,sG,rfl,ayh⟩
   ·exact hI.fZ id id' b b' hd bY g c9 hb hU ck lE (cρ aY hh) (cρ vg bT) bM jj
   ·exact absurd lE (Bo)
   ·rw [uk]at lE;exact mixed (id':=0) iu hb ck (cρ aY hh) bM sG lE (vt oE sG bT) jj
  ·exact absurd ck (Bo)
  ·rw [uk]at ck;rcases wc hs hm hU with⟨afK,vg,hU⟩|rfl|⟨j',c',oE,sG,rfl,ayh⟩
   ·exact mixed (id':=0) afK hU lE (cρ vg bT) jj hc ck (vt hj hc hh) bM
   ·exact absurd lE (Bo)
   ·rw [uk]at lE;refine hC.fZ j j' c c' hd bY g (λe=>c9 ?_) hc sG ck lE (vt hj hc hh) (vt oE sG bT) bM jj;subst e;rw [hj]at oE;injection oE
 ·by_cases aA:id<ρ.length
  ·rw [gj aA]at hh;exact hI.one id hd hh
  ·rw [jt (by omega),oO]at hh;exact hC.one _ hd hh
 ·rcases hC.dQ a ha with h|h|h
  ·exact hI.dQ a h
  ·exact .inr (JB h)
  ·exact .inr (.inr (j5 hI.size h))
end
noncomputable section
variable {X:Cx} {R:Type} {M M':ar}
variable{x:AV}{g:FuncId}{o:Oper}{e:Operand->AV}{args:aD}
def Fi:AV->Bool| .int _ _| .bool _| .str _| .gM | .ep _ _ _| .U _ _| .jx | .dE _ [] []=>true|_=>false
def oZ:AV->Bool| .agg cs=>cs.all Fi|x=>Fi x
def Yf(h:Fi x=true):x.pure=true:=by
 unfold Fi at h;split at h<;>first|rfl|cases h
def aw.oZ(hX:X.Ok){ρ ρ':aT}{F:aO}{w:World}{x:AV}{v:Value}(hq:oZ x=true)(h:aw X.K ρ F w x v):aw X.K ρ' F w x v:=by
 cases h with
 |agg cs vs hl hr=>exact .agg cs vs hl λj y u hy hu=>(hr j y u hy hu).pure hX.kinds (Yf (iQ.1 hq y (kY hy)))
 |int k n=>exact .int k n
 |bool b=>exact .bool b
 |str s=>exact .str s
 |gM=>exact .gM
 |ep t row off a vs hk hl hc hr=>exact aw.pure hX.kinds (.ep t row off a vs hk hl hc hr) rfl
 |iS t=>exact .iS t
 |U t xs a cap vss hl jU iV hk hc hr=>exact aw.pure hX.kinds (.U t xs a cap vss hl jU iV hk hc hr) rfl
 |jx=>exact .jx
 |dE f first eD vf vc hf hc h1 h2=>exact aw.pure hX.kinds (.dE f first eD vf vc hf hc h1 h2) (Yf (by simpa only [ae.oZ]using hq))
 |_=>exact absurd hq (by simp [ae.oZ,Fi])
def cq.oZ(hX:X.Ok){ρ ρ':aT}{F:aO}{w:World}{xs:aD}{vs:eU}(hq:xs.all oZ=true)(h:cq X.K ρ F w xs vs):cq X.K ρ' F w xs vs:=
 ⟨h.1,λj y u hy hu=>(h.2 j y u hy hu).oZ hX (iQ.1 hq y (kY hy))⟩
def U0:Hd:=⟨.nilFunc,0⟩
def qq.lift(hX:X.Ok){f:FuncId}(h:qq X f args [] x [])(ha:args.all oZ=true)(hx:oZ x=true)(M:ar):qq X f args M x M:=by
 refine⟨h.1,λ{w0 S F ρ w vs} hI hr=> ?_⟩;have aQ:rW M []=true:=rfl;have hs:=hI.sub hX aQ U0;have qd:cq X.K (ae.sub U0 ρ []) F w args vs:=hr.oZ hX ha;refine(h.2 hs qd).mono ?_;rintro e w' ⟨v,ρ',F',rfl,c6,hg,hv⟩;obtain⟨i3,g3,_⟩:=hI.merge (m:=0) hX aQ U0 c6 (hg.toF 0) rfl;have hm:ae.merge 0 M [] []=M:=by simp [ae.merge,qz]
 rw [hm]at i3;exact⟨v,_,F',rfl,i3,g3,hv.oZ hX hx⟩
def aoQ{c:Call}(ho:o.op= .call c){f:Operand}(kO:c.callee= .value f){first eD:aD}(hf:e f= .dE g first eD)
 (h:qq X g (first++c.args.toList.map e++eD) M x M'):ev X o e M x M':=by
 obtain⟨oF,gv⟩:=h;intro rd n w0 S F ρ w act next Q hI hr hn;have h1:=hr f;rw [hf]at h1;generalize hv:act.eval f=vf at h1;cases h1 with
 |dE _ _ _ v1 v2 gS kj r1 r2=>
  exact afx
def ato(X:Cx)(t:TypeId):Bool:=(X.ti t).ok &&(X.ti t).ks.all λk=>match k with| .int _=>true| .bool =>true| .str =>true|_=>false
def Kj(X:Cx)(e:Operand->AV)(o:Oper):Option (FuncId×aD):=
 match o.op with
 | .call c=>
   match c.callee with
   | .value f=>
     match e f with
     | .dE g first eD=>
       match(ato X o.type&&(first++c.args.toList.map e++eD).all oZ)&&X.pk with
       |true=>some (g,first++c.args.toList.map e++eD)
       |false=>none
     |_=>none
   |_=>none
 |_=>none
def Ym(hX:X.Okb){T:gg R}(hT:T.mw X){k:AV->Option R}{r:R}(hq:Kj X e o=some (g,args))
 (h:(T.call g args [] λx M'=>aB (M'.isEmpty&&oZ x) (k x))=some r):∃y,k y=some r∧∀(M':ar),ev X o e M' y M':=by
 unfold Kj at hq;split at hq
 case h_2=>cases hq
 rename_i c ho;split at hq
 case h_2=>cases hq
 rename_i f kO;split at hq
 case h_2=>cases hq
 rename_i g' first eD hf
 split at hq
 case h_2=>cases hq
 rename_i iy;injection hq with hq;injection hq with h1 h2;subst h1;subst h2;obtain⟨x,M1,hc,h,_⟩:=hT.call h;replace h:=bG h;obtain⟨h1,h⟩:=h;rw [bc]at h1 iy;obtain⟨iy,zZ⟩:=iy;rw [bc]at iy;have:M1=[]:=by simpa using h1.1
 subst this;exact⟨x,h,λM'=>aoQ ho kO hf (hc.lift (hX.ok zZ) iy.2 h1.2 M')⟩
end
end Go.ae
namespace Go.ae
def adq{p:Prop}(h:p:=by
 intro t xs ih y h;cases y<;>first|cases h|skip
 rename_i t' ys;have h:(Nat.beq t t'&&QX xs ys)=true:=h;rw [bc]at h;rw [ct h.1,ih _ h.2]):p:=h
def EX{p:Prop}(h:p:=by
 intro y h;cases y<;>first|rfl|cases h):p:=h
def Ru{p:Prop}(h:p:=by
 intro a y h;cases y<;>first|cases h|skip
 rw [ct h]):p:=h
def abK{p:Prop}(h:p:=by
 simp only [bc]at h;rw [ct h.1.1,ct h.1.2,ct h.2]):p:=h
def abz{p:Prop}(h:p:=by
 obtain⟨e',vQ,hh⟩:=h2 w hw;exact⟨e',eQ _ vQ,hh⟩):p:=h
def EH{p:Prop}(h:p:=by simpa using ht):p:=h
def abb{p:Prop}(h:p:=by
 intro cs ih y h;cases y<;>first|cases h|skip
 rw [ih _ h]):p:=h
end Go.ae
namespace Go.ae
open Go
noncomputable section
variable {X:Cx} {R:Type}
variable{id:Nat}
structure bp where
 i:Nat
 o:Oper
 q:Bool
 x:AV
 ids:cp
 cl:Nat
 env:bA
 M:ar
 M':ar
variable{s:bp}
def fu(o:Oper):cp:=o.op.operands.toList.filterMap λ| .tmp t=>some t|_=>none
def guardOf(ops:Array Oper)(o:Oper):cp:=match o.guard with|some (j,_)=>(w4 ops j).toList |none=>[]
def ir(rs:cp)(env:bA):bA:=rs.map λu=>(u,look env u)
theorem Zs(env:bA)(t:Nat):∀rs:cp,look (ir rs env) t=look env t∧t∈rs∨look (ir rs env) t= .top
 | []=> .inr rfl
 |u::rs=>by
  unfold ir;simp only [fW,nf,look_nil]
  by_cases ht:t=u
  ·subst ht;simp
  ·have:(t==u)=false:=by simpa using ht
   simp only [this,jG,ly];rcases Zs env t rs with⟨h,hm⟩|h
   ·exact .inl ⟨h,eQ _ hm⟩
   ·exact .inr h
def Kg:List bp->Nat->Option Nat
 | [],_=>none
 |t::log,i=>if t.i==i then some t.cl else Kg log i
def oY(log:List bp):List Edge->Option Nat
 | []=>some 0
 |e::es=>
  if Region.binds .any e then
   match Kg log e.on,oY log es with
   |some m,some r=>some (2^e.on|||m|||r)
   |_,_=>none
  else oY log es
theorem aoi{log:List bp}{i m:Nat}(h:Kg log i=some m):∃t∈log,t.i=i∧t.cl=m:=by
 induction log with
 |nil=>cases h
 |cons t log ih=>
  simp only [Kg]at h;split at h
  ·rename_i ht;injection h with h;exact⟨t,dI,EH,h⟩
  ·obtain⟨s,hs,h1⟩:=ih h;exact⟨s,eQ _ hs,h1⟩
theorem Ii{log:List bp}:∀{es:List Edge} {m:Nat},oY log es=some m->
 (∀e∈es,Region.binds .any e=true->∃t∈log,t.i=e.on)∧∀w,m.testBit w=true->∃e∈es,Region.binds .any e=true∧(w=e.on∨∃t∈log,t.i=e.on∧t.cl.testBit w=true)
 | [],m,h=>by
   simp only [oY,Option.some.injEq]at h;subst h;exact⟨λe he=>Bl,λw hw=>by simp at hw⟩
 |e::es,m,h=>by
  simp only [oY]at h;split at h
  ·rename_i hb;split at h
   ·rename_i a r ha hr;injection h with h;subst h;obtain⟨t,ht,CF,htc⟩:=aoi ha;obtain⟨h1,h2⟩:=Ii hr;refine⟨λe' vQ hU=> ?_,λw hw=> ?_⟩
    ·rcases dA.1 vQ with rfl|vQ
     ·exact⟨t,ht,CF⟩
     ·exact h1 e' vQ hU
    ·rw [Nat.testBit_or,Nat.testBit_or,sW,sW]at hw;rcases hw with(hw|hw)|hw
     ·rw [Nat.testBit_two_pow]at hw;exact⟨e,dI,hb,.inl (by simpa using Eq.symm (by simpa using hw))⟩
     ·exact⟨e,dI,hb,.inr ⟨t,ht,CF,by rw [htc];exact hw⟩⟩
     ·exact abz
   ·cases h
  ·rename_i hb;obtain⟨h1,h2⟩:=Ii h;refine⟨λe' vQ hU=> ?_,λw hw=> ?_⟩
   ·rcases dA.1 vQ with rfl|vQ
    ·exact absurd hU hb
    ·exact h1 e' vQ hU
   ·exact abz
def rr(o:Option Nat)(l:cp):Bool:=match o with|some d=>l.contains d|none=>false
theorem IC{o:Option Nat}{l:cp}(h:(!rr o l)=true):∀d,o=some d->d∉l:=by
 intro d hd hm;subst hd;simp [rr,hm]at h
def rY{α:Type}(f:α->α->Bool):List α->List α->Bool
 | [],[]=>true
 |x::xs,y::ys=>f x y&&rY f xs ys
 |_,_=>false
theorem yz{α:Type}{f:α->α->Bool}(hf:∀x y,f x y=true->x=y):∀{xs ys:List α},rY f xs ys=true->xs=ys
 | [],[],_=>rfl
 | [],_::_,h=>by simp [rY]at h
 |_::_,[],h=>by simp [rY]at h
 |x::xs,y::ys,h=>by
  simp only [rY,bc]at h;rw [hf x y h.1,yz hf h.2]
def E8:AV->AV->Bool
 | .int k a,.int k' b=>k==k'&&a==b
 | .bool a,.bool b=>a==b
 | .gM,.gM =>true
 | .ptr a i o,.ptr b j p=>Nat.beq a b&&Nat.beq i j&&Nat.beq o p
 | .aa a,.aa b=>Nat.beq a b
 | .fD,.fD =>true
 | .jx,.jx =>true
 | .gG a,.gG b=>Nat.beq a b
 | .mp a,.mp b=>Nat.beq a b
 | .lb,.lb =>true
 | .kg a n,.kg b m=>Nat.beq a b&&Nat.beq n m
 | .vw a l n,.vw b k m=>Nat.beq a b&&Nat.beq l k&&Nat.beq n m
 | .ja,.ja =>true
 | .str a,.str b=>decide (a=b)
 |_,_=>false
theorem PU(x y:AV)(h:E8 x y=true):x=y:=by
 cases x<;>cases y<;>simp_all [E8]
def E6(x:AV):AV->Bool:=AV.rec (motive_1:=λ_=>AV->Bool) (motive_2:=λ_=>List AV->Bool) (motive_3:=λ_=>List aD->Bool) (λ_=>false) (λk a y=>match y with| .int k' b=>k==k'&&a==b|_=>false) (λa y=>match y with| .bool b=>a==b|_=>false) (λa y=>match y with| .str b=>decide (a=b)|_=>false)
 (λ_ ih y=>match y with| .agg ys=>ih ys|_=>false) (λ_ ih y=>match y with| .dc ys=>ih ys|_=>false) (λy=>match y with| .gM =>true|_=>false)
 (λt _ off ih y=>match y with| .ep t' row u6=>Nat.beq t t'&&Nat.beq off u6&&ih row|_=>false) (λa i o y=>match y with| .ptr b j p=>Nat.beq a b&&Nat.beq i j&&Nat.beq o p|_=>false)
 (λt _ ih y=>match y with| .U t' ys=>Nat.beq t t'&&ih ys|_=>false) (λa y=>match y with| .aa b=>Nat.beq a b|_=>false) (λy=>match y with| .fD =>true|_=>false)
 (λf _ _ jC fm y=>match y with| .dE g a b=>Nat.beq f g&&jC a&&fm b|_=>false) (λy=>match y with| .jx =>true|_=>false) (λa y=>match y with| .gG b=>Nat.beq a b|_=>false) (λa y=>match y with| .mp b=>Nat.beq a b|_=>false)
 (λy=>match y with| .lb =>true|_=>false) (λa n y=>match y with| .kg b m=>Nat.beq a b&&Nat.beq n m|_=>false) (λa l n y=>match y with| .vw b k m=>Nat.beq a b&&Nat.beq l k&&Nat.beq n m|_=>false) (λy=>match y with| .ja =>true|_=>false) (λt _ ih y=>match y with| .sub t' ys=>Nat.beq t t'&&ih ys|_=>false)
 (λl=>match l with| []=>true|_=>false) (λ_ _ jC fm l=>match l with|y::ys=>jC y&&fm ys| []=>false) (λl=>match l with| []=>true|_=>false) (λ_ _ jC fm l=>match l with|y::ys=>jC y&&fm ys| []=>false) x
def Bi(x:aD):aD->Bool:=AV.rec_1 (motive_1:=λ_=>AV->Bool) (motive_2:=λ_=>List AV->Bool) (motive_3:=λ_=>List aD->Bool) (λ_=>false) (λk a y=>match y with| .int k' b=>k==k'&&a==b|_=>false) (λa y=>match y with| .bool b=>a==b|_=>false) (λa y=>match y with| .str b=>decide (a=b)|_=>false)
 (λ_ ih y=>match y with| .agg ys=>ih ys|_=>false) (λ_ ih y=>match y with| .dc ys=>ih ys|_=>false) (λy=>match y with| .gM =>true|_=>false)
 (λt _ off ih y=>match y with| .ep t' row u6=>Nat.beq t t'&&Nat.beq off u6&&ih row|_=>false) (λa i o y=>match y with| .ptr b j p=>Nat.beq a b&&Nat.beq i j&&Nat.beq o p|_=>false)
 (λt _ ih y=>match y with| .U t' ys=>Nat.beq t t'&&ih ys|_=>false) (λa y=>match y with| .aa b=>Nat.beq a b|_=>false) (λy=>match y with| .fD =>true|_=>false)
 (λf _ _ jC fm y=>match y with| .dE g a b=>Nat.beq f g&&jC a&&fm b|_=>false) (λy=>match y with| .jx =>true|_=>false) (λa y=>match y with| .gG b=>Nat.beq a b|_=>false) (λa y=>match y with| .mp b=>Nat.beq a b|_=>false)
 (λy=>match y with| .lb =>true|_=>false) (λa n y=>match y with| .kg b m=>Nat.beq a b&&Nat.beq n m|_=>false) (λa l n y=>match y with| .vw b k m=>Nat.beq a b&&Nat.beq l k&&Nat.beq n m|_=>false) (λy=>match y with| .ja =>true|_=>false) (λt _ ih y=>match y with| .sub t' ys=>Nat.beq t t'&&ih ys|_=>false)
 (λl=>match l with| []=>true|_=>false) (λ_ _ jC fm l=>match l with|y::ys=>jC y&&fm ys| []=>false) (λl=>match l with| []=>true|_=>false) (λ_ _ jC fm l=>match l with|y::ys=>jC y&&fm ys| []=>false) x
def QX(x:List aD):List aD->Bool:=AV.rec_2 (motive_1:=λ_=>AV->Bool) (motive_2:=λ_=>List AV->Bool) (motive_3:=λ_=>List aD->Bool) (λ_=>false) (λk a y=>match y with| .int k' b=>k==k'&&a==b|_=>false) (λa y=>match y with| .bool b=>a==b|_=>false) (λa y=>match y with| .str b=>decide (a=b)|_=>false)
 (λ_ ih y=>match y with| .agg ys=>ih ys|_=>false) (λ_ ih y=>match y with| .dc ys=>ih ys|_=>false) (λy=>match y with| .gM =>true|_=>false)
 (λt _ off ih y=>match y with| .ep t' row u6=>Nat.beq t t'&&Nat.beq off u6&&ih row|_=>false) (λa i o y=>match y with| .ptr b j p=>Nat.beq a b&&Nat.beq i j&&Nat.beq o p|_=>false)
 (λt _ ih y=>match y with| .U t' ys=>Nat.beq t t'&&ih ys|_=>false) (λa y=>match y with| .aa b=>Nat.beq a b|_=>false) (λy=>match y with| .fD =>true|_=>false)
 (λf _ _ jC fm y=>match y with| .dE g a b=>Nat.beq f g&&jC a&&fm b|_=>false) (λy=>match y with| .jx =>true|_=>false) (λa y=>match y with| .gG b=>Nat.beq a b|_=>false) (λa y=>match y with| .mp b=>Nat.beq a b|_=>false)
 (λy=>match y with| .lb =>true|_=>false) (λa n y=>match y with| .kg b m=>Nat.beq a b&&Nat.beq n m|_=>false) (λa l n y=>match y with| .vw b k m=>Nat.beq a b&&Nat.beq l k&&Nat.beq n m|_=>false) (λy=>match y with| .ja =>true|_=>false) (λt _ ih y=>match y with| .sub t' ys=>Nat.beq t t'&&ih ys|_=>false)
 (λl=>match l with| []=>true|_=>false) (λ_ _ jC fm l=>match l with|y::ys=>jC y&&fm ys| []=>false) (λl=>match l with| []=>true|_=>false) (λ_ _ jC fm l=>match l with|y::ys=>jC y&&fm ys| []=>false) x
theorem Ze(x:AV):∀(y:AV),E6 x y=true->x=y:=by
 refine AV.rec (motive_1:=λx=>∀y,E6 x y=true->x=y) (motive_2:=λl=>∀l',Bi l l'=true->l=l') (motive_3:=λl=>∀l',QX l l'=true->l=l') ?_ ?_ ?_ ?_ ?_ ?_ ?_ ?_ ?_ ?_ ?_ ?_ ?_ ?_ ?_ ?_ ?_ ?_ ?_ ?_ ?_ ?_ ?_ ?_ ?_ x
 ·intro y h;cases h
 ·intro k a y h;cases y<;>first|cases h|skip
  rename_i k' b;have h:(k==k'&&a==b)=true:=h;simp only [bc,fJ]at h;rw [h.1,h.2]
 ·intro a y h;cases y<;>first|cases h|skip
  rename_i b;have h:(a==b)=true:=h;rw [fJ]at h;rw [h]
 ·intro a y h;cases y<;>first|cases h|skip
  rename_i b;have h:decide (a=b)=true:=h;rw [A9 h]
 ·exact abb
 ·exact abb
 ·exact EX
 ·intro t row off ih y h;cases y<;>first|cases h|skip
  rename_i t' fF u6;have h:(Nat.beq t t'&&Nat.beq off u6&&Bi row fF)=true:=h;simp only [bc]at h;rw [ct h.1.1,ct h.1.2,ih _ h.2]
 ·intro a i o y h;cases y<;>first|cases h|skip
  rename_i b j p;have h:(Nat.beq a b&&Nat.beq i j&&Nat.beq o p)=true:=h;exact abK
 ·exact adq
 ·exact Ru
 ·exact EX
 ·intro f a b jC fm y h;cases y<;>first|cases h|skip
  rename_i g a' b';have h:(Nat.beq f g&&Bi a a'&&Bi b b')=true:=h;simp only [bc]at h;rw [ct h.1.1,jC _ h.1.2,fm _ h.2]
 ·exact EX
 ·exact Ru
 ·exact Ru
 ·exact EX
 ·intro a n y h;cases y<;>first|cases h|skip
  rename_i b m;have h:(Nat.beq a b&&Nat.beq n m)=true:=h;rw [bc]at h;rw [ct h.1,ct h.2]
 ·intro a l n y h;cases y<;>first|cases h|skip
  rename_i b k m;have h:(Nat.beq a b&&Nat.beq l k&&Nat.beq n m)=true:=h;exact abK
 ·exact EX
 ·exact adq
 ·intro l h;cases l<;>first|rfl|cases h
 ·intro x xs jC fm l h;cases l with
  |nil=>cases h
  |cons y ys=>
   have h:(E6 x y&&Bi xs ys)=true:=h;rw [bc]at h;rw [jC _ h.1,fm _ h.2]
 ·intro l h;cases l<;>first|rfl|cases h
 ·intro x xs jC fm l h;cases l with
  |nil=>cases h
  |cons y ys=>
   have h:(Bi x y&&QX xs ys)=true:=h;rw [bc]at h;rw [jC _ h.1,fm _ h.2]
def JO:AV->AV->Bool
 | .U t xs,y=>E6 (.U t xs) y
 | .ep t row off,y=>E6 (.ep t row off) y
 |x,y=>E8 x y
theorem Zd(x y:AV)(h:JO x y=true):x=y:=by
 unfold JO at h;split at h
 ·exact Ze _ _ h
 ·exact Ze _ _ h
 ·exact PU _ _ h
def E7:AV->AV->Bool
 | .agg xs,.agg ys=>rY JO xs ys
 | .dE f [] xs,.dE g [] ys=>Nat.beq f g&&rY E8 xs ys
 |x,y=>JO x y
theorem PT(x y:AV)(h:E7 x y=true):x=y:=by
 unfold E7 at h;split at h
 ·rw [yz Zd h]
 ·rw [bc]at h;rw [yz PU h.2,ct h.1]
 ·exact Zd _ _ h
def RY(x y:AV×AV):Bool:=E8 x.1 y.1&&E7 x.2 y.2
theorem apf(x y:AV×AV)(h:RY x y=true):x=y:=by
 obtain⟨a,b⟩:=x;obtain⟨c,d⟩:=y;simp only [RY,bc]at h;rw [PU _ _ h.1,PT _ _ h.2]
def RZ:bU->bU->Bool
 | .var ks cs,.var qH qj=>ks==qH&&rY E7 cs qj
 | .row t xs,.row t' eW=>t==t'&&rY (rY E7) xs eW
 | .map k ag ks es,.map k' Vm qH es'=>k==k'&&ag==Vm&&ks==qH&&rY RY es es'
 | .dead,.dead =>true
 |_,_=>false
theorem apg(x y:bU)(h:RZ x y=true):x=y:=by
 unfold RZ at h;split at h
 ·simp only [bc,fJ]at h;rw [h.1,yz PT h.2]
 ·simp only [bc,fJ]at h;rw [h.1,yz (λ_ _ h=>yz PT h) h.2]
 ·simp only [bc,fJ]at h;rw [h.1.1.1,h.1.1.2,h.1.2,yz apf h.2]
 ·rfl
 ·cases h
def TG(l:cp)(d:Nat):Bool:=List.rec (motive:=λ_=>Bool) false (λu _ ih=>Bool.rec (motive:=λ_=>Bool) ih true (Nat.beq d u)) l
theorem Zw:∀{l:cp} {d:Nat},TG l d=false->d∉l
 | [],_,_,h=>dB
 |u::l,d,h,hm=>by
  have h:Bool.rec (motive:=λ_=>Bool) (TG l d) true (Nat.beq d u)=false:=h;cases hb:Nat.beq d u with
  |true=>rw [hb]at h;cases h
  |false=>
   rw [hb]at h;rcases dA.1 hm with e|hm
   ·subst e;simp at hb
   ·exact Zw h hm
def bp.keeps(s:bp)(id:Nat):Bool:=
 match gm s.M id with
 |none=>false
 |some b=>match TG s.ids id with
  |false=>true
  |true=>match gm s.M' id with|some a=>RZ a b|none=>false
def bp.rl(s:bp)(id:Nat):Prop:=(id∉s.ids∧id<s.M.length)∨s.M'[id]?=s.M[id]?
theorem bp.Yh(h:s.keeps id=true):s.rl id:=by
 unfold bp.keeps at h;simp only [cG]at h;split at h
 ·cases h
 ·rename_i b hb;split at h
  ·rename_i hn;exact .inl ⟨Zw hn,(cy.1 hb).1⟩
  ·split at h
   ·rename_i a ha;exact .inr (by rw [ha,hb,apg _ _ h])
   ·cases h
theorem bp.rl.at(h:s.rl id)(ha:cz s.ids s.M s.M'):s.M'[id]?=s.M[id]?:=by
 rcases h with⟨h1,h2⟩|h
 ·exact ha.2 id h2 h1
 ·exact h
def Q4(ops:Array Oper)(t s:bp):Bool:=
 !(t.i==s.i)&& !(t.o.dst.isSome&&t.o.dst==s.o.dst)&&
 (t.cl.testBit s.i||
   (!rr s.o.dst (fu t.o++guardOf ops t.o)&& !rr t.o.dst (fu s.o++guardOf ops s.o)&&
     match t.q,s.q with
     |true,true=>true
     |false,false=>false
     |true,false=>t.ids.all λid=>s.keeps id
     |false,true=>s.ids.all λid=>t.keeps id))
def bp.Ld(X:Cx)(nt:Nt)(ops:Array Oper)(t:bp):Prop:=
 ∀{M0:ar},(t.q=true->∀id∈t.ids,M0[id]?=t.M[id]?)->(t.q=false->M0=t.M)->
  ∀{rdc:Cy} {n:Nat} {w0:World} {S:Sc} {F:aO} {ρ:aT} {a:Act} {w:World} {Q:Exit->Act->World->Prop} {K:Act->World->Prop},Inv X w0 S F ρ M0 w->a.tmps.size=nt.n->
   (∀u∈fu t.o++guardOf ops t.o,aw X.K ρ F w (look t.env u) (a.tmps.getD u undef))->
   (∀v w' F' ρ',Inv X w0 S F' ρ' (if t.q then M0 else t.M') w'->aw X.K ρ' F' w' t.x v->bH F F' ρ ρ' w w'->K (a.put t.o.dst v) w')->wpOpIn (jP rdc.r) n X.P ops Q t.i K a w
section
variable {D:Nat->Bool} {nt:Nt} {ops:Array Oper} {env0:bA} {M0:ar}
abbrev bJ(L:Array Bool)(i:Nat):Prop:=L.getD i false=true
def qp(L:Array Bool)(log:List bp):Prop:=∀t∈log,bJ L t.i->∀e∈t.o.after,Region.binds .any e=true->bJ L e.on
end
end
end Go.ae
namespace Go.ae
def yH{p:Prop}(h:p:=by simp [hq]):p:=h
end Go.ae
namespace Go.ae
def Io:=@List.countP_cons_of_pos
def PH:=@List.countP_cons_of_neg
end Go.ae
namespace Go.ae
open Go
noncomputable section
variable {X:Cx} {R:Type}
section
variable {D:Nat->Bool} {nt:Nt} {ops:Array Oper} {env0:bA} {M0:ar}
theorem Pp{α:Type}{p q:α->Bool}:∀{l:List α},(∀x∈l,q x=true->p x=true)->(∃x∈l,p x=true∧q x=false)->l.countP q<l.countP p
 | [],_,⟨x,hx,_⟩=>tc
 |a::l,h,⟨x,hx,hp,hq⟩=>by
  have ay5:l.countP q<=l.countP p:=List.countP_mono_left λy hy=>h y (eQ _ hy);rcases dA.1 hx with rfl|hx
  ·rw [Io hp,PH (yH)];omega
  ·have ih:=Pp (λy hy=>h y (eQ _ hy)) ⟨x,hx,hp,hq⟩
   by_cases UC:q a=true
   ·rw [Io UC,Io (h a dI UC)];omega
   ·rw [PH UC]
    by_cases hpa:p a=true
    ·rw [Io hpa];omega
    ·rw [PH hpa];omega
end
end
noncomputable section
variable {X:Cx} {R:Type}
section
variable {w0 w:World} {S:Sc} {F:aO}
end
section
variable {D:Nat->Bool} {nt:Nt} {ops:Array Oper} {env0:bA} {M0:ar}
end
end
noncomputable section
variable {X:Cx} {R:Type}
variable{env:bA}
def E9(T:gg R)(ops:Array Oper)(t:bp)(st:St)(log:List bp)(k:List bp->St->Option R):Option R:=
 aB (log.all (Q4 ops t)) (pX T.nt st t.o.dst t.x t.M' λav=>k (t::log) av)
def acU:Nat->List Oper->Bool
 |_,[]=>true
 |i,o::os=>(o.after.toList.all λe=> !Region.binds .any e||Nat.blt e.on i)&&acU (i+1) os
def Y5(done:cp):Nat->List Oper->Option Nat
 |_,[]=>none
 |i,o::os=>if !done.contains i&&(o.after.toList.all λe=> !Region.binds .any e||done.contains e.on)then some i else Y5 done (i+1) os
def aey(ops:List Oper):Nat->cp->cp
 |0,done=>done.reverse
 |n+1,done=>match Y5 done 0 ops with|some i=>aey ops n (i::done)|none=>done.reverse
def adb(ops:List Oper):cp:=if acU 0 ops then List.range ops.length else aey ops ops.length []
theorem AT{ρ:aT}{F:aO}{w:World}{tmps:Array Value}{rs:cp}(h:∀u∈rs,aw X.K ρ F w (look env u) (tmps.getD u undef)):gX X ρ F w (ir rs env) tmps:=by
 intro t;rcases Zs env t rs with⟨he,hm⟩|he
 ·rw [he];exact h t hm
 ·rw [he];exact .top _
theorem v7{d:Nat}{x:AV}(h:look env d=x)(u:Nat):look ((d,x)::env) u=look env u:=by
 simp only [nf,look_nil]
 by_cases hu:u=d
 ·subst hu;simp [h]
 ·have:(u==d)=false:=by simpa using hu
  simp [this]
def BU(X:Cx)(ops:Array Oper)(o:Oper)(env:bA)(b:Bool):Prop:=
 ∀{ρ:aT} {F:aO} {w:World} {tmps:Array Value},(∀u∈fu o++guardOf ops o,aw X.K ρ F w (look env u) (tmps.getD u undef))->Region.wanted o (yielded ops tmps)=b
variable {D:Nat->Bool} {nt:Nt} {ops:Array Oper} {env0 fK:bA} {M0 M1:ar}
theorem X9{T:gg R}{t:bp}{st:St}{log:List bp}{k:List bp->St->Option R}{r:R}(h:E9 T ops t st log k=some r):
 ∃av,k (t::log) av=some r∧(∀s∈log,Q4 ops t s=true)∧(∀d,t.o.dst=some d->d<T.nt.n∧T.nt.mask.testBit d=true)∧(∀u,look av.env u=(if t.o.dst=some u then t.x else look st.env u))∧av.mem=t.M'∧av.gJ=st.gJ∧av.rd=st.rd:=by
 unfold E9 at h;replace h:=bG h;obtain⟨hp,h⟩:=h;unfold pX at h;have oD:∀s∈log,Q4 ops t s=true:=λs hs=>iQ.1 hp s hs;cases hd:t.o.dst with
 |none=>
  rw [hd]at h;exact⟨_,h,oD,λd e=>by simp at e,λu=>by simp,rfl,rfl,rfl⟩
 |some d=>
  rw [hd]at h;replace h:=bG h;obtain⟨aY,h⟩:=h;refine⟨_,h,oD,λd' e=>by injection e with e;subst e;simp only [bc]at aY;exact⟨by simpa using aY.1,aY.2⟩,λu=> ?_,rfl,rfl,rfl⟩;simp only [nf,look_nil]
  by_cases hu:u=d
  ·subst hu;simp
  ·have:(u==d)=false:=by simpa using hu
   have h2:¬d=u:=λe=>hu e.symm;simp [this,h2]
theorem World.Xm(w:World):w.grownBy {w with drawn:=w.drawn+1} none:=⟨rfl,rfl,rfl,dZ _,λ_ _ _=>rfl⟩
end
noncomputable section
variable {X:Cx} {R:Type}
variable {D:Nat->Bool} {nt:Nt} {ops:Array Oper} {env0:bA} {M0:ar}
end
noncomputable section
variable {X:Cx} {R:Type}
abbrev SE:=Nat×Oper×Nat
variable {D:Nat->Bool} {nt:Nt} {ops:Array Oper} {env0 fK:bA} {M0 M1:ar}
end
end Go.ae
namespace Go.ae
def afw{p:Prop}(h:p:=by
 intro l1
 induction l1 with
 |nil=>intro _ _ _ _ _ t ht;simp at ht
 |cons s l1 ih=>
  intro l2 fR M' hl he t ht;obtain⟨fK,M1,gS,st⟩:=hl;have Gu:=ih (l2++[s]) fK M1 gS (by simpa using he);rcases dA.1 ht with rfl|ht
  ·by_cases dq:bJ L t.i
   ·exact dq
   ·exfalso;have iL:t.i∈Region.ready .any ops L:=by
     rw [Ir];have aY:t.i<ops.size:=(sS.1 st.op).1;refine⟨?_,t.o,st.op,λe hee hb=> ?_⟩
     ·have:t.i<L.size:=by omega
      simp only [bJ,nS,AZ this,ni]at dq⊢;simpa using dq
     ·obtain⟨r,qd,tR⟩:=st.pre e hee hb;rw [<-tR];exact Gu r qd
    rw [hr]at iL;simp at iL
  ·exact Gu t ht):p:=h
def KN{p:Prop}(h:p:=by
 intro _ Mx hM _ rdc n w0 S F ρ a w Q K hI cX hr hk;unfold wpOpIn;simp only [hi,hw hr,ng];exact cC Mx hI (λz=>wF hI (AT λu hu=>hr u (uq _ hu)) z) (λv w' ρ' F' c6 hg hx=>hk v w' F' ρ' c6 hx hg)):p:=h
def adS{p:Prop}(h:p:=by
 cases hr:Region.ready .any ops L with
 |nil=>rfl
 |cons i is=>
  exfalso;have iL:i∈Region.ready .any ops L:=by rw [hr];exact dI
  rw [Ir]at iL;obtain⟨hf,o,ho,_⟩:=iL;have aY:i<ops.size:=(sS.1 ho).1;obtain⟨t,ht,rfl⟩:=iy i aY;have h1:=dq t ht;have:t.i<L.size:=by omega
  simp only [bJ,nS,AZ this,ni]at h1 hf;rw [h1]at hf;cases hf):p:=h
def adN{p:Prop}(h:p:=by
 intro _ Mx _ hM rdc n w0 S F ρ a w Q K hI cX hr hk;unfold wpOpIn;simp only [hi,hw hr,ng];have tY:=hM rfl;subst tY;exact cC hI (λz=>wF hI (AT λu hu=>hr u (uq _ hu)) z) (λv w' ρ' F' c6 hg hx=>hk v w' F' ρ' c6 hx hg)):p:=h
def adM{p:Prop}(h:p:=by
 cases pq:(bR M0 L c).2 with
 |false=>rfl
 |true=>
  rw [rQ]at pq;have:(bR M0 (L.setIfInBounds t.i true) c).2 =true:=rQ.2 λr hr lv=>(lq _).2 (.inr (pq r hr lv));rw [this]at gf;cases gf):p:=h
def adK{p:Prop}(h:p:=by
 intro t ht;have h0:log.countP (λt=> !(L.getD t.i false))=0:=by omega
 have:=List.countP_eq_zero.1 h0 t ht;cases hb:L.getD t.i false with
 |true=>exact hb
 |false=>exact absurd (by simp only [hb,Bool.not_false]) this):p:=h
def adJ{p:Prop}(h:p:=by
 intro _ Mx hM _ rdc n w0 S F ρ a w Q K hI cX hr hk;unfold wpOpIn;simp only [hi,hw hr,ng];exact cC Mx (hM rfl) hI (λz=>wF hI (AT λu hu=>hr u (uq _ hu)) z) (λv w' ρ' F' c6 hg hx=>hk v w' F' ρ' c6 hx hg)):p:=h
def adH{p:Prop}(h:p:=by
 have:=hr d iL;rw [hb]at this;generalize hv:tmps.getD d undef=v at this;cases this with
 |dc cs vs kj _=>
  have:vs=[]:=by simpa using kj
  subst this;rw [DN hg,Xh hd hv];rfl):p:=h
def adG{p:Prop}(h:p:=by
 intro b env hb ρ F w tmps hr;have:=hr d iL;rw [hb]at this;generalize hv:tmps.getD d undef=v at this;cases this;rw [DN hg,X2 hd hv];cases b<;>cases want<;>rfl):p:=h
def adE{p:Prop}(h:p:=by
 rcases dA.1 hs with rfl|hs
 ·obtain⟨e,he,hb,rfl|⟨u,hu,qL,hut⟩⟩:=st.cl w hw
  ·exact hp e he hb
  ·exact ih u hu (dy u (eQ _ hu) (by rw [qL];exact hp e he hb)) w hut
 ·exact ih s hs hp w hw):p:=h
def wX{p:Prop}(h:p:=by simp [nf,look_nil]):p:=h
def adr{p:Prop}(h:p:=by
 intro j
 by_cases hj:j=t.i
 ·subst hj;simp [bJ,nS,Tw]
 ·simp only [bJ];rw [getD_set_ne false (Ne.symm hj)];simp [hj]):p:=h
def adp{p:Prop}(h:p:=by
 cases zX:t.o.dst with
 |none=>rfl
 |some d'=>
  have c9:d'≠u:=λe=>xY (e▸zX);simp [Act.put,nS,IP c9]):p:=h
def R8{p:Prop}(h:p:=by
 intro ht hs id aA;rw [ht,hs]at h6;exact bp.Yh (iQ.1 h6 id aA)):p:=h
def adk{p:Prop}(h:p:=by
 intro s hs cO cY;rcases(lq _).1 cO with h|h
 ·exact absurd (cF.distinct hL s hs t ht h) cY
 ·exact h):p:=h
def acC{p:Prop}(h:p:=by
 rw [he];refine h0 λs hs cO hd=> ?_;rcases dA.1 hs with rfl|hs
 ·exact gN cO
 ·exact hn s hs hd):p:=h
def acr{p:Prop}(h:p:=by
 refine .inr ⟨λs hs=> ?_,h2⟩;rcases dA.1 hs with rfl|hs
 ·exact hd
 ·exact h1 s hs):p:=h
def acn{p:Prop}(h:p:=by
 intro i dq;simp only [bJ,nS,aoX]at dq;split at dq<;>simp at dq):p:=h
def acj{p:Prop}(h:p:=by
 cases zX:t.o.dst with
 |none=>exact hm.kept
 |some d=>exact Zu (st.dst d zX).2 hm.kept):p:=h
def ach{p:Prop}(h:p:=by
 simp only [bJ,nS,AZ Tw,ni]at hf⊢;rw [hf];simp):p:=h
def Rr{p:Prop}(h:p:=by rw [<-vL];exact jc _ dI):p:=h
def ab2{p:Prop}(h:p:=by have tQ:=st.op;rw [ho]at tQ;injection tQ with tQ;exact tQ.symm):p:=h
def abM{p:Prop}(h:p:=by
 obtain⟨t,ht,CF⟩:=ZM.1 this;exact⟨t,ht,by simpa using CF⟩):p:=h
def abE{p:Prop}(h:p:=by
 unfold E9;simp only [Qk,aB];exact h):p:=h
def aby{p:Prop}(h:p:=by have:=(lq t.i).2 (.inl rfl);simpa [bJ]using this):p:=h
def abu{p:Prop}(h:p:=by exact(hm.dQ u λs hs cO=>hu s hs ((lq _).2 (.inr cO))).grow hg):p:=h
def abi{p:Prop}(h:p:=by simp only [newRow,dO,A1,fg,fX,A0]):p:=h
def Ji{p:Prop}(h:p:=by intro _ _ _ s hs;simp at hs):p:=h
def aa6{p:Prop}(h:p:=by simp only [Act.put];split<;>simp [hm.size]):p:=h
def aa4{p:Prop}(h:p:=by rw [h3];exact jc _ (eQ _ hr)):p:=h
def aa2{p:Prop}(h:p:=by simp only [Act.put];split<;>exact hm.defs):p:=h
def Ra{p:Prop}(h:p:=by rw [rK]at h;cases h):p:=h
def aaT{p:Prop}(h:p:=by simp [Act.put,hd,nS,hm.size,vg]):p:=h
end Go.ae
namespace Go.ae
def iR:=@List.cons_append
def Qk:=@List.all_nil
def IK:=@Bool.false_or
def ZM:=@List.any_eq_true
def jc:=@List.mem_append_right
def uq:=@List.mem_append_left
def oJ:=@List.append_of_mem
def Ir:=@Go.mem_ready
def wj:=@congrArg
def aoX:=@Array.getElem?_replicate
def Y2:=@List.countP_le_length
end Go.ae
namespace Go.ae
open Go
noncomputable section
variable {X:Cx} {R:Type}
variable{s t:bp}{l2 log:List bp}{k:List bp->St->Option R}{cl i:Nat}{o:Oper}{r:R}{st:St}{T:gg R}{env:bA}
def TS(X:Cx)(t:TypeId)(len:Nat)(ps:bA):Option (TypeId×aH):=
 match(X.ti t).ok,(X.ti t).u with
 |true,.slice e=>
  (match(X.ti e).ok &&decide (0<(X.ti e).size)&&decide (len*(X.ti e).size <=16777216)with
   |true=>(match tp (λi=>some (i*(X.ti e).size,(X.ti e).size)) ((List.replicate len (kI X e)).flatten) ps with
    |some cs=>(match(chunk (X.ti e).size len cs).all λrow=>cZ (X.K e) row with
     |true=>some (e,chunk (X.ti e).size len cs)
     |false=>none)
    |none=>none)
   |false=>none)
 |_,_=>none
theorem apS(hX:X.Okb){t:TypeId}{len:Nat}{ps:bA}{e:TypeId}{rows:aH}(h:TS X t len ps=some (e,rows)){ρ:aT}{F:aO}{w:World}(mA:∀(id:Nat) hd,ρ[id]?=some hd->hd.v.oneCell'=true)
 (pv:List (Nat×Value)) (hl:pv.length=ps.length) (hp:∀(j:Nat) p q,ps[j]?=some p->pv[j]?=some q->p.1=q.1∧aw X.K ρ F w p.2 q.2):
 ∃us,(Instr.buildSlice t len pv.toArray).run X.P w= .ok (.slice (some ⟨w.heap.size,0,none⟩) len len) (w.alloc (.cells us e))∧rows.length=len∧
  iN X ρ F (w.alloc (.cells us e)) ⟨.slice (some ⟨w.heap.size,0,none⟩) len len,(X.K e).length⟩ (.row e rows):=by
 unfold TS at h;split at h
 ·rename_i e' aQ hu;split at h
  ·rename_i h1;split at h
   ·rename_i cs ri;split at h
    ·rename_i iB;injection h with h;injection h with h2 h3;subst h2;subst h3;simp only [bc,fr]at h1;obtain⟨⟨he,mc⟩,iV⟩:=h1;obtain⟨i,d,z,f⟩:=hX.facts aQ;obtain⟨i2,d2,z2,f2⟩:=hX.facts he;have cE:=f.slice hu;have nJ:z2.cells.size=(X.ti e').size :=EV;have jT:(X.K e').length =(X.ti e').size :=uN;have hz:cq X.K ρ F w (List.replicate len (kI X e')).flatten ((Array.range (len*z2.cells.size)).map (z2.cells[· %z2.cells.size]!)).toList :=Sa;obtain⟨us,hf,hr⟩:=AO mA ps _ cs _ pv ri hz hl hp;have ayz:cs.length=len*(X.ti e').size :=afv;refine⟨us,?_,yl _ _ _,rfl,λi row hi=> ?_,.inr ⟨w.heap.size,0,len,us,?_,Ef w _,by rw [yl];exact dZ _,?_,?_,λi row hi j x hx=> ?_⟩⟩
     ·unfold Instr.buildSlice;simp only [dO,gL cE,fg,f2.sizeOf];rw [if_neg (by omega)]
      by_cases h0:len*(X.ti e').size =0
      ·have e0:(Array.range (len*z2.cells.size)).map (z2.cells[· %z2.cells.size]!)= #[]:=by rw [nJ,h0];simp
       rw [e0]at hf;rw [if_pos h0];simp only [dO,fX,fg];have e1:(Array.range (len*(X.ti e').size)).map (λx=>(#[]:Array Value)[x %(#[]:Array Value).size]!)= #[]:=by rw [h0];simp
       rw [e1,hf];exact abi
      ·rw [if_neg h0];simp only [dO,fX,fg,f2.zeroValue];rw [nJ]at hf;rw [nJ,hf];exact abi
     ·rw [iQ]at iB;exact iB row (kY hi)
     ·rw [yl]
     ·have:len<=len*(X.ti e').size :=Is _ mc;exact D1 (by omega)
     ·have:=hr.1;simp only [k8]at this;show 0+len*(X.K e').length <=us.size;rw [jT];omega
     ·obtain⟨v,h1,h2⟩:=YN hr hi hx;refine⟨v,?_,h2.mono (λ_ _ h=>h) (λ_ h=>h) (λa v _ hc=>alF a v hc)⟩;show us[0+i*(X.K e').length +j]?=some v;rw [jT,wA];rw [Ej]at h1;exact h1
    ·cases h
   ·cases h
  ·cases h
 ·cases h
def flO(X:Cx)(o:Oper):Bool:=
 o.guard.isNone&&match o.op with
 | .alloc _=>o.after.toList.isEmpty|| !X.pk
 | .buildSlice _ n _=>(!X.pk&&Nat.blt 0 n)||(X.pk&&Nat.beq n 0&&o.after.toList.isEmpty)
 |_=>false
def e8(X:Cx)(t:bp):Bool:= !t.q&&flO X t.o
def Bc(X:Cx)(ops:Array Oper)(t s:bp):Bool:=
 !(t.i==s.i)&& !(t.o.dst.isSome&&t.o.dst==s.o.dst)&&
 (t.cl.testBit s.i||
   (!rr s.o.dst (fu t.o++guardOf ops t.o)&& !rr t.o.dst (fu s.o++guardOf ops s.o)&&
     match t.q,s.q with
     |true,true=>true
     |false,false=>e8 X t
     |true,false=>t.ids.all λid=>s.keeps id
     |false,true=>s.ids.all λid=>t.keeps id))
theorem qS{ops:Array Oper}(h:Bc X ops t s=true):t.i≠s.i∧(∀d,t.o.dst=some d->s.o.dst≠some d)∧
 (t.cl.testBit s.i=true∨((∀d,s.o.dst=some d->d∉fu t.o++guardOf ops t.o)∧(∀d,t.o.dst=some d->d∉fu s.o++guardOf ops s.o)∧(t.q=true∨s.q=true∨e8 X t=true)∧
   (t.q=true->s.q=false->∀id∈t.ids,s.rl id)∧(t.q=false->s.q=true->∀id∈s.ids,t.rl id))):=by
 unfold Bc at h;rw [bc,bc,sW]at h;obtain⟨⟨h1,h2⟩,h3⟩:=h;refine⟨qu,λd hd hs=>by simp [hd,hs]at h2,?_⟩;rcases h3 with h3|h3
 ·exact .inl h3
 ·refine .inr ?_;rw [bc,bc]at h3;obtain⟨⟨h4,h5⟩,h6⟩:=h3;refine⟨IC h4,IC h5,?_,?_,?_⟩
  ·revert h6;cases t.q<;>cases s.q<;>simp
  ·exact R8
  ·exact R8
def xJ(X:Cx)(t:bp):List bp->Bool
 | []=>true
 |f::l=>(!(e8 X f&&t.cl.testBit f.i)||l.all λr=>r.q||t.cl.testBit r.i)&&xJ X t l
theorem Ix{t:bp}:∀{l2:List bp} {f:bp} {l1:List bp},xJ X t (l2++f::l1)=true->e8 X f=true->t.cl.testBit f.i=true->∀r∈l1,r.q=false->t.cl.testBit r.i=true
 | [],f,l1,h,hf,hc,r,hr,hq=>by
   simp only [jR,xJ,hf,hc,Bool.and_self,Bool.not_true,IK,bc]at h;have:=iQ.1 h.1 r hr;rw [hq,IK]at this;exact this
 |_::l2,f,l1,h,hf,hc,r,hr,hq=>by
  simp only [iR,xJ,bc]at h;exact Ix (l2:=l2) h.2 hf hc r hr hq
def bp.acY(X:Cx)(nt:Nt)(ops:Array Oper)(t:bp)(b:bU):Prop:=b.ji=false∧
 ∀{M0:ar} {rdc:Cy} {n:Nat} {w0:World} {S:Sc} {F:aO} {ρ:aT} {a:Act} {w:World} {Q:Exit->Act->World->Prop} {K:Act->World->Prop},Inv X w0 S F ρ M0 w->a.tmps.size=nt.n->
  (∀u∈fu t.o++guardOf ops t.o,aw X.K ρ F w (look t.env u) (a.tmps.getD u undef))->
  (∀v w' hd,w.grownBy w' none->hd.b9=some w.heap.size->w.heap.size<w'.heap.size->hd.v.oneCell'=true->iN X ρ F w' hd b->
    (∀(ρ2:aT) (F2:aO) (w2:World),ρ2.length=t.M.length->aw X.K (ρ2++[hd]) F2 w2 t.x v)->K (a.put t.o.dst v) w')->wpOpIn (jP rdc.r) n X.P ops Q t.i K a w
structure aej(X:Cx)(nt:Nt)(ops:Array Oper)(t:bp)(log:List bp)(fK:bA)(M1:ar)(env:bA)(M:ar):Prop where
 FT:∀u,look t.env u=look fK u
 hM:t.M=M1
 hq:t.q=true->t.M'=t.M
 ei:t.q=false->cz t.ids t.M t.M'
 runs:e8 X t=false->t.Ld X nt ops
 fl:e8 X t=true->∃b,t.M'=t.M++[b]∧t.acY X nt ops b
 op:ops[t.i]?=some t.o
 dst:∀d,t.o.dst=some d->d<nt.n∧nt.mask.testBit d=true
 pair:∀s∈log,Bc X ops t s=true
 T4:xJ X t log=true
 pre:∀e∈t.o.after,Region.binds .any e=true->∃s∈log,s.i=e.on
 cl:∀w,t.cl.testBit w=true->∃e∈t.o.after,Region.binds .any e=true∧(w=e.on∨∃s∈log,s.i=e.on∧s.cl.testBit w=true)
 lk:∀u,look env u=(if t.o.dst=some u then t.x else look fK u)
 mem:M=t.M'
def cF(X:Cx)(nt:Nt)(ops:Array Oper)(env0:bA)(M0:ar):List bp->bA->ar->Prop
 | [],env,M=>(∀u,look env u=look env0 u)∧M=M0
 |t::log,env,M=>∃fK M1,cF X nt ops env0 M0 log fK M1∧aej X nt ops t log fK M1 env M
def bR(M0:ar)(L:Array Bool):List bp->ar×Bool
 | []=>(M0,true)
 |t::log=>if t.q=true then bR M0 L log else if bJ L t.i∧(bR M0 L log).2 =true then(t.M',true)else((bR M0 L log).1,false)
section
variable {nt:Nt} {ops:Array Oper} {env0:bA} {M0:ar} {L:Array Bool}
theorem rQ:∀{log:List bp},(bR M0 L log).2 =true ↔∀s∈log,s.q=false->bJ L s.i
 | []=>by simp [bR]
 |t::log=>by
  have ih:=rQ (log:=log);simp only [bR];cases hq:t.q with
  |true=>
   rw [if_pos rfl,ih];constructor
   ·intro h s hs fb;rcases dA.1 hs with rfl|hs
    ·rw [hq]at fb;cases fb
    ·exact h s hs fb
   ·exact λh s hs=>h s (eQ _ hs)
  |false=>
   rw [if_neg (by simp)]
   by_cases hc:bJ L t.i∧(bR M0 L log).2 =true
   ·rw [if_pos hc];refine⟨λ_ s hs fb=> ?_,λ_=>rfl⟩;rcases dA.1 hs with rfl|hs
    ·exact hc.1
    ·exact ih.1 hc.2 s hs fb
   ·rw [if_neg hc];refine⟨λh=>dB,λh=>absurd ⟨h t dI hq,ih.2 λs hs=>h s (eQ _ hs)⟩ hc⟩
theorem Zo:∀{l2 l1:List bp},(bR M0 L l1).2 =false->bR M0 L (l2++l1)=((bR M0 L l1).1,false)
 | [],l1,h=>by rw [jR];exact Prod.ext rfl h
 |t::l2,l1,h=>by
  have ih:=Zo (l2:=l2) h;simp only [iR,bR];rw [ih];split
  ·rfl
  ·rw [if_neg (by simp)]
theorem OZ{L':Array Bool}:∀{log:List bp},(∀s∈log,s.q=false->(bJ L s.i ↔ bJ L' s.i))->bR M0 L log=bR M0 L' log
 | [],_=>rfl
 |t::log,h=>by
  have ih:=OZ (log:=log) λs hs=>h s (eQ _ hs);simp only [bR];rw [ih];cases hq:t.q with
  |true=>rfl
  |false=>
   have:=h t dI hq
   by_cases hc:bJ L t.i∧(bR M0 L' log).2 =true
   ·simp only [jG,ly];rw [if_pos hc,if_pos ⟨this.1 hc.1,hc.2⟩]
   ·simp only [jG,ly];rw [if_neg hc,if_neg λhh=>hc ⟨this.2 hh.1,hh.2⟩]
theorem cF.look:∀{log:List bp} {env:bA} {M:ar},cF X nt ops env0 M0 log env M->∀u,(∃s∈log,s.o.dst=some u∧ae.look env u=s.x)∨((∀s∈log,s.o.dst≠some u)∧ae.look env u=ae.look env0 u)
 | [],env,M,⟨h,_⟩,u=> .inr ⟨λs hs=>by simp at hs,h u⟩
 |t::log,env,M,⟨_,_,hl,st⟩,u=>by
  rw [st.lk u];split
  ·rename_i hd;exact .inl ⟨t,dI,hd,rfl⟩
  ·rename_i hd;rcases cF.look hl u with⟨s,hs,h⟩|⟨h1,h2⟩
   ·exact .inl ⟨s,eQ _ hs,h⟩
   ·exact acr
theorem cF.closed:∀{log:List bp} {env:bA} {M:ar},cF X nt ops env0 M0 log env M->qp L log->∀t∈log,(∀e∈t.o.after,Region.binds .any e=true->bJ L e.on)->∀w,t.cl.testBit w=true->bJ L w
 | [],_,_,_,_,t,ht,_,_,_=>by simp at ht
 |t::log,_,_,⟨_,_,hl,st⟩,dy,s,hs,hp,w,hw=>by
  have ih:=cF.closed hl (λa ha=>dy a (eQ _ ha));exact adE
theorem cF.entry{t:bp}{l1:List bp}:∀{l2:List bp} {fR:bA} {M':ar},cF X nt ops env0 M0 (l2++t::l1) fR M'->∃fK M1 env M,cF X nt ops env0 M0 l1 fK M1∧aej X nt ops t l1 fK M1 env M
 | [],_,_,⟨_,_,hl,st⟩=>⟨_,_,_,_,hl,st⟩
 |_::l2,_,_,⟨_,_,hl,_⟩=>cF.entry (l2:=l2) hl
theorem cF.distinct:∀{env:bA} {M:ar},cF X nt ops env0 M0 log env M->∀s∈log,∀t∈log,s.i=t.i->s=t:=by
 induction log with
 |nil=>exact Ji
 |cons a log ih=>
  intro env M h s hs t ht e;obtain⟨_,_,hl,st⟩:=h
  ·rcases dA.1 hs with rfl|bX<;>rcases dA.1 ht with rfl|sA
   ·rfl
   ·exact absurd e (qS (st.pair t sA)).1
   ·exact absurd e.symm (qS (st.pair s bX)).1
   ·exact ih hl s bX t sA e
theorem cF.dst{log:List bp}:∀{env:bA} {M:ar},cF X nt ops env0 M0 log env M->∀s∈log,∀t∈log,∀d,s.o.dst=some d->t.o.dst=some d->s=t:=by
 induction log with
 |nil=>exact Ji
 |cons a log ih=>
  intro env M h s hs t ht d h1 h2;obtain⟨_,_,hl,st⟩:=h
  ·rcases dA.1 hs with rfl|bX<;>rcases dA.1 ht with rfl|sA
   ·rfl
   ·exact absurd h2 ((qS (st.pair t sA)).2.1 d h1)
   ·exact absurd h1 ((qS (st.pair s bX)).2.1 d h2)
   ·exact ih hl s bX t sA d h1 h2
theorem cF.sX:∀{log:List bp} {env:bA} {M:ar},cF X nt ops env0 M0 log env M->(bR M0 L log).2 =true->(bR M0 L log).1 =M
 | [],_,_,⟨_,h⟩,_=>h.symm
 |t::log,_,_,⟨_,_,hl,st⟩,h=>by
  simp only [bR]at h⊢;cases hq:t.q with
  |true=>
   rw [if_pos hq]at h;rw [if_pos rfl,cF.sX hl h,st.mem,st.hq hq,st.hM]
  |false=>
   rw [if_neg (yH)]at h;rw [if_neg (by simp)]
   by_cases hc:bJ L t.i∧(bR M0 L log).2 =true
   ·rw [if_pos hc];exact st.mem.symm
   ·rw [if_neg hc]at h;simp at h
theorem cF.flag{o1:List bp}{M:ar}(hL:cF X nt ops env0 M0 (l2++s::o1) env M)(dy:qp L (l2++s::o1))(fb:s.q=false)(hf:e8 X s=false)
 (iK:∀e∈s.o.after,Region.binds .any e=true->bJ L e.on):(bR M0 L o1).2 =true:=by
 rw [rQ];intro r hr lv;obtain⟨_,_,_,_,hl,st⟩:=cF.entry hL;have hc:=cF.closed (L:=L) hL dy s (jc _ dI) iK;obtain⟨_,_,h|⟨_,_,h,_⟩⟩:=qS (st.pair r hr)
 ·exact hc _ h
 ·rw [fb,lv,hf]at h;simp at h
theorem cF.Yw{t:bp}{l1:List bp}{id:Nat}(gN:¬bJ L t.i)(hq:t.q=true)(aA:id∈t.ids):
 ∀{l2:List bp} {fR:bA} {M':ar},cF X nt ops env0 M0 (l2++t::l1) fR M'->qp L (l2++t::l1)->(∀e∈t.o.after,Region.binds .any e=true->bJ L e.on)->
  (bR M0 L (l2++t::l1)).1[id]?=t.M[id]?
 | [],fR,M',hL,dy,iK=>by
   obtain⟨_,_,hl,st⟩:=_root_.id hL
   ·simp only [jR,bR];rw [if_pos hq,st.hM];have FW:=cF.closed (L:=L) hL dy t dI iK;have key:∀(l:List bp) (l':List bp) (e:bA) (N:ar),l'++l=l1->cF X nt ops env0 M0 l e N->(bR M0 L l).1[id]?=N[id]?:=by
     intro l
     induction l with
     |nil=>intro _ _ _ _ h;rw [h.2];rfl
     |cons s l ih=>
      intro l' e N vL h;have eu:s∈l1:=Rr;have hp:=qS (st.pair s eu);obtain⟨_,_,kj,jO⟩:=h
      ·have Gu:=ih (l'++[s]) _ _ (by simpa using vL) kj;simp only [bR];cases fb:s.q with
       |true=>rw [if_pos rfl,Gu,jO.mem,jO.hq fb,jO.hM]
       |false=>
        rw [if_neg (by simp)]
        by_cases hc:bJ L s.i∧(bR M0 L l).2 =true
        ·rw [if_pos hc,jO.mem]
        ·rw [if_neg hc];have hk:s.rl id:=by
          obtain⟨_,_,h|⟨_,_,_,h,_⟩⟩:=hp
          ·exfalso;refine hc ⟨FW _ h,?_⟩;cases hf:e8 X s with
           |true=>
            rw [rQ];intro r hr lv;have:=Ix (l2:=l') (l1:=l) (by rw [vL];exact st.T4) hf h r hr lv;exact FW _ this
           |false=>
            have mH:cF X nt ops env0 M0 ((t::l')++s::l) fR M':=by
             have e:(t::l')++s::l=t::l1:=by rw [<-vL];rfl
             rw [e];exact hL
            have afW:qp L ((t::l')++s::l):=by
             have e:(t::l')++s::l=t::l1:=by rw [<-vL];rfl
             rw [e];exact dy
            exact cF.flag mH afW fb hf (afW s (jc _ dI) (FW _ h))
          ·exact h hq fb id aA
         rw [Gu,jO.mem,hk.at (jO.ei fb),jO.hM]
    exact key l1 [] _ _ rfl hl
 |s::l2,fR,M',hL,dy,iK=>by
  obtain⟨_,_,hl,st⟩:=_root_.id hL
  ·have ih:=cF.Yw gN hq aA (l2:=l2) hl (λa ha=>dy a (eQ _ ha)) iK;simp only [iR,bR];cases fb:s.q with
   |true=>rw [if_pos rfl];exact ih
   |false=>
    rw [if_neg (by simp)]
    by_cases hc:bJ L s.i∧(bR M0 L (l2++t::l1)).2 =true
    ·rw [if_pos hc];have hp:=qS (st.pair t (jc _ dI));have iC:=cF.closed (L:=L) hL dy s dI (dy s dI hc.1);obtain⟨_,_,h|⟨_,_,_,_,h⟩⟩:=hp
     ·exact absurd (iC _ h) gN
     ·show s.M'[id]?=_;rw [(h fb hq id aA).at (st.ei fb),st.hM,<-cF.sX hl hc.2];exact ih
    ·rw [if_neg hc];exact ih
theorem cF.aad{l1:List bp}(gN:¬bJ L t.i)(hq:t.q=false):bR M0 L (l2++t::l1)=((bR M0 L l1).1,false):=by
 have:bR M0 L (t::l1)=((bR M0 L l1).1,false):=by
  simp only [bR];rw [if_neg (yH),if_neg (λh=>gN h.1)]
 rw [Zo (by rw [this]),this]
theorem cF.reads{t:bp}{l1:List bp}(gN:¬bJ L t.i){u:Nat}(hu:u∈fu t.o++guardOf ops t.o){P:AV->Prop}:
 ∀{l2:List bp} {fR:bA} {M':ar},cF X nt ops env0 M0 (l2++t::l1) fR M'->qp L (l2++t::l1)->(∀e∈t.o.after,Region.binds .any e=true->bJ L e.on)->
  (∀s∈l1,t.cl.testBit s.i=true->s.o.dst=some u->P s.x)->((∀s∈l2++t::l1,bJ L s.i->s.o.dst≠some u)->P (ae.look env0 u))->P (ae.look t.env u)
 | [],fR,M',hL,dy,iK,hw,h0=>by
   obtain⟨_,_,hl,st⟩:=hL
   ·rw [st.FT u];rcases cF.look hl u with⟨s,hs,hd,he⟩|⟨hn,he⟩
    ·rw [he];refine hw s hs ?_ hd;obtain⟨_,_,h|⟨h,_⟩⟩:=qS (st.pair s hs)
     ·exact h
     ·exact absurd hu (h u hd)
    ·exact acC
 |s::l2,fR,M',hL,dy,iK,hw,h0=>by
  obtain⟨_,_,hl,st⟩:=_root_.id hL
  ·refine cF.reads gN hu (l2:=l2) hl (λa ha=>dy a (eQ _ ha)) iK hw λhn=>h0 λr hr tR hd=> ?_;rcases dA.1 hr with rfl|hr
   ·have iC:=cF.closed (L:=L) hL dy r dI (dy r dI tR);obtain⟨_,_,h|⟨_,h,_⟩⟩:=qS (st.pair t (jc _ dI))
    ·exact gN (iC _ h)
    ·exact h u hd hu
   ·exact hn r hr tR hd
end
def live(w:World)(ρ:aT)(M:ar)(F:aO):Sc:=⟨λg=>lJ ρ M g∨∃id p,Hid w ρ M id p g,F⟩
section
variable {w0 w w':World} {S:Sc} {F F':aO} {ρ ρ':aT} {M M':ar}
theorem Inv.arn(hI:Inv X w0 S F ρ M w):Inv X w (live w ρ M F) F ρ M w:=
 ⟨rfl,rfl,rfl,dZ _,λ_ _ _=>rfl,hI.len,hI.rep,λid b hd g h1 h2 h3 h4=>⟨(hI.sep id b hd g h1 h2 h3 h4).1,.inl (.inl ⟨id,b,hd,h1,h2,h3,h4⟩),(hI.sep id b hd g h1 h2 h3 h4).2.2⟩,hI.fZ,hI.fz,hI.fa,hI.one,λa ha=> .inl ha,λa ha=>ha,
   ⟨λhh=>⟨(hI.aU.aa hh).1,.inl (.inr ⟨_,_,hh⟩),(hI.aU.aa hh).2.2⟩,hI.aU.inj,hI.aU.rep⟩⟩
theorem Inv.back(hI:Inv X w0 S F ρ M w)(h:Inv X w (live w ρ M F) F' ρ' M' w'):Inv X w0 S F' ρ' M' w' where
 os:=h.os.trans hI.os
 tape:=h.tape.trans hI.tape
 output:=h.output.trans hI.output
 size:=j5 hI.size h.size
 frame:=λg hg hn=>by
  rw [h.frame g (kX hg hI.size) ?_,hI.frame g hg hn];rintro(⟨id,b,hd,h1,h2,h3,h4⟩|⟨id,p,hh⟩)
  ·rcases(hI.sep id b hd g h1 h2 h3 h4).2.1 with h5|h5
   ·exact hn h5
   ·omega
  ·rcases(hI.aU.aa hh).2.1 with h5|h5
   ·exact hn h5
   ·omega
 len:=h.len
 rep:=h.rep
 sep:=λid b hd g h1 h2 h3 h4=>by
  obtain⟨s1,s2,s3⟩:=h.sep id b hd g h1 h2 h3 h4;refine⟨s1,?_,s3⟩;rcases s2 with(⟨id',b',bY,p1,p2,p3,p4⟩|⟨id',p,hh⟩)|s2
  ·exact(hI.sep id' b' bY g p1 p2 p3 p4).2.1
  ·exact(hI.aU.aa hh).2.1
  ·exact .inr (j5 hI.size s2)
 fZ:=h.fZ
 fz:=h.fz
 fa:=h.fa
 one:=h.one
 dQ:=λa ha=>by
  rcases h.dQ a ha with h1|(⟨id',b',bY,p1,p2,p3,p4⟩|⟨id',p,hh⟩)|h1
  ·exact hI.dQ a h1
  ·exact .inr (hI.sep id' b' bY _ p1 p2 p3 p4).2.1
  ·exact .inr (hI.aU.aa hh).2.1
  ·exact .inr (.inr (j5 hI.size h1))
 fin:=λa ha=>h.fin a (hI.fin a ha)
 aU:=⟨λhh=>by
  obtain⟨a1,a2,a3,a4⟩:=h.aU.aa hh;refine⟨a1,?_,a3,a4⟩;rcases a2 with(⟨id',b',bY,p1,p2,p3,p4⟩|⟨id',p,hh⟩)|s2
  ·exact(hI.sep id' b' bY _ p1 p2 p3 p4).2.1
  ·exact(hI.aU.aa hh).2.1
  ·exact .inr (j5 hI.size s2),h.aU.inj,h.aU.rep⟩
structure nx(F:aO)(ρ:aT)(M:ar)(w:World)(g:Nat):Prop where
 lt:g<w.heap.size
 fz:∀a,F a->a.block≠g
 no:∀(id:Nat) b hd,M[id]?=some b->b.fQ=false->ρ[id]?=some hd->hd.b9≠some g
 nh:∀id p,¬Hid w ρ M id p g
theorem nx.jM{g:Nat}(hA:nx F ρ M w g)(h:Inv X w (live w ρ M F) F' ρ' M' w'):nx F' ρ' M' w' g∧w'.heap[g]?=w.heap[g]?:=by
 have hn:¬(live w ρ M F) g:=by
  rintro(⟨id,b,hd,h1,h2,h3,h4⟩|⟨id,p,hh⟩)
  ·exact hA.no id b hd h1 h2 h3 h4
  ·exact hA.nh id p hh
 refine⟨⟨kX hA.lt h.size,λa ha e=> ?_,λid b hd h1 h2 h3 h4=> ?_,λid p hh=> ?_⟩,h.frame g hA.lt hn⟩
 ·rcases h.dQ a ha with h1|h1|h1
  ·exact hA.fz a h1 e
  ·exact hn (e▸h1)
  ·have:=hA.lt;omega
 ·rcases(h.sep id b hd g h1 h2 h3 h4).2.1 with h5|h5
  ·exact hn h5
  ·have:=hA.lt;omega
 ·rcases(h.aU.aa hh).2.1 with h5|h5
  ·exact hn h5
  ·have:=hA.lt;omega
structure sm(X:Cx)(w0:World)(ρ:aT)(F:aO)(a:Act)(w:World)(g:Nat)(s:bp):Prop where
 ex:∃b hd,s.M'=s.M++[b]∧hd.b9=some g∧hd.v.oneCell'=true∧iN X ρ F w hd b∧
  ∀d,s.o.dst=some d->∀(ρ2:aT) (F2:aO) (w2:World),ρ2.length=s.M.length->aw X.K (ρ2++[hd]) F2 w2 s.x (a.tmps.getD d undef)
 new:w0.heap.size<=g
 nn:∀b,s.M'=s.M++[b]->b.ji=false
theorem sm.mono{w0 w w':World}{ρ ρ':aT}{F F':aO}{a a':Act}{g:Nat}{s:bp}(h:sm X w0 ρ F a w g s)(dR:∀(id:Nat) hd,ρ[id]?=some hd->ρ'[id]?=some hd)(hF:∀x,F x->F' x)(hw:∀x v,F x->w.cell? x=some v->w'.cell? x=some v)(hg:w'.heap[g]?=w.heap[g]?)
 (ha:∀d,s.o.dst=some d->a'.tmps.getD d undef=a.tmps.getD d undef):sm X w0 ρ' F' a' w' g s:=by
 obtain⟨⟨b,hd,h1,h2,h3,h4,h5⟩,h6,h7⟩:=h;exact⟨⟨b,hd,h1,h2,h3,h4.mono dR hF hw (λk hk=>by rw [h2]at hk;injection hk with hk;subst hk;exact hg),λd bY=>by rw [ha d bY];exact h5 d bY⟩,h6,h7⟩
end
section
variable {nt:Nt} {ops:Array Oper} {env0:bA} {M0:ar} {L:Array Bool}
theorem QY{w0 w:World}{S:Sc}{F:aO}{ρ:aT}{a:Act}{γ:Nat->Nat}{base:List bp}:∀{l2:List bp} {env:bA} {M:ar},cF X nt ops env0 M0 (l2++base) env M->Inv X w0 S F ρ (bR M0 L base).1 w->
 (∀s∈l2,s.q=false->bJ L s.i->e8 X s=true)->
 (∀s∈l2,e8 X s=true->bJ L s.i->sm X w0 ρ F a w (γ s.i) s∧nx F ρ (bR M0 L base).1 w (γ s.i))->
 (∀s∈l2,∀s'∈l2,e8 X s=true->e8 X s'=true->bJ L s.i->bJ L s'.i->s.i≠s'.i->γ s.i≠γ s'.i)->
 ∃ρ2,Inv X w0 S F ρ2 (bR M0 L (l2++base)).1 w∧(∀(id:Nat) hd,ρ[id]?=some hd->ρ2[id]?=some hd)∧
  (∀b s c,l2=b++s::c->e8 X s=true->bJ L s.i->(bR M0 L (c++base)).2 =true->∀d,s.o.dst=some d->aw X.K ρ2 F w s.x (a.tmps.getD d undef))∧
  (∀g,nx F ρ (bR M0 L base).1 w g->(∀b s c,l2=b++s::c->e8 X s=true->bJ L s.i->(bR M0 L (c++base)).2 =true->γ s.i≠g)->nx F ρ2 (bR M0 L (l2++base)).1 w g)
 | [],env,M,hL,hI,_,_,_=>⟨ρ,hI,λ_ _ h=>h,λb s c h=>dB,λg hg _=>hg⟩
 |s::l2,env,M,hL,hI,qN,KW,hγ=>by
  obtain⟨fK,M1,hl,st⟩:=_root_.id hL;obtain⟨ρ1,i1,e1,p1,a1⟩:=QY (l2:=l2) hl hI (λr hr=>qN r (eQ _ hr)) (λr hr=>KW r (eQ _ hr)) (λr hr r' qd=>hγ r (eQ _ hr) r' (eQ _ qd));have same:(bR M0 L (s::(l2++base))).1 =(bR M0 L (l2++base)).1 ->(e8 X s=true->bJ L s.i->(bR M0 L (l2++base)).2 =true->False)->_:=λiL mY=>
   (⟨ρ1,by rw [iR,iL];exact i1,e1,λb r c dP hf dq gf d hd=>by
      cases b with
      |nil=>
       rw [jR]at dP;injection dP with h1 h2;subst h1;subst h2;exact(mY hf dq gf).elim
      |cons b0 b=>
       rw [iR]at dP;injection dP with h1 h2;exact p1 b r c h2 hf dq gf d hd,
     λg hg hr=>by
      rw [iR,iL];exact a1 g hg λb r c dP=>hr (s::b) r c (by rw [dP,iR])⟩:
     ∃ρ2,Inv X w0 S F ρ2 (bR M0 L (s::l2++base)).1 w∧(∀(id:Nat) hd,ρ[id]?=some hd->ρ2[id]?=some hd)∧
      (∀b r c,s::l2=b++r::c->e8 X r=true->bJ L r.i->(bR M0 L (c++base)).2 =true->∀d,r.o.dst=some d->aw X.K ρ2 F w r.x (a.tmps.getD d undef))∧
      (∀g,nx F ρ (bR M0 L base).1 w g->(∀b r c,s::l2=b++r::c->e8 X r=true->bJ L r.i->(bR M0 L (c++base)).2 =true->γ r.i≠g)->nx F ρ2 (bR M0 L (s::l2++base)).1 w g))
  cases hq:s.q with
  |true=>
   refine same (by simp only [bR];rw [if_pos hq]) λhf _ _=> ?_;simp [e8,hq]at hf
  |false=>
   by_cases hc:bJ L s.i∧(bR M0 L (l2++base)).2 =true
   ·have hf:=qN s dI hq hc.1;obtain⟨hh,ha⟩:=KW s dI hf hc.1;obtain⟨b1,tX,tY,KX,Sp,Sm,Sg⟩:=hh.ex;have iL:(bR M0 L (s::(l2++base))).1 =s.M':=by
     simp only [bR];rw [if_neg (yH),if_pos hc]
    have hMs:s.M=(bR M0 L (l2++base)).1 :=by rw [st.hM];exact(cF.sX hl hc.2).symm
    have asd:∀g,nx F ρ (bR M0 L base).1 w g->(∀b r c,l2=b++r::c->e8 X r=true->bJ L r.i->(bR M0 L (c++base)).2 =true->γ r.i≠g)->nx F ρ1 s.M w g:=by
     intro g h1 h2;rw [hMs];exact a1 g h1 h2
    have eu:=asd (γ s.i) ha λb r c dP mG rI _=>by
     have hr:r∈l2:=by rw [dP];exact jc _ dI
     exact hγ r (eQ _ hr) s dI mG hf rI hc.1 (λe=>(qS (st.pair r (uq _ hr))).1 e.symm)
    rw [<-hMs]at i1;have hlen:ρ1.length=s.M.length:=i1.len;have i2:Inv X w0 S F (ρ1++[tX]) (s.M++[b1]) w:=by
     refine i1.wT (hd:=tX) (λg hg=> ?_) Sp (Sm.mono (λid hd h=>jr (e1 id hd h)) (λ_ h=>h) (λ_ _ _ h=>h) (λ_ _=>rfl)) (hh.nn b1 tY);rw [KX]at hg;injection hg with hg;subst hg;exact⟨eu.lt,.inr hh.new,eu.fz,eu.no,eu.nh⟩
    refine⟨_,by rw [iR,iL,tY];exact i2,λid hd h=>jr (e1 id hd h),λb r c dP mG rI gf dd ck=> ?_,λg hg hr=> ?_⟩
    ·cases b with
     |nil=>
      rw [jR]at dP;injection dP with h1 h2;subst h1;subst h2;exact Sg dd ck ρ1 F w hlen
     |cons b0 b=>
      rw [iR]at dP;injection dP with h1 h2;exact(p1 b r c h2 mG rI gf dd ck).mono (λid hd h=>jr h) (λ_ h=>h) (λ_ _ _ h=>h)
    ·have h1:=asd g hg λb r c dP=>hr (s::b) r c (by rw [dP,iR]);have c9:γ s.i≠g:=hr [] s l2 rfl hf hc.1 hc.2;rw [iR,iL,tY];refine⟨h1.lt,h1.fz,λid b hd hb ck bT=> ?_,λid p hp=>h1.nh id p (hp.pop hlen (hh.nn b1 tY))⟩
     by_cases aA:id<s.M.length
     ·rw [gj aA]at hb;rw [gj (by omega)]at bT;exact h1.no id b hd hb ck bT
     ·by_cases B9:id=s.M.length
      ·subst B9;rw [jt (by omega),hlen,Ea]at bT;simp only [D9,Option.some.injEq]at bT;subst bT;rw [KX];exact λe=>c9 (Option.some.inj e)
      ·rw [D8 (eR)]at hb;cases hb
   ·refine same (by simp only [bR];rw [if_neg (yH),if_neg hc]) λ_ dq gf=>hc ⟨dq,gf⟩
end
structure af8(X:Cx)(nt:Nt)(env0:bA)(M0:ar)(w0:World)(S:Sc)(F0:aO)(ρ0:aT)(wb:World)(ds:List Deferred)(tv:Nat->Value)(log:List bp)(L:Array Bool)(γ:Nat->Nat)(F:aO)(ρ:aT)(a:Act)(w:World):Prop where
 inv:Inv X w0 S F ρ (bR M0 L log).1 w
 grow:bH F0 F ρ0 ρ wb w
 size:a.tmps.size=nt.n
 defs:a.defers=ds
 kept:∀t,nt.mask.testBit t=false->a.tmps.getD t undef=tv t
 wrote:∀l2 s l1,log=l2++s::l1->bJ L s.i->(e8 X s=true->(bR M0 L l1).2 =true)->∀d,s.o.dst=some d->aw X.K ρ F w s.x (a.tmps.getD d undef)
 aA:∀l2 s l1,log=l2++s::l1->bJ L s.i->e8 X s=true->(bR M0 L l1).2 =false->sm X w0 ρ F a w (γ s.i) s∧nx F ρ (bR M0 L log).1 w (γ s.i)
 lt:∀s∈log,e8 X s=true->bJ L s.i->γ s.i<w.heap.size
 GS:∀s∈log,∀s'∈log,e8 X s=true->e8 X s'=true->bJ L s.i->bJ L s'.i->s.i≠s'.i->γ s.i≠γ s'.i
 dQ:∀u,(∀s∈log,bJ L s.i->s.o.dst≠some u)->aw X.K ρ F w (ae.look env0 u) (a.tmps.getD u undef)
section
variable {nt:Nt} {ops:Array Oper} {env0:bA} {M0:ar}
theorem arN(h:e8 X t=true):t.q=false:=by
 unfold e8 at h;rw [bc]at h;simpa using h.1
theorem OE{α:Type}{b c l2 l1:List α}{s t:α}(h:b++s::c=l2++t::l1):
 (∃m,l2=b++s::m∧c=m++t::l1)∨(b=l2∧s=t∧c=l1)∨(∃m,l1=m++s::c∧b=l2++t::m):=by
 induction b generalizing l2 with
 |nil=>
  cases l2 with
  |nil=>simp only [jR,List.cons.injEq]at h;exact .inr (.inl ⟨rfl,h.1,h.2⟩)
  |cons x l2=>simp only [jR,iR,List.cons.injEq]at h;exact .inl ⟨l2,by rw [h.1];rfl,h.2⟩
 |cons y b ih=>
  cases l2 with
  |nil=>simp only [jR,iR,List.cons.injEq]at h;exact .inr (.inr ⟨b,h.2.symm,by rw [h.1];rfl⟩)
  |cons x l2=>
   simp only [iR,List.cons.injEq]at h;rcases ih h.2 with⟨m,h1,h2⟩|⟨h1,h2,h3⟩|⟨m,h1,h2⟩
   ·exact .inl ⟨m,by rw [h1,h.1];rfl,h2⟩
   ·exact .inr (.inl ⟨by rw [h1,h.1],h2,h3⟩)
   ·exact .inr (.inr ⟨m,h1,by rw [h2,h.1];rfl⟩)
theorem cF.uniq{M:ar}(hL:cF X nt ops env0 M0 log env M){b c b' c':List bp}(h1:log=b++s::c)(h2:log=b'++s::c'):c=c':=by
 have irr:∀{p q r:List bp},log=p++s::(q++s::r)->False:=by
  intro p q r h;obtain⟨_,_,_,_,_,st⟩:=cF.entry (h▸hL);exact(qS (st.pair s (jc _ dI))).1 rfl
 rcases OE (h1.symm.trans h2)with⟨m,h3,h4⟩|⟨_,_,h⟩|⟨m,h3,h4⟩
 ·exact(irr (p:=b) (q:=m) (r:=c') (by rw [h1,h4])).elim
 ·exact h
 ·exact(irr (p:=b') (q:=m) (r:=c) (by rw [h2,h3])).elim
theorem aoU(hX:X.Okb){rdc:Cy}{n:Nat}{w0 wb:World}{S:Sc}{F0:aO}{ρ0:aT}{ds:List Deferred}{tv:Nat->Value}{Q:Exit->Act->World->Prop}{M:ar}(hL:cF X nt ops env0 M0 log env M)
 (iy:∀i,i<ops.size->∃t∈log,t.i=i)
 (hQ:∀a' w' F' ρ',Inv X w0 S F' ρ' M w'->gX X ρ' F' w' env a'.tmps->a'.tmps.size=nt.n->a'.defers=ds->(∀t,nt.mask.testBit t=false->a'.tmps.getD t undef=tv t)->bH F0 F' ρ0 ρ' wb w'->Q .normal a' w'):
 ∀(fuel:Nat) (L:Array Bool) (γ:Nat->Nat) (F:aO) (ρ:aT) (a:Act) (w:World),L.size=ops.size->log.countP (λt=> !(L.getD t.i false))<=fuel->qp L log->
  af8 X nt env0 M0 w0 S F0 ρ0 wb ds tv log L γ F ρ a w->wpAnyIn (jP rdc.r) n X.P .any ops Q fuel L a w:=by
 have done:∀(L:Array Bool) (γ:Nat->Nat) (F:aO) (ρ:aT) (a:Act) (w:World),(∀t∈log,bJ L t.i)->af8 X nt env0 M0 w0 S F0 ρ0 wb ds tv log L γ F ρ a w->Q .normal a w:=by
  intro L γ F ρ a w dq hm;refine hQ a w F ρ ?_ (λu=> ?_) hm.size hm.defs hm.kept hm.grow
  ·have:=cF.sX hL (L:=L) (rQ.2 λs hs _=>dq s hs);rw [<-this];exact hm.inv
  ·rcases cF.look hL u with⟨s,hs,hd,he⟩|⟨hn,he⟩
   ·rw [he];obtain⟨l2,l1,kM⟩:=oJ hs;exact hm.wrote l2 s l1 kM (dq s hs) (λ_=>rQ.2 λr hr _=>dq r (by rw [kM];exact jc _ (eQ _ hr))) u hd
   ·rw [he];exact hm.dQ u λs hs _=>hn s hs
 have none_ready:∀(L:Array Bool),L.size=ops.size->Region.ready .any ops L=[]->∀t∈log,bJ L t.i:=by
  intro L cX hr;have key:∀(l1:List bp) (l2:List bp) (fR:bA) (M':ar),cF X nt ops env0 M0 l1 fR M'->l2++l1=log->∀t∈l1,bJ L t.i:=afw;exact λt ht=>key log [] env M hL rfl t ht
 intro fuel
 induction fuel with
 |zero=>
  intro L γ F ρ a w cX TE dy hm;have dq:∀t∈log,bJ L t.i:=adK;refine⟨?_,done L γ F ρ a w dq hm⟩;exact adS
 |succ fuel ih=>
  intro L γ F ρ a w cX TE dy hm;refine⟨λhr=>done L γ F ρ a w (none_ready L cX hr) hm,λi hi=> ?_⟩;rw [Ir]at hi;obtain⟨hf,o,ho,iK⟩:=hi;have aY:i<ops.size:=(sS.1 ho).1;obtain⟨t,ht,rfl⟩:=iy i aY;have Tw:t.i<L.size:=by omega
  have gN:¬bJ L t.i:=ach;obtain⟨l2,l1,kM⟩:=oJ ht;obtain⟨fK,M1,ayR,ME,gS,st⟩:=cF.entry (kM▸hL);have UD:t.o=o:=ab2;subst UD;have lq:∀j,bJ (L.setIfInBounds t.i true) j ↔ j=t.i∨bJ L j:=adr;have as4:log.countP (λs=> !((L.setIfInBounds t.i true).getD s.i false))<=fuel:=by
   have:=Pp (l:=log) (p:=λt=> !(L.getD t.i false)) (q:=λs=> !((L.setIfInBounds t.i true).getD s.i false)) (λs hs h=>by
    have h':¬bJ (L.setIfInBounds t.i true) s.i:=by simpa [bJ]using h
    rw [lq]at h';have:¬bJ L s.i:=λhh=>h' (.inr hh);simpa [bJ]using this) ⟨t,ht,by simpa [bJ]using gN,aby⟩
   omega
  have FW:qp (L.setIfInBounds t.i true) log:=by
   intro s hs cO e he hb;rw [lq]at cO⊢;rcases cO with h|h
   ·have:=cF.distinct hL s hs t ht h;subst this;exact .inr (iK e he hb)
   ·exact .inr (dy s hs h e he hb)
  have tI:=cF.closed (L:=L) hL dy t ht iK;have Ca:qp L (l2++t::l1):=kM▸dy;have mH:cF X nt ops env0 M0 (l2++t::l1) env M:=kM▸hL;have afL:∀s∈l1,s.i≠t.i:=λs hs e=>(qS (st.pair s hs)).1 e.symm;have KH:∀{l:List bp},(∀s∈l,s∈l1)->bR M0 (L.setIfInBounds t.i true) l=bR M0 L l:=λh=>OZ λs hs _=>by
   rw [lq];exact⟨λhh=>hh.resolve_left (afL s (h s hs)),.inr⟩
  have afF:∀s∈log,bJ L s.i->s≠t:=λs _ cO e=>gN (e▸cO);have tmp_ne:∀(v:Value) (s:bp),s∈log->s≠t->∀d,s.o.dst=some d->(a.put t.o.dst v).tmps.getD d undef=a.tmps.getD d undef:=by
   intro v s hs cY d hd;cases zX:t.o.dst with
   |none=>rfl
   |some d'=>
    have c9:d'≠d:=λe=>cY (cF.dst hL s hs t ht d hd (e▸zX));exact Rg
  have tmp_eq:∀(v:Value) d,t.o.dst=some d->(a.put t.o.dst v).tmps.getD d undef=v:=by
   intro v d hd;have vg:=(st.dst d hd).1;exact aaT
  have tmp_old:∀(v:Value) u,t.o.dst≠some u->(a.put t.o.dst v).tmps.getD u undef=a.tmps.getD u undef:=by
   intro v u xY;exact adp
  have Ss:∀(v:Value),∀u,nt.mask.testBit u=false->(a.put t.o.dst v).tmps.getD u undef=tv u:=by
   intro v;exact acj
  have afQ:t.q=false->∀s∈l2,s.q=false->bJ L s.i->e8 X s=true:=by
   intro qb s hs fb cO;cases dC:e8 X s with
   |true=>rfl
   |false=>
    exfalso;obtain⟨b,c,dP⟩:=oJ hs;have U4:cF X nt ops env0 M0 (b++s::(c++t::l1)) env M:=by have:=mH;rw [dP]at this;simpa using this
    have ayA:qp L (b++s::(c++t::l1)):=by have:=Ca;rw [dP]at this;simpa using this
    have bX:s∈log:=by rw [kM];exact uq _ hs
    have:=cF.flag U4 ayA fb dC (dy s bX cO);rw [rQ]at this;exact gN (this t (jc _ dI) qb)
  have fin:∀(γ2:Nat->Nat) (F2:aO) (ρ2:aT) (v:Value) (w2:World),Inv X w0 S F2 ρ2 (bR M0 (L.setIfInBounds t.i true) log).1 w2->bH F F2 ρ ρ2 w w2->w.heap.size<=w2.heap.size->
   (e8 X t=false->aw X.K ρ2 F2 w2 t.x v)->
   (∀b s c,log=b++s::c->e8 X s=true->bJ (L.setIfInBounds t.i true) s.i->(bR M0 (L.setIfInBounds t.i true) c).2 =true->(s=t∨(bR M0 L c).2 =false)->∀d,s.o.dst=some d->aw X.K ρ2 F2 w2 s.x ((a.put t.o.dst v).tmps.getD d undef))->
   (∀b s c,log=b++s::c->e8 X s=true->bJ (L.setIfInBounds t.i true) s.i->(bR M0 (L.setIfInBounds t.i true) c).2 =false->sm X w0 ρ2 F2 (a.put t.o.dst v) w2 (γ2 s.i) s∧nx F2 ρ2 (bR M0 (L.setIfInBounds t.i true) log).1 w2 (γ2 s.i))->
   (∀s∈log,e8 X s=true->s≠t->γ2 s.i=γ s.i)->(e8 X t=true->w.heap.size<=γ2 t.i∧γ2 t.i<w2.heap.size)->
   wpAnyIn (jP rdc.r) n X.P .any ops Q fuel (L.setIfInBounds t.i true) (a.put t.o.dst v) w2:=by
   intro γ2 F2 ρ2 v w2 jZ hg asT hx afH KW hγ tE;have jN:∀s∈log,bJ (L.setIfInBounds t.i true) s.i->s≠t->bJ L s.i:=adk;refine ih _ γ2 F2 ρ2 _ w2 (EM) as4 FW ⟨jZ,hm.grow.trans hg,aa6,aa2,Ss v,?_,λb s c h1 h2 h3 h4=>KW b s c h1 h3 h2 h4,?_,?_,?_⟩
   ·intro b s c dP cO ad3 d hd;have hs:s∈log:=by rw [dP];exact jc _ dI
    by_cases cY:s=t
    ·subst cY;cases rK:e8 X s with
     |true=>exact afH b s c dP rK cO (ad3 rK) (.inl rfl) d hd
     |false=>rw [tmp_eq v d hd];exact hx rK
    ·have rq:=jN s hs cO cY;cases dC:e8 X s with
     |false=>rw [tmp_ne v s hs cY d hd];exact(hm.wrote b s c dP rq (λh=>by rw [dC]at h;cases h) d hd).grow hg
     |true=>
      cases pq:(bR M0 L c).2 with
      |true=>rw [tmp_ne v s hs cY d hd];exact(hm.wrote b s c dP rq (λ_=>pq) d hd).grow hg
      |false=>exact afH b s c dP dC cO (ad3 dC) (.inr pq) d hd
   ·intro s hs dC cO
    by_cases cY:s=t
    ·subst cY;exact(tE dC).2
    ·rw [hγ s hs dC cY];exact kX (hm.lt s hs dC (jN s hs cO cY)) asT
   ·intro s hs s' bX dC tH cO rq c9
    by_cases cY:s=t
    ·by_cases xp:s'=t
     ·exact absurd (by rw [cY,xp]) c9
     ·rw [hγ s' bX tH xp];have h1:=hm.lt s' bX tH (jN s' bX rq xp);have h2:=(tE (cY▸dC)).1;rw [cY];omega
    ·by_cases xp:s'=t
     ·rw [hγ s hs dC cY];have h1:=hm.lt s hs dC (jN s hs cO cY);have h2:=(tE (xp▸tH)).1;rw [xp];omega
     ·rw [hγ s hs dC cY,hγ s' bX tH xp];exact hm.GS s hs s' bX dC tH (jN s hs cO cY) (jN s' bX rq xp) c9
   ·intro u hu;have xY:t.o.dst≠some u:=hu t ht ((lq _).2 (.inl rfl));rw [tmp_old v u xY];exact abu
  have hid_flag:t.q=false->∀{b:List bp} {s:bp} {c:List bp},log=b++s::c->s∈l2->(bR M0 L c).2 =false:=by
   intro qb b s c dP hs;obtain⟨b',c',vk⟩:=oJ hs;have e:=cF.uniq hL dP (show log=b'++s::(c'++t::l1)by rw [kM,vk];simp);rw [e];cases gf:(bR M0 L (c'++t::l1)).2 with
   |false=>rfl
   |true=>
    rw [rQ]at gf;exact absurd (gf t (jc _ dI) qb) gN
  have hin_log:∀{b:List bp} {s:bp} {c:List bp},log=b++s::c->s∈log:=λh=>by rw [h];exact jc _ dI
  have jN:∀s∈log,bJ (L.setIfInBounds t.i true) s.i->s≠t->bJ L s.i:=adk;have jz:∀{s:bp},s∈l2->s∈log:=λhs=>by rw [kM];exact uq _ hs
  have p7:∀s∈l2,s≠t:=by
   intro s hs e;subst e;obtain⟨b',c',vk⟩:=oJ hs;have:=cF.uniq hL kM (show log=b'++s::(c'++s::l1)by rw [kM,vk];simp);have:=wj List.length this;simp at this;omega
  cases rK:e8 X t with
  |true=>
   have qb:=arN rK;obtain⟨b1,tY,hnn,cC⟩:=st.fl rK;have iL:bR M0 L log=((bR M0 L l1).1,false):=by rw [kM];exact cF.aad gN qb
   have CN:bR M0 (L.setIfInBounds t.i true) l1=bR M0 L l1:=KH (λs hs=>hs);refine cC hm.inv hm.size (λu hu=>cF.reads (P:=λx=>aw X.K ρ F w x (a.tmps.getD u undef)) gN hu mH Ca iK (λs hs sF hd=>by
    obtain⟨m,c,GH⟩:=oJ hs;exact hm.wrote (l2++t::m) s c (by rw [kM,GH];simp) (tI _ sF) (λdC=>rQ.2 λr hr lv=>tI _ (Ix (l2:=m) (GH▸st.T4) dC sF r hr lv)) u hd) (λh=>hm.dQ u (by rw [kM];exact h))) ?_
   intro v1 w1 tX nN KX KV Sp Sm Sg;have mr:Inv X w0 S F ρ (bR M0 (L.setIfInBounds t.i true) l1).1 w1:=by
    rw [CN];have:=hm.inv.grown nN;rw [iL]at this;exact this
   have uH:=hm.inv.cells nN (by simp);have kq:Inv X w0 S F ρ (bR M0 L l1).1 w:=by have:=hm.inv;rw [iL]at this;exact this
   have nb:∀{id p g},Hid w1 ρ (bR M0 L l1).1 id p g->Hid w ρ (bR M0 L l1).1 id p g:=λhh=>hh.back kq.aU kq.len (λ_ _ h _=>h) (λ_ _ h _=>h) λg h1 _ _ _=>nN.block g h1 (by simp)
   let γ2:Nat->Nat:=λj=>if j=t.i then w.heap.size else γ j
   have tE:γ2 t.i=w.heap.size:=by simp [γ2]
   have tF:∀s∈log,s≠t->γ2 s.i=γ s.i:=λs hs cY=>by
    have:s.i≠t.i:=λe=>cY (cF.distinct hL s hs t ht e);simp [γ2,this]
   have JZ:(l2++[t])++l1=log:=by rw [kM];simp
   have hLr:cF X nt ops env0 M0 ((l2++[t])++l1) env M:=JZ▸hL;have tr:∀b s c,log=b++s::c->bJ L s.i->e8 X s=true->(bR M0 L c).2 =false->sm X w0 ρ F (a.put t.o.dst v1) w1 (γ2 s.i) s∧nx F ρ (bR M0 (L.setIfInBounds t.i true) l1).1 w1 (γ2 s.i):=by
    intro b s c dP cO dC gf;have hs:=hin_log dP;have cY:=afF s hs cO;obtain⟨h1,h2⟩:=hm.aA b s c dP cO dC gf;rw [tF s hs cY];rw [iL]at h2;exact⟨h1.mono (λ_ _ h=>h) (λ_ h=>h) uH (nN.block _ h2.lt (by simp)) (λdd ck=>tmp_ne _ s hs cY dd ck),⟨kX h2.lt nN.size,h2.fz,by rw [CN];exact h2.no,λid p hh=>h2.nh id p (by rw [CN]at hh;exact nb hh)⟩⟩
   have trt:sm X w0 ρ F (a.put t.o.dst v1) w1 (γ2 t.i) t∧nx F ρ (bR M0 (L.setIfInBounds t.i true) l1).1 w1 (γ2 t.i):=by
    rw [tE];refine⟨⟨⟨b1,tX,tY,KX,Sp,Sm,λdd ck=>by rw [tmp_eq _ dd ck];exact Sg⟩,hm.inv.size,λb hb=>by rw [tY]at hb;have hb:=List.append_cancel_left hb;injection hb with hb;subst hb;exact hnn⟩,⟨KV,λb hb e=> ?_,λid b hd h1 h2 h3 h4=> ?_,λid p hh=> ?_⟩⟩
    ·have:=hm.inv.fz b hb;omega
    ·rw [CN]at h1;have gq:(bR M0 L log).1 =(bR M0 L l1).1 :=by rw [iL]
     have:=(hm.inv.sep id b hd _ (by rw [gq];exact h1) h2 h3 h4).1;omega
    ·rw [CN]at hh;have:=(kq.aU.aa (nb hh)).1;omega
   obtain⟨ρ2,i2,e2,p2,a2⟩:=QY (L:=L.setIfInBounds t.i true) (γ:=γ2) (a:=a.put t.o.dst v1) hLr mr (λs hs fb cO=>by
    rcases jS.1 hs with hs|hs
    ·exact afQ qb s hs fb (jN s (jz hs) cO (p7 s hs))
    ·rw [fB.1 hs];exact rK) (λs hs dC cO=>by
    rcases jS.1 hs with hs|hs
    ·obtain⟨b,c,dP⟩:=oJ (jz hs);exact tr b s c dP (jN s (jz hs) cO (p7 s hs)) dC (hid_flag qb dP hs)
    ·rw [fB.1 hs];exact trt) (λs hs s' bX dC tH cO rq c9=>by
    rcases jS.1 hs with hs|hs<;>rcases jS.1 bX with bX|bX
    ·rw [tF s (jz hs) (p7 s hs),tF s' (jz bX) (p7 s' bX)];exact hm.GS s (jz hs) s' (jz bX) dC tH (jN s (jz hs) cO (p7 s hs)) (jN s' (jz bX) rq (p7 s' bX)) c9
    ·rw [fB.1 bX,tE,tF s (jz hs) (p7 s hs)];have:=hm.lt s (jz hs) dC (jN s (jz hs) cO (p7 s hs));omega
    ·rw [fB.1 hs,tE,tF s' (jz bX) (p7 s' bX)];have:=hm.lt s' (jz bX) tH (jN s' (jz bX) rq (p7 s' bX));omega
    ·exact absurd (by rw [fB.1 hs,fB.1 bX]) c9)
   rw [JZ]at i2 a2;refine fin γ2 F ρ2 _ _ i2 ⟨λ_ h=>h,e2,hm.inv.rB nN (by simp)⟩ nN.size (λh=>Ra) ?_ ?_ (λs hs _ cY=>tF s hs cY) (λ_=>by rw [tE];exact⟨dZ _,KV⟩)
   ·intro b s c dP dC cO gf GF dd ck;rcases OE (dP.symm.trans kM)with⟨m,h3,h4⟩|⟨h3,h4,h5⟩|⟨m,h3,h4⟩
    ·exact p2 b s (m++[t]) (by rw [h3];simp) dC cO (by rw [show(m++[t])++l1=c by rw [h4];simp];exact gf) dd ck
    ·subst h4;exact p2 l2 s [] rfl dC cO (by rw [jR,<-h5];exact gf) dd ck
    ·exfalso;have h6:bR M0 (L.setIfInBounds t.i true) c=bR M0 L c:=KH (λr hr=>aa4);rw [h6]at gf;rcases GF with h|h
     ·exact afL s (by rw [h3];exact jc _ dI) (by rw [h])
     ·rw [h]at gf;cases gf
   ·intro b s c dP dC cO gf;have hs:=hin_log dP;have hH:sm X w0 ρ F (a.put t.o.dst v1) w1 (γ2 s.i) s∧nx F ρ (bR M0 (L.setIfInBounds t.i true) l1).1 w1 (γ2 s.i):=by
     by_cases cY:s=t
     ·rw [cY];exact trt
     ·refine tr b s c dP (jN s hs cO cY) dC ?_;exact adM
    refine⟨hH.1.mono e2 (λ_ h=>h) (λ_ _ _ h=>h) rfl (λ_ _=>rfl),a2 _ hH.2 λb' r c' vk mG rI TC e=> ?_⟩;have hr:r∈log:=by rw [<-JZ,vk];simp
    by_cases ph:r.i=s.i
    ·have e1:=cF.distinct hL r hr s hs ph;subst e1;have:=cF.uniq hL dP (show log=b'++r::(c'++l1)by rw [<-JZ,vk];simp);rw [this,TC]at gf;cases gf
    ·by_cases pg:r=t
     ·by_cases cY:s=t
      ·exact ph (by rw [pg,cY])
      ·rw [pg,tE,tF s hs cY]at e;have:=hm.lt s hs dC (jN s hs cO cY);omega
     ·by_cases cY:s=t
      ·rw [cY,tE,tF r hr pg]at e;have:=hm.lt r hr mG (jN r hr rI pg);omega
      ·rw [tF r hr pg,tF s hs cY]at e;exact hm.GS r hr s hs mG dC (jN r hr rI pg) (jN s hs cO cY) ph e
  |false=>
   refine st.runs rK (M0:=(bR M0 L log).1) (λhq id aA=>by rw [kM];exact cF.Yw gN hq aA mH Ca iK) (λhq=>by
    rw [kM,cF.aad gN hq,st.hM];exact cF.sX gS (cF.flag mH Ca hq rK iK))
    hm.inv.arn hm.size (λu hu=>cF.reads (P:=λx=>aw X.K ρ F w x (a.tmps.getD u undef)) gN hu mH Ca iK (λs hs sF hd=>by
     obtain⟨m,c,GH⟩:=oJ hs;exact hm.wrote (l2++t::m) s c (by rw [kM,GH];simp) (tI _ sF) (λdC=>rQ.2 λr hr lv=>tI _ (Ix (l2:=m) (GH▸st.T4) dC sF r hr lv)) u hd) (λh=>hm.dQ u (by rw [kM];exact h))) ?_
   intro v w' F' ρ' c6 hx hg;have jZ:=hm.inv.back c6;have tr:∀b s c,log=b++s::c->bJ L s.i->e8 X s=true->(bR M0 L c).2 =false->sm X w0 ρ' F' (a.put t.o.dst v) w' (γ s.i) s∧nx F' ρ' (if t.q=true then(bR M0 L log).1 else t.M') w' (γ s.i):=by
    intro b s c dP cO dC gf;have hs:=hin_log dP;have cY:=afF s hs cO;obtain⟨h1,h2⟩:=hm.aA b s c dP cO dC gf;obtain⟨h3,h4⟩:=h2.jM c6;exact⟨h1.mono hg.dR hg.hF hg.hw h4 (λdd ck=>tmp_ne _ s hs cY dd ck),h3⟩
   have CL:∀s,e8 X s=true->s≠t:=λs dC e=>by rw [e,rK]at dC;cases dC
   cases hq:t.q with
   |true=>
    have same:∀{l:List bp},(∀s∈l,s∈log)->bR M0 (L.setIfInBounds t.i true) l=bR M0 L l:=λh=>OZ λs hs fb=>by
     rw [lq];refine⟨λhh=>hh.resolve_left λe=> ?_,.inr⟩;have:=cF.distinct hL s (h s hs) t ht e;rw [this,hq]at fb;cases fb
    rw [if_pos hq]at jZ;have ada:∀{b:List bp} {s:bp} {c:List bp},log=b++s::c->bR M0 (L.setIfInBounds t.i true) c=bR M0 L c:=λdP=>same λr hr=>by rw [dP];exact jc _ (eQ _ hr)
    refine fin γ F' ρ' v w' (by rw [same λs hs=>hs];exact jZ) hg c6.size (λ_=>hx) ?_ ?_ (λ_ _ _ _=>rfl) (λh=>Ra)
    ·intro b s c dP dC cO gf GF;rw [ada dP]at gf;rcases GF with h|h
     ·exact absurd h (CL s dC)
     ·rw [h]at gf;cases gf
    ·intro b s c dP dC cO gf;rw [ada dP]at gf;have:=tr b s c dP (jN s (hin_log dP) cO (CL s dC)) dC gf;rw [if_pos hq]at this;rw [same λs hs=>hs];exact this
   |false=>
    have UB:¬t.q=true:=by rw [hq];simp
    have ad5:bR M0 (L.setIfInBounds t.i true) (t::l1)=(t.M',true):=by
     simp only [bR];rw [if_neg UB,if_pos ⟨(lq _).2 (.inl rfl),by rw [KH λs hs=>hs];exact cF.flag mH Ca hq rK iK⟩]
    rw [if_neg UB]at jZ;have trb:∀b s c,log=b++s::c->bJ L s.i->e8 X s=true->(bR M0 L c).2 =false->sm X w0 ρ' F' (a.put t.o.dst v) w' (γ s.i) s∧nx F' ρ' (bR M0 (L.setIfInBounds t.i true) (t::l1)).1 w' (γ s.i):=by
     intro b s c h1 h2 h3 h4;have:=tr b s c h1 h2 h3 h4;rw [if_neg UB]at this;rw [ad5];exact this
    obtain⟨ρ2,i2,e2,p2,a2⟩:=QY (L:=L.setIfInBounds t.i true) (γ:=γ) (a:=a.put t.o.dst v) (base:=t::l1) mH (by rw [ad5];exact jZ)
     (λs hs fb cO=>afQ hq s hs fb (jN s (jz hs) cO (p7 s hs)))
     (λs hs dC cO=>by
       obtain⟨b,c,dP⟩:=oJ (jz hs);exact trb b s c dP (jN s (jz hs) cO (p7 s hs)) dC (hid_flag hq dP hs))
     (λs hs s' bX dC tH cO rq c9=>hm.GS s (jz hs) s' (jz bX) dC tH (jN s (jz hs) cO (p7 s hs)) (jN s' (jz bX) rq (p7 s' bX)) c9)
    rw [<-kM]at i2 a2;refine fin γ F' ρ2 v w' i2 ⟨hg.hF,λid hd h=>e2 id hd (hg.dR id hd h),hg.hb⟩ c6.size (λ_=>hx.mono e2 (λ_ h=>h) (λ_ _ _ h=>h)) ?_ ?_ (λ_ _ _ _=>rfl) (λh=>Ra)
    ·intro b s c dP dC cO gf GF dd ck;rcases OE (dP.symm.trans kM)with⟨m,h3,h4⟩|⟨h3,h4,h5⟩|⟨m,h3,h4⟩
     ·exact p2 b s m h3 dC cO (by rw [<-h4];exact gf) dd ck
     ·exact absurd h4 (CL s dC)
     ·exfalso;have h6:bR M0 (L.setIfInBounds t.i true) c=bR M0 L c:=KH (λr hr=>aa4);rw [h6]at gf;rcases GF with h|h
      ·exact CL s dC h
      ·rw [h]at gf;cases gf
    ·intro b s c dP dC cO gf;have hs:=hin_log dP;have cY:=CL s dC;have pq:(bR M0 L c).2 =false:=adM;have hH:=trb b s c dP (jN s hs cO cY) dC pq;refine⟨hH.1.mono e2 (λ_ h=>h) (λ_ _ _ h=>h) rfl (λ_ _=>rfl),a2 _ hH.2 λb' r c' vk mG rI TC e=> ?_⟩;have jX:r∈l2:=by rw [vk];exact jc _ dI
     have hr:=jz jX
     by_cases ph:r.i=s.i
     ·have e1:=cF.distinct hL r hr s hs ph;subst e1;have:=cF.uniq hL dP (show log=b'++r::(c'++t::l1)by rw [kM,vk];simp);rw [this,TC]at gf;cases gf
     ·exact hm.GS r hr s hs mG dC (jN r hr rI (CL r mG)) (jN s hs cO cY) ph e
end
def th(X:Cx)(T:gg R)(ops:Array Oper)(t:bp)(st:St)(log:List bp)(k:List bp->St->Option R):Option R:=
 aB (log.all (Bc X ops t)&&xJ X t log) (pX T.nt st t.o.dst t.x t.M' λav=>k (t::log) av)
def F4(X:Cx)(T:gg R)(ops:Array Oper)(i:Nat)(o:Oper)(cl:Nat)(st:St)(log:List bp)(k:List bp->St->Option R):Option R:=
 match flO X o with
 |true=>
  match o.op with
  | .alloc ty=>aB (((X.ti ty).ok &&X.xG (mT X ty) ty)&&cZ (mT X ty) (X.ti ty).zero) (th X T ops ⟨i,o,false,.ptr st.mem.length 0 0,[],cl,st.env,st.mem,st.mem++[.var (mT X ty) (X.ti ty).zero]⟩ st log k)
  | .buildSlice t n ps=>
    (match TS X t n (ps.toList.map λp=>(p.1,gT X (ir (fu o) st.env) p.2))with
     |some (e,rows)=>Ae (.row e rows) λb=>th X T ops ⟨i,o,false,.aa st.mem.length,[],cl,st.env,st.mem,st.mem++[b]⟩ st log k
     |none=>none)
  |_=>none
 |false=>
 match uw X (gT X (ir (fu o) st.env)) o with
 |some ids=>p8 X T (gT X (ir (fu o) st.env)) o st.mem λx _=>th X T ops ⟨i,o,true,x,ids,cl,st.env,st.mem,st.mem⟩ st log k
 |none=>
  match JX X ops (gT X (ir (fu o) st.env)) o with
  |some (t,n,ps)=>ym X t n (ps.toList.map λp=>(p.1,gT X (ir (fu o) st.env) p.2)) λx=>th X T ops ⟨i,o,true,x,[],cl,st.env,st.mem,st.mem⟩ st log k
  |none=>
   match Kj X (gT X (ir (fu o) st.env)) o with
   |some (g,args)=>T.call g args [] λx M'=>aB (M'.isEmpty&&oZ x) (th X T ops ⟨i,o,true,x,[],cl,st.env,st.mem,st.mem⟩ st log k)
   |none=>
    match mK T (gT X (ir (fu o) st.env)) o st.mem with
    |some ids=>p8 X T (gT X (ir (fu o) st.env)) o st.mem λx M'=>th X T ops ⟨i,o,false,x,ids,cl,st.env,st.mem,M'⟩ st log k
    |none=>none
def F5(X:Cx)(T:gg R)(ops:Array Oper)(i:Nat)(o:Oper)(cl:Nat)(st:St)(log:List bp)(k:List bp->St->Option R):Option R:=
 th X T ops ⟨i,o,true,.dc [],[],cl,st.env,st.mem,st.mem⟩ st log k
def TQ(X:Cx)(T:gg R)(ops:Array Oper)(i:Nat)(o:Oper)(cl:Nat)(st:St)(log:List bp)(k:List bp->St->Option R):Option R:=
 match o.guard with
 |none=>F4 X T ops i o cl st log k
 |some (j,want)=>
  match w4 ops j with
  |none=>none
  |some d=>
   match look st.env d with
   | .bool b=>
     match b with
     |true=>match want with
      |true=>F4 X T ops i o cl {st with env:=(d,.bool true)::st.env} log k
      |false=>F5 X T ops i o cl {st with env:=(d,.bool true)::st.env} log k
     |false=>match want with
      |false=>F4 X T ops i o cl {st with env:=(d,.bool false)::st.env} log k
      |true=>F5 X T ops i o cl {st with env:=(d,.bool false)::st.env} log k
   | .dc []=>F5 X T ops i o cl st log k
   |_=>none
def K8(X:Cx)(T:gg R)(ops:Array Oper):cp->List bp->St->(List bp->St->Option R)->Option R
 | [],log,st,k=>k log st
 |i::rest,log,st,k=>
  match ops.toList[i]? with
  |none=>none
  |some o=>
   match oY log o.after.toList with
   |none=>none
   |some cl=>TQ X T ops i o cl st log λqA av=>K8 X T ops rest qA av k
def RI(X:Cx)(T:gg R)(ops:Array Oper)(st:St)(k:St->Option R):Option R:=
 K8 X T ops (adb ops.toList) [] st λlog av=>aB (Nat.ble log.length ops.size&&(List.range ops.size).all λi=>log.any λt=>t.i==i) (k av)
section
variable {nt:Nt} {ops:Array Oper} {env0 fK:bA} {M0 M1:ar}
theorem yo(h:th X T ops t st log k=some r):
 ∃av,k (t::log) av=some r∧(∀s∈log,Bc X ops t s=true)∧xJ X t log=true∧(∀d,t.o.dst=some d->d<T.nt.n∧T.nt.mask.testBit d=true)∧(∀u,look av.env u=(if t.o.dst=some u then t.x else look st.env u))∧av.mem=t.M'∧av.gJ=st.gJ∧av.rd=st.rd:=by
 unfold th at h;replace h:=bG h;obtain⟨hp,h⟩:=h;rw [bc]at hp;have hq:E9 T ops t st [] (λ_ av=>k (t::log) av)=some r:=abE;obtain⟨av,h,_,hd,iZ,gq,e1,e2⟩:=X9 hq;exact⟨av,h,λs hs=>iQ.1 hp.1 s hs,hp.2,hd,iZ,gq,e1,e2⟩
theorem yr(hl:cF X nt ops env0 M0 log fK M1)(h1:∀u,look t.env u=look fK u)(h2:t.M=M1)(h3:t.q=true->t.M'=t.M)(h4:t.q=false->cz t.ids t.M t.M')(h5:e8 X t=false->t.Ld X nt ops)
 (U5:e8 X t=true->∃b,t.M'=t.M++[b]∧t.acY X nt ops b) (h6:ops[t.i]?=some t.o)
 (h7:∀d,t.o.dst=some d->d<nt.n∧nt.mask.testBit d=true) (h8:∀s∈log,Bc X ops t s=true) (h8':xJ X t log=true) (h9:oY log t.o.after.toList=some t.cl)  {M:ar} (sI:∀u,look env u=(if t.o.dst=some u then t.x else look t.env u)) (Ac:M=t.M'):
 cF X nt ops env0 M0 (t::log) env M:=by
 obtain⟨c1,c2⟩:=Ii h9;refine⟨fK,M1,hl,h1,h2,h3,h4,h5,U5,h6,h7,h8,h8',λe he hb=>c1 e (EL) hb,λw hw=> ?_,λu=>by rw [sI u,h1 u],Ac⟩;obtain⟨e,he,hb,hh⟩:=c2 w hw;exact⟨e,EL,hb,hh⟩
theorem O8(hl:cF X T.nt ops env0 M0 log fK M1)(hi:ops[i]?=some o)(hc:oY log o.after.toList=some cl)
 (he:∀u,look st.env u=look fK u) (hm:st.mem=M1) (hw:BU X ops o st.env false) (h:F5 X T ops i o cl st log k=some r):
 ∃t av,k (t::log) av=some r∧cF X T.nt ops env0 M0 (t::log) av.env av.mem∧av.gJ=st.gJ∧av.rd=st.rd:=by
 unfold F5 at h;obtain⟨av,h,hp,qM,hd,iZ,gq,h1,h2⟩:=yo h;refine⟨_,av,h,yr hl he hm (λ_=>rfl) (λhq=>nu) ?_ (λhf=>by simp [e8]at hf) hi hd hp qM hc iZ gq,h1,h2⟩;intro _ Mx _ _ rdc n w0 S F ρ a w Q K hI cX hr hk;unfold wpOpIn;simp only [hi,hw hr,jG,ly];exact⟨λ_ _=>trivial,hk _ w F ρ hI Pe (bH.refl _ _ _)⟩
theorem O7(hX:X.Okb)(hT:T.mw X)(hl:cF X T.nt ops env0 M0 log fK M1)(hi:ops[i]?=some o)(hc:oY log o.after.toList=some cl)
 (he:∀u,look st.env u=look fK u) (hm:st.mem=M1) (hw:BU X ops o st.env true) (h:F4 X T ops i o cl st log k=some r):
 ∃t av,k (t::log) av=some r∧cF X T.nt ops env0 M0 (t::log) av.env av.mem∧av.gJ=st.gJ∧av.rd=st.rd:=by
 unfold F4 at h;split at h
 ·rename_i qN;have acI:∀{x:AV} {M':ar},e8 X ⟨i,o,false,x,[],cl,st.env,st.mem,M'⟩=false->False:=λhf=>by simp [e8,qN]at hf
  split at h
  ·rename_i ty ho;replace h:=bG h;obtain⟨aQ,h⟩:=h;rw [bc,bc]at aQ;obtain⟨av,h,hp,qM,hd,iZ,gq,h1,h2⟩:=yo h;refine⟨_,av,h,yr hl he hm (λhq=>nu) (λ_=>cz.push _ _ _) (λhf=>(acI hf).elim) (λ_=>⟨_,rfl,?_⟩) hi hd hp qM hc iZ gq,h1,h2⟩;refine⟨rfl,?_⟩;intro Mx rdc n w0 S F ρ a w Q K hI cX hr hk;obtain⟨i',d,z,f⟩:=hX.facts aQ.1.1;have cC:(Instr.alloc ty true (.tuple #[])).run X.P w= .ok (.pointer (some ⟨w.heap.size,0,none⟩)) (w.alloc (.cells z.cells ty)):=by
    simp only [Instr.alloc,dO,f.zeroValue,fg,newVar,newRow,A1,fX,A0]
   unfold wpOpIn;simp only [hi,hw hr,ng];refine vY (fh) (v:= .pointer (some ⟨w.heap.size,0,none⟩)) (w':=w.alloc (.cells z.cells ty)) (by
    rw [show execOp a.eval o=(do pure (.value (<-Instr.alloc ty true (.tuple #[]))):Sem Next)from iG,dO,cC];rfl) ?_
   refine hk _ _ ⟨.slice (some ⟨w.heap.size,0,none⟩) 1 1,(X.ti ty).zero.length⟩ (yy w _ none) rfl (by simp) rfl ⟨aQ.2,rfl,_,_,_,rfl,Ef w _,BJ,aQ.1.2⟩ (λρ2 F2 w2 hlen=> ?_);have:=PW (X:=X) (M:=st.mem) (F:=F2) (w:=w2) (hd:=⟨.slice (some ⟨w.heap.size,0,none⟩) 1 1,(X.ti ty).zero.length⟩) hlen rfl 0 0;exact qo
  ·rename_i t n ps ho;split at h
   ·rename_i e rows hb;rw [RE]at h;obtain⟨av,h,hp,qM,hd,iZ,gq,h1,h2⟩:=yo h;refine⟨_,av,h,yr hl he hm (λhq=>nu) (λ_=>cz.push _ _ _) (λhf=>(acI hf).elim) (λ_=>⟨_,rfl,?_⟩) hi hd hp qM hc iZ gq,h1,h2⟩;refine⟨rfl,?_⟩;intro Mx rdc n' w0 S F ρ a w Q K hI cX hr hk;have LO:∀z,aw X.K ρ F w (gT X (ir (fu o) st.env) z) (a.eval z):=λz=>wF hI (AT λu hu=>hr u (uq _ hu)) z;obtain⟨us,cC,hlen,jy⟩:=apS hX hb (w:=w) hI.one (ps.toList.map λp=>(p.1,a.eval p.2)) (by simp) (λj p q hp hq=>by
     rw [gW]at hp hq;cases hj:ps.toList[j]? with
     |none=>exact EF
     |some z=>
      rw [hj]at hp hq;simp only [jv,Option.some.injEq]at hp hq;subst hp;subst hq;exact⟨rfl,LO z.2⟩)
    have e1:(ps.map λ(i,x)=>(i,a.eval x))=(ps.toList.map λp=>(p.1,a.eval p.2)).toArray :=sf;unfold wpOpIn;simp only [hi,hw hr,ng];refine vY (fh) (v:= .slice (some ⟨w.heap.size,0,none⟩) n n) (w':=w.alloc (.cells us e)) (by
     rw [show execOp a.eval o=(do pure (.value (<-Instr.buildSlice t n (ps.map λ(i,x)=>(i,a.eval x)))):Sem Next)from iG,dO,e1,cC];rfl) ?_
    refine hk _ _ ⟨.slice (some ⟨w.heap.size,0,none⟩) n n,(X.K e).length⟩ (yy w _ none) rfl (by simp) rfl jy (λρ2 F2 w2 as1=> ?_);exact ux (M:=st.mem) (hd:=⟨.slice (some ⟨w.heap.size,0,none⟩) n n,(X.K e).length⟩) as1
   ·cases h
  ·cases h
 ·rename_i qN;have KK:∀{q:Bool} {x:AV} {ids:cp} {M':ar},e8 X ⟨i,o,q,x,ids,cl,st.env,st.mem,M'⟩=true->False:=by
   intro q x ids M' hf;simp [e8,qN]at hf
  split at h
  ·rename_i ids hq;obtain⟨y,h,cC⟩:=X8 hX hq h;obtain⟨av,h,hp,qM,hd,iZ,gq,h1,h2⟩:=yo h;refine⟨_,av,h,yr hl he hm (λ_=>rfl) (λhq=>nu) ?_ (λhf=>(KK hf).elim) hi hd hp qM hc iZ gq,h1,h2⟩;exact adJ
  ·rename_i hq;split at h
   ·rename_i t n ps Tx;obtain⟨y,h,cC⟩:=Yz hX (Yd Tx) h;obtain⟨av,h,hp,qM,hd,iZ,gq,h1,h2⟩:=yo h;refine⟨_,av,h,yr hl he hm (λ_=>rfl) (λhq=>nu) ?_ (λhf=>(KK hf).elim) hi hd hp qM hc iZ gq,h1,h2⟩;exact KN
   ·split at h
    ·rename_i g args U1;obtain⟨y,h,cC⟩:=Ym hX hT U1 (k:=λy=>th X T ops ⟨i,o,true,y,[],cl,st.env,st.mem,st.mem⟩ st log k) h;obtain⟨av,h,hp,qM,hd,iZ,gq,h1,h2⟩:=yo h;refine⟨_,av,h,yr hl he hm (λ_=>rfl) (λhq=>nu) ?_ (λhf=>(KK hf).elim) hi hd hp qM hc iZ gq,h1,h2⟩;exact KN
    ·split at h
     ·rename_i ids Ur;obtain⟨x,M',cC,h,ei⟩:=DW hX hT h;obtain⟨av,h,hp,qM,hd,iZ,gq,h1,h2⟩:=yo h;refine⟨_,av,h,yr hl he hm (λhq=>nu) (λ_=>ei ids Ur) ?_ (λhf=>(KK hf).elim) hi hd hp qM hc iZ gq,h1,h2⟩;exact adN
     ·cases h
theorem an9(hX:X.Okb)(hT:T.mw X)(hl:cF X T.nt ops env0 M0 log st.env st.mem)(hi:ops[i]?=some o)(hc:oY log o.after.toList=some cl)
 (h:TQ X T ops i o cl st log k=some r):
 ∃t av,k (t::log) av=some r∧cF X T.nt ops env0 M0 (t::log) av.env av.mem∧av.gJ=st.gJ∧av.rd=st.rd:=by
 unfold TQ at h;split at h
 ·rename_i hg;exact O7 hX hT hl hi hc (λ_=>rfl) rfl (λ{ρ F w tmps} _=>OC hg _) h
 ·rename_i j want hg;split at h
  ·cases h
  ·rename_i d hd;have iL:d∈fu o++guardOf ops o:=jc _ (by simp [guardOf,hg,hd]);have uK:∀(b:Bool) (env:bA),look env d= .bool b->BU X ops o env (b==want):=adG;split at h
   ·rename_i b hb;split at h
    ·split at h
     ·exact O7 hX hT (st:={st with env:=(d,.bool true)::st.env}) hl hi hc (λu=>v7 hb u) rfl (uK true _ (wX)) h
     ·exact O8 (st:={st with env:=(d,.bool true)::st.env}) hl hi hc (λu=>v7 hb u) rfl (uK true _ (wX)) h
    ·split at h
     ·exact O7 hX hT (st:={st with env:=(d,.bool false)::st.env}) hl hi hc (λu=>v7 hb u) rfl (uK false _ (wX)) h
     ·exact O8 (st:={st with env:=(d,.bool false)::st.env}) hl hi hc (λu=>v7 hb u) rfl (uK false _ (wX)) h
   ·rename_i hb;refine O8 hl hi hc (λ_=>rfl) rfl (λ{ρ F w tmps} hr=> ?_) h;exact adH
   ·cases h
theorem Yk(hX:X.Okb){T:gg R}(hT:T.mw X){k:List bp->St->Option R}{r:R}:∀(ord:cp) {log:List bp} {st:St},cF X T.nt ops env0 M0 log st.env st.mem->K8 X T ops ord log st k=some r->
 ∃qA av,k qA av=some r∧cF X T.nt ops env0 M0 qA av.env av.mem∧av.gJ=st.gJ∧av.rd=st.rd
 | [],log,st,hl,h=>⟨log,st,h,hl,rfl,rfl⟩
 |i::rest,log,st,hl,h=>by
  simp only [K8]at h;split at h
  ·cases h
  ·rename_i o ho;split at h
   ·cases h
   ·rename_i cl hc;obtain⟨t,st1,h,gS,e1,e2⟩:=an9 hX hT hl (by simpa using ho) hc h;obtain⟨qA,av,h,UJ,e3,e4⟩:=Yk hX hT rest gS h;exact⟨qA,av,h,UJ,e3.trans e1,e4.trans e2⟩
theorem anc(hX:X.Okb)(hT:T.mw X){id:Nat}{k:St->Option R}(h:RI X T ops st k=some r):
 ∃av,k av=some r∧nZ X T.nt (.region id ops true) st .normal av:=by
 unfold RI at h;obtain⟨log,av,h,hl,e1,e2⟩:=Yk hX hT (ops:=ops) (env0:=st.env) (M0:=st.mem) _ (log:=[]) (st:=st) (show cF X T.nt ops st.env st.mem [] st.env st.mem from⟨λ_=>rfl,rfl⟩) h;replace h:=bG h;obtain⟨iy,h⟩:=h;rw [bc]at iy;obtain⟨hlen,iy⟩:=iy;refine⟨av,h,λ{rdc n w0 S F ρ a w Q} hI hs hq=>wpIn_region_any hX.mixed ?_⟩;have hg:=World.Xm w;have c6:=hI.grown hg;have fU:bH F F ρ ρ w {w with drawn:=w.drawn+1}:=⟨λ_ h=>h,λ_ _ h=>h,hI.rB hg (by simp)⟩;have bX:=hs.grow fU;have mY:∀i,¬bJ (Array.replicate ops.size false) i:=acn;have UH:∀l:List bp,(bR st.mem (Array.replicate ops.size false) l).1 =st.mem:=by
  intro l
  induction l with
  |nil=>rfl
  |cons t l xW=>
   simp only [bR];split
   ·exact xW
   ·rw [if_neg λhh=>mY _ hh.1];exact xW
 refine aoU hX (ds:=a.defers) (tv:=rdc.tv) (wb:=w) (S:=S) (w0:=w0) (F0:=F) (ρ0:=ρ) hl (λi hi=> ?_) (λa' w' F' ρ' jZ hE cX vR UK jY=> ?_) ops.size _ (λ_=>0) F ρ a _ (by simp) ?_ ?_ ?_
 ·have:=iQ.1 iy i (wx.2 hi);exact abM
 ·refine hq a' w' F' ρ' jZ ⟨hE,cX,?_,?_,UK⟩ jY
  ·rw [e1,vR];exact hs.defs.mono jY.hF jY.hb
  ·exact hs.rd.mono jY.hF jY.hb
 ·exact j5 Y2 (oL hlen)
 ·exact λt ht dq=>absurd dq (mY _)
 ·exact⟨by rw [UH];exact c6,fU,hs.size,rfl,hs.kept,λ_ s _ _ dq=>absurd dq (mY _),λ_ s _ _ dq=>absurd dq (mY _),λs _ _ dq=>absurd dq (mY _),λs _ s' _ _ _ dq=>absurd dq (mY _),λu _=>bX.env u⟩
end
end
end Go.ae
namespace Go.ae
def adO{p:Prop}(h:p:=by
 rw [iA.hM];refine c8.Em kS λr hr lv nL=> ?_;obtain⟨_,_,h|⟨_,_,h,_⟩⟩:=nR (iA.pair r hr)
 ·exact afV s hsm dq _ h
 ·have:=(h fb lv).2.1;rw [nL]at this;cases this):p:=h
def adL{p:Prop}(h:p:=by
 obtain⟨m2,m1,gq⟩:=oJ ml;have mH:c8 X nt ops env0 M0 (m2++s::(m1++t::l1)) env M:=by rw [gq]at hL;simpa using hL
 obtain⟨_,_,_,_,_,vz⟩:=c8.entry mH;exact vz.pair t (jc _ dI)):p:=h
def Jr{p:Prop}(h:p:=by rw [gq]at hL;simpa using hL):p:=h
end Go.ae
namespace Go.ae
open Go
noncomputable section
variable {X:Cx} {R:Type}
variable{p x:AV}{b c:bU}{s t:bp}{log:List bp}{k:List bp->St->Option R}{cl i id:Nat}{o:Oper}{r:R}{st:St}{T:gg R}{M:ar}{env:bA}
def Vl(k:Kind)(x:AV):Option AV:=
 match k,x with
 | .slice t,.fD =>some (.U t [])
 | .slice _,.aa _=>none
 |_,x=>some x
def zx:dv->aD->Option aD
 |k::ks,x::xs=>(match Vl k x with|some y=>(match zx ks xs with|some ys=>some (y::ys)|none=>none)|none=>none)
 |_,xs=>some xs
theorem aqy{k:Kind}{y:AV}(h:Vl k x=some y)(M:ar)(c:AV->ar->Option R):fp k x M c=c y M:=by
 unfold Vl at h;split at h
 ·injection h with h;subst h;rfl
 ·cases h
 ·rename_i h1 h2;injection h with h;subst h;unfold fp;split
  ·exact absurd rfl (h1 _ rfl)
  ·exact absurd rfl (h2 _ _ rfl)
  ·rfl
theorem Zz:∀{ks:dv} {xs ys:aD},zx ks xs=some ys->∀(M:ar) (c:aD->ar->Option R),ru ks xs M c=c ys M
 | [],xs,ys,h,M,c=>by
   cases xs<;>(simp only [zx,Option.some.injEq]at h;subst h;rfl)
 |k::ks,[],ys,h,M,c=>by simp only [zx,Option.some.injEq]at h;subst h;rfl
 |k::ks,x::xs,ys,h,M,c=>by
  simp only [zx]at h;split at h
  ·rename_i y hy;split at h
   ·rename_i zs hz;injection h with h;subst h;simp only [ru];rw [aqy hy,Zz hz]
   ·cases h
  ·cases h
def uU(X:Cx)(t:TypeId)(p x:AV)(M:ar):Option (Nat×bU):=
 match p with
 | .ptr id i off=>
   match gm M id with
   |some (.var ks cs)=>
    (match x.plain&&(X.ti t).ok &&i==0&&x.cells.length==(X.ti t).size &&decide (off+(X.ti t).size <=ks.length)&&tB ks off x.cells with
     |true=>some (id,.var ks (setAt cs off x.cells))
     |false=>none)
   |some (.row t' xs)=>
    (match x.plain,zx (X.ti t).ks x.cells with
     |true,some xc=>
      (match(X.ti t).ok &&xc.length==(X.ti t).size &&decide (off+(X.ti t).size <=(X.K t').length)&&tB (X.K t') off xc&&decide (i<xs.length)with
       |true=>some (id,.row t' (xs.set i (setAt (xs.getD i []) off xc)))
       |false=>none)
     |_,_=>none)
   |_=>none
 |_=>none
def SX(X:Cx)(t:TypeId)(p x:AV)(M:ar)(k:Nat->bU->Option R):Option R:=
 match p with
 | .ptr id i off=>
   match gm M id with
   |some (.var ks cs)=>aB (x.plain&&(X.ti t).ok &&i==0&&x.cells.length==(X.ti t).size &&decide (off+(X.ti t).size <=ks.length)&&tB ks off x.cells) (k id (.var ks (setAt cs off x.cells)))
   |some (.row t' xs)=>
    (match x.plain,zx (X.ti t).ks x.cells with
     |true,some xc=>aB ((X.ti t).ok &&xc.length==(X.ti t).size &&decide (off+(X.ti t).size <=(X.K t').length)&&tB (X.K t') off xc&&decide (i<xs.length)) (k id (.row t' (xs.set i (setAt (xs.getD i []) off xc))))
     |_,_=>none)
   |_=>none
 |_=>none
theorem aoq{t:TypeId}{k:Nat->bU->Option R}(h:SX X t p x M k=some r):∃id b,uU X t p x M=some (id,b)∧k id b=some r:=by
 unfold SX at h;split at h
 ·split at h
  ·rename_i hb;obtain⟨hc,h⟩:=bG h;exact⟨_,_,by simp only [uU,hb,hc],h⟩
  ·rename_i hb;split at h
   ·rename_i hp fy;obtain⟨hc,h⟩:=bG h;exact⟨_,_,by simp only [uU,hb,hp,fy,hc],h⟩
   ·cases h
  ·cases h
 ·cases h
theorem Yo{t:TypeId}(h:uU X t p x M=some (id,b)):s7 p=[id]∧id<M.length∧∀(M0:ar),M0[id]?=M[id]?->∀(k:ar->Option R),Bf X t p x M0 k=k (M0.set id b):=by
 unfold uU at h;split at h
 ·rename_i id' i off;split at h
  ·rename_i ks cs hb;split at h
   ·rename_i hc;injection h with h;injection h with h1 h2;subst h1;subst h2;rw [cG]at hb;refine⟨rfl,(cy.1 hb).1,λM0 hM k=> ?_⟩;have px:M0[id']?=some (.var ks cs):=by rw [hM];exact hb
    unfold Bf;simp only [cG,px,hc,aB]
   ·cases h
  ·rename_i t' xs hb;split at h
   ·rename_i xc pj fy;split at h
    ·rename_i hc;injection h with h;injection h with h1 h2;subst h1;subst h2;rw [cG]at hb;refine⟨rfl,(cy.1 hb).1,λM0 hM k=> ?_⟩;have px:M0[id']?=some (.row t' xs):=by rw [hM];exact hb
     unfold Bf;simp only [cG,px,pj,aB];rw [Zz fy];simp only [cG,px,hc,aB]
    ·cases h
   ·cases h
  ·cases h
 ·cases h
theorem aop(hX:X.Okb){e:Operand->AV}{t:TypeId}{p x:Operand}(ho:o.op= .store t p x)(h:uU X t (e p) (e x) M=some (id,b)){M0:ar}(hM:M0[id]?=M[id]?):ev X o e M0 (.dc []) (M0.set id b):=by
 have h1:=(Yo (R:=AV×ar) h).2.2 M0 hM (λM'=>some (.dc [],M'));have h2:nw X (FA (AV×ar)) e o M0 (λx M=>some (x,M))=some (.dc [],M0.set id b):=by
  unfold nw;simp only [ho];exact h1
 obtain⟨x',M',cC,he,_⟩:=XU hX (ZT X _) h2;injection he with he;injection he with e1 e2;subst e1;subst e2;exact @cC
def B7(o:Oper):Bool:=match o.op with| .store _ _ _=>true|_=>false
def im(t:bp):Bool:= !t.q&&B7 t.o
def cM(t:bp):Nat:=t.ids.headD 0
def L4(t:bp):bU:=(t.M'[cM t]?).getD .dead
def uX(X:Cx)(t:bp):Option (Nat×aD):=match t.o.op with| .store _ p x=>(match gT X (ir (fu t.o) t.env) p with| .ptr _ _ off=>some (off,(gT X (ir (fu t.o) t.env) x).cells)|_=>none)|_=>none
def kh(X:Cx)(t:bp)(b:bU):bU:=
 match b with
 | .var ks cs=>(match uX X t with|some q=> .var ks (setAt cs q.1 q.2)|none=>L4 t)
 |_=>L4 t
def isVar:Option bU->Bool|some (.var _ _)=>true|_=>false
def Ai(X:Cx)(t s:bp):Bool:=
 isVar (gm t.M (cM t))&&isVar (gm s.M (cM s))&&(match uX X t,uX X s with|some a,some b=>decide (a.1+a.2.length<=b.1)||decide (b.1+b.2.length<=a.1)|_,_=>false)
def fe(M:ar)(id:Nat):bU:=(M[id]?).getD .dead
def kW(b b0:bU):Prop:=b0=b∨∃ks cs Aj,b= .var ks cs∧b0= .var ks Aj
theorem kW.refl(b:bU):kW b b:= .inl rfl
theorem kW.symm{b c:bU}(h:kW b c):kW c b:=by
 rcases h with h|⟨ks,cs,ds,h1,h2⟩
 ·exact .inl h.symm
 ·exact .inr ⟨ks,ds,cs,h2,h1⟩
theorem kW.trans{d:bU}(h:kW b c)(k:kW c d):kW b d:=by
 rcases h with h|⟨ks,cs,ds,h1,h2⟩
 ·subst h;exact k
 ·rcases k with k|⟨qH,qj,ds',k1,k2⟩
  ·subst k;exact .inr ⟨ks,cs,ds,h1,h2⟩
  ·rw [h2]at k1;injection k1 with e1 e2;subst e1;exact .inr ⟨ks,cs,ds',h1,k2⟩
theorem kW.up(h:kW b c):kW (kh X t b) (kh X t c):=by
 rcases h with h|⟨ks,cs,ds,h1,h2⟩
 ·subst h;exact .refl _
 ·subst h1;subst h2;unfold kh;split
  ·rename_i qH qj e;injection e with e1 e2;subst e1;subst e2;split
   ·exact .inr ⟨_,_,_,rfl,rfl⟩
   ·exact .refl _
  ·rename_i h;exact absurd rfl (h _ _)
def zC(b:bU):Prop:=∃ks cs,b= .var ks cs
theorem kW.var(h:kW b c)(hb:zC b):zC c:=by
 rcases h with h|⟨ks,cs,ds,_,h2⟩
 ·subst h;exact hb
 ·exact⟨_,_,h2⟩
theorem kW.upr(h:kW b c)(hb:zC c)(hr:(uX X t).isSome =true):kW b (kh X t c):=by
 refine h.trans ?_;obtain⟨ks,cs,rfl⟩:=hb;cases hq:uX X t with
 |none=>rw [hq]at hr;cases hr
 |some q=>exact .inr ⟨ks,cs,setAt cs q.1 q.2,rfl,by simp only [kh,hq]⟩
theorem YA(h:isVar (gm M id)=true):zC (fe M id):=by
 rw [cG]at h;unfold isVar at h;split at h
 ·rename_i ks cs hb;exact⟨ks,cs,by unfold fe;rw [hb];rfl⟩
 ·cases h
theorem IF(h:Ai X t s=true):zC (fe t.M (cM t))∧zC (fe s.M (cM s))∧∃a b,uX X t=some a∧uX X s=some b∧(a.1+a.2.length<=b.1∨b.1+b.2.length<=a.1):=by
 unfold Ai at h;rw [bc,bc]at h;refine⟨YA h.1.1,YA h.1.2,?_⟩;have h:=h.2;split at h
 ·rename_i a b ha hb;rw [sW,fr,fr]at h;exact⟨a,b,ha,hb,h⟩
 ·cases h
theorem Yr:∀(xs cs:aD) (off i:Nat) (x:AV),(i<off∨off+xs.length<=i)->setAt (cs.set i x) off xs=(setAt cs off xs).set i x
 | [],_,_,_,_,_=>rfl
 |y::xs,cs,off,i,x,h=>by
  have h:i<off∨off+(xs.length+1)<=i:=h;simp only [setAt];rw [List.set_comm _ _ (by omega),Yr xs _ _ _ _ (by omega)]
theorem X5:∀(xs ys cs:aD) (o1 o2:Nat),(o1+xs.length<=o2∨o2+ys.length<=o1)->setAt (setAt cs o1 xs) o2 ys=setAt (setAt cs o2 ys) o1 xs
 | [],_,_,_,_,_=>rfl
 |x::xs,ys,cs,o1,o2,h=>by
  have h:o1+(xs.length+1)<=o2∨o2+ys.length<=o1:=h;simp only [setAt];rw [X5 xs ys _ _ _ (by omega),Yr ys _ _ _ _ (by omega)]
theorem apX(h:Ai X t s=true)(hb:zC b):kh X t (kh X s b)=kh X s (kh X t b):=by
 obtain⟨_,_,a,c,h1,h2,h3⟩:=IF h;obtain⟨ks,cs,rfl⟩:=hb;simp only [kh,h1,h2];rw [X5 _ _ _ _ _ (by omega)]
def n6(X:Cx)(ops:Array Oper)(t s:bp):Bool:=
 !(t.i==s.i)&& !(t.o.dst.isSome&&t.o.dst==s.o.dst)&&
 (t.cl.testBit s.i||
   (!rr s.o.dst (fu t.o++guardOf ops t.o)&& !rr t.o.dst (fu s.o++guardOf ops s.o)&&
     match t.q,s.q with
     |true,true=>true
     |false,false=>im t&&im s&&(match Nat.beq (cM t) (cM s)with|true=>Ai X t s|false=>true)
     |true,false=>t.ids.all λid=>s.keeps id
     |false,true=>(match im t with|true=>s.ids.all λid=> !(Nat.beq id (cM t))|false=>s.ids.all λid=>t.keeps id)))
theorem nR{ops:Array Oper}(h:n6 X ops t s=true):t.i≠s.i∧(∀d,t.o.dst=some d->s.o.dst≠some d)∧
 (t.cl.testBit s.i=true∨((∀d,s.o.dst=some d->d∉fu t.o++guardOf ops t.o)∧(∀d,t.o.dst=some d->d∉fu s.o++guardOf ops s.o)∧(t.q=false->s.q=false->im t=true∧im s=true∧(cM t≠cM s∨Ai X t s=true))∧
   (t.q=true->s.q=false->∀id∈t.ids,s.rl id)∧(t.q=false->s.q=true->∀id∈s.ids,(im t=true->id≠cM t)∧(im t=false->t.rl id)))):=by
 unfold n6 at h;rw [bc,bc,sW]at h;obtain⟨⟨h1,h2⟩,h3⟩:=h;refine⟨qu,λd hd hs=>by simp [hd,hs]at h2,?_⟩;rcases h3 with h3|h3
 ·exact .inl h3
 ·refine .inr ?_;rw [bc,bc]at h3;obtain⟨⟨h4,h5⟩,h6⟩:=h3;refine⟨IC h4,IC h5,?_,?_,?_⟩
  ·intro ht hs;rw [ht,hs]at h6;simp only [bc,nU]at h6;refine⟨h6.1.1,h6.1.2,?_⟩;have h6:=h6.2;split at h6
   ·exact .inr h6
   ·rename_i hb;exact .inl λe=>by rw [e,Nat.beq_refl]at hb;cases hb
  ·exact R8
  ·intro ht hs id aA;rw [ht,hs]at h6;simp only at h6;constructor
   ·intro hl;rw [hl]at h6;have:=iQ.1 h6 id aA;intro e;rw [e]at this;simp at this
   ·intro hl;rw [hl]at h6;exact bp.Yh (iQ.1 h6 id aA)
def bp.ael(X:Cx)(nt:Nt)(ops:Array Oper)(t:bp):Prop:=
 ∀{M0:ar} {b b0:bU},t.M[cM t]?=some b->M0[cM t]?=some b0->kW b b0->
  ∀{rdc:Cy} {n:Nat} {w0:World} {S:Sc} {F:aO} {ρ:aT} {a:Act} {w:World} {Q:Exit->Act->World->Prop} {K:Act->World->Prop},Inv X w0 S F ρ M0 w->a.tmps.size=nt.n->
   (∀u∈fu t.o++guardOf ops t.o,aw X.K ρ F w (look t.env u) (a.tmps.getD u undef))->
   (∀v w' F' ρ',Inv X w0 S F' ρ' (M0.set (cM t) (kh X t b0)) w'->aw X.K ρ' F' w' t.x v->bH F F' ρ ρ' w w'->K (a.put t.o.dst v) w')->wpOpIn (jP rdc.r) n X.P ops Q t.i K a w
structure SD(X:Cx)(nt:Nt)(ops:Array Oper)(t:bp)(log:List bp)(fK:bA)(M1:ar)(env:bA)(M:ar):Prop where
 FT:∀u,look t.env u=look fK u
 hM:t.M=M1
 hq:t.q=true->t.M'=t.M
 ei:t.q=false->cz t.ids t.M t.M'
 runs:im t=false->t.Ld X nt ops
 lc:im t=true->t.ael X nt ops∧cM t<t.M.length∧t.M'=t.M.set (cM t) (kh X t (fe t.M (cM t)))
 op:ops[t.i]?=some t.o
 dst:∀d,t.o.dst=some d->d<nt.n∧nt.mask.testBit d=true
 pair:∀s∈log,n6 X ops t s=true
 pre:∀e∈t.o.after,Region.binds .any e=true->∃s∈log,s.i=e.on
 cl:∀w,t.cl.testBit w=true->∃e∈t.o.after,Region.binds .any e=true∧(w=e.on∨∃s∈log,s.i=e.on∧s.cl.testBit w=true)
 lk:∀u,look env u=(if t.o.dst=some u then t.x else look fK u)
 mem:M=t.M'
def c8(X:Cx)(nt:Nt)(ops:Array Oper)(env0:bA)(M0:ar):List bp->bA->ar->Prop
 | [],env,M=>(∀u,look env u=look env0 u)∧M=M0
 |t::log,env,M=>∃fK M1,c8 X nt ops env0 M0 log fK M1∧SD X nt ops t log fK M1 env M
def dt(X:Cx)(M0:ar)(L:Array Bool):List bp->ar
 | []=>M0
 |t::log=>if t.q=false∧bJ L t.i then(if im t=true then(dt X M0 L log).set (cM t) (kh X t (fe (dt X M0 L log) (cM t)))else t.M')else dt X M0 L log
theorem arM(h:im t=true):t.q=false:=by
 unfold im at h;rw [bc]at h;simpa using h.1
section
variable {nt:Nt} {ops:Array Oper} {env0:bA} {M0:ar} {L:Array Bool}
theorem c8.look:∀{log:List bp} {env:bA} {M:ar},c8 X nt ops env0 M0 log env M->∀u,(∃s∈log,s.o.dst=some u∧ae.look env u=s.x)∨((∀s∈log,s.o.dst≠some u)∧ae.look env u=ae.look env0 u)
 | [],env,M,⟨h,_⟩,u=> .inr ⟨λs hs=>by simp at hs,h u⟩
 |t::log,env,M,⟨_,_,hl,st⟩,u=>by
  rw [st.lk u];split
  ·rename_i hd;exact .inl ⟨t,dI,hd,rfl⟩
  ·rename_i hd;rcases c8.look hl u with⟨s,hs,h⟩|⟨h1,h2⟩
   ·exact .inl ⟨s,eQ _ hs,h⟩
   ·exact acr
theorem c8.closed:∀{log:List bp} {env:bA} {M:ar},c8 X nt ops env0 M0 log env M->qp L log->∀t∈log,(∀e∈t.o.after,Region.binds .any e=true->bJ L e.on)->∀w,t.cl.testBit w=true->bJ L w
 | [],_,_,_,_,t,ht,_,_,_=>by simp at ht
 |t::log,_,_,⟨_,_,hl,st⟩,dy,s,hs,hp,w,hw=>by
  have ih:=c8.closed hl (λa ha=>dy a (eQ _ ha));exact adE
theorem c8.entry{t:bp}{l1:List bp}:∀{l2:List bp} {fR:bA} {M':ar},c8 X nt ops env0 M0 (l2++t::l1) fR M'->∃fK M1 env M,c8 X nt ops env0 M0 l1 fK M1∧SD X nt ops t l1 fK M1 env M
 | [],_,_,⟨_,_,hl,st⟩=>⟨_,_,_,_,hl,st⟩
 |_::l2,_,_,⟨_,_,hl,_⟩=>c8.entry (l2:=l2) hl
theorem c8.distinct:∀{env:bA} {M:ar},c8 X nt ops env0 M0 log env M->∀s∈log,∀t∈log,s.i=t.i->s=t:=by
 induction log with
 |nil=>exact Ji
 |cons a log ih=>
  intro env M h s hs t ht e;obtain⟨_,_,hl,st⟩:=h;rcases dA.1 hs with rfl|bX<;>rcases dA.1 ht with rfl|sA
  ·rfl
  ·exact absurd e (nR (st.pair t sA)).1
  ·exact absurd e.symm (nR (st.pair s bX)).1
  ·exact ih hl s bX t sA e
theorem c8.dst{log:List bp}:∀{env:bA} {M:ar},c8 X nt ops env0 M0 log env M->∀s∈log,∀t∈log,∀d,s.o.dst=some d->t.o.dst=some d->s=t:=by
 induction log with
 |nil=>exact Ji
 |cons a log ih=>
  intro env M h s hs t ht d h1 h2;obtain⟨_,_,hl,st⟩:=h;rcases dA.1 hs with rfl|bX<;>rcases dA.1 ht with rfl|sA
  ·rfl
  ·exact absurd h2 ((nR (st.pair t sA)).2.1 d h1)
  ·exact absurd h1 ((nR (st.pair s bX)).2.1 d h2)
  ·exact ih hl s bX t sA d h1 h2
theorem c8.sX:∀{log:List bp} {env:bA} {M:ar},c8 X nt ops env0 M0 log env M->(∀s∈log,s.q=false->bJ L s.i)->dt X M0 L log=M
 | [],_,_,⟨_,h⟩,_=>h.symm
 |t::log,_,_,⟨_,_,hl,st⟩,h=>by
  have ih:=c8.sX hl (λs hs=>h s (eQ _ hs));simp only [dt];cases hq:t.q with
  |false=>
   rw [if_pos ⟨rfl,h t dI hq⟩];split
   ·rename_i jq;rw [ih,<-st.hM,st.mem];exact(st.lc jq).2.2.symm
   ·exact st.mem.symm
  |true=>rw [if_neg (by simp),ih,st.mem,st.hq hq,st.hM]
theorem c8.Em:∀{log:List bp} {env:bA} {M:ar},c8 X nt ops env0 M0 log env M->(∀s∈log,s.q=false->im s=false->bJ L s.i)->(dt X M0 L log).length =M.length
 | [],_,_,⟨_,h⟩,_=>iF
 |t::log,_,_,⟨_,_,hl,st⟩,h=>by
  have ih:=c8.Em hl (λs hs=>h s (eQ _ hs));simp only [dt];cases hq:t.q with
  |true=>rw [if_neg (by simp),ih,st.mem,st.hq hq,st.hM]
  |false=>
   cases jq:im t with
   |true=>
    have hm:=(st.lc jq).2.2
    by_cases dq:bJ L t.i
    ·rw [if_pos ⟨rfl,dq⟩,if_pos rfl,rR,ih,st.mem,hm,rR,st.hM]
    ·rw [if_neg (λhh=>dq hh.2),ih,st.mem,hm,rR,st.hM]
   |false=>rw [if_pos ⟨rfl,h t dI hq jq⟩,if_neg (by simp),st.mem]
theorem aqQ{fK:bA}{M1:ar}(st:SD X nt ops t log fK M1 env M)(jq:im t=true):t.M'[cM t]?=some (kh X t (fe t.M (cM t))):=by
 obtain⟨_,h2,h3⟩:=st.lc jq;rw [h3,hY h2]
theorem c8.aac{t:bp}{l1:List bp}{id:Nat}(gN:¬bJ L t.i){v:Option bU}:
 ∀{l2:List bp} {fR:bA} {M':ar},c8 X nt ops env0 M0 (l2++t::l1) fR M'->qp L (l2++t::l1)->(dt X M0 L (t::l1))[id]?=v->
  (∀s∈l2,s.q=false->bJ L s.i->n6 X ops s t=true->im s=true->id≠cM s)->(∀s∈l2,s.q=false->bJ L s.i->n6 X ops s t=true->im s=false->∀l env M,c8 X nt ops env0 M0 (s::l) env M->s.M'[id]?=s.M[id]?)->
  (dt X M0 L (l2++t::l1))[id]?=v
 | [],_,_,_,_,h0,_,_=>h0
 |s::l2,fR,M',hL,dy,h0,h1,h2=>by
  obtain⟨_,_,hl,st⟩:=_root_.id hL;have ih:=c8.aac gN (l2:=l2) hl (λa ha=>dy a (eQ _ ha)) h0 (λr hr=>h1 r (eQ _ hr)) (λr hr=>h2 r (eQ _ hr));simp only [iR,dt]
  by_cases hc:s.q=false∧bJ L s.i
  ·have hp:=st.pair t (jc _ dI);rw [if_pos hc];split
   ·rename_i jq;rw [fP (Ne.symm (h1 s dI hc.1 hc.2 hp jq))];exact ih
   ·rename_i jq;have afO:im s=false:=by simpa using jq
    rw [h2 s dI hc.1 hc.2 hp afO _ _ _ hL,st.hM];rw [<-ih];have iC:=c8.closed (L:=L) hL dy s dI (dy s dI hc.2);have:dt X M0 L (l2++t::l1)=_:=c8.sX (L:=L) hl λr hr lv=>by
     obtain⟨_,_,h|⟨_,_,h,_⟩⟩:=nR (st.pair r hr)
     ·exact iC _ h
     ·have:=(h hc.1 lv).1;rw [afO]at this;cases this
    rw [this]
  ·rw [if_neg hc];exact ih
theorem c8.reads{t:bp}{l1:List bp}(gN:¬bJ L t.i){u:Nat}(hu:u∈fu t.o++guardOf ops t.o){P:AV->Prop}:
 ∀{l2:List bp} {fR:bA} {M':ar},c8 X nt ops env0 M0 (l2++t::l1) fR M'->qp L (l2++t::l1)->(∀e∈t.o.after,Region.binds .any e=true->bJ L e.on)->
  (∀s∈l1,t.cl.testBit s.i=true->s.o.dst=some u->P s.x)->((∀s∈l2++t::l1,bJ L s.i->s.o.dst≠some u)->P (ae.look env0 u))->P (ae.look t.env u)
 | [],fR,M',hL,dy,iK,hw,h0=>by
   obtain⟨_,_,hl,st⟩:=hL;rw [st.FT u];rcases c8.look hl u with⟨s,hs,hd,he⟩|⟨hn,he⟩
   ·rw [he];refine hw s hs ?_ hd;obtain⟨_,_,h|⟨h,_⟩⟩:=nR (st.pair s hs)
    ·exact h
    ·exact absurd hu (h u hd)
   ·exact acC
 |s::l2,fR,M',hL,dy,iK,hw,h0=>by
  obtain⟨_,_,hl,st⟩:=_root_.id hL;refine c8.reads gN hu (l2:=l2) hl (λa ha=>dy a (eQ _ ha)) iK hw λhn=>h0 λr hr tR hd=> ?_;rcases dA.1 hr with rfl|hr
  ·have iC:=c8.closed (L:=L) hL dy r dI (dy r dI tR);obtain⟨_,_,h|⟨_,h,_⟩⟩:=nR (st.pair t (jc _ dI))
   ·exact gN (iC _ h)
   ·exact h u hd hu
  ·exact hn r hr tR hd
theorem OY{L':Array Bool}:∀{log:List bp},(∀s∈log,s.q=false->(bJ L s.i ↔ bJ L' s.i))->dt X M0 L log=dt X M0 L' log
 | [],_=>rfl
 |t::log,h=>by
  have ih:=OY (L':=L') (log:=log) λs hs=>h s (eQ _ hs);simp only [dt]
  by_cases hq:t.q=false
  ·have:=h t dI hq
   by_cases dq:bJ L t.i
   ·rw [ih,if_pos ⟨hq,dq⟩];exact(if_pos ⟨hq,this.1 dq⟩).symm
   ·rw [if_neg (λhh=>dq hh.2),if_neg (λhh=>dq (this.2 hh.2)),ih]
  ·rw [if_neg (λhh=>hq hh.1),if_neg (λhh=>hq hh.1),ih]
end
structure af7(X:Cx)(nt:Nt)(env0:bA)(M0:ar)(w0:World)(S:Sc)(F0:aO)(ρ0:aT)(wb:World)(ds:List Deferred)(tv:Nat->Value)(log:List bp)(L:Array Bool)(F:aO)(ρ:aT)(a:Act)(w:World):Prop where
 inv:Inv X w0 S F ρ (dt X M0 L log) w
 grow:bH F0 F ρ0 ρ wb w
 size:a.tmps.size=nt.n
 defs:a.defers=ds
 kept:∀t,nt.mask.testBit t=false->a.tmps.getD t undef=tv t
 wrote:∀s∈log,bJ L s.i->∀d,s.o.dst=some d->aw X.K ρ F w s.x (a.tmps.getD d undef)
 dQ:∀u,(∀s∈log,bJ L s.i->s.o.dst≠some u)->aw X.K ρ F w (ae.look env0 u) (a.tmps.getD u undef)
section
variable {nt:Nt} {ops:Array Oper} {env0:bA} {M0:ar}
theorem aoT{rdc:Cy}{n:Nat}{w0 wb:World}{S:Sc}{F0:aO}{ρ0:aT}{ds:List Deferred}{tv:Nat->Value}{Q:Exit->Act->World->Prop}(hL:c8 X nt ops env0 M0 log env M)
 (iy:∀i,i<ops.size->∃t∈log,t.i=i)
 (hQ:∀a' w' F' ρ',Inv X w0 S F' ρ' M w'->gX X ρ' F' w' env a'.tmps->a'.tmps.size=nt.n->a'.defers=ds->(∀t,nt.mask.testBit t=false->a'.tmps.getD t undef=tv t)->bH F0 F' ρ0 ρ' wb w'->Q .normal a' w'):
 ∀(fuel:Nat) (L:Array Bool) (F:aO) (ρ:aT) (a:Act) (w:World),L.size=ops.size->log.countP (λt=> !(L.getD t.i false))<=fuel->qp L log->
  af7 X nt env0 M0 w0 S F0 ρ0 wb ds tv log L F ρ a w->wpAnyIn (jP rdc.r) n X.P .any ops Q fuel L a w:=by
 have done:∀(L:Array Bool) (F:aO) (ρ:aT) (a:Act) (w:World),(∀t∈log,bJ L t.i)->af7 X nt env0 M0 w0 S F0 ρ0 wb ds tv log L F ρ a w->Q .normal a w:=by
  intro L F ρ a w dq hm;refine hQ a w F ρ ?_ (λu=> ?_) hm.size hm.defs hm.kept hm.grow
  ·have:=c8.sX hL (L:=L) (λs hs _=>dq s hs);rw [<-this];exact hm.inv
  ·rcases c8.look hL u with⟨s,hs,hd,he⟩|⟨hn,he⟩
   ·rw [he];exact hm.wrote s hs (dq s hs) u hd
   ·rw [he];exact hm.dQ u λs hs _=>hn s hs
 have none_ready:∀(L:Array Bool),L.size=ops.size->Region.ready .any ops L=[]->∀t∈log,bJ L t.i:=by
  intro L cX hr;have key:∀(l1:List bp) (l2:List bp) (fR:bA) (M':ar),c8 X nt ops env0 M0 l1 fR M'->l2++l1=log->∀t∈l1,bJ L t.i:=afw;exact λt ht=>key log [] env M hL rfl t ht
 intro fuel
 induction fuel with
 |zero=>
  intro L F ρ a w cX TE dy hm;have dq:∀t∈log,bJ L t.i:=adK;refine⟨?_,done L F ρ a w dq hm⟩;exact adS
 |succ fuel ih=>
  intro L F ρ a w cX TE dy hm;refine⟨λhr=>done L F ρ a w (none_ready L cX hr) hm,λi hi=> ?_⟩;rw [Ir]at hi;obtain⟨hf,o,ho,iK⟩:=hi;have aY:i<ops.size:=(sS.1 ho).1;obtain⟨t,ht,rfl⟩:=iy i aY;have Tw:t.i<L.size:=by omega
  have gN:¬bJ L t.i:=ach;obtain⟨l2,l1,rfl⟩:=oJ ht;obtain⟨fK,M1,ayR,ME,gS,st⟩:=c8.entry hL;have UD:t.o=o:=ab2;subst UD;have tI:=c8.closed (L:=L) hL dy t ht iK;have afV:∀s∈l2++t::l1,bJ L s.i->∀w,s.cl.testBit w=true->bJ L w:=λs hs cO=>c8.closed (L:=L) hL dy s hs (dy s hs cO);have lq:∀j,bJ (L.setIfInBounds t.i true) j ↔ j=t.i∨bJ L j:=adr;have dQ:∀(id:Nat),(∀s∈l1,s.q=false->t.cl.testBit s.i=true∨s.rl id)->(dt X M0 L l1)[id]?=t.M[id]?:=by
   intro id hk;rw [st.hM];have key:∀(l l':List bp) (e:bA) (N:ar),l'++l=l1->c8 X nt ops env0 M0 l e N->(dt X M0 L l)[id]?=N[id]?:=by
    intro l
    induction l with
    |nil=>intro _ _ _ _ h;rw [h.2];rfl
    |cons s l xW=>
     intro l' e N vL GI;obtain⟨_,_,kS,iA⟩:=GI;have rH:=xW (l'++[s]) _ _ (by simpa using vL) kS;have eu:s∈l1:=Rr;have hsm:s∈l2++t::l1:=jc _ (eQ _ eu);simp only [dt];cases fb:s.q with
     |true=>rw [if_neg (by simp),rH,iA.mem,iA.hq fb,iA.hM]
     |false=>
      by_cases dq:bJ L s.i
      ·rw [if_pos ⟨rfl,dq⟩];split
       ·rename_i jq;obtain⟨_,h2,h3⟩:=iA.lc jq;have hlen:(dt X M0 L l).length =s.M.length:=adO
        by_cases aA:id=cM s
        ·subst aA;have px:fe (dt X M0 L l) (cM s)=fe s.M (cM s):=by unfold fe;rw [rH,iA.hM]
         rw [hY (by omega),iA.mem,aqQ iA jq,px]
        ·rw [fP (Ne.symm aA),rH,iA.mem,h3,fP (Ne.symm aA),iA.hM]
       ·exact wj (·[id]?) iA.mem.symm
      ·rw [if_neg (λhh=>dq hh.2),rH];rcases hk s eu fb with h|h
       ·exact absurd (tI _ h) dq
       ·rw [iA.mem,h.at (iA.ei fb),iA.hM]
   exact key l1 [] _ _ rfl gS
  have uQ:dt X M0 L (t::l1)=dt X M0 L l1:=by
   simp only [dt];rw [if_neg λhh=>gN hh.2]
  have new:∀(id:Nat),(∀s∈l2,s.q=false->bJ L s.i->n6 X ops s t=true->im s=true->id≠cM s)->(∀s∈l2,s.q=false->bJ L s.i->n6 X ops s t=true->im s=false->s.rl id)->(dt X M0 L l1)[id]?=t.M[id]?->(dt X M0 L (l2++t::l1))[id]?=t.M[id]?:=by
   intro id h1 h2 h0;refine c8.aac gN hL dy (by rw [uQ];exact h0) h1 λs hs fb cO hp jq l env M U4=> ?_;obtain⟨_,_,_,jO⟩:=U4;exact(h2 s hs fb cO hp jq).at (jO.ei fb)
  have fin:∀(F2:aO) (ρ2:aT) (v:Value) (w2:World),Inv X w0 S F2 ρ2 (dt X M0 (L.setIfInBounds t.i true) (l2++t::l1)) w2->bH F F2 ρ ρ2 w w2->aw X.K ρ2 F2 w2 t.x v->wpAnyIn (jP rdc.r) n X.P .any ops Q fuel (L.setIfInBounds t.i true) (a.put t.o.dst v) w2:=by
   intro F' ρ' v w' c6 hg hx;refine ih (L.setIfInBounds t.i true) F' ρ' _ w' (EM) ?_ ?_ ⟨c6,hm.grow.trans hg,aa6,aa2,?_,?_,?_⟩
   ·have:=Pp (l:=l2++t::l1) (p:=λt=> !(L.getD t.i false)) (q:=λs=> !((L.setIfInBounds t.i true).getD s.i false)) (λs hs h=>by
     have h':¬bJ (L.setIfInBounds t.i true) s.i:=by simpa [bJ]using h
     rw [lq]at h';have:¬bJ L s.i:=λhh=>h' (.inr hh);simpa [bJ]using this) ⟨t,ht,by simpa [bJ]using gN,aby⟩
    omega
   ·intro s hs cO e he hb;rw [lq]at cO⊢;rcases cO with h|h
    ·have:=c8.distinct hL s hs t ht h;subst this;exact .inr (iK e he hb)
    ·exact .inr (dy s hs h e he hb)
   ·exact acj
   ·intro s hs cO d hd;rw [lq]at cO
    by_cases cY:s=t
    ·subst cY;have vg:=(st.dst d hd).1;have:(a.put s.o.dst v).tmps.getD d undef=v:=aaT;rw [this];exact hx
    ·have rq:bJ L s.i:=by
      rcases cO with h|h
      ·exact absurd (c8.distinct hL s hs t ht h) cY
      ·exact h
     have:(a.put t.o.dst v).tmps.getD d undef=a.tmps.getD d undef:=by
      cases zX:t.o.dst with
      |none=>rfl
      |some d'=>
       have c9:d'≠d:=λe=>cY (c8.dst hL s hs t ht d hd (e▸zX));exact Rg
     rw [this];exact(hm.wrote s hs rq d hd).grow hg
   ·intro u hu;have xY:t.o.dst≠some u:=hu t ht ((lq _).2 (.inl rfl));have:(a.put t.o.dst v).tmps.getD u undef=a.tmps.getD u undef:=adp;rw [this];exact abu
  have acK:∀u∈fu t.o++guardOf ops t.o,aw X.K ρ F w (ae.look t.env u) (a.tmps.getD u undef):=λu hu=>
   c8.reads (P:=λx=>aw X.K ρ F w x (a.tmps.getD u undef)) gN hu hL dy iK (λs hs sF hd=>hm.wrote s (jc _ (eQ _ hs)) (tI _ sF) u hd) (hm.dQ u)
  have yX:∀s∈l2,bJ L s.i->n6 X ops s t=true->(t.q=false->s.q=false->im s=true∧im t=true∧(cM s≠cM t∨Ai X s t=true))∧(s.q=false->t.q=true->∀id∈t.ids,(im s=true->id≠cM s)∧(im s=false->s.rl id)):=by
   intro s hs cO hp;obtain⟨_,_,h|⟨_,_,h1,_,h2⟩⟩:=nR hp
   ·exact absurd (afV s (uq _ hs) cO _ h) gN
   ·exact⟨λa b=>h1 b a,λa b=>h2 a b⟩
  cases jq:im t with
  |true=>
   have qb:=arM jq;obtain⟨cC,KU,tY⟩:=st.lc jq;have lens:∀(b:List bp),(∀s∈b,s∈l2)->(dt X M0 L (b++t::l1)).length =t.M.length:=by
    intro b
    induction b with
    |nil=>
     intro _;rw [jR,uQ,st.hM];refine c8.Em gS λr hr lv nL=> ?_;obtain⟨_,_,h|⟨_,_,h,_⟩⟩:=nR (st.pair r hr)
     ·exact tI _ h
     ·have:=(h qb lv).2.1;rw [nL]at this;cases this
    |cons s b sw=>
     intro hb;have tD:=sw (λr hr=>hb r (eQ _ hr));have ml:=hb s dI;obtain⟨m2,m1,gq⟩:=oJ ml;have mH:c8 X nt ops env0 M0 (m2++s::(m1++t::l1)) env M:=Jr;obtain⟨_,_,_,_,_,vz⟩:=c8.entry mH;have hp:n6 X ops s t=true:=vz.pair t (jc _ dI);simp only [iR,dt]
     by_cases hc:s.q=false∧bJ L s.i
     ·obtain⟨xZ,_,_⟩:=(yX s ml hc.2 hp).1 qb hc.1;rw [if_pos hc,if_pos xZ,rR,tD]
     ·rw [if_neg hc];exact tD
   have c1:kW (fe t.M (cM t)) (fe (dt X M0 L l1) (cM t)):=by
    rw [st.hM];have key:∀(l l':List bp) (e:bA) (N:ar),l'++l=l1->c8 X nt ops env0 M0 l e N->kW (fe N (cM t)) (fe (dt X M0 L l) (cM t)):=by
     intro l
     induction l with
     |nil=>intro _ _ _ _ h;rw [h.2];exact .refl _
     |cons s l xW=>
      intro l' e N vL GI;obtain⟨_,_,kS,iA⟩:=GI;have rH:=xW (l'++[s]) _ _ (by simpa using vL) kS;have eu:s∈l1:=Rr;have hsm:s∈l2++t::l1:=jc _ (eQ _ eu);simp only [dt];cases fb:s.q with
      |true=>rw [if_neg (by simp),iA.mem,iA.hq fb,iA.hM];exact rH
      |false=>
       by_cases dq:bJ L s.i
       ·rw [if_pos ⟨rfl,dq⟩];split
        ·rename_i ays;obtain⟨_,h2,h3⟩:=iA.lc ays;have hlen:(dt X M0 L l).length =s.M.length:=adO;rw [iA.mem,h3]
         by_cases aA:cM s=cM t
         ·unfold fe;rw [<-aA,hY h2,hY (by omega)];rw [<-aA,<-iA.hM]at rH;exact rH.up
         ·unfold fe;rw [fP aA,fP aA,iA.hM];exact rH
        ·rw [iA.mem];exact .refl _
       ·rw [if_neg (λhh=>dq hh.2)];have as3:s.rl (cM t)∨(im s=true∧cM t=cM s∧Ai X t s=true):=by
         obtain⟨_,_,h|⟨_,_,h,_⟩⟩:=nR (st.pair s eu)
         ·exact absurd (tI _ h) dq
         ·obtain⟨_,h2,h3⟩:=h qb fb
          by_cases aA:cM t=cM s
          ·exact .inr ⟨h2,aA,h3.resolve_left λhh=>hh aA⟩
          ·refine .inl (.inr ?_);rw [(iA.lc h2).2.2,fP (Ne.symm aA)]
        rcases as3 with hk|⟨h2,aA,hd⟩
        ·have:fe N (cM t)=fe s.M (cM t):=by unfold fe;rw [iA.mem,hk.at (iA.ei fb)]
         rw [this,iA.hM];exact rH
        ·obtain⟨_,v2,a,c,_,r2,_⟩:=IF hd;obtain⟨_,q2,q3⟩:=iA.lc h2;have:fe N (cM t)=kh X s (fe s.M (cM t)):=by
          rw [iA.mem,q3,aA];unfold fe;rw [hY q2];rfl
         rw [this];rw [<-aA]at v2;rw [<-iA.hM]at rH;exact((kW.refl _).upr v2 (by rw [r2];rfl)).symm.trans rH
    exact key l1 [] _ _ rfl gS
   have c2:∀(b:List bp),(∀s∈b,s∈l2)->kW (fe t.M (cM t)) (fe (dt X M0 L (b++t::l1)) (cM t)):=by
    intro b
    induction b with
    |nil=>intro _;rw [jR,uQ];exact c1
    |cons s b sw=>
     intro hb;have tD:=sw (λr hr=>hb r (eQ _ hr));have hlen:=lens b (λr hr=>hb r (eQ _ hr));have ml:=hb s dI;obtain⟨m2,m1,gq⟩:=oJ ml;have mH:c8 X nt ops env0 M0 (m2++s::(m1++t::l1)) env M:=Jr;obtain⟨_,_,_,_,_,vz⟩:=c8.entry mH;have hp:n6 X ops s t=true:=vz.pair t (jc _ dI);simp only [iR,dt]
     by_cases hc:s.q=false∧bJ L s.i
     ·obtain⟨xZ,_,c9⟩:=(yX s ml hc.2 hp).1 qb hc.1;rw [if_pos hc,if_pos xZ]
      by_cases aA:cM s=cM t
      ·have hd:=c9.resolve_left λhh=>hh aA;obtain⟨_,v2,a,c,r1,_,_⟩:=IF hd;have:fe ((dt X M0 L (b++t::l1)).set (cM s) (kh X s (fe (dt X M0 L (b++t::l1)) (cM s)))) (cM t)=kh X s (fe (dt X M0 L (b++t::l1)) (cM t)):=by
        rw [aA]
        conv=>lhs;unfold fe
        rw [hY (by rw [hlen];exact KU)];rfl
       rw [this];exact tD.upr (tD.var v2) (by rw [r1];rfl)
      ·have:fe ((dt X M0 L (b++t::l1)).set (cM s) (kh X s (fe (dt X M0 L (b++t::l1)) (cM s)))) (cM t)=fe (dt X M0 L (b++t::l1)) (cM t):=by
        conv=>lhs;unfold fe
        rw [fP aA];rfl
       rw [this];exact tD
     ·rw [if_neg hc];exact tD
   have get:∀{N:ar},cM t<N.length->N[cM t]?=some (fe N (cM t)):=λ{N} h=>by unfold fe;rw [cJ h];rfl
   refine cC (M0:=dt X M0 L (l2++t::l1)) (get KU) (get (by rw [lens l2 λs hs=>hs];exact KU)) (c2 l2 λs hs=>hs) hm.inv hm.size acK ?_;intro v w' F' ρ' c6 hx hg;refine fin F' ρ' v w' ?_ hg hx;have iL:dt X M0 (L.setIfInBounds t.i true) (l2++t::l1)=(dt X M0 L (l2++t::l1)).set (cM t) (kh X t (fe (dt X M0 L (l2++t::l1)) (cM t))):=by
    have key:∀(b:List bp),(∀s∈b,s∈l2)->dt X M0 (L.setIfInBounds t.i true) (b++t::l1)=(dt X M0 L (b++t::l1)).set (cM t) (kh X t (fe (dt X M0 L (b++t::l1)) (cM t))):=by
     intro b
     induction b with
     |nil=>
      intro _;rw [jR,uQ];simp only [dt];rw [if_pos ⟨qb,(lq _).2 (.inl rfl)⟩,if_pos jq];have hcg:dt X M0 (L.setIfInBounds t.i true) l1=dt X M0 L l1:=by
       refine OY λs hs _=> ?_;rw [lq];exact⟨λh=>h.resolve_left λe=>(nR (st.pair s hs)).1 e.symm,.inr⟩
      rw [hcg]
     |cons s b sw=>
      intro hb;have tD:=sw (λr hr=>hb r (eQ _ hr));have ml:=hb s dI;have cY:s.i≠t.i:=by
       obtain⟨m2,m1,gq⟩:=oJ ml;have mH:c8 X nt ops env0 M0 (m2++s::(m1++t::l1)) env M:=Jr;obtain⟨_,_,_,_,_,vz⟩:=c8.entry mH;exact(nR (vz.pair t (jc _ dI))).1
      have hp:n6 X ops s t=true:=adL;simp only [iR,dt]
      by_cases hc:s.q=false∧bJ L s.i
      ·obtain⟨xZ,_,c9⟩:=(yX s ml hc.2 hp).1 qb hc.1;rw [if_pos ⟨hc.1,(lq _).2 (.inr hc.2)⟩,if_pos xZ,if_pos hc,if_pos xZ,tD];have Aa:=λr hr=>hb r (eQ _ hr);have hlen:=lens b Aa;have gv:=c2 b Aa;generalize dt X M0 L (b++t::l1)=N at hlen gv⊢;have ayq:cM t<N.length:=by rw [hlen];exact KU
       by_cases aA:cM s=cM t
       ·have hd:=c9.resolve_left λhh=>hh aA;obtain⟨_,v2,_⟩:=IF hd;have e1:∀y:bU,fe (N.set (cM t) y) (cM t)=y:=λy=>by unfold fe;rw [hY ayq];rfl
        rw [aA,e1,e1,AX,AX,apX hd (gv.var v2)]
       ·have e1:∀y:bU,fe (N.set (cM t) y) (cM s)=fe N (cM s):=λy=>by unfold fe;rw [fP (Ne.symm aA)]
        have e2:∀y:bU,fe (N.set (cM s) y) (cM t)=fe N (cM t):=λy=>by unfold fe;rw [fP aA]
        rw [e1,e2,List.set_comm _ _ aA]
      ·rw [if_neg hc,if_neg λhh=>hc ⟨hh.1,((lq _).1 hh.2).resolve_left cY⟩];exact tD
    exact key l2 λs hs=>hs
   rw [iL];exact c6
  |false=>
   refine st.runs jq (M0:=dt X M0 L (l2++t::l1)) (λhq id aA=> ?_) (λhq=> ?_) hm.inv hm.size acK ?_
   ·refine new _ (λs hs fb cO hp hl=>((yX s hs cO hp).2 fb hq id aA).1 hl) (λs hs fb cO hp hl=>((yX s hs cO hp).2 fb hq id aA).2 hl) (dQ _ λs hs fb=> ?_);obtain⟨_,_,h|⟨_,_,_,h,_⟩⟩:=nR (st.pair s hs)
    ·exact .inl h
    ·exact .inr (h hq fb id aA)
   ·have h1:dt X M0 L l1=t.M:=by
     rw [st.hM];refine c8.sX gS λs hs fb=> ?_;obtain⟨_,_,h|⟨_,_,h,_⟩⟩:=nR (st.pair s hs)
     ·exact tI _ h
     ·have:=(h hq fb).1;rw [jq]at this;cases this
    have key:∀(b:List bp),(∀s∈b,s∈l2)->dt X M0 L (b++t::l1)=dt X M0 L (t::l1):=by
     intro b
     induction b with
     |nil=>intro _;rfl
     |cons s b sw=>
      intro hb;have ml:=hb s dI;have hp:n6 X ops s t=true:=adL;simp only [iR,dt];rw [if_neg λhh=>by
       have:=((yX s ml hh.2 hp).1 hq hh.1).2.1;rw [jq]at this;cases this]
      rw [sw λr hr=>hb r (eQ _ hr)];rfl
    rw [key l2 λs hs=>hs,uQ,h1]
   ·intro v w' F' ρ' c6 hx hg;refine fin F' ρ' v w' ?_ hg hx;have iL:dt X M0 (L.setIfInBounds t.i true) (l2++t::l1)=if t.q then dt X M0 L (l2++t::l1)else t.M':=by
     cases hq:t.q with
     |true=>
      rw [if_pos rfl];refine OY λs hs fb=> ?_;rw [lq];constructor
      ·rintro(h|h)
       ·have:=c8.distinct hL s hs t ht h;subst this;rw [hq]at fb;cases fb
       ·exact h
      ·exact .inr
     |false=>
      rw [if_neg (by simp)];have key:∀(b:List bp),(∀s∈b,s∈l2)->dt X M0 (L.setIfInBounds t.i true) (b++t::l1)=t.M':=by
       intro b
       induction b with
       |nil=>
        intro _;simp only [jR,dt];rw [if_pos ⟨hq,(lq _).2 (.inl rfl)⟩,if_neg (by simp [jq])]
       |cons s b sw=>
        intro hb;have ml:=hb s dI;obtain⟨m2,m1,gq⟩:=oJ ml;have mH:c8 X nt ops env0 M0 (m2++s::(m1++t::l1)) env M:=Jr;obtain⟨_,_,_,_,_,vz⟩:=c8.entry mH;have hp:n6 X ops s t=true:=vz.pair t (jc _ dI);simp only [iR,dt];rw [if_neg λhh=>by
         have cO:bJ L s.i:=((lq _).1 hh.2).resolve_left (nR hp).1;have:=((yX s ml cO hp).1 hq hh.1).2.1;rw [jq]at this;cases this]
        exact sw λr hr=>hb r (eQ _ hr)
      exact key l2 λs hs=>hs
    rw [iL];exact c6
end
def rZ(X:Cx)(T:gg R)(ops:Array Oper)(t:bp)(st:St)(log:List bp)(k:List bp->St->Option R):Option R:=
 aB (log.all (n6 X ops t)) (pX T.nt st t.o.dst t.x t.M' λav=>k (t::log) av)
def FX(X:Cx)(T:gg R)(ops:Array Oper)(i:Nat)(o:Oper)(cl:Nat)(st:St)(log:List bp)(k:List bp->St->Option R):Option R:=
 match o.op with
 | .store ty p x=>
   SX X ty (gT X (ir (fu o) st.env) p) (gT X (ir (fu o) st.env) x) st.mem λid b=>match X.pk with
    |true=>rZ X T ops ⟨i,o,false,.dc [],[id],cl,st.env,st.mem,st.mem.set id b⟩ st log k
    |false=>Cc (st.mem.set id b) id λM'=>rZ X T ops ⟨i,o,false,.dc [],[id],cl,st.env,st.mem,M'⟩ st log k
 |_=>
 match uw X (gT X (ir (fu o) st.env)) o with
 |some ids=>p8 X T (gT X (ir (fu o) st.env)) o st.mem λx _=>rZ X T ops ⟨i,o,true,x,ids,cl,st.env,st.mem,st.mem⟩ st log k
 |none=>
  match JX X ops (gT X (ir (fu o) st.env)) o with
  |some (t,n,ps)=>ym X t n (ps.toList.map λp=>(p.1,gT X (ir (fu o) st.env) p.2)) λx=>rZ X T ops ⟨i,o,true,x,[],cl,st.env,st.mem,st.mem⟩ st log k
  |none=>
   match Kj X (gT X (ir (fu o) st.env)) o with
   |some (g,args)=>T.call g args [] λx M'=>aB (M'.isEmpty&&oZ x) (rZ X T ops ⟨i,o,true,x,[],cl,st.env,st.mem,st.mem⟩ st log k)
   |none=>
    match mK T (gT X (ir (fu o) st.env)) o st.mem with
    |some ids=>p8 X T (gT X (ir (fu o) st.env)) o st.mem λx M'=>rZ X T ops ⟨i,o,false,x,ids,cl,st.env,st.mem,M'⟩ st log k
    |none=>none
def FY(X:Cx)(T:gg R)(ops:Array Oper)(i:Nat)(o:Oper)(cl:Nat)(st:St)(log:List bp)(k:List bp->St->Option R):Option R:=
 rZ X T ops ⟨i,o,true,.dc [],[],cl,st.env,st.mem,st.mem⟩ st log k
def TP(X:Cx)(T:gg R)(ops:Array Oper)(i:Nat)(o:Oper)(cl:Nat)(st:St)(log:List bp)(k:List bp->St->Option R):Option R:=
 match o.guard with
 |none=>FX X T ops i o cl st log k
 |some (j,want)=>
  match w4 ops j with
  |none=>none
  |some d=>
   match look st.env d with
   | .bool b=>
     match b with
     |true=>match want with
      |true=>FX X T ops i o cl {st with env:=(d,.bool true)::st.env} log k
      |false=>FY X T ops i o cl {st with env:=(d,.bool true)::st.env} log k
     |false=>match want with
      |false=>FX X T ops i o cl {st with env:=(d,.bool false)::st.env} log k
      |true=>FY X T ops i o cl {st with env:=(d,.bool false)::st.env} log k
   | .dc []=>FY X T ops i o cl st log k
   |_=>none
def K7(X:Cx)(T:gg R)(ops:Array Oper):cp->List bp->St->(List bp->St->Option R)->Option R
 | [],log,st,k=>k log st
 |i::rest,log,st,k=>
  match ops.toList[i]? with
  |none=>none
  |some o=>
   match oY log o.after.toList with
   |none=>none
   |some cl=>TP X T ops i o cl st log λqA av=>K7 X T ops rest qA av k
def RH(X:Cx)(T:gg R)(ops:Array Oper)(st:St)(k:St->Option R):Option R:=
 K7 X T ops (adb ops.toList) [] st λlog av=>aB (Nat.ble log.length ops.size&&(List.range ops.size).all λi=>log.any λt=>t.i==i) (k av)
def acS(i:Nat):List Edge->Bool
 | []=>false
 |e::es=>(Region.binds .any e&&Nat.beq e.on i)||acS i es
def ZV:Nat->List Oper->Bool
 |_,[]=>false
 |i,o::os=>(B7 o&&ZW i os)||ZV (i+1) os
where ZW (i:Nat):List Oper->Bool
 | []=>false
 |o::os=>(B7 o&& !acS i o.after.toList)||ZW i os
def J5(X:Cx)(T:gg R)(ops:Array Oper)(draw:Bool)(st:St)(k:St->Option R):Option R:=
 match draw with
 |false=>oR X T ops ops.toList st k
 |true=>match ZV 0 ops.toList with
  |true=>RH X T ops st k
  |false=>RI X T ops st k
section
variable {nt:Nt} {ops:Array Oper} {env0 fK:bA} {M0 M1:ar}
theorem ap0{t:bp}{ty:TypeId}{p x:Operand}{id:Nat}{b:bU}(ho:t.o.op= .store ty p x)(h:uU X ty (gT X (ir (fu t.o) t.env) p) (gT X (ir (fu t.o) t.env) x) t.M=some (id,b))(hb:L4 t=b){M0:ar}{b1 b0:bU}(h1:t.M[id]?=some b1)(h0:M0[id]?=some b0)(hc:kW b1 b0):
 uU X ty (gT X (ir (fu t.o) t.env) p) (gT X (ir (fu t.o) t.env) x) M0=some (id,kh X t b0):=by
 unfold uU at h⊢;split at h
 ·rename_i id' i off hp;split at h
  ·rename_i ks cs vT;split at h
   ·rename_i TF;injection h with h;injection h with e1 e2;subst e1;rw [cG,h1]at vT;injection vT with vT;subst vT;have hv:∃Aj,b0= .var ks Aj:=by
     rcases hc with hc|⟨qH,qj,Aj,q1,q2⟩
     ·exact⟨cs,hc⟩
     ·injection q1 with q1 _;subst q1;exact⟨Aj,q2⟩
    obtain⟨Aj,rfl⟩:=hv;have hr:uX X t=some (off,(gT X (ir (fu t.o) t.env) x).cells):=by simp only [uX,ho,hp]
    simp only [cG,h0,TF,kh,hr]
   ·cases h
  ·rename_i t' xs vT;split at h
   ·rename_i xc pj fy;split at h
    ·rename_i TF;injection h with h;injection h with e1 e2;subst e1;rw [cG,h1]at vT;injection vT with vT;subst vT;have:b0= .row t' xs:=by
      rcases hc with hc|⟨qH,qj,Aj,q1,_⟩
      ·exact hc
      ·cases q1
     subst this;simp only [cG,h0,pj,fy,TF,kh,hb,<-e2]
    ·cases h
   ·cases h
  ·cases h
 ·cases h
theorem AP(h:rZ X T ops t st log k=some r):
 ∃av,k (t::log) av=some r∧(∀s∈log,n6 X ops t s=true)∧(∀d,t.o.dst=some d->d<T.nt.n∧T.nt.mask.testBit d=true)∧(∀u,look av.env u=(if t.o.dst=some u then t.x else look st.env u))∧av.mem=t.M'∧av.gJ=st.gJ∧av.rd=st.rd:=by
 unfold rZ at h;replace h:=bG h;obtain⟨hp,h⟩:=h;have hq:E9 T ops t st [] (λ_ av=>k (t::log) av)=some r:=abE;obtain⟨av,h,_,hd,iZ,gq,e1,e2⟩:=X9 hq;exact⟨av,h,λs hs=>iQ.1 hp s hs,hd,iZ,gq,e1,e2⟩
theorem AU(hl:c8 X nt ops env0 M0 log fK M1)(h1:∀u,look t.env u=look fK u)(h2:t.M=M1)(h3:t.q=true->t.M'=t.M)(h4:t.q=false->cz t.ids t.M t.M')(h5:im t=false->t.Ld X nt ops)
 (U5:im t=true->t.ael X nt ops∧cM t<t.M.length∧t.M'=t.M.set (cM t) (kh X t (fe t.M (cM t)))) (h6:ops[t.i]?=some t.o)
 (h7:∀d,t.o.dst=some d->d<nt.n∧nt.mask.testBit d=true) (h8:∀s∈log,n6 X ops t s=true) (h9:oY log t.o.after.toList=some t.cl)   (sI:∀u,look env u=(if t.o.dst=some u then t.x else look t.env u)) (Ac:M=t.M'):
 c8 X nt ops env0 M0 (t::log) env M:=by
 obtain⟨c1,c2⟩:=Ii h9;refine⟨fK,M1,hl,h1,h2,h3,h4,h5,U5,h6,h7,h8,λe he hb=>c1 e (EL) hb,λw hw=> ?_,λu=>by rw [sI u,h1 u],Ac⟩;obtain⟨e,he,hb,hh⟩:=c2 w hw;exact⟨e,EL,hb,hh⟩
theorem O5(hl:c8 X T.nt ops env0 M0 log fK M1)(hi:ops[i]?=some o)(hc:oY log o.after.toList=some cl)
 (he:∀u,look st.env u=look fK u) (hm:st.mem=M1) (hw:BU X ops o st.env false) (h:FY X T ops i o cl st log k=some r):
 ∃t av,k (t::log) av=some r∧c8 X T.nt ops env0 M0 (t::log) av.env av.mem∧av.gJ=st.gJ∧av.rd=st.rd:=by
 unfold FY at h;obtain⟨av,h,hp,hd,iZ,gq,h1,h2⟩:=AP h;refine⟨_,av,h,AU hl he hm (λ_=>rfl) (λhq=>nu) ?_ (λhf=>by simp [im]at hf) hi hd hp hc iZ gq,h1,h2⟩;intro _ Mx _ _ rdc n w0 S F ρ a w Q K hI cX hr hk;unfold wpOpIn;simp only [hi,hw hr,jG,ly];exact⟨λ_ _=>trivial,hk _ w F ρ hI Pe (bH.refl _ _ _)⟩
theorem O4(hX:X.Okb)(hT:T.mw X)(hl:c8 X T.nt ops env0 M0 log fK M1)(hi:ops[i]?=some o)(hc:oY log o.after.toList=some cl)
 (he:∀u,look st.env u=look fK u) (hm:st.mem=M1) (hw:BU X ops o st.env true) (h:FX X T ops i o cl st log k=some r):
 ∃t av,k (t::log) av=some r∧c8 X T.nt ops env0 M0 (t::log) av.env av.mem∧av.gJ=st.gJ∧av.rd=st.rd:=by
 unfold FX at h;split at h
 ·rename_i ty p x ho
  ·obtain⟨id,b,cY,h⟩:=aoq h;obtain⟨_,aY,_⟩:=Yo (R:=R) cY;have h':rZ X T ops ⟨i,o,false,.dc [],[id],cl,st.env,st.mem,st.mem.set id b⟩ st log k=some r:=by
    split at h
    ·exact h
    ·rw [QA]at h;exact h
   obtain⟨av,h,hp,hd,iZ,gq,h1,h2⟩:=AP h';refine⟨_,av,h,AU hl he hm (λhq=>nu) (λ_=>cz.set _ _ _) (λhf=>by simp [im,B7,ho]at hf) (λ_=> ?_) hi hd hp hc iZ gq,h1,h2⟩;have hb:L4 ⟨i,o,false,.dc [],[id],cl,st.env,st.mem,st.mem.set id b⟩=b:=by
    show((st.mem.set id b)[id]?).getD .dead =b;rw [hY aY];rfl
   have hup:= @ap0 X ⟨i,o,false,.dc [],[id],cl,st.env,st.mem,st.mem.set id b⟩ ty p x id b ho cY hb;refine⟨?_,aY,?_⟩
   ·intro Mx b1 b0 sH px U2 rdc n w0 S F ρ a w Q K hI cX hr hk;unfold wpOpIn;simp only [hi,hw hr,ng];exact aop hX ho (hup sH px U2) (M0:=Mx) rfl hI (λz=>wF hI (AT λu hu=>hr u (uq _ hu)) z) (λv w' ρ' F' c6 hg hx=>hk v w' F' ρ' c6 hx hg)
   ·have hg:st.mem[id]?=some (fe st.mem id):=by unfold fe;rw [cJ aY];rfl
    have:=hup hg hg (.refl _);rw [cY]at this;injection this with this;injection this with _ this;exact wj (st.mem.set id) this
 ·rename_i iu;have KJ:∀{q:Bool} {x:AV} {ids:cp} {M':ar},im ⟨i,o,q,x,ids,cl,st.env,st.mem,M'⟩=true->False:=by
   intro q x ids M' hf;have h2:B7 o=true:=by
    unfold im at hf;rw [bc]at hf;exact hf.2
   unfold B7 at h2;split at h2
   ·rename_i ty p x2 ho;exact iu _ _ _ ho
   ·cases h2
  split at h
  ·rename_i ids hq;obtain⟨y,h,cC⟩:=X8 hX hq h;obtain⟨av,h,hp,hd,iZ,gq,h1,h2⟩:=AP h;refine⟨_,av,h,AU hl he hm (λ_=>rfl) (λhq=>nu) ?_ (λhf=>(KJ hf).elim) hi hd hp hc iZ gq,h1,h2⟩;exact adJ
  ·rename_i hq;split at h
   ·rename_i t n ps Tx;obtain⟨y,h,cC⟩:=Yz hX (Yd Tx) h;obtain⟨av,h,hp,hd,iZ,gq,h1,h2⟩:=AP h;refine⟨_,av,h,AU hl he hm (λ_=>rfl) (λhq=>nu) ?_ (λhf=>(KJ hf).elim) hi hd hp hc iZ gq,h1,h2⟩;exact KN
   ·split at h
    ·rename_i g args U1;obtain⟨y,h,cC⟩:=Ym hX hT U1 (k:=λy=>rZ X T ops ⟨i,o,true,y,[],cl,st.env,st.mem,st.mem⟩ st log k) h;obtain⟨av,h,hp,hd,iZ,gq,h1,h2⟩:=AP h;refine⟨_,av,h,AU hl he hm (λ_=>rfl) (λhq=>nu) ?_ (λhf=>(KJ hf).elim) hi hd hp hc iZ gq,h1,h2⟩;exact KN
    ·split at h
     ·rename_i ids Ur;obtain⟨x,M',cC,h,ei⟩:=DW hX hT h;obtain⟨av,h,hp,hd,iZ,gq,h1,h2⟩:=AP h;refine⟨_,av,h,AU hl he hm (λhq=>nu) (λ_=>ei ids Ur) ?_ (λhf=>(KJ hf).elim) hi hd hp hc iZ gq,h1,h2⟩;exact adN
     ·cases h
theorem an8(hX:X.Okb)(hT:T.mw X)(hl:c8 X T.nt ops env0 M0 log st.env st.mem)(hi:ops[i]?=some o)(hc:oY log o.after.toList=some cl)
 (h:TP X T ops i o cl st log k=some r):
 ∃t av,k (t::log) av=some r∧c8 X T.nt ops env0 M0 (t::log) av.env av.mem∧av.gJ=st.gJ∧av.rd=st.rd:=by
 unfold TP at h;split at h
 ·rename_i hg;exact O4 hX hT hl hi hc (λ_=>rfl) rfl (λ{ρ F w tmps} _=>OC hg _) h
 ·rename_i j want hg;split at h
  ·cases h
  ·rename_i d hd;have iL:d∈fu o++guardOf ops o:=jc _ (by simp [guardOf,hg,hd]);have uK:∀(b:Bool) (env:bA),look env d= .bool b->BU X ops o env (b==want):=adG;split at h
   ·rename_i b hb;split at h
    ·split at h
     ·exact O4 hX hT (st:={st with env:=(d,.bool true)::st.env}) hl hi hc (λu=>v7 hb u) rfl (uK true _ (wX)) h
     ·exact O5 (st:={st with env:=(d,.bool true)::st.env}) hl hi hc (λu=>v7 hb u) rfl (uK true _ (wX)) h
    ·split at h
     ·exact O4 hX hT (st:={st with env:=(d,.bool false)::st.env}) hl hi hc (λu=>v7 hb u) rfl (uK false _ (wX)) h
     ·exact O5 (st:={st with env:=(d,.bool false)::st.env}) hl hi hc (λu=>v7 hb u) rfl (uK false _ (wX)) h
   ·rename_i hb;refine O5 hl hi hc (λ_=>rfl) rfl (λ{ρ F w tmps} hr=> ?_) h;exact adH
   ·cases h
theorem Yj(hX:X.Okb){T:gg R}(hT:T.mw X){k:List bp->St->Option R}{r:R}:∀(ord:cp) {log:List bp} {st:St},c8 X T.nt ops env0 M0 log st.env st.mem->K7 X T ops ord log st k=some r->
 ∃qA av,k qA av=some r∧c8 X T.nt ops env0 M0 qA av.env av.mem∧av.gJ=st.gJ∧av.rd=st.rd
 | [],log,st,hl,h=>⟨log,st,h,hl,rfl,rfl⟩
 |i::rest,log,st,hl,h=>by
  simp only [K7]at h;split at h
  ·cases h
  ·rename_i o ho;split at h
   ·cases h
   ·rename_i cl hc;obtain⟨t,st1,h,gS,e1,e2⟩:=an8 hX hT hl (by simpa using ho) hc h;obtain⟨qA,av,h,UJ,e3,e4⟩:=Yj hX hT rest gS h;exact⟨qA,av,h,UJ,e3.trans e1,e4.trans e2⟩
theorem anb(hX:X.Okb)(hT:T.mw X){k:St->Option R}(h:RH X T ops st k=some r):
 ∃av,k av=some r∧nZ X T.nt (.region id ops true) st .normal av:=by
 unfold RH at h;obtain⟨log,av,h,hl,e1,e2⟩:=Yj hX hT (ops:=ops) (env0:=st.env) (M0:=st.mem) _ (log:=[]) (st:=st) (show c8 X T.nt ops st.env st.mem [] st.env st.mem from⟨λ_=>rfl,rfl⟩) h;replace h:=bG h;obtain⟨iy,h⟩:=h;rw [bc]at iy;obtain⟨hlen,iy⟩:=iy;refine⟨av,h,λ{rdc n w0 S F ρ a w Q} hI hs hq=>wpIn_region_any hX.mixed ?_⟩;have hg:=World.Xm w;have c6:=hI.grown hg;have fU:bH F F ρ ρ w {w with drawn:=w.drawn+1}:=⟨λ_ h=>h,λ_ _ h=>h,hI.rB hg (by simp)⟩;have bX:=hs.grow fU;have mY:∀i,¬bJ (Array.replicate ops.size false) i:=acn;have UH:∀l:List bp,dt X st.mem (Array.replicate ops.size false) l=st.mem:=by
  intro l
  induction l with
  |nil=>rfl
  |cons t l xW=>
   simp only [dt];rw [if_neg λhh=>mY _ hh.2];exact xW
 refine aoT (ds:=a.defers) (tv:=rdc.tv) (wb:=w) (S:=S) (w0:=w0) (F0:=F) (ρ0:=ρ) hl (λi hi=> ?_) (λa' w' F' ρ' jZ hE cX vR UK jY=> ?_) ops.size _ F ρ a _ (by simp) ?_ ?_ ?_
 ·have:=iQ.1 iy i (wx.2 hi);exact abM
 ·refine hq a' w' F' ρ' jZ ⟨hE,cX,?_,?_,UK⟩ jY
  ·rw [e1,vR];exact hs.defs.mono jY.hF jY.hb
  ·exact hs.rd.mono jY.hF jY.hb
 ·exact j5 Y2 (oL hlen)
 ·exact λt ht dq=>absurd dq (mY _)
 ·exact⟨by rw [UH];exact c6,fU,hs.size,rfl,hs.kept,λs _ dq=>absurd dq (mY _),λu _=>bX.env u⟩
theorem XS(hX:X.Okb)(hT:T.mw X){draw:Bool}{k:St->Option R}(h:J5 X T ops draw st k=some r):
 ∃av,k av=some r∧nZ X T.nt (.region id ops draw) st .normal av:=by
 unfold J5 at h;split at h
 ·obtain⟨av,h,hr⟩:=XT hX hT ops.toList 0 (λi=>by simp) h;refine⟨av,h,λ{rdc n w0 S F ρ a w Q} hI hs hq=>wpIn_region ?_⟩;have:=hr (n:=n) hI hs hq;exact qo
 ·split at h
  ·exact anb hX hT h
  ·exact anc hX hT h
end
end
end Go.ae
namespace Go.ae
def tj{p:Prop}(h:p:=by simp [yS,hl]):p:=h
def Rv{p:Prop}(h:p:=by exact⟨_,a₁,w₁,hq,.of_steps (.one h0 HX) KY⟩):p:=h
def Jo{p:Prop}(h:p:=by exact⟨F2,ρ2,i2,s2,g1.trans g2⟩):p:=h
end Go.ae
namespace Go.ae
def Il:=@Go.wpIn_block
end Go.ae
namespace Go.ae
open Go
noncomputable section
variable {X:Cx} {R:Type}
variable{c:Code}{p:Nat}{r:R}{st:St}{el:TypeId}
def yS(root:Code):List Bool->Option Code
 | []=>some root
 |b::p=>
  match yS root p with
  |some (.seq x y)=>some (bif b then y else x)
  |some (.cond _ x y)=>some (bif b then y else x)
  |some (.block _ x)=>bif b then none else some x
  |some (.loop x)=>bif b then none else some x
  |some (.scope x)=>bif b then none else some x
  |some (.rangeFunc _ _ x y)=>some (bif b then y else x)
  |_=>none
def enc:List Bool->Nat
 | []=>1
 |b::p=>2*enc p+(bif b then 1 else 0)
def I0:∀p,1<=enc p
 | []=>dZ _
 |b::p=>by have:=I0 p;simp only [enc];omega
def aal:∀{p q:List Bool},enc p=enc q->p=q
 | [],[],_=>rfl
 | [],b::q,h=>by
   have:=I0 q;simp only [enc]at h;cases b<;>simp at h<;>omega
 |b::p,[],h=>by
  have:=I0 p;simp only [enc]at h;cases b<;>simp at h<;>omega
 |b::p,c::q,h=>by
  simp only [enc]at h;have h2:enc p=enc q∧b=c:=by cases b<;>cases c<;>simp at h⊢<;>omega
  rw [aal h2.1,h2.2]
def At(root:Code)(p:Nat)(c:Code):Prop:=∃l,enc l=p∧yS root l=some c
def At.root(c:Code):At c 1 c:=⟨[],rfl,rfl⟩
def At.det{root:Code}(h:At root p c)(l:List Bool)(hl:enc l=p):yS root l=some c:=by
 obtain⟨l',h1,h2⟩:=h;rw [aal (hl.trans h1.symm)];exact h2
def At.down{root d:Code}(h:At root p c)(b:Bool)(hd:∀l,yS root l=some c->yS root (b::l)=some d):At root (2*p+(bif b then 1 else 0)) d:=by
 obtain⟨l,h1,h2⟩:=h;exact⟨b::l,by simp only [enc,h1],hd l h2⟩
def Ex.l9:Ex->Exit
 | .normal => .normal
 | .exit i=> .exit i
 | .ret => .ret
def E4(env:bA)(M:ar):Src->Option Nat
 | .tmp t=>match look env t with| .aa id=>some id| .ptr id _ _=>some id|_=>none
 | .cell t c=>match look env t with| .ptr v _ _=>(match gm M v with|some (.var _ cs)=>(match cs[c]? with|some (.aa id)=>some id|_=>none)|_=>none)|_=>none
def Fo(X:Cx)(g:Gh)(env:bA)(M:ar)(k:ar->Option R):Option R:=
 match g with
 | .nest s=>match E4 env M s with|some id=>R2 X id M k|none=>k M
 | .flat s=>match E4 env M s with|some id=>Sx id M k|none=>k M
 | .close s=>match E4 env M s with|some id=>RL X id M k|none=>k M
 | .opn s i j=>match E4 env M s with|some id=>(match gT X env i with| .int _ n=>Fb X id n.toNat j M k|_=>k M)|none=>k M
 | .axT t j=>match look env t with| .ptr id i off=>Fb X id i (off+j) M k|_=>k M
 | .afs s t c j=>match E4 env M s with|some id=>(match look env t with| .ptr v _ _=>(match gm M v with|some (.var _ cs)=>Fb X id (cs.getD c .top).toI.toNat j M k|_=>k M)|_=>k M)|none=>k M
 | .LW _ _=>k M
 | .C2 _ _=>k M
 | .fp _ _=>k M
def XX(hX:X.Okb){g:Gh}{env:bA}{M:ar}{k:ar->Option R}(h:Fo X g env M k=some r):∃M',k M'=some r∧xb X M M':=by
 unfold Fo at h;split at h<;>try split at h
 ·exact anx hX h
 ·exact oe
 ·exact anD h
 ·exact oe
 ·exact ann h
 ·exact oe
 ·split at h
  ·exact OG h
  ·exact oe
 ·exact oe
 ·exact OG h
 ·exact oe
 ·split at h
  ·split at h
   ·exact OG h
   ·exact oe
  ·exact oe
 ·exact oe
 ·exact oe
 ·exact oe
 ·exact oe
def TJ(X:Cx)(t:Nat)(el:TypeId)(st:St)(k:St->Option R):Option R:=
 match look st.env t with
 | .ptr id 0 off=>
   match gm st.mem id with
   |some (.var _ cs)=>ru (X.K el) cs st.mem λqj M=>match gm M id with
    |some (.var _ _)=>aB (cZ (X.K el) qj) (k {st with env:=(t,.ep el qj off)::st.env,mem:=M.set id .dead })
    |_=>none
   |_=>k st
 |_=>k st
def rU(X:Cx)(st av:St):Prop:=∀{nt:Nt} {rdc:Cy} {w0:World} {S:Sc} {F:aO} {ρ:aT} {a:Act} {w:World},Inv X w0 S F ρ st.mem w->eY X nt st rdc F ρ a w->∃F' ρ',Inv X w0 S F' ρ' av.mem w∧eY X nt av rdc F' ρ' a w∧bH F F' ρ ρ' w w
def rU.refl(st:St):rU X st st:=λ{nt rdc w0 S F ρ a w} hI hs=>⟨F,ρ,hI,hs,bH.refl _ _ _⟩
def an4{t:Nat}{k:St->Option R}(h:TJ X t el st k=some r):∃av,k av=some r∧rU X st av:=by
 unfold TJ at h;split at h
 ·rename_i id off hl;split at h
  ·rename_i ks cs hb;rw [cG]at hb;obtain⟨qj,M,h,hlen,_,hf⟩:=DV (X:=X) _ _ _ h;split at h
   ·rename_i ks2 cs2 gw;rw [cG]at gw;replace h:=bG h;obtain⟨hk,h⟩:=h;refine⟨_,h,λ{nt rdc w0 S F ρ a w} hI hs=> ?_⟩;have aY:id<ρ.length:=Jx;have hh:ρ[id]?=some ρ[id]:=cJ aY;obtain⟨q1,q2,g,cur,e,q3,q4,q5,q6⟩:=hI.rep id _ _ hb hh;obtain⟨F1,i1,g1,r1⟩:=hf hI;have r2:=r1 _ q5;have i2:=i1.freeze gw rfl hh (g:=g) (EW) (b':= .dead) rfl trivial;have g2:bH F1 (λa=>F1 a∨a.block=g) ρ ρ w w:=⟨λ_ h=> .inl h,λ_ _ h=>h,λ_ _=>rfl⟩;have ml:=(hs.grow g1).grow g2;refine⟨_,ρ,i2,⟨λu=> ?_,ml.size,ml.defs,ml.rd,ml.kept⟩,g1.trans g2⟩;simp only [nf];split
    ·rename_i hu;rw [fJ]at hu;subst hu;have hr:=hs.env u;rw [hl]at hr;generalize a.tmps.getD u undef=v at hr;cases hr with
     |ptr _ _ _ hd g' o n c aA hv=>
      rw [hh]at aA;injection aA with aA;subst aA;rw [q3]at hv;injection hv with e1 _ _;injection e1 with e1;injection e1 with e1 e2 _;subst e1;subst e2;have:(⟨g,0+0*(ρ[id]).sz +off,none⟩:Addr)=(⟨g,0,none⟩:Addr).add off:=by rw [ju];simp
      rw [this];refine .ep el qj off ⟨g,0,none⟩ cur.toList hk r2.1 (λj v hj=>⟨?_,.inr ?_⟩) (λj x v hx hv=>(r2.2 j x v hx hv).grow g2)
      ·rw [ju,qW w g _ cur e (0,0) q4];simpa using hj
      ·rw [ju]
    ·exact ml.env u
   ·cases h
  ·exact⟨_,h,rU.refl _⟩
 ·exact⟨_,h,rU.refl _⟩
def BS(x:AV)(el:TypeId)(k:Row->Option R):Option R:=
 match x with
 | .ep t row off=>(match Nat.beq t el with|true=>(match off with|0=>k row|_=>none)|false=>none)
 |_=>none
def aoj{x:AV}{k:Row->Option R}(h:BS x el k=some r):∃row,x= .ep el row 0∧k row=some r:=by
 unfold BS at h;split at h
 ·split at h
  ·rename_i hb;split at h
   ·exact⟨_,by rw [ct hb],h⟩
   ·cases h
  ·cases h
 ·cases h
def xv(X:Cx):List Gh->St->(St->Option R)->Option R
 | [],st,k=>k st
 | .LW t el::gs,st,k=>TJ X t el st λav=>xv X gs av k
 | .fp t ty::gs,st,k=>fp (.slice ty) (look st.env t) st.mem λx M=>xv X gs {st with env:=(t,x)::st.env,mem:=M} k
 | .C2 t el::gs,st,k=>BS (look st.env t) el λrow=>xv X gs {st with env:=(t,.ep el row 0)::st.env} k
 |g::gs,st,k=>Fo X g st.env st.mem λM=>xv X gs {st with mem:=M} k
def AR(hX:X.Okb){k:St->Option R}{r:R}:∀(gs:List Gh) {st:St},xv X gs st k=some r->∃av,k av=some r∧rU X st av
 | [],st,h=>⟨st,h,rU.refl _⟩
 |g::gs,st,h=>by
  have tr:∀{st1 av:St},rU X st st1->rU X st1 av->rU X st av:=λ{st1 av} h1 h2 {nt rdc w0 S F ρ a w} hI hs=>by
   obtain⟨F1,ρ1,i1,s1,g1⟩:=h1 hI hs;obtain⟨F2,ρ2,i2,s2,g2⟩:=h2 i1 s1;exact Jo
  have dQ:∀{g:Gh},(Fo X g st.env st.mem λM=>xv X gs {st with mem:=M} k)=some r->∃av,k av=some r∧rU X st av:=λ{g} h=>by
   obtain⟨M',h,hA⟩:=XX hX h;obtain⟨av,h,hr⟩:=AR hX gs h;refine⟨av,h,tr (λ{nt rdc w0 S F ρ a w} hI hs=> ?_) hr⟩;obtain⟨F1,ρ1,i1,g1⟩:=hA hI;have eu:=hs.grow g1;exact⟨F1,ρ1,i1,⟨eu.env,eu.size,eu.defs,eu.rd,eu.kept⟩,g1⟩
  cases g with
  |LW t el=>
   obtain⟨st1,h,h1⟩:=an4 h;obtain⟨av,h,hr⟩:=AR hX gs h;exact⟨av,h,tr h1 hr⟩
  |C2 t el=>
   obtain⟨row,hx,h⟩:=aoj h;obtain⟨av,h,hr⟩:=AR hX gs h;exact⟨av,h,tr (st1:={st with env:=(t,.ep el row 0)::st.env}) (λ{nt rdc w0 S F ρ a w} hI hs=>⟨F,ρ,hI,hs.refine hx,bH.refl _ _ _⟩) hr⟩
  |fp t ty=>
   obtain⟨x,M,h,_,_,hf⟩:=yw (X:=X) h;obtain⟨av,h,hr⟩:=AR hX gs h;refine⟨av,h,tr (st1:={st with env:=(t,x)::st.env,mem:=M}) (λ{nt rdc w0 S F ρ a w} hI hs=> ?_) hr⟩;obtain⟨F1,i1,g1,r1⟩:=hf hI;have eu:=hs.grow g1;refine⟨F1,ρ,i1,⟨λu=> ?_,eu.size,eu.defs,eu.rd,eu.kept⟩,g1⟩;simp only [nf];split
   ·rename_i hu;rw [fJ]at hu;subst hu;exact r1 _ (hs.env u)
   ·exact eu.env u
  |_=>exact dQ h
structure iM(R:Type) where
 fS:gg R
 loop:Nat->St->(Ex->St->Option R)->Option R
 range:Nat->St->(Ex->St->Option R)->Option R
 cut:Nat->Option (St->(Ex->St->Option R)->Option R)
 gh:Nat->List Gh×List Gh:=λ_=>([],[])
structure iM.Ok(X:Cx)(root:Code)(L:iM R):Prop where
 fS:L.fS.mw X
 loop:∀{p c st k r},At root p (.loop c)->L.loop p st k=some r->∃e av,nZ X L.fS.nt (.loop c) st (Ex.l9 e) av∧k e av=some r
 range:∀{p g ps x y st k r},At root p (.rangeFunc g ps x y)->L.range p st k=some r->∃e av,nZ X L.fS.nt (.rangeFunc g ps x y) st (Ex.l9 e) av∧k e av=some r
 cut:∀{p c f st k r},At root p c->L.cut p=some f->f st k=some r->∃e av,nZ X L.fS.nt c st (Ex.l9 e) av∧k e av=some r
def aeh(o:Option (St->(Ex->St->Option R)->Option R))(other:(Ex->St->Option R)->Option R)(st:St)(k:Ex->St->Option R):Option R:=
 match o with
 |some f=>f st k
 |none=>other k
def IU(c:Operand)(b:Bool)(st:St):St:=match c with| .tmp t=>{st with env:=(t,.bool b)::st.env}|_=>st
def lV(X:Cx)(L:iM R):Code->Nat->St->(Ex->St->Option R)->Option R
 | .skip,_,st,k=>k .normal st
 | .label _,_,st,k=>k .normal st
 | .region T6 ops draw,_,st,k=>match L.gh T6 with
   |([],[])=>J5 X L.fS ops draw st λav=>k .normal av
   |(pre,post)=>xv X pre st λst1=>J5 X L.fS ops draw st1 λjO=>xv X post jO λT1=>k .normal T1
 | .seq a b,p,st,k=>aeh (L.cut (2*p)) (λk'=>lV X L a (2*p) st k') st λe av=>match e with| .normal =>lV X L b (2*p+1) av k| .exit i=>k (.exit i) av| .ret =>k .ret av
 | .cond c a b,p,st,k=>
   match gT X st.env c with
   | .bool t=>(match t with|true=>lV X L a (2*p) (IU c true st) k|false=>lV X L b (2*p+1) (IU c false st) k)
   |_=>none
 | .block i a,p,st,k=>lV X L a (2*p) st λe av=>match e with| .normal =>k .normal av| .exit j=>(match Nat.beq j i with|true=>k .normal av|false=>k (.exit j) av)| .ret =>k .ret av
 | .scope a,p,st,k=>lV X L a (2*p) st k
 | .loop _,p,st,k=>L.loop p st k
 | .rangeFunc _ _ _ _,p,st,k=>L.range p st k
 | .exit i,_,st,k=>k (.exit i) st
 | .ret,_,st,k=>k .ret st
 |_,_,_,_=>none
section
variable {F:Fence} {n:Nat} {P:Program} {b:Frame} {a:Act} {k:List Item} {cs:List Frame} {w:World} {Q:Exit->Act->World->Prop}
def HX:step P (lone (b.atR a (.code (.scope c)::k)) cs w)= .next (lone (b.atR a (.code c:: .inScope c::k)) cs w):=
 step_lone_go (by simp [stepG,stepG.exec,Frame.atR])
def amc:step P (lone (b.atR a (.inScope c::k)) cs w)= .next (lone (b.atR a k) cs w):=
 step_lone_go (by simp [stepG,stepG.exec,Frame.atR])
def anq(h:c.wpIn F n P (λe a w=>(∀l,e≠ .goto l)∧Q e a w) a w):(Code.scope c).wpIn F n P Q a w:=by
 intro b k cs mE hb hr;have h0:(lone (b.atR a (.code (.scope c)::k)) cs w).fenced P F:=fenced_calm hb hr rfl;obtain⟨e,a₁,w₁,⟨hg,hq⟩,KY⟩:=h b (.inScope c::k) cs mE hb hr;cases e with
 |normal=>exact⟨.normal,a₁,w₁,hq,.head h0 HX (StepsIn.trans KY (.one (fenced_calm hb hr rfl) amc))⟩
 |exit id'=>
  have hx:exitTo id' (.inScope c::k)=exitTo id' k:=by simp [exitTo]
  exact⟨.exit id',a₁,w₁,hq,λk' hk=> .head h0 HX (KY.1 k' (by rw [hx];exact hk)),
   λqd hk=>let⟨k₁,h1,h2⟩:=KY.2 qd (by rw [hx];exact hk);⟨k₁,h1,.head h0 HX h2⟩⟩
 |goto l=>exact absurd rfl (hg l)
 |ret=>exact Rv
 |panic ch=>exact Rv
 |outgrown=>exact Rv
end
def XK{nt:Nt}{rdc:Cy}{F:aO}{ρ:aT}{a:Act}{w:World}{c:Operand}{b:Bool}(h:eY X nt st rdc F ρ a w)(hc:gT X st.env c= .bool b):eY X nt (IU c b st) rdc F ρ a w:=by
 cases c with
 |tmp t=>exact h.refine hc
 |_=>exact h
def XM(c:Operand)(b:Bool)(st:St):(IU c b st).mem =st.mem:=by cases c<;>rfl
def qU(hX:X.Okb){root:Code}{L:iM R}(hL:L.Ok X root):∀(c:Code) {p:Nat} {st:St} {k:Ex->St->Option R} {r:R},At root p c->lV X L c p st k=some r->
 ∃e av,nZ X L.fS.nt c st (Ex.l9 e) av∧k e av=some r
 | .skip,p,st,k,r,_,h=>⟨.normal,st,λ{rdc n w0 S F ρ a w Q} hI hs hq=>wpIn_skip (hq a w F ρ hI hs (bH.refl _ _ _)),h⟩
 | .label l,p,st,k,r,_,h=>⟨.normal,st,λ{rdc n w0 S F ρ a w Q} hI hs hq=>wpIn_label (hq a w F ρ hI hs (bH.refl _ _ _)),h⟩
 | .region id ops draw,p,st,k,r,_,h=>by
   simp only [lV]at h;split at h
   ·obtain⟨av,h,hr⟩:=XS hX hL.fS (id:=id) (k:=λav=>k .normal av) h;exact⟨.normal,av,hr,h⟩
   ·obtain⟨st1,h,h1⟩:=AR hX _ h;obtain⟨jO,h,hr⟩:=XS hX hL.fS (id:=id) h;obtain⟨T1,h,h3⟩:=AR hX _ h;refine⟨.normal,T1,λ{rdc n w0 S F ρ a w Q} hI hs hq=> ?_,h⟩;obtain⟨F1,ρ1,i1,s1,g1⟩:=h1 (nt:=L.fS.nt) (rdc:=rdc) (a:=a) hI hs;refine hr i1 s1 λa' w' F' ρ' c6 bX hg=> ?_;obtain⟨F3,ρ3,i3,s3,g3⟩:=h3 (nt:=L.fS.nt) (rdc:=rdc) (a:=a') c6 bX;exact hq a' w' F3 ρ3 i3 s3 ((g1.trans hg).trans g3)
 | .seq x y,p,st,k,r,eh,h=>by
   simp only [lV]at h;have hax:At root (2*p) x:=eh.down false λl hl=>tj;have h':∃e st1,nZ X L.fS.nt x st (Ex.l9 e) st1∧(match e with| .normal =>lV X L y (2*p+1) st1 k| .exit i=>k (.exit i) st1| .ret =>k .ret st1)=some r:=by
    unfold aeh at h;split at h
    ·rename_i f hf;exact hL.cut hax hf h
    ·exact qU hX hL x hax h
   obtain⟨e,st1,h1,h⟩:=h';cases e with
   |normal=>
    obtain⟨e,jO,h2,h⟩:=qU hX hL y (eh.down true λl hl=>tj) h;refine⟨e,jO,λ{rdc n w0 S F ρ a w Q} hI hs hq=>wpIn_seq (h1 hI hs λa' w' F' ρ' c6 bX hg=> ?_),h⟩;exact h2 c6 bX λAn ou qR qv zr zo ij=>hq An ou qR qv zr zo (hg.trans ij)
   |exit i=>exact⟨.exit i,st1,λ{rdc n w0 S F ρ a w Q} hI hs hq=>wpIn_seq (h1 hI hs λa' w' F' ρ' c6 bX hg=>hq a' w' F' ρ' c6 bX hg),h⟩
   |ret=>exact⟨.ret,st1,λ{rdc n w0 S F ρ a w Q} hI hs hq=>wpIn_seq (h1 hI hs λa' w' F' ρ' c6 bX hg=>hq a' w' F' ρ' c6 bX hg),h⟩
 | .cond c x y,p,st,k,r,eh,h=>by
   simp only [lV]at h;split at h
   ·rename_i t ht;have LO:∀{w0:World} {S:Sc} {F:aO} {ρ:aT} {a:Act} {w:World} {rdc:Cy},Inv X w0 S F ρ st.mem w->eY X L.fS.nt st rdc F ρ a w->a.eval c= .bool t:=by
     intro w0 S F ρ a w rdc hI hs;have:=wF hI hs.env c;rw [ht]at this;generalize a.eval c=v at this;cases this;rfl
    split at h
    ·obtain⟨e,st1,h1,h⟩:=qU hX hL x (eh.down false λl hl=>tj) h;exact⟨e,st1,λ{rdc n w0 S F ρ a w Q} hI hs hq=>wpIn_cond_true (LO hI hs) (h1 (by rw [XM];exact hI) (XK hs ht) hq),h⟩
    ·obtain⟨e,st1,h1,h⟩:=qU hX hL y (eh.down true λl hl=>tj) h;exact⟨e,st1,λ{rdc n w0 S F ρ a w Q} hI hs hq=>wpIn_cond_false (LO hI hs) (h1 (by rw [XM];exact hI) (XK hs ht) hq),h⟩
   ·cases h
 | .block i x,p,st,k,r,eh,h=>by
   simp only [lV]at h;obtain⟨e,st1,h1,h⟩:=qU hX hL x (eh.down false λl hl=>tj) h;cases e with
   |normal=>exact⟨.normal,st1,λ{rdc n w0 S F ρ a w Q} hI hs hq=>Il (h1 hI hs λa' w' F' ρ' c6 bX hg=>hq a' w' F' ρ' c6 bX hg),h⟩
   |exit j=>
    simp only at h;split at h
    ·rename_i hj;have hj:j=i:=ct hj;refine⟨.normal,st1,λ{rdc n w0 S F ρ a w Q} hI hs hq=>Il (h1 hI hs λa' w' F' ρ' c6 bX hg=> ?_),h⟩;simp only [Ex.l9,Exit.inBlock,hj,ng];exact hq a' w' F' ρ' c6 bX hg
    ·rename_i hj;have hj:j≠i:=λe=>by subst e;simp at hj
     refine⟨.exit j,st1,λ{rdc n w0 S F ρ a w Q} hI hs hq=>Il (h1 hI hs λa' w' F' ρ' c6 bX hg=> ?_),h⟩;simp only [Ex.l9,Exit.inBlock,if_neg hj];exact hq a' w' F' ρ' c6 bX hg
   |ret=>exact⟨.ret,st1,λ{rdc n w0 S F ρ a w Q} hI hs hq=>Il (h1 hI hs λa' w' F' ρ' c6 bX hg=>hq a' w' F' ρ' c6 bX hg),h⟩
 | .loop c,p,st,k,r,eh,h=>hL.loop eh h
 | .rangeFunc g ps x y,p,st,k,r,eh,h=>hL.range eh h
 | .exit i,p,st,k,r,_,h=>⟨.exit i,st,λ{rdc n w0 S F ρ a w Q} hI hs hq=>wpIn_exit (hq a w F ρ hI hs (bH.refl _ _ _)),h⟩
 | .ret,p,st,k,r,_,h=>⟨.ret,st,λ{rdc n w0 S F ρ a w Q} hI hs hq=>wpIn_ret (hq a w F ρ hI hs (bH.refl _ _ _)),h⟩
 | .scope x,p,st,k,r,eh,h=>by
   simp only [lV]at h;obtain⟨e,st1,h1,h⟩:=qU hX hL x (eh.down false λl hl=>tj) h;exact⟨e,st1,λ{rdc n w0 S F ρ a w Q} hI hs hq=>anq (h1 hI hs λa' w' F' ρ' c6 bX hg=>⟨λl=>by cases e<;>simp [Ex.l9],hq a' w' F' ρ' c6 bX hg⟩),h⟩
 | .goto _,_,_,_,_,_,h=>by simp [lV]at h
 | .refuse _,_,_,_,_,_,h=>by simp [lV]at h
end
end Go.ae
namespace Go.ae
def abf{p:Prop}(h:p:=by simp [Instr.sureAddr,dO,stuck,Sem.run,Result.andThen]at h1):p:=h
end Go.ae
namespace Go.ae
open Go
noncomputable section
variable {X:Cx} {R:Type}
variable{k:AV->ar->Option R}{c:Code}{fn:Func}{f:FuncId}{rs:List ResultVar}{r:R}{st:St}{args:aD}{M:ar}
def m4:Hd:=⟨.nilFunc,0⟩
def anz{Mc:ar}{aM:cp}{m:Nat}:cz aM M (merge m M aM Mc):=
 ⟨by rw [Xu];omega,λid aA hn=>by unfold merge;rw [gj (by rw [AN];exact aA),IA aM _ M hn]⟩
def pN:Nat->aD->bA
 |_,[]=>[]
 |i,x::xs=>(i,x)::pN (i+1) xs
def OH:∀(xs:aD) (i t:Nat),look (pN i xs) t=if i<=t then(xs[t- i]?).getD .top else .top
 | [],i,t=>by simp [pN,nf,look_nil]
 |x::xs,i,t=>by
  simp only [pN,nf,look_nil]
  by_cases ht:t=i
  ·subst ht;simp
  ·have:(t==i)=false:=by simpa using ht
   simp only [this,jG,ly];rw [OH xs (i+1) t]
   by_cases h:i<=t
   ·rw [if_pos (by omega),if_pos h,show t- i=(t-(i+1))+1 by omega];simp
   ·rw [if_neg (by omega),if_neg h]
def yQ(X:Cx)(rv:ResultVar)(st:St)(k:AV->Option R):Option R:=
 match rv with
 | .tmp t=>k (look st.env t)
 | .cell a t=>pM X t (look st.env a) st.mem k
def J4(X:Cx)(rs:List ResultVar)(st:St)(k:AV->ar->Option R):Option R:=
 match rs with
 | []=>k (.dc []) st.mem
 | [a]=>yQ X a st λx=>k x st.mem
 | [a,b]=>yQ X a st λx=>yQ X b st λy=>k (.dc [x,y]) st.mem
 | [a,b,c]=>yQ X a st λx=>yQ X b st λy=>yQ X c st λz=>k (.dc [x,y,z]) st.mem
 |_=>none
def Td(tmps:Array Value):ResultVar->Sem Value
 | .tmp t=>pure (tmps.getD t undef)
 | .cell a t=>do loadVar t (<-asAddr (tmps.getD a undef))
def AL(hX:X.Okb){rv:ResultVar}{k:AV->Option R}(h:yQ X rv st k=some r):
 ∃x,k x=some r∧∀{nt:Nt} {rdc:Cy} {w0:World} {S:Sc} {F:aO} {ρ:aT} {a:Act} {w:World},Inv X w0 S F ρ st.mem w->eY X nt st rdc F ρ a w->∃v,(Td a.tmps rv).run X.P w= .ok v w∧aw X.K ρ F w x v:=by
 cases rv with
 |tmp t=>exact⟨_,h,λ{nt rdc w0 S F ρ a w} hI hs=>⟨_,rfl,hs.env t⟩⟩
 |cell a t=>
  obtain⟨x,h,hd⟩:=Xz hX h;refine⟨x,h,λ{nt rdc w0 S F ρ act w} hI hs=> ?_⟩;obtain⟨v,h1,h2⟩:=hd hI (hs.env a);refine⟨v,?_,h2⟩;unfold Instr.loadAt at h1;simp only [Td];generalize act.tmps.getD a undef=p at h1;cases p with
  |pointer o=>
   cases o with
   |some ad=>exact h1
   |none=>exact abf
  |_=>exact abf
def anF(hX:X.Okb)(ph:fn.results.toList=rs)(h:J4 X rs st k=some r):
 ∃x,k x st.mem=some r∧∀{nt:Nt} {rdc:Cy} {w0:World} {S:Sc} {F:aO} {ρ:aT} {a:Act} {w:World},Inv X w0 S F ρ st.mem w->eY X nt st rdc F ρ a w->∃v,(results fn a.tmps).run X.P w= .ok v w∧aw X.K ρ F w x v:=by
 have u9:∀tmps,results fn tmps=(do let vs<-fn.results.mapM (Td tmps);pure (if h:vs.size=1 then vs[0]else .tuple vs)):=by
  intro tmps;unfold results
  congr 1
 have KQ:fn.results=rs.toArray:=by rw [<-ph]
 unfold J4 at h;split at h
 ·exact⟨_,h,λ{nt rdc w0 S F ρ a w} hI hs=>⟨.tuple #[],by rw [u9,KQ];simp [dO],.dc [] [] rfl (λj x v h _=>dB)⟩⟩
 ·rename_i a;obtain⟨x,h,hd⟩:=AL hX h;refine⟨x,h,λ{nt rdc w0 S F ρ act w} hI hs=> ?_⟩;obtain⟨v,h1,h2⟩:=hd hI hs;exact⟨v,by rw [u9,KQ];simp [dO,h1],h2⟩
 ·rename_i a b;obtain⟨x,h,hd⟩:=AL hX h;obtain⟨y,h,kU⟩:=AL hX h;refine⟨_,h,λ{nt rdc w0 S F ρ act w} hI hs=> ?_⟩;obtain⟨v,h1,h2⟩:=hd hI hs;obtain⟨v2,h3,h4⟩:=kU hI hs;refine⟨.tuple #[v,v2],by rw [u9,KQ];simp [dO,h1,h3],.dc [x,y] [v,v2] rfl (λj z u hz hu=> ?_)⟩
  match j with
  |0=>simp at hz hu;subst hz;subst hu;exact h2
  |1=>simp at hz hu;subst hz;subst hu;exact h4
  |j+2=>simp at hz
 ·rename_i a b c;obtain⟨x,h,hd⟩:=AL hX h;obtain⟨y,h,kU⟩:=AL hX h;obtain⟨z,h,hd3⟩:=AL hX h;refine⟨_,h,λ{nt rdc w0 S F ρ act w} hI hs=> ?_⟩;obtain⟨v,h1,h2⟩:=hd hI hs;obtain⟨v2,h3,h4⟩:=kU hI hs;obtain⟨v3,h5,h6⟩:=hd3 hI hs;refine⟨.tuple #[v,v2,v3],by rw [u9,KQ];simp [dO,h1,h3,h5],.dc [x,y,z] [v,v2,v3] rfl (λj q u hz hu=> ?_)⟩
  match j with
  |0=>simp at hz hu;subst hz;subst hu;exact h2
  |1=>simp at hz hu;subst hz;subst hu;exact h4
  |2=>simp at hz hu;subst hz;subst hu;exact h6
  |j+3=>simp at hz
 ·cases h
def J6(X:Cx)(rs:List ResultVar)(k:AV->ar->Option R)(e:Ex)(st:St):Option R:=
 match e with
 | .exit _=>none
 |_=>match st.gJ with| []=>J4 X rs st k|_=>none
def FZ(X:Cx)(L:iM R)(c:Code)(rs:List ResultVar)(args:aD)(M:ar)(k:AV->ar->Option R):Option R:=
 aB (Nat.ble args.length L.fS.nt.n) (lV X L c 1 ⟨pN 0 args,M,[],.out⟩ (J6 X rs k))
def bH.less{F0 F:aO}{ρ ρ':aT}{wb w:World}(g:bH F0 F ρ ρ' wb w){D:Nat}(hD:∀a,F0 a->a.block≠D)(o:Obj):bH F0 (less F D) ρ ρ' wb (w.putObj D o):=
 ⟨λa ha=>⟨g.hF a ha,hD a ha⟩,g.dR,λa ha=>by rw [lY (hD a ha)];exact g.hb a ha⟩
def Xw{fn:Func}{tmps:Array Value}{M:ar}{env:bA}{w0 wb:World}{S:Sc}{F0:aO}{ρ ρ':aT}{x:AV}(mq:∀a,S.F0 a->F0 a)
 (u9:∀{F:aO} {w:World},Inv X w0 S F ρ' M w->gX X ρ' F w env tmps->∃v,(results fn tmps).run X.P w= .ok v w∧aw X.K ρ' F w x v):
 ∀(ms:cp) {F:aO} {w:World},Inv X w0 S F ρ' M w->gX X ρ' F w env tmps->ms.Nodup->(∀D∈ms,(∀a,F0 a->a.block≠D)∧F ⟨D,0,none⟩∧w.heap[D]?=some (.deferred (some [])))->bH F0 F ρ ρ' wb w->
  LeavesInM Fence.wide 0 X.P fn tmps (λe w'=>∃v ρ' F',e= .returned v∧Inv X w0 S F' ρ' M w'∧bH F0 F' ρ ρ' wb w'∧aw X.K ρ' F' w' x v) (ms.map λD=>({target:= .collected D,args:= #[]}:Deferred)) .returning w
 | [],F,w,hI,hE,_,_,hg=>by
   obtain⟨v,h1,h2⟩:=u9 hI hE;exact⟨v,h1,v,ρ',F,rfl,hI,hg,h2⟩
 |D::ms,F,w,hI,hE,sC,GG,hg=>by
  obtain⟨h1,h2,h3⟩:=GG D (by simp);have hc:=akp h3;refine⟨by simp,.inl ⟨D,_,rfl,run_takeDeferred h3,Xw mq u9 ms (hI.H7 h2 hc (λa ha=>h1 a (mq a ha)) _) (hE.less hc _) (D6.1 sC).2 (λD' hD'=> ?_) (hg.less h1 _)⟩⟩;have c9:D'≠D:=by rintro rfl;exact(D6.1 sC).1 hD'
  obtain⟨k1,k2,k3⟩:=GG D' (by simp [hD']);exact⟨k1,⟨k2,c9⟩,by rw [lY c9];exact k3⟩
def aoC(hX:X.Okb){nt:Nt}(hf:X.P.funcs[f]?=some fn)(hb:fn.body=some c)(hn:fn.ntmps=nt.n)
 (hc:∀(vs:Array Value) (w:World),(callFunc f vs).run X.P w= .ok (.enter f vs) w)  (ph:fn.results.toList=rs)    
 (hle:args.length<=nt.n) {e:Ex} {av:St} (cC:nZ X nt c ⟨pN 0 args,M,[],.out⟩ (Ex.l9 e) av) (h:J6 X rs k e av=some r):
 ∃x M',qq X f args M x M'∧k x M'=some r:=by
 have he:e≠ .normal ->e= .ret :=by
  intro c9;cases e with
  |normal=>exact absurd rfl c9
  |ret=>rfl
  |exit i=>simp [J6]at h
 have zq:(match av.gJ with| []=>J4 X rs av k|_=>none)=some r:=by
  cases e with
  |normal=>exact h
  |ret=>exact h
  |exit i=>simp [J6]at h
 split at zq
 ·rename_i afS;obtain⟨x,hk,u9⟩:=anF hX ph zq;refine⟨x,av.mem,⟨hc,λ{w0 S F ρ w vs} hI hr=> ?_⟩,hk⟩;refine(PM (n:=0)).1 (callsIn_of_wp_marks hf hb trivial ?_);have hlen:=hr.1;have:=cC (rdc:=⟨none,F,λt=>(vs.toArray++Array.replicate (fn.ntmps- vs.toArray.size) undef).getD t undef⟩) (n:=0) (Q:=bodyPostM Fence.wide 0 X.P fn (λe w'=>∃v ρ' F',e= .returned v∧Inv X w0 S F' ρ' av.mem w'∧bH F F' ρ ρ' w w'∧aw X.K ρ' F' w' x v))
   (a:={tmps:=vs.toArray++Array.replicate (fn.ntmps- vs.toArray.size) undef,defers:=[]}) hI ⟨λt=> ?_,?_,Marks.nil _ _ (λ_ h=>h),.inl rfl,λt _=>rfl⟩ ?_
  ·exact this
  ·rw [OH,if_pos (dX _)];cases hx:args[t- 0]? with
   |none=>exact .top _
   |some y=>
    have ht:t<vs.length:=EY;have hv:(vs.toArray++Array.replicate (fn.ntmps- vs.toArray.size) undef).getD t undef=vs[t]:=by
     rw [nS,PE (EH)];simp [ht]
    rw [hv];exact hr.2 t y _ (EJ) (cJ ht)
  ·simp only [Array.size_append,A2,Array.size_replicate,hlen,hn];omega
  ·intro a' w' F' ρ' c6 bX hg;have hd:Marks F' w' F a'.defers:=by have:=bX.defs;rw [afS]at this;exact this
   obtain⟨_,ms,ayo,ayn,aym⟩:=hd;have acL:LeavesInM Fence.wide 0 X.P fn a'.tmps (λe w'=>∃v ρ' F',e= .returned v∧Inv X w0 S F' ρ' av.mem w'∧bH F F' ρ ρ' w w'∧aw X.K ρ' F' w' x v) a'.defers .returning w':=by
    rw [ayo];exact Xw (env:=av.env) hI.fin (λ{F2 w2} i2 e2=>u9 (rdc:=⟨none,λ_=>False,λt=>a'.tmps.getD t undef⟩) (a:={tmps:=a'.tmps,defers:=[]}) i2 ⟨e2,bX.size,by rw [afS];exact Marks.nil _ _ (λ_ h=>h.elim),.inl rfl,λt _=>rfl⟩) ms c6 bX.env ayn aym hg
   by_cases c9:e= .normal
   ·subst c9;exact acL
   ·rw [he c9];exact acL
 ·cases zq
def O6(hX:X.Okb){L:iM R}(hL:L.Ok X c)(hf:X.P.funcs[f]?=some fn)(hb:fn.body=some c)(hn:fn.ntmps=L.fS.nt.n)
 (hc:∀(vs:Array Value) (w:World),(callFunc f vs).run X.P w= .ok (.enter f vs) w)  (ph:fn.results.toList=rs)     (h:FZ X L c rs args M k=some r):
 ∃x M',qq X f args M x M'∧k x M'=some r:=by
 unfold FZ at h;replace h:=bG h;obtain⟨hle,h⟩:=h;obtain⟨e,av,cC,h⟩:=qU hX hL c (At.root c) h;exact aoC hX hf hb hn hc ph (oL hle) cC h
end
end Go.ae

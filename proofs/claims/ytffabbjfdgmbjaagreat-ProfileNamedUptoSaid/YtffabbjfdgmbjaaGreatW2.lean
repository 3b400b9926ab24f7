/-
  The engine, part Ad: closed runs: calls, loops and ranges all run in place.
-/
import Derived.Test.YtffabbjfdgmbjaaGreatW1
import Derived.Lib.UnsafeStr
import Derived.Lib.Builder
import Derived.Laws.Externs
import Derived.OrdersIn
import Derived.LoopNIn
import Derived.RangeFuncLeaves
import Derived.RangeFuncNested
import Derived.ProofKit
import Derived.OpenShut
import Derived.Carry
import Derived.ChangeArms
set_option linter.all false
set_option linter.deprecated false
set_option maxHeartbeats 4000000
namespace Go.ah
def avu{p:Prop}(h:p:=by
 have Bm:dZ X.K ρ F w (first++c.args.toList.map e++iP) (v1++c.args.toList.map act.eval++v2):=(dZ.append ⟨jg,r1⟩ (J9 hr _)).append ⟨ki,r2⟩;have C5:=vL hI Bm;have e1:(v1.toArray++c.args.map act.eval)++v2.toArray=(v1++c.args.toList.map act.eval++v2).toArray :=by apply Ek;simp
 refine⟨λ_ _=>trivial,?_⟩;rw [TW _ _ _ (by simp [ho])];have eG:(execOp act.eval o).run X.P w= .ok (.enter g (v1++c.args.toList.map act.eval++v2).toArray) w:=by
  simp only [execOp,ho,resolve,tR,hv,Deferred.ofValue,iB,mQ,lg,invoke];rw [e1];exact tu _ _
 rw [eG];refine⟨λhd=>by simp [qM,Fence.wide]at hd,?_⟩;have eT:CallsIn Fence.wide (n- 1) X.P g (v1++c.args.toList.map act.eval++v2).toArray w (λe w'=>∃v ρ' F',e= .returned v/\Inv X w0 S F' ρ' M' w'/\Grow F F' ρ ρ' w w'/\aR X.K ρ' F' w' x v):=ac3.2 C5;have oK:CallsIn (qM rd) (n- 1) X.P g (v1++c.args.toList.map act.eval++v2).toArray w (λe w'=>∃v ρ' F',e= .returned v/\Inv X w0 S F' ρ' M' w'/\Grow F F' ρ ρ' w w'/\aR X.K ρ' F' w' x v):=eT;refine oK.mono ?_;rintro en w' ⟨v,ρ',F',rfl,h3,h4,h5⟩;exact hn v w' ρ' F' h3 h4 h5):p:=h
def C4{p:Prop}(h:p:=by simp only [y4,ho,Option.some.injEq]at hi;subst hi;exact jv):p:=h
def oF{p:Prop}(h:p:=by simp [execOp,ho]):p:=h
def kI{p:Prop}(h:p:=by simp [ho]):p:=h
def tJ{p:Prop}(h:p:=by simp [y4,ho]at hi):p:=h
def Ag{p:Prop}(h:p:=by apply Ek;simp):p:=h
def afB{p:Prop}(h:p:=by simp only [y4,ho,tR,hx,Option.some.injEq]at hi;subst hi;exact jv):p:=h
def aeU{p:Prop}(h:p:=by simp [execOp,ho,resolve,tR,invoke,builtin,e2]):p:=h
def Vr{p:Prop}(h:p:=by apply Ek;simpa using hx):p:=h
def aqp{p:Prop}(h:p:=by exact core (λ{ρ F w v} hv=>by rw [hx]at hv;cases hv;exact .inl ⟨_,rfl⟩) h):p:=h
def aeG{p:Prop}(h:p:=by simp [y4,ho,tR]at hi):p:=h
def apx{p:Prop}(h:p:=by simp [execOp,ho,resolve,tR,invoke,builtin]):p:=h
def OO{p:Prop}(h:p:=by rw [hj]at hp;cases hp):p:=h
end Go.ah
namespace Go.ah
def xJ:=@List.mem_range
def TW:=@Go.Oper.semAt_eq
def ac3:=@Go.callsIn_wide
end Go.ah
namespace Go.ah
open Go
noncomputable section
variable {X:Cx} {R:Type}
variable {w0 w w':World} {S:Sc} {F:bC} {ρ:bF} {M:aL}
variable{s:(Operand->Value)->Sem Value}{x:AV}{a:Act}{next:Act->World->Prop}{Q:Exit->Act->World->Prop}{n:Nat}{o:Oper}{e:Operand->AV}{ρe:Operand->Value}{rd:Option Nat}
def qM(rd:Option Nat):Fence:={Fence.wide with round:=rd}
def jR(X:Cx)(o:Oper)(e:Operand->AV)(M:aL)(x:AV)(M':aL):Prop:=
 ∀{rd:Option Nat} {n:Nat} {w0:World} {S:Sc} {F:bC} {ρ:bF} {w:World} {a:Act} {next:Act->World->Prop} {Q:Exit->Act->World->Prop},Inv X w0 S F ρ M w->(∀y,aR X.K ρ F w (e y) (a.eval y))->
  (∀v w' ρ' F',Inv X w0 S F' ρ' M' w'->Grow F F' ρ ρ' w w'->aR X.K ρ' F' w' x v->next (a.put o.dst v) w')->o.wpIn (qM rd) n X.P a w next Q
def ya(X:Cx)(f:FuncId)(args:aq)(M:aL)(x:AV)(M':aL):Prop:=
 (∀(vs:Array Value) (w:World),(callFunc f vs).run X.P w= .ok (.enter f vs) w)/\
 ∀{w0:World} {S:Sc} {F:bC} {ρ:bF} {w:World} {vs:jb},Inv X w0 S F ρ M w->dZ X.K ρ F w args vs->
  Calls X.P f vs.toArray w (λe w'=>∃v ρ' F',e= .returned v/\Inv X w0 S F' ρ' M' w'/\Grow F F' ρ ρ' w w'/\aR X.K ρ' F' w' x v)
def UP(X:Cx)(id:Nat)(args:aq)(M:aL)(x:AV)(M':aL):Prop:=
 ∀{rd:Option Nat} {n:Nat} {w0:World} {S:Sc} {F:bC} {ρ:bF} {w:World} {vs:jb} {hd:Hd} {g:Nat},Inv X w0 S F ρ M w->dZ X.K ρ F w args vs->ρ[id]?=some hd->hd.v= .pointer (some ⟨g,0,none⟩)->
  ∃f tmps ag body,(Instr.yield g vs.toArray).run X.P w= .ok (.round g f tmps ag body) w/\
   RoundIn (qM rd) n X.P g f tmps ag body w (λe w'=>∃v ρ' F',e= .returned v/\Inv X w0 S F' ρ' M' w'/\Grow F F' ρ ρ' w w'/\aR X.K ρ' F' w' x v)
structure Nt where
 n:Nat
 mask:Nat
structure nQ(R:Type) where
 nt:Nt
 wr:FuncId->aq->aL->Option dy
 call:FuncId->aq->aL->(AV->aL->Option R)->Option R
 yield:Nat->aq->aL->(AV->aL->Option R)->Option R
structure nQ.wU(X:Cx)(T:nQ R):Prop where
 call:∀{f args M k r},T.call f args M k=some r->∃x M',ya X f args M x M'/\k x M'=some r/\∀ids,T.wr f args M=some ids->eR ids M M'
 yield:∀{id args M k r},T.yield id args M k=some r->∃x M',UP X id args M x M'/\k x M'=some r
def tw(X:Cx)(env:cf):Operand->AV
 | .tmp t=>look env t
 | .const v=>adX v
 | .global g=>X.jH g
 | .func f=> .gM f [] []
def GX(hI:Inv X w0 S F ρ M w){env:cf}(h:mA X ρ F w env a.tmps)(y:Operand):aR X.K ρ F w (tw X env y) (a.eval y):=by
 cases y with
 |tmp t=>exact h t
 |const v=>exact aIu _ _ _ _ v
 |global g=>exact hI.jH g
 |func f=>exact .gM f [] [] [] [] rfl rfl (λj x v h _=>jY) (λj x v h _=>jY)
def Xs(op:UnOp)(x:AV)(k:AV->Option R):Option R:=
 match op,x with
 | .not,.bool b=>k (.bool (!b))
 | .neg,.int kd n=>k (.int kd (kd.wrap (0- n)))
 |_,_=>none
def VK(X:Cx)(s d:TypeId)(x:AV)(k:AV->Option R):Option R:=
 match(X.ti s).ok,(X.ti d).ok,(X.ti d).u,x with
 |true,true,.int kd,.int _ n=>k (.int kd (kd.wrap n))
 |_,_,_,_=>none
def Tv(x:AV)(k:AV->Option R):Option R:=
 match x with
 | .ptr _ _ _=>k x
 | .iO _ _ _=>k x
 | .gM _ _ _=>k x
 |_=>none
def agm(X:Cx)(o:Oper)(x:AV)(mx:Option Operand):Bool:=match x,o.dst,mx with| .ak _,some d,none=>X.vw d o.type|_,_,_=>false
def mkN(X:Cx)(o:Oper)(t:TypeId):Bool:=match o.dst with|some d=>X.vw d t|none=>false
def vY(X:Cx)(T:nQ R)(e:Operand->AV)(o:Oper)(M:aL)(k:AV->aL->Option R):Option R:=
 match o.op with
 | .move x=>k (e x) M
 | .assign x=>k (e x) M
 | .pick c a b=>match e c with| .bool t=>(match t with|true=>k (e a) M|false=>k (e b) M)|_=>none
 | .alloc t=>adW X t M k
 | .box t x=>af1 X t (e x) M k
 | .build t ps=>OF X t (ps.toList.map λp=>(p.1,e p.2)) λy=>k y M
 | .buildSlice t n ps=>match aO4 (ps.toList.map λp=>(p.1,e p.2))with|true=>aco X t n (ps.toList.map λp=>(p.1,e p.2)) M k|false=>NC X t n (ps.toList.map λp=>(p.1,e p.2)) M k
 | .load t x=>wS X t (e x) M λy=>k y M
 | .store t x y=>adT X t (e x) (e y) M λM'=>k (.gw []) M'
 | .nilCheck x=>Tv (e x) λy=>k y M
 | .binOp op t x y _=>Pv X op t (e x) (e y) λz=>k z M
 | .unOp op _ x=>Xs op (e x) λz=>k z M
 | .convert s d x=>VK X s d (e x) λz=>k z M
 | .fieldAddr t x f=>NO X t (e x) f λy=>k y M
 | .field t x f=>OE X t (e x) f λy=>k y M
 | .indexAddr t x i=>Cg X t (e x) (e i) M λy=>k y M
 | .index t x i=>OD X t (e x) (e i) λy=>k y M
 | .slice t x lo hi mx=>match agm X o (e x) mx with|true=>Hg X t (e x) (lo.map e) (hi.map e) M λy=>k y M|false=>Eu X t (e x) (lo.map e) (hi.map e) (mx.map e) M k
 | .makeSlice t l c=>match mkN X o t with|true=>adU X t (e l) (e c) M k|false=>ab3 X t (e l) (e c) M k
 | .extract x i=>match e x with| .gw vs=>(match vs[i]? with|some y=>k y M|none=>none)|_=>none
 | .makeFunc (.func f) first iP=>k (.gM f (first.toList.map e) (iP.toList.map e)) M
 | .call c=>
   match c.callee with
   | .value f=>
     match e f with
     | .gM g first iP=>T.call g (first++c.args.toList.map e++iP) M k
     | .lM id=>T.yield id (c.args.toList.map e) M λx M'=>a8 (Nat.ble M.length M'.length) (k x M')
     |_=>none
   | .builtin .len =>match c.argTypes.toList,c.args.toList with| [t],[x]=>Bp X t (e x) M λy=>k y M|_,_=>none
   | .builtin .min =>EZ rS (c.args.toList.map e) λy=>k y M
   | .builtin .max =>EZ imax (c.args.toList.map e) λy=>k y M
   | .builtin .append =>match c.args.toList with| [s,x]=>adx X c.argTypes.toList (e s) (e x) M k|_=>none
   | .builtin .copy =>match c.args.toList with| [s,x]=>afa X c.argTypes.toList (e s) (e x) M k|_=>none
   | .builtin .clear =>match c.args.toList with| [s]=>adV X c.argTypes.toList (e s) M k|_=>none
   |_=>none
 | .makeMap t r=>match r with|none=>acE X t M k|some _=>none
 | .lookup t x i ok=>Cu X t (e x) (e i) ok M λy=>k y M
 | .mapUpdate t m i x=>Tl X t (e m) (e i) (e x) M λM'=>k (.gw []) M'
 | .insert t m i x=>Tl X t (e m) (e i) (e x) M λM'=>k (.gw []) M'
 |_=>none
def y4(T:nQ R)(e:Operand->AV)(o:Oper)(M:aL):Option dy:=
 match o.op with
 | .alloc _=>some []
 | .box _ _=>some []
 | .makeSlice _ _ _=>some []
 | .buildSlice _ _ ps=>some ((ps.toList.map λp=>(p.1,e p.2)).flatMap λp=>p.2.cells.flatMap tH)
 | .store _ x y=>some (CF (e x)++(e y).cells.flatMap tH)
 | .slice _ x _ _ _=>some (tH (e x))
 | .call c=>
   match c.callee with
   | .value f=>
     match e f with
     | .gM g first iP=>T.wr g (first++c.args.toList.map e++iP) M
     | .lM _=>some (List.range M.length)
     |_=>none
   | .builtin .append =>match c.args.toList with| [s,_]=>some (tH (e s))|_=>none
   | .builtin .copy =>match c.args.toList with| [s,_]=>some (rN (e s))|_=>none
   | .builtin .clear =>match c.args.toList with| [s]=>some (rN (e s))|_=>none
   | .builtin .unsafeSliceData =>some []
   | .builtin .unsafeString =>match c.args.toList with| [p,_]=>some (CF (e p))|_=>none
   |_=>none
 | .makeMap _ _=>some []
 | .mapUpdate _ m _ _=>some (Hr (e m))
 | .insert _ m _ _=>some (Hr (e m))
 |_=>none
def Gt(hd:∀c,o.op≠ .defer c){v:Value}(h:(execOp a.eval o).run X.P w= .ok (.value v) w')(hn:next (a.put o.dst v) w'):
 o.wpIn (qM rd) n X.P a w next Q:=by
 refine⟨λ_ _=>trivial,?_⟩;rw [TW _ _ _ hd,h];exact hn
def abB(hd:∀c,o.op≠ .defer c)(h:(execOp a.eval o).run X.P w= .ok .skip w')(hn:next (a.put o.dst undef) w'):
 o.wpIn (qM rd) n X.P a w next Q:=by
 refine⟨λ_ _=>trivial,?_⟩;rw [TW _ _ _ hd,h];exact hn
def jR.sV(hd:∀c,o.op≠ .defer c)(hs:∀ρe,execOp ρe o=(do pure (.value (<-s ρe)):Sem Next))
 (h:∀{w0:World} {S:Sc} {F:bC} {ρ:bF} {w:World} {ρe:Operand->Value},Inv X w0 S F ρ M w->(∀y,aR X.K ρ F w (e y) (ρe y))->∃v,(s ρe).run X.P w= .ok v w/\aR X.K ρ F w x v):jR X o e M x M:=by
 intro rd n w0 S F ρ w a next Q hI hr hn;obtain⟨v,h1,h2⟩:=h hI hr;exact Gt hd (by rw [hs,iB,h1];rfl) (hn v w ρ F hI (Grow.refl _ _ _) h2)
def jR.yY(hd:∀c,o.op≠ .defer c){M':aL}(hs:∀ρe,execOp ρe o=(do pure (.value (<-s ρe)):Sem Next))
 (h:∀{w0:World} {S:Sc} {F:bC} {ρ:bF} {w:World} {ρe:Operand->Value},Inv X w0 S F ρ M w->(∀y,aR X.K ρ F w (e y) (ρe y))->∃v w' ρ' F',(s ρe).run X.P w= .ok v w'/\Inv X w0 S F' ρ' M' w'/\Grow F F' ρ ρ' w w'/\aR X.K ρ' F' w' x v):jR X o e M x M':=by
 intro rd n w0 S F ρ w a next Q hI hr hn;obtain⟨v,w',ρ',F',h1,h2,h3,h4⟩:=h hI hr;exact Gt hd (by rw [hs,iB,h1];rfl) (hn v w' ρ' F' h2 h3 h4)
def J9(hr:∀y,aR X.K ρ F w (e y) (ρe y))(xs:List Operand):dZ X.K ρ F w (xs.map e) (xs.map ρe):=by
 refine⟨by simp,λj x v hx hv=> ?_⟩;rw [kW]at hx hv;cases h:xs[j]? with
 |none=>rw [h]at hx;cases hx
 |some y=>
  rw [h]at hx hv;simp only [ox,Option.some.injEq]at hx hv;subst hx;subst hv;exact hr y
def dZ.append{xs ys:aq}{vs us:jb}(h:dZ X.K ρ F w xs vs)(k:dZ X.K ρ F w ys us):dZ X.K ρ F w (xs++ys) (vs++us):=by
 refine⟨by simp [h.1,k.1],λj x v hx hv=> ?_⟩
 by_cases hj:j<xs.length
 ·exact aqL
 ·rw [nT (by omega)]at hx;rw [nT (by rw [h.1];omega),h.1]at hv;exact k.2 _ x v hx hv
def Og(hr:∀y,aR X.K ρ F w (e y) (ρe y))(o:Option Operand):ym X.K ρ F w (o.map e) (o.map ρe):=by
 cases o with
 |none=>trivial
 |some y=>exact hr y
set_option maxHeartbeats 1600000 in
def aIK(hX:X.Okb){T:nQ R}(hT:T.wU X){k:AV->aL->Option R}{r:R}(h:vY X T e o M k=some r):
 ∃x M',jR X o e M x M'/\k x M'=some r/\∀ids,y4 T e o M=some ids->eR ids M M':=by
 unfold vY at h;split at h
 ·rename_i x ho;exact⟨_,_,jR.sV (s:=λρe=>pure (ρe x)) (kI) (λρe=>oF) (λ{w0 S F ρ w ρe} hI hr=>⟨_,rfl,hr x⟩),h,λids hi=>tJ⟩
 ·rename_i x ho;exact⟨_,_,jR.sV (s:=λρe=>pure (ρe x)) (kI) (λρe=>oF) (λ{w0 S F ρ w ρe} hI hr=>⟨_,rfl,hr x⟩),h,λids hi=>tJ⟩
 ·rename_i c a b ho;split at h
  ·rename_i t hc;have avJ:∀ρe,execOp ρe o=(do pure (.value (if<-asBool (ρe c)then ρe a else ρe b)):Sem Next):=λρe=>oF;split at h
   ·refine⟨_,_,λ{rd n w0 S F ρ w act next Q} hI hr hn=> ?_,h,λids hi=>tJ⟩;have h1:=hr c;rw [hc]at h1;generalize hv:act.eval c=vc at h1;cases h1;exact Gt (kI) (by rw [avJ,hv];rfl) (hn _ w ρ F hI (Grow.refl _ _ _) (hr a))
   ·refine⟨_,_,λ{rd n w0 S F ρ w act next Q} hI hr hn=> ?_,h,λids hi=>tJ⟩;have h1:=hr c;rw [hc]at h1;generalize hv:act.eval c=vc at h1;cases h1;exact Gt (kI) (by rw [avJ,hv];rfl) (hn _ w ρ F hI (Grow.refl _ _ _) (hr b))
  ·exact aM
 ·rename_i t ho;obtain⟨x,M',h,jv,hd⟩:=aHp hX h;exact⟨x,M',jR.yY (s:=λ_=>Instr.alloc t true (.tuple #[])) (kI) (λρe=>oF) (λ{w0 S F ρ w ρe} hI hr=>hd hI trivial),h,λids hi=>C4⟩
 ·rename_i t x ho;obtain⟨y,M',h,jv,hd⟩:=aIM h;exact⟨y,M',jR.yY (s:=λρe=>Instr.box t (ρe x)) (kI) (λρe=>oF) (λ{w0 S F ρ w ρe} hI hr=>hd (ρe x) hI (hr x)),h,λids hi=>C4⟩
 ·rename_i t ps ho;obtain⟨y,h,hd⟩:=aHo (M:=M) hX h;refine⟨y,M,jR.sV (s:=λρe=>Instr.build t (ps.map λ(i,x)=>(i,ρe x))) (kI) (λρe=>oF) (λ{w0 S F ρ w ρe} hI hr=> ?_),h,λids hi=>tJ⟩;obtain⟨u,h1,h2⟩:=hd (ps.toList.map λp=>(p.1,ρe p.2)) hI (by simp) (λj p q hp hq=>by
   rw [kW]at hp hq;cases hj:ps.toList[j]? with
   |none=>exact OO
   |some z=>
    rw [hj]at hp hq;simp only [ox,Option.some.injEq]at hp hq;subst hp;subst hq;exact⟨rfl,hr z.2⟩)
  refine⟨u,?_,h2⟩;have:(ps.map λ(i,x)=>(i,ρe x))=(ps.toList.map λp=>(p.1,ρe p.2)).toArray :=Ag;rw [this];exact h1
 ·rename_i t n ps ho;split at h
  ·obtain⟨y,M',h,jv,hd⟩:=aD9 hX h;refine⟨y,M',jR.yY (s:=λρe=>Instr.buildSlice t n (ps.map λ(i,x)=>(i,ρe x))) (kI) (λρe=>oF) (λ{w0 S F ρ w ρe} hI hr=> ?_),h,λids hi=>by simp only [y4,ho,Option.some.injEq]at hi;subst hi;exact jv.mono (λi hi=>by cases hi)⟩;have:=hd (ps.toList.map λp=>(p.1,ρe p.2)) hI (by simp) (λj p q hp hq=>by
    rw [kW]at hp hq;cases hj:ps.toList[j]? with
    |none=>exact OO
    |some z=>
     rw [hj]at hp hq;simp only [ox,Option.some.injEq]at hp hq;subst hp;subst hq;exact⟨rfl,hr z.2⟩)
   have e1:(ps.map λ(i,x)=>(i,ρe x))=(ps.toList.map λp=>(p.1,ρe p.2)).toArray :=Ag;rw [e1];exact iK
  ·obtain⟨y,M',h,jv,hd⟩:=ajq hX h;refine⟨y,M',jR.yY (s:=λρe=>Instr.buildSlice t n (ps.map λ(i,x)=>(i,ρe x))) (kI) (λρe=>oF) (λ{w0 S F ρ w ρe} hI hr=> ?_),h,λids hi=>C4⟩;have:=hd (ps.toList.map λp=>(p.1,ρe p.2)) hI (by simp) (λj p q hp hq=>by
    rw [kW]at hp hq;cases hj:ps.toList[j]? with
    |none=>exact OO
    |some z=>
     rw [hj]at hp hq;simp only [ox,Option.some.injEq]at hp hq;subst hp;subst hq;exact⟨rfl,hr z.2⟩)
   have e1:(ps.map λ(i,x)=>(i,ρe x))=(ps.toList.map λp=>(p.1,ρe p.2)).toArray :=Ag;rw [e1];obtain⟨v,w',ρ',F',h1,h2,h3,h4,_⟩:=this;exact⟨v,w',ρ',F',h1,h2,h3,h4⟩
 ·rename_i t x ho;obtain⟨y,h,hd⟩:=alj hX h;exact⟨y,M,jR.sV (s:=λρe=>Instr.loadAt t (ρe x)) (kI) (λρe=>oF) (λ{w0 S F ρ w ρe} hI hr=>hd hI (hr x)),h,λids hi=>tJ⟩
 ·rename_i t x y ho;obtain⟨M',h,jv,hd⟩:=aHi hX h;refine⟨_,M',λ{rd n w0 S F ρ w act next Q} hI hr hn=> ?_,h,λids hi=>C4⟩;obtain⟨w',F',h1,h2,h3⟩:=hd hI (hr x) (hr y);refine abB (kI) (w':=w') ?_ (hn undef w' ρ F' h2 h3 (.gw [] [] rfl (λj x v h _=>jY)));simp [execOp,ho,h1]
 ·rename_i x ho;unfold Tv at h;have core:∀(hp:∀{ρ:bF} {F:bC} {w:World} {v:Value},aR X.K ρ F w (e x) v->(∃a,v= .pointer (some a))∨∃f c1 c2,v= .func (.func f) c1 c2),k (e x) M=some r->∃y M',jR X o e M y M'/\k y M'=some r/\∀ids,y4 T e o M=some ids->eR ids M M':=by
   intro hp h;refine⟨_,_,λ{rd n w0 S F ρ w act next Q} hI hr hn=> ?_,h,λids hi=>tJ⟩;have h1:=hr x;refine Gt (kI) (v:=act.eval x) (w':=w) ?_ (hn _ w ρ F hI (Grow.refl _ _ _) h1);rcases hp h1 with⟨a,hv⟩|⟨f,c1,c2,hv⟩<;>simp [execOp,ho,hv]
  split at h
  ·rename_i id i off hx;exact aqp
  ·rename_i t row off hx;exact aqp
  ·rename_i f c1 c2 hx;exact core (λ{ρ F w v} hv=>by rw [hx]at hv;cases hv;exact .inr ⟨_,_,_,rfl⟩) h
  ·exact aM
 ·rename_i op t x y u ho;obtain⟨z,h,hd⟩:=aIN (a:=x) (b:=y) (u:=u) hX h;exact⟨z,M,jR.sV (s:=λρe=>(do eqGuard op t x y (ρe x) (ρe y);binOp op t (ρe x) (ρe y))) (kI) (λρe=>oF) (λ{w0 S F ρ w ρe} hI hr=>hd ρ F w _ _ (hr x) (hr y)),h,λids hi=>tJ⟩
 ·rename_i op t x ho;unfold Xs at h;split at h
  ·rename_i b hx;refine⟨_,M,jR.sV (s:=λρe=>Op.unary .not (ρe x)) (kI) (λρe=>oF) (λ{w0 S F ρ w ρe} hI hr=> ?_),h,λids hi=>tJ⟩;have h1:=hr x;rw [hx]at h1;generalize ρe x=vx at h1;cases h1;exact⟨_,rfl,.bool _⟩
  ·rename_i kd n hx;refine⟨_,M,jR.sV (s:=λρe=>Op.unary .neg (ρe x)) (kI) (λρe=>oF) (λ{w0 S F ρ w ρe} hI hr=> ?_),h,λids hi=>tJ⟩;have h1:=hr x;rw [hx]at h1;generalize ρe x=vx at h1;cases h1;exact⟨_,rfl,.int _ _⟩
  ·exact aM
 ·rename_i s d x ho;unfold VK at h;split at h
  ·rename_i kd k0 n h1 h2 h3 hx;obtain⟨i1,d1,z1,f1⟩:=hX.facts h1;obtain⟨i2,d2,z2,f2⟩:=hX.facts h2;have e8:=f2.avD h3;refine⟨_,M,jR.sV (s:=λρe=>convert s d (ρe x)) (kI) (λρe=>oF) (λ{w0 S F ρ w ρe} hI hr=> ?_),h,λids hi=>tJ⟩;have h4:=hr x;rw [hx]at h4;generalize ρe x=vx at h4;cases h4;refine⟨.int kd (kd.wrap n),?_,.int _ _⟩;unfold convert;simp only [iB,mz f1.od,mz e8,lg,Conv.intToInt,mQ]
  ·exact aM
 ·rename_i t x f ho;obtain⟨y,h,hd⟩:=aDa hX h;exact⟨y,M,jR.sV (s:=λρe=>Instr.fieldAt t (ρe x) f) (kI) (λρe=>oF) (λ{w0 S F ρ w ρe} hI hr=>hd (hr x)),h,λids hi=>tJ⟩
 ·rename_i t x f ho;obtain⟨y,h,hd⟩:=aHm hX h;exact⟨y,M,jR.sV (s:=λρe=>Instr.field t (ρe x) f) (kI) (λρe=>oF) (λ{w0 S F ρ w ρe} hI hr=>hd (hr x)),h,λids hi=>tJ⟩
 ·rename_i t x i ho;obtain⟨y,h,hd⟩:=aC9 hX h;exact⟨y,M,jR.sV (s:=λρe=>Instr.indexAt t (ρe x) (ρe i)) (kI) (λρe=>oF) (λ{w0 S F ρ w ρe} hI hr=>hd hI (hr x) (hr i)),h,λids hi=>tJ⟩
 ·rename_i t x i ho;obtain⟨y,h,hd⟩:=aHl hX h;exact⟨y,M,jR.sV (s:=λρe=>Instr.index t (ρe x) (ρe i)) (kI) (λρe=>oF) (λ{w0 S F ρ w ρe} hI hr=>hd (hr x) (hr i)),h,λids hi=>tJ⟩
 ·rename_i t x lo hi mx ho;split at h
  ·rename_i DM;have yD:mx=none:=by
    unfold agm at DM;split at DM
    ·rfl
    ·cases DM
   obtain⟨y,h,hd⟩:=aH1 hX h;exact⟨y,M,jR.sV (s:=λρe=>Instr.sliceAt t (ρe x) (lo.map ρe) (hi.map ρe) none) (kI) (λρe=>by simp [execOp,ho,yD]) (λ{w0 S F ρ w ρe} hI hr=>hd hI (hr x) (Og hr lo) (Og hr hi)),h,λids hi=>eR.refl _ _⟩
  obtain⟨y,M',h,jv,hd⟩:=aHj hX h;exact⟨y,M',jR.yY (s:=λρe=>Instr.sliceAt t (ρe x) (lo.map ρe) (hi.map ρe) (mx.map ρe)) (kI) (λρe=>oF) (λ{w0 S F ρ w ρe} hI hr=>hd hI ⟨hr x,Og hr lo,Og hr hi,Og hr mx⟩),h,λids hi=>C4⟩
 ·rename_i t l c ho;split at h
  ·rename_i B0;obtain⟨y,M',h,jv,hd⟩:=aHk hX h;exact⟨y,M',jR.yY (s:=λρe=>Instr.makeSlice t (ρe l) (ρe c)) (kI) (λρe=>oF) (λ{w0 S F ρ w ρe} hI hr=>hd hI ⟨hr l,hr c⟩),h,λids hi=>by simp [y4,ho]at hi;subst hi;exact jv⟩
  obtain⟨y,M',h,jv,hd⟩:=aC8 hX h;exact⟨y,M',jR.yY (s:=λρe=>Instr.makeSlice t (ρe l) (ρe c)) (kI) (λρe=>oF) (λ{w0 S F ρ w ρe} hI hr=>hd hI ⟨hr l,hr c⟩),h,λids hi=>C4⟩
 ·rename_i x i ho;split at h
  ·rename_i vs hx;split at h
   ·rename_i y hy;refine⟨y,M,jR.sV (s:=λρe=>Instr.extract (ρe x) i) (kI) (λρe=>oF) (λ{w0 S F ρ w ρe} hI hr=> ?_),h,λids hi=>tJ⟩;have h1:=hr x;rw [hx]at h1;generalize ρe x=vx at h1;cases h1 with
    |gw _ us hl hu=>
     have hi:=(dX.1 hy).1;have Iy:us[i]?=some (us[i]'(by omega)):=c8 (by omega);refine⟨us[i]'(by omega),?_,hu i y _ hy Iy⟩;unfold Instr.extract;simp only [ac9,Iy,mQ]
   ·exact aM
  ·exact aM
 ·rename_i f first iP ho
  refine⟨_,M,jR.sV (s:=λρe=>Instr.makeFunc (.func f) (first.map ρe) (iP.map ρe)) (kI) (λρe=>oF) (λ{w0 S F ρ w ρe} hI hr=>⟨_,rfl,?_⟩),h,λids hi=>tJ⟩;have h1:=J9 hr first.toList
  have h2:=J9 hr iP.toList;have:=aR.gM (K:=X.K) (ρ:=ρ) (F:=F) (w:=w) f _ _ _ _ h1.1 h2.1 h1.2 h2.2;have e1:(first.toList.map ρe).toArray =first.map ρe:=Ag
  have e2:(iP.toList.map ρe).toArray =iP.map ρe:=Ag;rw [e1,e2]at this;exact iK
 ·rename_i c ho;split at h
  ·rename_i f tR;split at h
   ·rename_i g first iP hf
    obtain⟨x,M',⟨tu,vL⟩,h,jv⟩:=hT.call h;refine⟨x,M',λ{rd n w0 S F ρ w act next Q} hI hr hn=> ?_,h,λids hi=>jv ids (by simpa only [y4,ho,tR,hf]using hi)⟩;have h1:=hr f;rw [hf]at h1;generalize hv:act.eval f=vf at h1;cases h1 with
    |gM _ _ _ v1 v2 jg ki r1 r2=>
     exact avu
   ·rename_i id hf;obtain⟨x,M',hy,h⟩:=hT.yield h;replace h:=cP h;obtain⟨aZh,h⟩:=h;refine⟨x,M',λ{rd n w0 S F ρ w act next Q} hI hr hn=> ?_,h,λids hi=>by
     simp only [y4,ho,tR,hf,Option.some.injEq]at hi;subst hi;exact⟨yR aZh,λi hi hn=>absurd (xJ.2 hi) hn⟩⟩
    have h1:=hr f;rw [hf]at h1;generalize hv:act.eval f=vf at h1;cases h1 with
    |lM _ hd g bf L5=>
     obtain⟨fn,tmps,ag,body,h2,h3⟩:=hy (rd:=rd) (n:=n- 1) hI (J9 hr c.args.toList) bf L5;refine⟨λ_ _=>trivial,?_⟩;rw [TW _ _ _ (kI)];have eG:(execOp act.eval o).run X.P w= .ok (.round g fn tmps ag body) w:=by
      simp only [execOp,ho,resolve,tR,hv,Deferred.ofValue,iB,mQ,lg,invoke];have e1: #[]++c.args.map act.eval=(c.args.toList.map act.eval).toArray :=Ag;rw [e1];exact h2
     rw [eG];refine⟨λhd=>by simp [qM,Fence.wide]at hd,?_⟩;refine h3.mono ?_;rintro en w' ⟨v,ρ',F',rfl,h4,h5,h6⟩;exact hn v w' ρ' F' h4 h5 h6
   ·exact aM
  ·rename_i tR;split at h
   ·rename_i t x ht hx;have e1:c.argTypes= #[t]:=by apply Ek;simpa using ht
    have e2:c.args= #[x]:=Vr;obtain⟨y,h,hd⟩:=aIL (ty:=o.type) hX h;exact⟨y,M,jR.sV (s:=λρe=>Builtin.len_ #[t] o.type #[ρe x]) (kI) (λρe=>by simp [execOp,ho,resolve,tR,invoke,builtin,e1,e2]) (λ{w0 S F ρ w ρe} hI hr=>hd hI (hr x)),h,λids hi=>aeG⟩
   ·exact aM
  ·rename_i tR;obtain⟨y,h,hd⟩:=aJ3 (P:=X.P) (K:=X.K) h;refine⟨y,M,jR.sV (s:=λρe=>Builtin.min_ c.argTypes o.type (c.args.map ρe)) (kI) (λρe=>apx) (λ{w0 S F ρ w ρe} hI hr=> ?_),h,λids hi=>aeG⟩;have e1:c.args.map ρe=(c.args.toList.map ρe).toArray :=Ag;rw [e1];exact hd _ _ (J9 hr _)
  ·rename_i tR;obtain⟨y,h,hd⟩:=aJ4 (P:=X.P) (K:=X.K) h;refine⟨y,M,jR.sV (s:=λρe=>Builtin.max_ c.argTypes o.type (c.args.map ρe)) (kI) (λρe=>apx) (λ{w0 S F ρ w ρe} hI hr=> ?_),h,λids hi=>aeG⟩;have e1:c.args.map ρe=(c.args.toList.map ρe).toArray :=Ag;rw [e1];exact hd _ _ (J9 hr _)
  ·rename_i tR;split at h
   ·rename_i s x hx;have e2:c.args= #[s,x]:=Vr;obtain⟨y,M',h,jv,hd⟩:=aGp (ty:=o.type) hX h;refine⟨y,M',jR.yY (s:=λρe=>Builtin.append_ c.argTypes o.type #[ρe s,ρe x]) (kI) (λρe=>aeU) (λ{w0 S F ρ w ρe} hI hr=> ?_),h,λids hi=>afB⟩;have:=hd hI ⟨hr s,hr x⟩;exact uj
   ·exact aM
  ·rename_i tR;split at h
   ·rename_i s x hx;have e2:c.args= #[s,x]:=Vr;obtain⟨y,M',h,jv,hd⟩:=aH2 (ty:=o.type) hX h;refine⟨y,M',jR.yY (s:=λρe=>Builtin.copy_ c.argTypes o.type #[ρe s,ρe x]) (kI) (λρe=>aeU) (λ{w0 S F ρ w ρe} hI hr=> ?_),h,λids hi=>afB⟩;have:=hd hI ⟨hr s,hr x⟩;exact uj
   ·exact aM
  ·rename_i tR;split at h
   ·rename_i s hx;have e2:c.args= #[s]:=Vr;obtain⟨y,M',h,jv,hd⟩:=aHn (ty:=o.type) hX h;refine⟨y,M',jR.yY (s:=λρe=>Builtin.clear_ c.argTypes o.type #[ρe s]) (kI) (λρe=>aeU) (λ{w0 S F ρ w ρe} hI hr=> ?_),h,λids hi=>afB⟩;have:=hd hI (hr s);exact uj
   ·exact aM
  ·exact aM
 ·rename_i t r' ho;split at h
  ·obtain⟨x,M',h,jv,hd⟩:=aFo hX h;exact⟨x,M',jR.yY (s:=λ_=>Instr.makeMap t none) (kI) (λρe=>oF) (λ{w0 S F ρ w ρe} hI hr=>hd hI trivial),h,λids hi=>C4⟩
  ·exact aM
 ·rename_i t x i ok ho;obtain⟨y,h,hd⟩:=aGo hX h;exact⟨y,M,jR.sV (s:=λρe=>Instr.lookup t (ρe x) (ρe i) ok) (kI) (λρe=>oF) (λ{w0 S F ρ w ρe} hI hr=>hd hI (hr x) (hr i)),h,λids hi=>tJ⟩
 ·rename_i t m i x ho;obtain⟨M',h,jv,hd⟩:=ajA hX h;refine⟨_,M',λ{rd n w0 S F ρ w act next Q} hI hr hn=> ?_,h,λids hi=>C4⟩;obtain⟨w',F',h1,h2,h3⟩:=hd hI (hr m) (hr i) (hr x);refine abB (kI) (w':=w') ?_ (hn undef w' ρ F' h2 h3 (.gw [] [] rfl (λj x v h _=>jY)));simp [execOp,ho,h1]
 ·rename_i t m i x ho;obtain⟨M',h,jv,hd⟩:=ajA hX h;refine⟨_,M',λ{rd n w0 S F ρ w act next Q} hI hr hn=> ?_,h,λids hi=>C4⟩;obtain⟨w',F',h1,h2,h3⟩:=hd hI (hr m) (hr i) (hr x);refine abB (kI) (w':=w') ?_ (hn undef w' ρ F' h2 h3 (.gw [] [] rfl (λj x v h _=>jY)));simp [execOp,ho,h1]
 ·cases h
section
variable {α:Type}
def xo(n:Nat)(k:Nat->Option R):Option R:=match n with|0=>k 0|m+1=>k (Nat.succ m)
def fzI(n:Int)(k:Int->Option R):Option R:=match n with| .ofNat m=>xo m λm=>k (.ofNat m)| .negSucc m=>xo m λm=>k (.negSucc m)
def aro(n:Nat)(k:Nat->Option R):xo n k=k n:=by cases n<;>rfl
def aNM(n:Int)(k:Int->Option R):fzI n k=k n:=by cases n<;>(unfold fzI;exact aro _ λ_=>_)
noncomputable def D0 (f:α->(α->Option R)->Option R) (l:List α):(List α->Option R)->Option R:=
 List.rec (motive:=λ_=>(List α->Option R)->Option R) (λk=>k []) (λx _ ih k=>f x λx'=>ih λl'=>k (x'::l')) l
def EJ{f:α->(α->Option R)->Option R}(hf:∀x k,f x k=k x):∀(l:List α) (k:List α->Option R),D0 f l k=k l
 | [],_=>rfl
 |x::l,k=>by
  show f x (λx'=>D0 f l λl'=>k (x'::l'))=k (x::l);rw [hf,EJ hf l]
def IN(x:AV)(k:AV->Option R):Option R:=
 match x with
 | .int kd n=>fzI n λn=>k (.int kd n)
 | .bool b=>(match b with|true=>k (.bool true)|false=>k (.bool false))
 | .ptr id i off=>xo id λid=>xo i λi=>xo off λoff=>k (.ptr id i off)
 | .ak id=>xo id λid=>k (.ak id)
 | .lM id=>xo id λid=>k (.lM id)
 | .mp id=>xo id λid=>k (.mp id)
 | .p8 id n=>xo id λid=>xo n λn=>k (.p8 id n)
 | .vw id lo n=>xo id λid=>xo lo λlo=>xo n λn=>k (.vw id lo n)
 |x=>k x
def O2(x:AV)(k:AV->Option R):IN x k=k x:=by
 cases x<;>simp only [IN,aNM,aro]
 split<;>rfl
noncomputable def Ra (x:AV) (k:AV->Option R):Option R:=
 match x with
 | .agg cs=>D0 IN cs λcs=>k (.agg cs)
 | .gM f a b=>D0 IN a λa=>D0 IN b λb=>k (.gM f a b)
 |x=>IN x k
def ae6(x:AV)(k:AV->Option R):Ra x k=k x:=by
 unfold Ra;split
 ·exact EJ O2 _ _
 ·rw [EJ O2,EJ O2]
 ·exact O2 _ _
noncomputable def fzE (e:AV×AV) (k:AV×AV->Option R):Option R:=IN e.1 λa=>Ra e.2 λb=>k (a,b)
def aNN(e:AV×AV)(k:AV×AV->Option R):fzE e k=k e:=by unfold fzE;rw [O2,ae6]
noncomputable def fzB (b:eH) (k:eH->Option R):Option R:=
 match b with
 | .var ks cs=>D0 Ra cs λcs=>k (.var ks cs)
 | .row t xs=>D0 (D0 Ra) xs λxs=>k (.row t xs)
 | .map kd ag ks es=>D0 fzE es λes=>k (.map kd ag ks es)
 |b=>k b
def aNO(b:eH)(k:eH->Option R):fzB b k=k b:=by
 unfold fzB;split
 ·exact EJ ae6 _ _
 ·exact EJ (λ_ _=>EJ ae6 _ _) _ _
 ·exact EJ aNN _ _
 ·rfl
end
end
noncomputable section
variable {X:Cx} {R:Type}
variable {w0 w w':World} {S:Sc} {F:bC} {ρ:bF} {M:aL}
def aQl(X:Cx)(s d:TypeId):Bool:=match X.ub with|none=>false|some u=>(Nat.beq s u.pt&&Nat.beq d u.up)||(Nat.beq s u.up&&Nat.beq d u.pt)
noncomputable def BK (X:Cx) (T:nQ R) (e:Operand->AV) (o:Oper) (M:aL) (k:AV->aL->Option R):Option R:=vY X T e o M k
def Tu(hX:X.Okb){T:nQ R}(hT:T.wU X){e:Operand->AV}{o:Oper}{k:AV->aL->Option R}{r:R}(h:BK X T e o M k=some r):
 ∃x M',jR X o e M x M'/\k x M'=some r/\∀ids,y4 T e o M=some ids->eR ids M M':=aIK hX hT h
end
end Go.ah
namespace Go.ah
def ap0{p:Prop}(h:p:=by
 intro a v e hc;subst e;simp [World.cell?,h]at hc):p:=h
end Go.ah
namespace Go.ah
open Go
noncomputable section
variable {X:Cx} {R:Type}
variable{D:Nat}{w:World}
def less(F:bC)(D:Nat)(a:Addr):Prop:=F a/\a.block≠D
def aR.shrink{K:TypeId->fh}{ρ:bF}{F:bC}(hD:∀a v,a.block=D->w.cell? a≠some v){x:AV}{v:Value}(h:aR K ρ F w x v):aR K ρ (less F D) w x v:=by
 induction h with
 |top v=>exact .top v
 |int k n=>exact .int k n
 |bool b=>exact .bool b
 |str s=>exact .str s
 |agg cs vs hl _ ih=>exact .agg cs vs hl ih
 |gw cs vs hl _ ih=>exact .gw cs vs hl ih
 |oI=>exact .oI
 |iO t row off a vs hk hl hc _ ih=>exact .iO t row off a vs hk hl (λj v hv=>⟨(hc j v hv).1,(hc j v hv).2,λe=>hD _ v e (hc j v hv).1⟩) ih
 |ptr id i off hd g o n c bf hv=>exact .ptr id i off hd g o n c bf hv
 |n7 t=>exact .n7 t
 |aj t xs a cap vss hl pG oJ hk hc _ ih=>
  exact .aj t xs a cap vss hl pG oJ hk (λi vs gE=>⟨(hc i vs gE).1,λj v hv=>⟨((hc i vs gE).2 j v hv).1,((hc i vs gE).2 j v hv).2,λe=>hD _ v e ((hc i vs gE).2 j v hv).1⟩⟩) ih
 |ak id hd bf=>exact .ak id hd bf
 |jX=>exact .jX
 |gM f first iP vf vc hf hc _ _ oO gN=>exact .gM f first iP vf vc hf hc oO gN
 |oE=>exact .oE
 |lM id hd g bf hv=>exact .lM id hd g bf hv
 |mp id hd bf=>exact .mp id hd bf
 |qW=>exact .qW
 |p8 id m hd g o n c cap bf hv=>exact .p8 id m hd g o n c cap bf hv
 |vw id lo m hd g o n c cap bf hv hc hb=>exact .vw id lo m hd g o n c cap bf hv hc hb
 |zu id lo=>exact .zu id lo
 |zt id lo a cap=>exact .zt id lo a cap
 |oh a cap=>exact .oh a cap
def Na{lp:Loop}(h:w.heap[D]?=some (.loop lp)):∀(a:Addr) v,a.block=D->w.cell? a≠some v:=ap0
def aBW{ds:Option (List Deferred)}(h:w.heap[D]?=some (.deferred ds)):∀(a:Addr) v,a.block=D->w.cell? a≠some v:=ap0
def aI8{o:Obj}{a:Addr}(h:a.block≠D):(w.putObj D o).cell? a=w.cell? a:=by
 unfold World.cell?;rw [sk h]
def aR.less{K:TypeId->fh}{ρ:bF}{F:bC}{w:World}{D:Nat}(hD:∀a v,a.block=D->w.cell? a≠some v)(o:Obj){x:AV}{v:Value}(h:aR K ρ F w x v):aR K ρ (less F D) (w.putObj D o) x v:=
 (h.shrink hD).mono (λ_ _ h=>h) (λ_ h=>h) (λa v ha hc=>by rw [aI8 ha.2];exact hc)
def mA.less{ρ:bF}{F:bC}{w:World}{D:Nat}(hD:∀a v,a.block=D->w.cell? a≠some v)(o:Obj){env:cf}{tmps:Array Value}(h:mA X ρ F w env tmps):mA X ρ (less F D) (w.putObj D o) env tmps:=
 λt=>(h t).less hD o
def nx.less{ρ:bF}{F:bC}{w:World}{D:Nat}(hD:∀a v,a.block=D->w.cell? a≠some v)(o:Obj){hd:Hd}{b:eH}(fv:b.kq=false->∀g,hd.dE=some g->g≠D)(h:nx X ρ F w hd b):nx X ρ (less F D) (w.putObj D o) hd b:=by
 cases b with
 |var ks cs=>
  obtain⟨h1,h2,g,cur,e,hv,hh,hr,hy⟩:=h;exact⟨h1,h2,g,cur,e,hv,by rw [sk (fv rfl g (qx))];exact hh,⟨hr.1,λj x v hx hv=>(hr.2 j x v hx hv).less hD o⟩,hy⟩
 |row t xs=>
  obtain⟨h1,h2,h3⟩:=h;refine⟨h1,h2,?_⟩;rcases h3 with h3|⟨g,of,c,cur,hv,hh,h4,h5,h6,h7⟩
  ·exact .inl h3
  ·refine .inr ⟨g,of,c,cur,hv,by rw [sk (fv rfl g (qx))];exact hh,h4,h5,h6,λi row hi j x hx=> ?_⟩;obtain⟨v,kj,hr⟩:=h7 i row hi j x hx;exact⟨v,kj,hr.less hD o⟩
 |map kd ag ks es=>
  obtain⟨qe,g,mes,clock,hv,hh,fU,zM⟩:=h;exact⟨qe,g,mes,clock,hv,by rw [sk (fv rfl g (qx))];exact hh,fU,λi e me he hm=>let⟨a,r1,r2⟩:=zM i e me he hm;⟨a,r1.less hD o,r2.less hD o⟩⟩
 |loop s env busy Dl=>
  obtain⟨g,lp,hv,hh,h1,h2,h3,h4,h5,h6⟩:=h;exact⟨g,lp,hv,by rw [sk (fv rfl g (qx))];exact hh,h1,h2,h3,h4,h5.less hD o,h6⟩
 |Yr=>
  obtain⟨g,hv,hh⟩:=h;exact⟨g,hv,by rw [sk (fv rfl g (qx))];exact hh⟩
 |fx t xs=>exact aR.less (K:=X.K) hD o h
 |dead=>trivial
 |bD _ _ _=>trivial
def pZ.less{ρ:bF}{F:bC}{w:World}{D:Nat}(hD:∀a v,a.block=D->w.cell? a≠some v)(o:Obj){hd:Hd}{t:TypeId}{xs:aE}{op:Option (Nat×Nat×Nat)}(hg:∀g,hd.dE=some g->g≠D)
 (hs:∀(i j:Nat) row e ys v g,xs[i]?=some row->row[j]?=some (.sub e ys)->jQ op i j=none->cellOf w hd i j=some v->Value.dE v=some g->g≠D)
 (h:pZ X ρ F w hd t xs op):pZ X ρ (ah.less F D) (w.putObj D o) hd t xs op:=by
 obtain⟨h0,h1,h2,h3,h4⟩:=h;refine⟨h0,h1,h2,h3,?_⟩;rcases h4 with h4|⟨g,of,c,cur,hv,hh,h5,h6,h7,h8⟩
 ·exact .inl h4
 ·refine .inr ⟨g,of,c,cur,hv,by rw [sk (hg g (qx))];exact hh,h5,h6,h7,λi row hi j x hx=> ?_⟩;obtain⟨v,kj,ho,hr⟩:=h8 i row hi j x hx;refine⟨v,kj,ho,λhk=> ?_⟩;have hr:=hr hk;have pT:cellOf w hd i j=some v:=aq3;unfold zg at hr⊢;split at hr
  ·exact⟨hr.1.less hD o (λ_ g' lx=>hs i j row _ _ v g' hi hx hk pT lx),hr.2⟩
  ·exact aR.less (K:=X.K) hD o hr
def Inv.Tq{w0 w:World}{S:Sc}{F:bC}{ρ:bF}{M:aL}(hI:Inv X w0 S F ρ M w){D:Nat}(hF:F ⟨D,0,none⟩)(hD:∀a v,a.block=D->w.cell? a≠some v)(hN:∀a,S.F0 a->a.block≠D)(o:Obj):
 Inv X w0 S (less F D) ρ M (w.putObj D o) where
 os:=hI.os
 tape:=hI.tape
 output:=hI.output
 size:=by simpa using hI.size
 frame:=λg h1 h2=>by
  have fv:g≠D:=by
   rintro rfl;rcases hI.iw _ hF with h|h|h
   ·exact hN _ h rfl
   ·exact h2 h
   ·simp only at h;omega
  rw [sk fv];exact hI.frame g h1 h2
 len:=hI.len
 rep:=λid b hd hb hh=>(hI.rep id b hd hb hh).less hD o (λdT g cX e=>(hI.sep id b hd g hb dT hh cX).2.2 _ hF e.symm)
 sep:=λid b hd g hb dT hh cX=>let⟨a1,a2,a3⟩:=hI.sep id b hd g hb dT hh cX;⟨by simpa using a1,a2,λa ha=>a3 a ha.1⟩
 k5:=hI.k5
 fz:=λa ha=>by simpa using hI.fz a ha.1
 jH:=λg=>(hI.jH g).less hD o
 one:=hI.one
 iw:=λa ha=>hI.iw a ha.1
 fin:=λa ha=>⟨hI.fin a ha,hN a ha⟩
 bD:=by
  have ne:∀{id p g},Hid w ρ M id p g->g≠D:=λhh e=>(hI.bD.ak hh).2.2.1 _ hF e.symm;refine⟨λ{id p g} hh=> ?_,λ{id id' p p' g} h1 h2=> ?_,λ{id t xs op hd} hb hh=>(hI.bD.rep hb hh).less hD o (λg hg=>ne (.out hb hh hg)) λi j row e ys v g hi hx ho hc hg=>ne (.sub hb hh hi hx ho hc hg)⟩
  ·have hh:=hh.back hI.bD hI.len (λ_ _ h _=>h) (λ_ _ h _=>h) λg _ _ h3 _=>sk (λe=>h3 _ hF e.symm);obtain⟨a1,a2,a3,a4⟩:=hI.bD.ak hh;exact⟨by simpa using a1,a2,λa ha=>a3 a ha.1,a4⟩
  ·have b1:=h1.back hI.bD hI.len (λ_ _ h _=>h) (λ_ _ h _=>h) λg _ _ h3 _=>sk (λe=>h3 _ hF e.symm);have b2:=h2.back hI.bD hI.len (λ_ _ h _=>h) (λ_ _ h _=>h) λg _ _ h3 _=>sk (λe=>h3 _ hF e.symm);exact hI.bD.inj b1 b2
end
end Go.ah
namespace Go.ah
def aeE{p:Prop}(h:p:=by simp [Act.put,vQ,adJ fv]):p:=h
end Go.ah
namespace Go.ah
def Cz:=@Option.bind_some
def Ke:=@List.map_map
def Ur:=@List.map_congr_left
def yQ:=@List.nodup_nil
def TQ:=@beq_self_eq_true
end Go.ah
namespace Go.ah
open Go
noncomputable section
variable {X:Cx} {R:Type}
variable{x:AV}{a:Act}{ops:Array Oper}{tmps:Array Value}{d j:Nat}{nt:Nt}{o:Oper}{r:R}{v:Value}{w w':World}{F F' db:bC}{ρ:bF}
inductive Rd where
 |out
 |yr
 |at(id:Nat)
 deriving Inhabited,DecidableEq
structure Cy where
 r:Option Nat
 db:bC
 tv:Nat->Value
structure St where
 env:cf
 mem:aL
 px:dy
 rd:Rd
variable{st aW stg:St}{k:St->Option R}
def Marks(F:bC)(w:World)(db:bC)(ds:List Deferred):Prop:=
 (∀a,db a->F a)/\∃ms:dy,ds=ms.map (λD=>({target:= .collected D,args:= #[]}:Deferred))/\ms.Nodup/\∀D∈ms,(∀a,db a->a.block≠D)/\F ⟨D,0,none⟩/\w.heap[D]?=some (.deferred (some []))
def VN(F:bC)(w:World)(db:bC):dy->List Deferred->Prop
 | [],ds=>Marks F w db ds
 |_::_,_=>False
def Py(F:bC)(w:World)(rdc:Option Nat):Prop:=rdc=none∨∃g r,rdc=some g/\F ⟨g,0,none⟩/\w.heap[g]?=some (.loop r)
def Marks.nil(F:bC)(w:World)(h:∀a,db a->F a):Marks F w db []:=⟨h,[],rfl,yQ,λ_ h=>jY⟩
def Marks.mono(hF:∀a,F a->F' a)(hb:∀a,F a->w'.heap[a.block]?=w.heap[a.block]?){ds:List Deferred}(h:Marks F w db ds):Marks F' w' db ds:=by
 obtain⟨h0,ms,h1,h2,h3⟩:=h;exact⟨λa ha=>hF _ (h0 a ha),ms,h1,h2,λD hD=>⟨(h3 D hD).1,hF _ (h3 D hD).2.1,(hb _ (h3 D hD).2.1).trans (h3 D hD).2.2⟩⟩
def VN.mono{F F':bC}{w w':World}{db:bC}(hF:∀a,F a->F' a)(hb:∀a,F a->w'.heap[a.block]?=w.heap[a.block]?):∀{ids:dy} {ds:List Deferred},VN F w db ids ds->VN F' w' db ids ds
 | [],_,hd=>Marks.mono hF hb hd
def Py.mono(hF:∀a,F a->F' a)(hb:∀a,F a->w'.heap[a.block]?=w.heap[a.block]?){rdc:Option Nat}(hr:Py F w rdc):Py F' w' rdc:=by
 rcases hr with h|⟨g,r,h1,h2,h3⟩
 ·exact .inl h
 ·exact .inr ⟨g,r,h1,hF _ h2,(hb _ h2).trans h3⟩
structure jh(X:Cx)(nt:Nt)(st:St)(rdc:Cy)(F:bC)(ρ:bF)(a:Act)(w:World):Prop where
 env:mA X ρ F w st.env a.tmps
 size:a.tmps.size=nt.n
 defs:VN F w rdc.db st.px a.defers
 rd:Py F w rdc.r
 kept:∀t,nt.mask.testBit t=false->a.tmps.getD t undef=rdc.tv t
def jh.grow{nt:Nt}{st:St}{rdc:Cy}{F F':bC}{ρ ρ':bF}{a:Act}{w w':World}(h:jh X nt st rdc F ρ a w)(g:Grow F F' ρ ρ' w w'):jh X nt st rdc F' ρ' a w':=
 ⟨h.env.grow g,h.size,h.defs.mono g.hF g.hb,h.rd.mono g.hF g.hb,h.kept⟩
def vT(X:Cx)(nt:Nt)(c:Code)(st:St)(e:Exit)(aW:St):Prop:=
 ∀{rdc:Cy} {n:Nat} {w0:World} {S:Sc} {F:bC} {ρ:bF} {a:Act} {w:World} {Q:Exit->Act->World->Prop},Inv X w0 S F ρ st.mem w->jh X nt st rdc F ρ a w->
  (∀a' w' F' ρ',Inv X w0 S F' ρ' aW.mem w'->jh X nt aW rdc F' ρ' a' w'->Grow F F' ρ ρ' w w'->Q e a' w')->c.wpIn (qM rdc.r) n X.P Q a w
def yg(nt:Nt)(st:St)(dst:Option Tmp)(x:AV)(M:aL)(k:St->Option R):Option R:=
 match dst with
 |none=>k {st with mem:=M}
 |some d=>a8 (Nat.blt d nt.n&&nt.mask.testBit d) (k {st with env:=(d,x)::st.env,mem:=M})
def mA.put{env:cf}(h:mA X ρ F w env tmps)(hd:d<tmps.size)(hx:aR X.K ρ F w x v):
 mA X ρ F w ((d,x)::env) (tmps.setIfInBounds d v):=by
 intro t;simp only [ug,look_nil]
 by_cases ht:t=d
 ·subst ht;simp only [TQ,uY];have:(tmps.setIfInBounds t v).getD t undef=v:=by simp [vQ,hd]
  rw [this];exact hx
 ·have:(t==d)=false:=by simpa using ht
  simp only [this,oW,sj];have e:(tmps.setIfInBounds d v).getD t undef=tmps.getD t undef:=by simp [vQ,adJ (Ne.symm ht)]
  rw [e];exact h t
def ans{mask:Nat}(hd:mask.testBit d=true){tv:Nat->Value}(h:∀t,mask.testBit t=false->a.tmps.getD t undef=tv t):∀t,mask.testBit t=false->(a.put (some d) v).tmps.getD t undef=tv t:=by
 intro t ht;have fv:d≠t:=λe=>by subst e;rw [hd]at ht;cases ht
 rw [<-h t ht];exact aeE
def Tz{dst:Option Tmp}{M:aL}(hk:yg nt st dst x M k=some r):
 ∃aW,k aW=some r/\aW.mem=M/\∀{rdc:Cy} {F:bC} {ρ:bF} {a:Act} {w:World} {v:Value},jh X nt st rdc F ρ a w->aR X.K ρ F w x v->jh X nt aW rdc F ρ (a.put dst v) w:=by
 unfold yg at hk;cases dst with
 |none=>exact⟨_,hk,rfl,λ{rdc F ρ a w v} h _=>⟨h.env,h.size,h.defs,h.rd,h.kept⟩⟩
 |some d=>
  replace hk:=cP hk;obtain⟨hd,hk⟩:=hk;refine⟨_,hk,rfl,λ{rdc F ρ a w v} h hx=>⟨h.env.put (by rw [h.size];simp only [bA]at hd;simpa using hd.1) hx,by simp [Act.put,h.size],h.defs,h.rd,ans (by simp only [bA]at hd;exact hd.2) h.kept⟩⟩
def Hw(ops:Array Oper)(j:Nat):Option Nat:=(ops[j]?).bind (·.dst)
def vX(X:Cx)(T:nQ R)(ops:Array Oper):List Oper->St->(St->Option R)->Option R
 | [],st,k=>k st
 |o::rest,st,k=>
  match o.guard with
  |none=>BK X T (tw X st.env) o st.mem λx M=>yg T.nt st o.dst x M λaW=>vX X T ops rest aW k
  |some (j,want)=>
   match Hw ops j with
   |none=>none
   |some d=>
    match look st.env d with
    | .bool b=>
      match b with
      |true=>match want with
       |true=>BK X T (tw X ((d,.bool true)::st.env)) o st.mem λx M=>yg T.nt {st with env:=(d,.bool true)::st.env} o.dst x M λaW=>vX X T ops rest aW k
       |false=>yg T.nt {st with env:=(d,.bool true)::st.env} o.dst (.gw []) st.mem λaW=>vX X T ops rest aW k
      |false=>match want with
       |false=>BK X T (tw X ((d,.bool false)::st.env)) o st.mem λx M=>yg T.nt {st with env:=(d,.bool false)::st.env} o.dst x M λaW=>vX X T ops rest aW k
       |true=>yg T.nt {st with env:=(d,.bool false)::st.env} o.dst (.gw []) st.mem λaW=>vX X T ops rest aW k
    | .gw []=>yg T.nt st o.dst (.gw []) st.mem λaW=>vX X T ops rest aW k
    |_=>none
def amn{K:TypeId->fh}:aR K ρ F w (.gw []) undef:= .gw [] [] rfl (λj x v h _=>jY)
def alY(hd:Hw ops j=some d){b:Bool}(h:tmps.getD d undef= .bool b):yielded ops tmps j=some b:=by
 unfold yielded;unfold Hw at hd;rw [hd];simp only [Cz];rw [vQ]at h;cases ht:tmps[d]? with
 |none=>rw [ht]at h;simp [undef]at h
 |some v=>rw [ht]at h;simp only [qm]at h;rw [h]
def akO(hd:Hw ops j=some d)(h:tmps.getD d undef=undef):yielded ops tmps j=none:=by
 unfold yielded;unfold Hw at hd;rw [hd];simp only [Cz];rw [vQ]at h;cases ht:tmps[d]? with
 |none=>rfl
 |some v=>rw [ht]at h;simp only [qm]at h;rw [h];rfl
def aGY{rdc:Cy}{n:Nat}{Q:Exit->Act->World->Prop}{i:Nat}{rest:dy}(ho:ops[i]?=some o)
 (h:wpOpIn (qM rdc.r) n X.P ops Q i (wpOpsIn (qM rdc.r) n X.P ops Q rest) a w):wpOpsIn (qM rdc.r) n X.P ops Q (i::rest) a w:=by
 rw [wpOpsIn_cons];exact h
def OH(X:Cx)(nt:Nt)(ops:Array Oper)(o:Oper)(st aW:St):Prop:=
 ∀{rdc:Cy} {n:Nat} {w0:World} {S:Sc} {F:bC} {ρ:bF} {a:Act} {w:World} {Q:Exit->Act->World->Prop} {K:Act->World->Prop},Inv X w0 S F ρ st.mem w->jh X nt st rdc F ρ a w->
  (∀a' w' F' ρ',Inv X w0 S F' ρ' aW.mem w'->jh X nt aW rdc F' ρ' a' w'->Grow F F' ρ ρ' w w'->K a' w')->
  ∀i,ops[i]?=some o->wpOpIn (qM rdc.r) n X.P ops Q i K a w
def anX{M':aL}(AL:jR X o (tw X stg.env) st.mem x M')
 (hg:∀{rdc:Cy} {F:bC} {ρ:bF} {a:Act} {w:World},jh X nt st rdc F ρ a w->jh X nt stg rdc F ρ a w/\Region.wanted o (yielded ops a.tmps)=true)
 (hm:aW.mem=M') (hp:∀{rdc:Cy} {F:bC} {ρ:bF} {a:Act} {w:World} {v:Value},jh X nt stg rdc F ρ a w->aR X.K ρ F w x v->jh X nt aW rdc F ρ (a.put o.dst v) w):OH X nt ops o st aW:=by
 intro rdc n w0 S F ρ a w Q K hI hs hk i hi;obtain⟨dR,hw⟩:=hg hs;unfold wpOpIn;simp only [hi,hw,uY];refine AL hI (λy=>GX hI dR.env y) ?_;intro v w' ρ' F' fY mu hx;exact hk _ w' F' ρ' (hm▸fY) (hp (dR.grow mu) hx) mu
def ani
 (hg:∀{rdc:Cy} {F:bC} {ρ:bF} {a:Act} {w:World},jh X nt st rdc F ρ a w->jh X nt stg rdc F ρ a w/\Region.wanted o (yielded ops a.tmps)=false)
 (hm:aW.mem=st.mem) (hp:∀{rdc:Cy} {F:bC} {ρ:bF} {a:Act} {w:World} {v:Value},jh X nt stg rdc F ρ a w->aR X.K ρ F w (.gw []) v->jh X nt aW rdc F ρ (a.put o.dst v) w):OH X nt ops o st aW:=by
 intro rdc n w0 S F ρ a w Q K hI hs hk i hi;obtain⟨dR,hw⟩:=hg hs;unfold wpOpIn;simp only [hi,hw,oW,sj];exact⟨λ_ _=>trivial,hk _ w F ρ (hm▸hI) (hp dR amn) (Grow.refl _ _ _)⟩
def alv(h:o.guard=none)(y:Nat->Option Bool):Region.wanted o y=true:=by unfold Region.wanted;rw [h]
def NG{want:Bool}(h:o.guard=some (j,want))(y:Nat->Option Bool):Region.wanted o y=(y j==some want):=by unfold Region.wanted;rw [h]
def jh.refine{nt:Nt}{st:St}{rdc:Cy}{F:bC}{ρ:bF}{a:Act}{w:World}(h:jh X nt st rdc F ρ a w){d:Nat}{x:AV}(hx:look st.env d=x):jh X nt {st with env:=(d,x)::st.env} rdc F ρ a w:=by
 refine⟨λt=> ?_,h.size,h.defs,h.rd,h.kept⟩;simp only [ug,look_nil]
 by_cases ht:t=d
 ·subst ht;simp only [TQ,uY];rw [<-hx];exact h.env t
 ·have:(t==d)=false:=by simpa using ht
  simp only [this,oW,sj];exact h.env t
def aJq(hX:X.Okb){T:nQ R}(hT:T.wU X){rest:List Oper}(h:vX X T ops (o::rest) st k=some r):
 ∃aW,OH X T.nt ops o st aW/\vX X T ops rest aW k=some r:=by
 simp only [vX]at h;split at h
 ·rename_i Q1;obtain⟨x,M',AL,h,_⟩:=Tu hX hT h;obtain⟨aW,h,hm,hp⟩:=Tz (X:=X) h;exact⟨aW,anX (stg:=st) AL (λ{rdc F ρ a w} hs=>⟨hs,alv Q1 _⟩) hm hp,h⟩
 ·rename_i j want Q1;split at h
  ·exact aM
  ·rename_i d hd;have arz:∀{b:Bool},look st.env d= .bool b->∀{rdc:Cy} {F:bC} {ρ:bF} {a:Act} {w:World},jh X T.nt st rdc F ρ a w->yielded ops a.tmps j=some b:=by
    intro b hb rdc F ρ a w hs;have:=hs.env d;rw [hb]at this;generalize hv:a.tmps.getD d undef=v at this;cases this;exact alY hd hv
   have run:∀(b:Bool),look st.env d= .bool b->want=b->(BK X T (tw X ((d,.bool b)::st.env)) o st.mem λx M=>yg T.nt {st with env:=(d,.bool b)::st.env} o.dst x M λaW=>vX X T ops rest aW k)=some r->
    ∃aW,OH X T.nt ops o st aW/\vX X T ops rest aW k=some r:=by
    intro b hb hwb h;obtain⟨x,M',AL,h,_⟩:=Tu hX hT h;obtain⟨aW,h,hm,hp⟩:=Tz (X:=X) h;refine⟨aW,anX (stg:={st with env:=(d,.bool b)::st.env}) AL (λ{rdc F ρ a w} hs=>⟨hs.refine hb,?_⟩) hm hp,h⟩;rw [NG Q1,arz hb hs,hwb];simp
   have skip:∀(b:Bool),look st.env d= .bool b->want≠b->(yg T.nt {st with env:=(d,.bool b)::st.env} o.dst (.gw []) st.mem λaW=>vX X T ops rest aW k)=some r->
    ∃aW,OH X T.nt ops o st aW/\vX X T ops rest aW k=some r:=by
    intro b hb hwb h;obtain⟨aW,h,hm,hp⟩:=Tz (X:=X) h;refine⟨aW,ani (stg:={st with env:=(d,.bool b)::st.env}) (λ{rdc F ρ a w} hs=>⟨hs.refine hb,?_⟩) hm hp,h⟩;rw [NG Q1,arz hb hs];simp only [Ul,ne_eq,Option.some.injEq];exact λe=>hwb e.symm
   split at h
   ·rename_i b hb;split at h
    ·split at h
     ·exact run true hb rfl h
     ·exact skip true hb (by simp) h
    ·split at h
     ·exact run false hb rfl h
     ·exact skip false hb (by simp) h
   ·rename_i hb;obtain⟨aW,h,hm,hp⟩:=Tz (X:=X) h;refine⟨aW,ani (stg:=st) (λ{rdc F ρ a w} hs=>⟨hs,?_⟩) hm hp,h⟩;have:=hs.env d;rw [hb]at this;generalize hv:a.tmps.getD d undef=v at this;have hu:v=undef:=by
     cases this with
     |gw _ vs hl _=>have:vs=[]:=Cr (sY);subst this;rfl
    rw [NG Q1,akO hd (hv.trans hu)];simp
   ·exact aM
def alH(hX:X.Okb){T:nQ R}(hT:T.wU X){ops:Array Oper}:∀(rest:List Oper) (m:Nat) {st:St} {k:St->Option R} {r:R},(∀(i:Nat),rest[i]?=ops[m+i]?)->vX X T ops rest st k=some r->
 ∃aW,k aW=some r/\∀{rdc:Cy} {n:Nat} {w0:World} {S:Sc} {F:bC} {ρ:bF} {a:Act} {w:World} {Q:Exit->Act->World->Prop},Inv X w0 S F ρ st.mem w->jh X T.nt st rdc F ρ a w->
  (∀a' w' F' ρ',Inv X w0 S F' ρ' aW.mem w'->jh X T.nt aW rdc F' ρ' a' w'->Grow F F' ρ ρ' w w'->Q .normal a' w')->wpOpsIn (qM rdc.r) n X.P ops Q ((List.range rest.length).map (m+ ·)) a w
 | [],m,st,k,r,_,h=>⟨st,h,λ{rdc n w0 S F ρ a w Q} hI hs hq=>hq a w F ρ hI hs (Grow.refl _ _ _)⟩
 |o::rest,m,st,k,r,hr,h=>by
  obtain⟨st1,h1,h⟩:=aJq hX hT h;obtain⟨mG,h,h2⟩:=alH hX hT rest (m+1) (λi=>by have:=hr (i+1);rw [show m+1+i=m+(i+1)by omega];simpa using this) h;refine⟨mG,h,λ{rdc n w0 S F ρ a w Q} hI hs hq=> ?_⟩;have ho:ops[m]?=some o:=by have:=hr 0;simpa using this.symm
  have hl:(List.range (o::rest).length).map (m+ ·)=m::(List.range rest.length).map ((m+1)+ ·):=by
   rw [mh,List.range_succ_eq_map,my,Ke]
   congr 1
   apply Ur;intro i _;exact eE
  rw [hl];refine aGY ho (h1 hI hs ?_ m ho);intro a' w' F' ρ' fY dR hg;exact h2 fY dR (λIW vt yL ye HU HQ P4=>hq IW vt yL ye HU HQ (hg.trans P4))
end
end Go.ah
namespace Go.ah
def Xb{p:Prop}(h:p:=by
 rename_i hb;replace h:=cP h;obtain⟨e2,h⟩:=h;exact⟨_,h,λM' hM R' k'=>by have hm:=hM id (by simp [rN]);simp only [fF,Cg,h1,h2,hm,hb,e,e2,a8]⟩):p:=h
def EW{p:Prop}(h:p:=by exact⟨y,h,λM' _ k'=>by unfold vY;simp only [ho];exact hd _ _⟩):p:=h
def asw{p:Prop}(h:p:=by
 rename_i hb;replace h:=cP h;obtain⟨e,h⟩:=h;split at h
 ·rename_i h1;exact⟨_,h,λM' hM R' k'=>by have hm:=hM id (by simp [CF]);simp only [fF,wS,hm,hb,h1,e,a8]⟩
 ·rename_i h1;replace h:=cP h;obtain⟨e2,h⟩:=h;exact⟨_,h,λM' hM R' k'=>by have hm:=hM id (by simp [CF]);simp only [fF,wS,hm,hb,h1,e,e2,a8]⟩):p:=h
def V3{p:Prop}(h:p:=by
 rename_i h1 h2;exact⟨_,h,λM' _ R' k'=>by simp only [Bp,h1,h2]⟩):p:=h
def asb{p:Prop}(h:p:=by
 obtain⟨y,h,hd⟩:=acx h;exact⟨y,h,λM' hM R' k'=>by unfold Cu;have hm:=hM id (by simp [Hr]);simp only [fF,h1,h2,h3,h4,hm,hb,h5,h6,h7,a8];exact hd R' k'⟩):p:=h
def ar3{p:Prop}(h:p:=by
 rename_i hc;simp only [hc]at h;obtain⟨y,h,hd⟩:=aMO _ _ h;exact⟨y,h,λM' _ k'=>by unfold vY;simp only [ho,hc];exact hd _ _⟩):p:=h
def ae2{p:Prop}(h:p:=by exact⟨y,h,λM' hM k'=>by unfold vY;simp only [ho];exact hd M' hM _ _⟩):p:=h
def aq8{p:Prop}(h:p:=by
 replace h:=cP h;obtain⟨e2,h⟩:=h;exact⟨_,h,λM' _ R' k'=>by simp only [fF,Cg,h1,h2,e,e2,a8]⟩):p:=h
def Ha{p:Prop}(h:p:=by exact⟨_,h,λR' k'=>rfl⟩):p:=h
def aqC{p:Prop}(h:p:=by
 rename_i h1 h2;obtain⟨b,h,hd⟩:=aLw h;exact⟨_,h,λR' k'=>hd _ _⟩):p:=h
def aqg{p:Prop}(h:p:=by
 rename_i cs h3;exact⟨_,h,λR' k'=>by simp only [h1,h2,h3,e1,a8]⟩):p:=h
def aqd{p:Prop}(h:p:=by exact⟨_,h,λM' _ R' k'=>by simp only [fF,Cg,h1,h2,e,a8]⟩):p:=h
def aeI{p:Prop}(h:p:=by unfold vY;simp only [ho]):p:=h
def apQ{p:Prop}(h:p:=by
 rename_i h1 h2;exact⟨_,h,λR' k'=>by simp only [h1,h2]⟩):p:=h
def apt{p:Prop}(h:p:=by exact⟨_,h,λM' _ k'=>by unfold vY;simp only [ho,hc]⟩):p:=h
def ao0{p:Prop}(h:p:=by exact⟨_,h,λR' k'=>by simp only [h1,h2,h3,e,a8]⟩):p:=h
def UX{p:Prop}(h:p:=by simp [rN]):p:=h
end Go.ah
namespace Go.ah
open Go
noncomputable section
variable {X:Cx} {R R':Type} {M M':aL}
variable{i x:AV}{k:AV->Option R}{ps:Array (Nat×Operand)}{ok:Bool}{n:Nat}{o:Oper}{e:Operand->AV}{hi lo:Option AV}{r:R}{T:nQ R}{T':nQ R'}{t:TypeId}{ids:dy}
def B9(f:(R:Type)->(AV->Option R)->Option R):Prop:=∀{R:Type} {k:AV->Option R} {r:R},f R k=some r->∃y,k y=some r/\∀(R':Type) (k':AV->Option R'),f R' k'=k' y
def aLw{k:Bool->Option R}(h:EY x k=some r):∃b,k b=some r/\∀(R':Type) (k':Bool->Option R'),EY x k'=k' b:=by
 unfold EY at h;split at h
 ·exact Ha
 ·exact Ha
 ·split at h
  ·exact aM
  ·rename_i he;exact⟨_,h,λR' k'=>by simp only [EY,he]⟩
 ·exact aM
def aMP(op:BinOp)(t:TypeId)(x y:AV):B9 λ_ k=>Pv X op t x y k:=by
 intro R k r h;simp only [Pv]at h⊢;split at h
 ·rename_i kx a ky b;cases op<;>simp only at h⊢<;>first
   |(replace h:=cP h;obtain⟨e,h⟩:=h
     first
      |(exact⟨_,h,λR' k'=>by simp only [e,a8]⟩)
      |(replace h:=cP h;obtain⟨e2,h⟩:=h
        exact⟨_,h,λR' k'=>by simp only [e,e2,a8]⟩)
      |(cases h))
   |cases h
 ·rename_i a b;split at h
  ·exact apQ
  ·exact apQ
  ·exact aM
 ·rename_i xs ys;split at h
  ·rename_i fs h1 h2 h3;split at h
   ·exact aM
   ·rename_i bb Ye;split at h
    ·exact⟨_,h,λR' k'=>by simp only [h1,h2,h3,Ye]⟩
    ·exact⟨_,h,λR' k'=>by simp only [h1,h2,h3,Ye]⟩
    ·exact aM
  ·exact aM
 ·split at h
  ·exact aqC
  ·exact aqC
  ·exact aM
 ·exact aM
def aNV(op:UnOp)(x:AV):B9 λ_ k=>Xs op x k:=by
 intro R k r h;simp only [Xs]at h⊢;split at h
 ·exact Ha
 ·exact Ha
 ·exact aM
def aLx(s d:TypeId)(x:AV):B9 λ_ k=>VK X s d x k:=by
 intro R k r h;simp only [VK]at h⊢;split at h
 ·rename_i h1 h2 h3;exact⟨_,h,λR' k'=>by simp only [h1,h2,h3]⟩
 ·exact aM
def aMN(x:AV):B9 λ_ k=>Tv x k:=by
 intro R k r h;simp only [Tv]at h⊢;split at h
 ·exact Ha
 ·exact Ha
 ·exact Ha
 ·exact aM
def aHH(t:TypeId)(x:AV)(f:Nat):B9 λ_ k=>NO X t x f k:=by
 intro R k r h;simp only [NO]at h⊢;split at h
 ·rename_i fs h1 h2;split at h
  ·rename_i off ft h3;replace h:=cP h;obtain⟨e,h⟩:=h;split at h
   ·exact ao0
   ·exact ao0
   ·exact aM
  ·exact aM
 ·exact aM
def anF(t:TypeId)(cs:aq)(off:Nat):B9 λ_ k=>KB X t cs off k:=by
 intro R k r h;simp only [KB]at h⊢;replace h:=cP h;obtain⟨e,h⟩:=h;split at h
 ·rename_i h1;exact⟨_,h,λR' k'=>by simp only [h1,e,a8]⟩
 ·rename_i h1;replace h:=cP h;obtain⟨e2,h⟩:=h;exact⟨_,h,λR' k'=>by simp only [h1,e,e2,a8]⟩
def aKe(t:TypeId)(x:AV)(f:Nat):B9 λ_ k=>OE X t x f k:=by
 intro R k r h;simp only [OE]at h⊢;split at h
 ·rename_i fs cs h1 h2;split at h
  ·rename_i off ft h3;obtain⟨y,h,hd⟩:=anF _ _ _ h;exact⟨y,h,λR' k'=>hd R' k'⟩
  ·exact aM
 ·exact aM
def aKd(t:TypeId)(x i:AV):B9 λ_ k=>OD X t x i k:=by
 intro R k r h;simp only [OD]at h⊢;split at h
 ·rename_i len e cs kk n h1 h2;replace h:=cP h;obtain⟨e1,h⟩:=h;obtain⟨y,h,hd⟩:=anF _ _ _ h;exact⟨y,h,λR' k'=>by simp only [h1,h2,e1,a8];exact hd R' k'⟩
 ·rename_i h1 h2;replace h:=cP h;obtain⟨e1,h⟩:=h;split at h
  ·exact aM
  ·rename_i b hb;exact⟨_,h,λR' k'=>by simp only [h1,h2,e1,hb,a8]⟩
 ·exact aM
def aKf(t:TypeId)(ps:cf):B9 λ_ k=>OF X t ps k:=by
 intro R k r h;simp only [OF]at h⊢;split at h
 ·rename_i fs h1 h2;replace h:=cP h;obtain⟨e1,h⟩:=h;split at h
  ·exact aqg
  ·exact aM
 ·rename_i n e h1 h2;replace h:=cP h;obtain⟨e1,h⟩:=h;split at h
  ·exact aqg
  ·exact aM
 ·exact aM
def aMO(f:Int->Int->Int)(xs:aq):B9 λ_ k=>EZ f xs k:=by
 intro R k r h;simp only [EZ]at h⊢;split at h
 ·split at h
  ·rename_i h1;exact⟨_,h,λR' k'=>by simp only [h1]⟩
  ·exact aM
 ·exact aM
def aKR{p:AV}(h:wS X t p M k=some r):∃y,k y=some r/\∀(M':aL),(∀id∈CF p,M'[id]?=M[id]?)->∀(R':Type) (k':AV->Option R'),wS X t p M' k'=k' y:=by
 unfold wS at h;simp only [fF]at h;split at h
 ·replace h:=cP h;obtain⟨e,h⟩:=h;split at h
  ·rename_i h1;exact⟨_,h,λM' _ R' k'=>by simp only [fF,wS,h1,e,a8]⟩
  ·rename_i h1;replace h:=cP h;obtain⟨e2,h⟩:=h;exact⟨_,h,λM' _ R' k'=>by simp only [fF,wS,h1,e,e2,a8]⟩
 ·rename_i id i off;split at h
  ·exact asw
  ·exact asw
  ·rename_i t' xs op hb;replace h:=cP h;obtain⟨e,h⟩:=h;split at h
   ·exact aM
   ·rename_i h1;replace h:=cP h;obtain⟨e2,h⟩:=h;split at h
    ·rename_i i0 k0 h3;replace h:=cP h;obtain⟨e3,h⟩:=h;exact⟨_,h,λM' hM R' k'=>by have hm:=hM id (Kt);simp only [fF,wS,hm,hb,h1,e,e2,h3,e3,a8]⟩
    ·rename_i h3;unfold QB at h;split at h
     ·rename_i h4;replace h:=cP h;obtain⟨e3,h⟩:=h;exact⟨_,h,λM' hM R' k'=>by have hm:=hM id (Kt);simp only [fF,wS,hm,hb,h1,e,e2,h3,QB,h4,e3,a8]⟩
     ·rename_i h4;refine⟨_,h,λM' hM R' k'=> ?_⟩;have hm:=hM id (Kt);simp only [fF,wS,hm,hb,h1,e,e2,h3,a8];unfold QB;split
      ·rename_i h5;exact absurd h5 (h4 _)
      ·rfl
  ·exact aM
 ·exact aM
def aHa(h:Cg X t x i M k=some r):∃y,k y=some r/\∀(M':aL),(∀id∈rN x,M'[id]?=M[id]?)->∀(R':Type) (k':AV->Option R'),Cg X t x i M' k'=k' y:=by
 unfold Cg at h;simp only [fF]at h;split at h
 ·split at h
  ·rename_i h1 h2;replace h:=cP h;obtain⟨e,h⟩:=h;split at h
   ·exact aq8
   ·rename_i id;split at h
    ·exact Xb
    ·exact Xb
    ·exact Xb
    ·exact aM
   ·exact aq8
   ·rename_i id lo m;split at h
    ·exact Xb
    ·exact aM
   ·exact aM
  ·rename_i h1 h2;replace h:=cP h;obtain⟨e,h⟩:=h;split at h
   ·exact aqd
   ·exact aqd
   ·exact aM
  ·exact aM
 ·exact aM
def abD(h:∀id∈rN x,M'[id]?=M[id]?):rowsOf M' x=rowsOf M x:=by
 cases x<;>simp only [fF,rowsOf]
 ·rename_i id;rw [h id (UX)]
 ·rename_i id lo m;rw [h id (UX)]
def alJ{e:TypeId}(h1:(X.ti t).ok =true)(h2:(X.ti t).u = .slice e)(hx:∀id m,x≠ .p8 id m)(LU:∀id lo m,x≠ .vw id lo m):Bp X t x M k=match rowsOf M x with|some (_,xs)=>k (.int .i64 xs.length)|none=>PX M x λn=>k (.int .i64 n):=by
 cases x<;>first
  |exact absurd rfl (hx _ _)
  |exact absurd rfl (LU _ _ _)
  |(unfold Bp;simp only [h1,h2];rfl)
  |(unfold Bp;simp only [h1,h2];generalize rowsOf M _=o;cases o<;>rfl)
def aMj(h:Bp X t x M k=some r):∃y,k y=some r/\∀(M':aL),(∀id∈rN x,M'[id]?=M[id]?)->∀(R':Type) (k':AV->Option R'),Bp X t x M' k'=k' y:=by
 unfold Bp at h;split at h
 ·exact V3
 ·exact V3
 ·exact V3
 ·exact V3
 ·rename_i e h1 h2 fw avE;split at h
  ·rename_i o xs hr;refine⟨_,h,λM' hM R' k'=> ?_⟩;have:=abD (M:=M) (M':=M') hM;rw [alJ h1 h2 fw avE,this,hr]
  ·rename_i hr;obtain⟨id,t',xs,op,rfl,hb,h⟩:=amt h;refine⟨_,h,λM' hM R' k'=> ?_⟩;have:=abD (M:=M) (M':=M') hM;have hm:=hM id (UX);rw [alJ h1 h2 fw avE,this,hr];simp only [PX,fF,hm,hb]
 ·exact aM
def aJY{mx:Option AV}{k:AV->aL->Option R}(hx:rN x=[])(h:Eu X t x lo hi mx M k=some r):
 ∃y,k y M=some r/\∀(M':aL) (R':Type) (k':AV->aL->Option R'),Eu X t x lo hi mx M' k'=k' y M':=by
 have ia:∀M',rowsOf M' x=rowsOf M x:=λM'=>abD (by rw [hx];simp);unfold Eu at h;simp only [fF]at h;split at h
 ·rename_i e h1 h2;split at h
  ·rename_i o xs h3;split at h
   ·rename_i l hh m h4 h5 h6;replace h:=cP h;obtain⟨h7,h⟩:=h;split at h
    ·replace h:=cP h;obtain⟨h8,h⟩:=h;exact⟨_,h,λM' R' k'=>by unfold Eu;simp only [fF,h1,h2,ia M',h3,h4,h5,h6,h7,h8,a8]⟩
    ·exact⟨_,h,λM' R' k'=>by unfold Eu;simp only [fF,h1,h2,ia M',h3,h4,h5,h6,h7,a8]⟩
    ·simp [rN]at hx
    ·exact aM
   ·exact aM
  ·exact aM
 ·cases h
def aKQ(h:Hg X t x lo hi M k=some r):∃y,k y=some r/\∀(M':aL),(∀id∈rN x,M'[id]?=M[id]?)->∀(R':Type) (k':AV->Option R'),Hg X t x lo hi M' k'=k' y:=by
 unfold Hg at h;simp only [fF]at h;split at h
 ·rename_i id;split at h
  ·rename_i h1 h2;split at h
   ·rename_i hb;split at h
    ·rename_i h3 h4;replace h:=cP h;obtain⟨e,h⟩:=h;exact⟨_,h,λM' hM R' k'=>by have hm:=hM id (UX);simp only [fF,Hg,h1,h2,hm,hb,h3,h4,e,a8]⟩
    ·exact aM
   ·exact aM
  ·exact aM
 ·exact aM
def acx{et:TypeId}{o:Option AV}(h:Bk X et ok k o=some r):∃y,k y=some r/\∀(R':Type) (k':AV->Option R'),Bk X et ok k' o=k' y:=
 ⟨_,ama h,λR' k'=>by cases o<;>cases ok<;>rfl⟩
def aJl(h:Cu X t x i ok M k=some r):∃y,k y=some r/\∀(M':aL),(∀id∈Hr x,M'[id]?=M[id]?)->∀(R':Type) (k':AV->Option R'),Cu X t x i ok M' k'=k' y:=by
 unfold Cu at h;simp only [fF]at h;split at h
 case h_2=>cases h
 rename_i kt et h1 h2;split at h
 case h_2=>cases h
 rename_i kd h3;replace h:=cP h;obtain⟨h4,h⟩:=h;cases x<;>simp only at h<;>try (cases h;done)
 case qW=>
  obtain⟨y,h,hd⟩:=acx h;exact⟨y,h,λM' _ R' k'=>by unfold Cu;simp only [fF,h1,h2,h3,h4,a8];exact hd R' k'⟩
 case mp id=>
  split at h
  case h_2=>cases h
  rename_i yz ag ks es hb;replace h:=cP h;obtain⟨h5,h⟩:=h;split at h
  ·rename_i h6;split at h
   ·rename_i y' h7;exact asb
   ·rename_i h7;exact asb
  ·rename_i h6;rw [TL]at h;obtain⟨y,h,hd⟩:=acx h;exact⟨y,h,λM' hM R' k'=>by unfold Cu;have hm:=hM id (by simp [Hr]);simp only [fF,h1,h2,h3,h4,hm,hb,h5,h6,a8,TL];exact hd R' k'⟩
def Of(X:Cx)(e:Operand->AV)(o:Oper):Option dy:=
 match o.op with
 | .move _=>some []
 | .assign _=>some []
 | .pick _ _ _=>some []
 | .binOp _ _ _ _ _=>some []
 | .unOp _ _ _=>some []
 | .convert s d _=>(match aQl X s d with|true=>none|false=>some [])
 | .fieldAddr _ _ _=>some []
 | .field _ _ _=>some []
 | .index _ _ _=>some []
 | .extract _ _=>some []
 | .makeFunc _ _ _=>some []
 | .nilCheck _=>some []
 | .build _ _=>some []
 | .load _ x=>some (CF (e x))
 | .indexAddr _ x _=>some (rN (e x))
 | .slice _ x _ _ mx=>match agm X o (e x) mx with|true=>some (rN (e x))|false=>match rN (e x)with| []=>some []|_=>none
 | .call c=>
   match c.callee with
   | .builtin .len =>some (c.args.toList.flatMap λx=>rN (e x))
   | .builtin .min =>some []
   | .builtin .max =>some []
   |_=>none
 | .lookup _ x _ _=>some (Hr (e x))
 |_=>none
def aIv{k:AV->aL->Option R}(hq:Of X e o=some ids)(h:vY X T e o M k=some r):
 ∃y,k y M=some r/\∀(M':aL),(∀id∈ids,M'[id]?=M[id]?)->∀(k':AV->aL->Option R'),vY X T' e o M' k'=k' y M':=by
 unfold Of at hq;unfold vY at h;split at hq
 all_goals (rename_i ho;simp only [ho]at h)
 ·exact⟨_,h,λM' _ k'=>aeI⟩
 ·exact⟨_,h,λM' _ k'=>aeI⟩
 ·split at h
  ·rename_i t hc;split at h
   ·exact apt
   ·exact apt
  ·exact aM
 ·obtain⟨y,h,hd⟩:=aMP (X:=X) _ _ _ _ h;exact EW
 ·obtain⟨y,h,hd⟩:=aNV _ _ h;exact EW
 ·split at hq
  ·cases hq
  obtain⟨y,h,hd⟩:=aLx (X:=X) _ _ _ h;exact EW
 ·obtain⟨y,h,hd⟩:=aHH (X:=X) _ _ _ h;exact EW
 ·obtain⟨y,h,hd⟩:=aKe (X:=X) _ _ _ h;exact EW
 ·obtain⟨y,h,hd⟩:=aKd (X:=X) _ _ _ h;exact EW
 ·split at h
  ·rename_i vs hv;split at h
   ·rename_i y hy;exact⟨_,h,λM' _ k'=>by unfold vY;simp only [ho,hv,hy]⟩
   ·exact aM
  ·exact aM
 ·rename_i fn first iP
  cases fn with
  |func f=>exact⟨_,h,λM' _ k'=>aeI⟩
  |_=>exact aM
 ·obtain⟨y,h,hd⟩:=aMN _ h;exact EW
 ·obtain⟨y,h,hd⟩:=aKf (X:=X) _ _ h;exact EW
 ·injection hq with hq;subst hq;obtain⟨y,h,hd⟩:=aKR h;exact ae2
 ·injection hq with hq;subst hq;obtain⟨y,h,hd⟩:=aHa h;exact ae2
 ·split at hq
  ·rename_i DM;simp only [DM]at h;injection hq with hq;subst hq;obtain⟨y,h,hd⟩:=aKQ h;exact⟨y,h,λM' hM k'=>by unfold vY;simp only [ho,DM];exact hd M' hM _ _⟩
  ·rename_i DM;simp only [DM]at h;split at hq
   ·rename_i hx;obtain⟨y,h,hd⟩:=aJY hx h;exact⟨y,h,λM' hM k'=>by unfold vY;simp only [ho,DM];exact hd M' _ _⟩
   ·cases hq
 ·rename_i c;split at hq
  ·rename_i hc;simp only [hc]at h;injection hq with hq;subst hq;split at h
   ·rename_i t x ht hx;obtain⟨y,h,hd⟩:=aMj h;refine⟨y,h,λM' hM k'=> ?_⟩;unfold vY;simp only [ho,hc,ht,hx];exact hd M' (λid bf=>hM id (by rw [hx];simpa using bf)) _ _
   ·exact aM
  ·exact ar3
  ·exact ar3
  ·cases hq
 ·injection hq with hq;subst hq;obtain⟨y,h,hd⟩:=aJl h;exact ae2
 ·cases hq
def aJf{k:AV->aL->Option R}(hq:Of X e o=some ids)(h:BK X T e o M k=some r):
 ∃y,k y M=some r/\∀(M':aL),(∀id∈ids,M'[id]?=M[id]?)->∀(k':AV->aL->Option R'),BK X T' e o M' k'=k' y M':=aIv (T':=T') hq h
def Wz(R:Type):nQ R:=⟨⟨0,0⟩,λ_ _ _=>none,λ_ _ _ _=>none,λ_ _ _ _=>none⟩
def aLM(X:Cx)(R:Type):(Wz R).wU X:=⟨λh=>by simp [Wz]at h,λh=>by simp [Wz]at h⟩
def aJg(hX:X.Okb){k:AV->aL->Option R}(hq:Of X e o=some ids)(h:BK X T e o M k=some r):
 ∃y,k y M=some r/\∀(M':aL),(∀id∈ids,M'[id]?=M[id]?)->jR X o e M' y M':=by
 obtain⟨y,h1,h2⟩:=aJf (T':=Wz (AV×aL)) hq h;refine⟨y,h1,λM' hM=> ?_⟩;obtain⟨x,M1,h3,h4,_⟩:=Tu hX (aLM X _) (h2 M' hM λx M=>some (x,M));injection h4 with h4;injection h4 with h4 h5;subst h4;subst h5;exact h3
def O7:List Oper->Nat
 | []=>0
 |o::os=>match o.op with
  | .buildSlice _ _ _=>O7 os+1
  | .call c=>(match c.callee with| .value _=>O7 os+1|_=>O7 os)
  |_=>O7 os
def afG(X:Cx)(ops:Array Oper)(e:Operand->AV)(o:Oper):Option (TypeId×Nat×Array (Nat×Operand)):=
 match o.op with
 | .buildSlice t n ps=>
   match(Nat.blt 1 (O7 ops.toList)&&Nat.blt 0 n)&&ps.toList.all λp=>aO0 (e p.2)with
   |true=>some (t,n,ps)
   |false=>none
 |_=>none
def aJm{ops:Array Oper}(h:afG X ops e o=some (t,n,ps)):o.op= .buildSlice t n ps:=by
 unfold afG at h;split at h
 ·rename_i ho;split at h
  ·injection h with h;injection h with h1 h;injection h with h2 h3;subst h1;subst h2;subst h3;exact ho
  ·exact aM
 ·exact aM
def aJZ(hX:X.Okb)(ho:o.op= .buildSlice t n ps)(h:JQ X t n (ps.toList.map λp=>(p.1,e p.2)) k=some r):
 ∃y,k y=some r/\∀(M':aL),jR X o e M' y M':=by
 obtain⟨y,h1,_,hd⟩:=aDb hX h;refine⟨y,h1,λM'=>jR.yY (s:=λρe=>Instr.buildSlice t n (ps.map λ(i,x)=>(i,ρe x))) (kI) (λρe=>oF) (λ{w0 S F ρ w ρe} hI hr=> ?_)⟩;have:=hd (ps.toList.map λp=>(p.1,ρe p.2)) hI (by simp) (λj p q hp hq=>by
  rw [kW]at hp hq;cases hj:ps.toList[j]? with
  |none=>exact OO
  |some z=>
   rw [hj]at hp hq;simp only [ox,Option.some.injEq]at hp hq;subst hp;subst hq;exact⟨rfl,hr z.2⟩)
 have e1:(ps.map λ(i,x)=>(i,ρe x))=(ps.toList.map λp=>(p.1,ρe p.2)).toArray :=Ag;rw [e1];exact this
end
end Go.ah
namespace Go.ah
def EU{p:Prop}(h:p:=by have:=each (j:=0) rfl;cases this):p:=h
def EF{p:Prop}(h:p:=by simpa using hi):p:=h
def aqr{p:Prop}(h:p:=by
 have:=mP.1 jA i hi;rw [bA]at this;simpa using this.1):p:=h
def apU{p:Prop}(h:p:=by
 have:=mP.1 hk _ (cY hj);rw [e]at this;cases this):p:=h
end Go.ah
namespace Go.ah
def ji:=@List.mem_cons_self
def jV:=@List.mem_cons_of_mem
def Cq:=@List.nodup_cons
def acR:=@Option.isSome_iff_exists
end Go.ah
namespace Go.ah
open Go
noncomputable section
variable {X:Cx} {R:Type}
variable{i j:Nat}{f:Nat->Option Nat}{op:Option (Nat×Nat×Nat)}{t:TypeId}{xs:aE}{ρ':bF}
def iR(f:Nat->Option Nat):Nat->AV->AV
 |0,_=> .top
 |n+1,x=>
  match x with
  | .ak id=>match f id with|some j=> .ak j|none=> .top
  | .ptr id i off=>match f id with|some j=> .ptr j i off|none=> .top
  | .lM id=>match f id with|some j=> .lM j|none=> .top
  | .mp id=>match f id with|some j=> .mp j|none=> .top
  | .p8 id m=>match f id with|some j=> .p8 j m|none=> .top
  | .vw id lo m=>match f id with|some j=> .vw j lo m|none=> .top
  | .agg cs=> .agg (cs.map (iR f n))
  | .gw cs=> .gw (cs.map (iR f n))
  | .gM g first iP=> .gM g (first.map (iR f n)) (iP.map (iR f n))
  |x=>x
def Ren(f:Nat->Option Nat)(ρ ρ':bF):Prop:=∀(id j:Nat) hd,f id=some j->ρ[id]?=some hd->ρ'[j]?=some hd
def aR.iR{K:TypeId->fh}(hK:∀t,∀k∈K t,k≠ .any){f:Nat->Option Nat}{ρ ρ':bF}(hf:Ren f ρ ρ'){F:bC}{w:World}:∀(n:Nat) {x:AV} {v:Value},aR K ρ F w x v->aR K ρ' F w (iR f n x) v
 |0,_,v,_=> .top v
 |n+1,x,v,h=>by
  have ih:=λ{x:AV} {v:Value} (h:aR K ρ F w x v)=>aR.iR hK hf n h;have XR:∀{xs:aq} {vs:jb},(∀(j:Nat) x v,xs[j]?=some x->vs[j]?=some v->aR K ρ F w x v)->∀(j:Nat) x v,(xs.map (ah.iR f n))[j]?=some x->vs[j]?=some v->aR K ρ' F w x v:=by
   intro xs vs h j x v hx hv;rw [kW]at hx;cases hj:xs[j]? with
   |none=>rw [hj]at hx;cases hx
   |some y=>
    rw [hj]at hx;simp only [ox,Option.some.injEq]at hx;subst hx;exact ih (h j y v hj hv)
  cases h with
  |top v=>exact .top v
  |int k n=>exact .int k n
  |bool b=>exact .bool b
  |str s=>exact .str s
  |agg cs vs hl h=>exact .agg _ vs (sY) (XR h)
  |gw cs vs hl h=>exact .gw _ vs (sY) (XR h)
  |oI=>exact .oI
  |iO t row off a vs hk hl hc h=>exact(aR.iO (ρ:=ρ) t row off a vs hk hl hc h).pure hK rfl
  |ptr id i off hd g o m c bf hv=>
   simp only [ah.iR];split
   ·rename_i j hj;exact .ptr j i off hd g o m c (hf id j hd hj bf) hv
   ·exact .top _
  |n7 t=>exact .n7 t
  |aj t xs a cap vss hl pG oJ hk hc h=>exact(aR.aj (ρ:=ρ) t xs a cap vss hl pG oJ hk hc h).pure hK rfl
  |ak id hd bf=>
   simp only [ah.iR];split
   ·rename_i j hj;exact .ak j hd (hf id j hd hj bf)
   ·exact .top _
  |jX=>exact .jX
  |gM g first iP vf vc h1 h2 h3 h4=>exact .gM g _ _ vf vc (y9) (uu) (XR h3) (XR h4)
  |oE=>exact .oE
  |lM id hd g bf hv=>
   simp only [ah.iR];split
   ·rename_i j hj;exact .lM j hd g (hf id j hd hj bf) hv
   ·exact .top _
  |mp id hd bf=>
   simp only [ah.iR];split
   ·rename_i j hj;exact .mp j hd (hf id j hd hj bf)
   ·exact .top _
  |qW=>exact .qW
  |p8 id m hd g o n' c cap bf hv=>
   simp only [ah.iR];split
   ·rename_i j hj;exact .p8 j m hd g o n' c cap (hf id j hd hj bf) hv
   ·exact .top _
  |vw id lo m hd g o n' c cap bf hv hc hb=>
   simp only [ah.iR];split
   ·rename_i j hj;exact .vw j lo m hd g o n' c cap (hf id j hd hj bf) hv hc hb
   ·exact .top _
  |zu id lo=>
   simp only [ah.iR];split
   ·exact .zu _ lo
   ·exact .top _
  |zt id lo a cap=>
   simp only [ah.iR];split
   ·exact .zt _ lo a cap
   ·exact .top _
  |oh a cap=>exact .oh a cap
def dZ.iR{K:TypeId->fh}(hK:∀t,∀k∈K t,k≠ .any){f:Nat->Option Nat}{ρ ρ':bF}(hf:Ren f ρ ρ'){F:bC}{w:World}(n:Nat){xs:aq}{vs:jb}(h:dZ K ρ F w xs vs):dZ K ρ' F w (xs.map (ah.iR f n)) vs:=by
 refine⟨by simpa using h.1,λj x v hx hv=> ?_⟩;rw [kW]at hx;cases hj:xs[j]? with
 |none=>rw [hj]at hx;cases hx
 |some y=>
  rw [hj]at hx;simp only [ox,Option.some.injEq]at hx;subst hx;exact(h.2 j y v hj hv).iR hK hf n
def HL(f:Nat->Option Nat)(n:Nat)(env:cf):cf:=env.map λp=>(p.1,iR f n p.2)
def amw(f:Nat->Option Nat)(n:Nat):∀(env:cf) (t:Nat),look (HL f n env) t=iR f n (look env t)∨look (HL f n env) t= .top
 | [],t=> .inr rfl
 |(u,x)::env,t=>by
  unfold HL;simp only [my,ug,look_nil]
  by_cases ht:t=u
  ·subst ht;simp
  ·have:(t==u)=false:=by simpa using ht
   simp only [this,oW,sj];exact amw f n env t
def mA.iR(hX:X.Ok){f:Nat->Option Nat}{ρ ρ':bF}(hf:Ren f ρ ρ'){F:bC}{w:World}(n:Nat){env:cf}{tmps:Array Value}(h:mA X ρ F w env tmps):mA X ρ' F w (HL f n env) tmps:=by
 intro t;rcases amw f n env t with e|e
 ·rw [e];exact(h t).iR hX.kinds hf n
 ·rw [e];exact .top _
def Kind.fix:Kind->Bool| .any =>false|_=>true
def HK(f:Nat->Option Nat):Option (Nat×Nat×Nat)->Option (Nat×Nat×Nat)
 |some (i,j,k)=>match f k with|some k'=>some (i,j,k')|none=>some (i,j,k)
 |none=>none
def vq(f:Nat->Option Nat):eH->eH
 | .var ks cs=>match ks.all Kind.fix with|true=> .var ks cs|false=> .var ks (cs.map (iR f 4))
 | .loop s env b p=> .loop s (HL f 4 env) b p
 | .map kd ag ks es=>match ks.all Kind.fix with|true=> .map kd ag ks es|false=> .map kd ag ks (es.map λe=>(e.1,iR f 4 e.2))
 | .bD t xs op=> .bD t xs (HK f op)
 |b=>b
def vj(f:Nat->Option Nat):eH->Bool
 | .var ks cs=>match ks.all Kind.fix with|true=>true|false=>dq ks (cs.map (iR f 4))
 | .map _ ag ks es=>match ks.all Kind.fix with|true=>true|false=>es.all λe=>dq ks (iR f 4 e.2).cells &&(iR f 4 e.2).shape ag
 | .bD _ _ (some (_,_,k))=>(f k).isSome
 |_=>true
def Ci(f:Nat->Option Nat)(b:eH):(vq f b).kq =b.kq:=by
 cases b<;>simp only [vq]<;>first|rfl|(split<;>rfl)
def aR.fix{K:TypeId->fh}(hK:∀t,∀k∈K t,k≠ .any){ρ ρ':bF}{F:bC}{w:World}{ks:fh}(hk:ks.all Kind.fix=true){x:AV}{v:Value}(hx:dq ks x.cells=true)(h:aR K ρ F w x v):aR K ρ' F w x v:=by
 have each:∀{j:Nat} {y:AV},x.cells[j]?=some y->y.pure=true:=λ{j y} hy=>by
  have hl:=lQ hx;have hj:j<ks.length:=aeL;refine JM (λe=> ?_) (wN hx (c8 hj) hy);exact apU
 cases h with
 |agg cs vs hl hr=>exact .agg cs vs hl λj y u hy hu=>(hr j y u hy hu).pure hK (each hy)
 |top v=>have:=each (j:=0) (y:= .top) rfl;cases this
 |gw cs vs hl hr=>have:=each (j:=0) (y:= .gw cs) rfl;cases this
 |int k n=>exact .int k n
 |bool b=>exact .bool b
 |str s=>exact .str s
 |oI=>exact .oI
 |iO t row off a vs k7 hl hc hr=>exact aR.pure hK (.iO t row off a vs k7 hl hc hr) (each (j:=0) rfl)
 |n7 t=>exact .n7 t
 |aj t xs a cap vss hl pG oJ k7 hc hr=>exact aR.pure hK (.aj t xs a cap vss hl pG oJ k7 hc hr) (each (j:=0) rfl)
 |jX=>exact .jX
 |gM f first iP vf vc hf hc h1 h2=>exact aR.pure hK (.gM f first iP vf vc hf hc h1 h2) (each (j:=0) rfl)
 |oE=>exact .oE
 |qW=>exact .qW
 |ptr id i off hd g o n c bf hv=>exact EU
 |ak id hd bf=>exact EU
 |lM id hd g bf hv=>exact EU
 |p8 id m hd g o n c cap bf hv=>exact EU
 |vw id lo m hd g o n c cap bf hv hc hb=>exact EU
 |zu id lo=>exact EU
 |zt id lo a cap=>exact EU
 |oh a cap=>exact .oh a cap
 |mp id hd bf=>exact EU
def alh{kd:Kind}(qe:kd≠ .any){x:AV}(h:js kd x=true):x.pure=true:=JM qe h
def nx.iR(hX:X.Ok){f:Nat->Option Nat}{ρ ρ':bF}(hf:Ren f ρ ρ'){F:bC}{w:World}{hd:Hd}{b:eH}(aX:vj f b=true)(h:nx X ρ F w hd b):nx X ρ' F w hd (vq f b):=by
 cases b with
 |var ks cs=>
  obtain⟨h1,h2,g,cur,e,hv,hh,hr,hy⟩:=h;simp only [vq];simp only [vj]at aX;split
  ·rename_i hk;refine⟨h1,h2,g,cur,e,hv,hh,⟨hr.1,λj x v hx hv=>(hr.2 j x v hx hv).pure hX.kinds ?_⟩,hy⟩;have hl:=lQ h1;have hj:j<ks.length:=O1;refine JM (λe=> ?_) (wN h1 (c8 hj) hx);exact apU
  ·rename_i hk;rw [hk]at aX;exact⟨aX,uu,g,cur,e,hv,hh,hr.iR hX.kinds hf 4,hy⟩
 |row t xs=>
  obtain⟨h1,h2,h3⟩:=h;refine⟨h1,h2,?_⟩;rcases h3 with h3|⟨g,o,c,cur,hv,hh,h4,h5,h6,h7⟩
  ·exact .inl h3
  ·refine .inr ⟨g,o,c,cur,hv,hh,h4,h5,h6,λi row hi j x hx=> ?_⟩;obtain⟨v,kj,hr⟩:=h7 i row hi j x hx;refine⟨v,kj,hr.pure hX.kinds ?_⟩;have hk:=h2 i row hi;have hl:=lQ hk;have hj:j<(X.K t).length :=O1;exact JM (hX.kinds t _ (cY hj)) (wN hk (c8 hj) hx)
 |map kd ag ks es=>
  obtain⟨qe,g,mes,clock,hv,hh,fU,zM⟩:=h;simp only [vq];simp only [vj]at aX;split
  ·rename_i hk;exact⟨qe,g,mes,clock,hv,hh,fU,λi e me he hm=>let⟨a,r1,r2⟩:=zM i e me he hm;⟨a,r1.pure hX.kinds (alh qe a.1),r2.fix hX.kinds hk a.2.1⟩⟩
  ·rename_i hk;rw [hk]at aX;refine⟨qe,g,mes,clock,hv,hh,U6,λi e me he hm=> ?_⟩;rw [kW]at he;cases hi:es[i]? with
   |none=>rw [hi]at he;cases he
   |some e0=>
    rw [hi]at he;simp only [ox,Option.some.injEq]at he;subst he;obtain⟨a,r1,r2⟩:=zM i e0 me hi hm;have:=mP.1 aX e0 (qk hi);rw [bA]at this;exact⟨⟨a.1,this.1,this.2⟩,r1.pure hX.kinds (alh qe a.1),r2.iR hX.kinds hf 4⟩
 |loop s env busy Dl=>
  obtain⟨g,lp,hv,hh,h1,h2,h3,h4,h5,h6⟩:=h;exact⟨g,lp,hv,hh,h1,h2,h3,h4,h5.iR hX hf 4,h6⟩
 |Yr=>exact h
 |fx t xs=>exact aR.pure hX.kinds h rfl
 |dead=>trivial
 |bD t xs op=>trivial
def T5{b:eH}(h:vq f b= .bD t xs op):∃vD,b= .bD t xs vD/\op=HK f vD:=by
 cases b<;>simp only [vq]at h
 all_goals (try (split at h<;>cases h))
 all_goals cases h
 exact⟨_,rfl,rfl⟩
def T9(aX:vj f (.bD t xs op)=true)(i j:Nat):jQ (HK f op) i j=(jQ op i j).bind f:=by
 match op with
 |none=>rfl
 |some (i',j',k)=>
  simp only [vj]at aX;obtain⟨k',k7⟩:=acR.1 aX;simp only [HK,k7,jQ];split<;>simp [k7]
def abo(aX:vj f (.bD t xs op)=true){k:Nat}(h:jQ op i j=some k):∃k',f k=some k':=by
 match op with
 |none=>exact aM
 |some (i',j',k0)=>
  simp only [vj]at aX;simp only [jQ]at h;split at h
  ·injection h with h;subst h;exact acR.1 aX
  ·exact aM
def pZ.iR(hX:X.Ok){f:Nat->Option Nat}{ρ ρ':bF}(hf:Ren f ρ ρ'){F:bC}{w:World}{hd:Hd}{t:TypeId}{xs:aE}{op:Option (Nat×Nat×Nat)}(aX:vj f (.bD t xs op)=true)
 (h:pZ X ρ F w hd t xs op):pZ X ρ' F w hd t xs (HK f op):=by
 obtain⟨h0,h1,h2,h3,h4⟩:=h;refine⟨h0,h1,h2,λi j k hk=> ?_,?_⟩
 ·match op,hk with
  |some (i',j',k'),hk=>
   have:=h3 i' j' k' rfl;simp only [HK]at hk;split at hk<;>(injection hk with hk;injection hk with e1 hk;injection hk with e2 e3;subst e1;subst e2;exact this)
 ·rcases h4 with h4|⟨g,o,c,cur,hv,hh,h5,h6,h7,h8⟩
  ·exact .inl h4
  ·refine .inr ⟨g,o,c,cur,hv,hh,h5,h6,h7,λi row hi j x hx=> ?_⟩;obtain⟨v,kj,ho,hr⟩:=h8 i row hi j x hx;refine⟨v,kj,λk hk=> ?_,λhk=> ?_⟩
   ·rw [T9 aX]at hk;cases h9:jQ op i j with
    |none=>rw [h9]at hk;cases hk
    |some k0=>
     rw [h9]at hk;obtain⟨h',e1,e2⟩:=ho k0 h9;exact⟨h',hf k0 k h' hk e1,e2⟩
   ·rw [T9 aX]at hk;cases h9:jQ op i j with
    |some k0=>
     obtain⟨k',e⟩:=abo aX h9;rw [h9]at hk;simp [e]at hk
    |none=>
     have hr:=hr h9;unfold zg at hr⊢;split at hr
     ·exact⟨hr.1.iR hX hf (b:= .row _ _) rfl,hr.2⟩
     ·rename_i nP;obtain⟨k,e1,e2⟩:=GF (h2 i row hi) hx;refine hr.pure hX.kinds (JM (hX.kinds t k (qk e1)) (k:=k) ?_);unfold w9 at e2;split at e2
      ·exact absurd rfl (nP _ _)
      ·exact e2
def qN.iR(hX:X.Ok){w0 yp w:World}{S S':Sc}{F:bC}{ρ ρ':bF}{M M':aL}(h:qN X w0 S F ρ M w){f:Nat->Option Nat}(hf:Ren f ρ ρ')(iw:Nat->Nat)
 (key:∀(id:Nat) t xs op hd,M'[id]?=some (.bD t xs op)->ρ'[id]?=some hd->∃b,M[iw id]?=some b/\ρ[iw id]?=some hd/\vq f b= .bD t xs op/\vj f b=true)
 (ahh:∀(id id':Nat) b b',M'[id]?=some b->M'[id']?=some b'->b.oj=true->b'.oj=true->iw id=iw id'->id=id') (aPa:∀g,rW ρ' M' g->rW ρ M g)
 (hS:∀(id:Nat) b p g,M'[id]?=some b->Hid w ρ M (iw id) p g->(S g∨w0.heap.size<=g)->S' g∨yp.heap.size<=g):qN X yp S' F ρ' M' w:=by
 have back:∀{id:Nat} {p:Option (Nat×Nat)} {g:Nat},Hid w ρ' M' id p g->Hid w ρ M (iw id) p g/\∃b,M'[id]?=some b/\b.oj=true:=by
  intro id p g hh;cases hh with
  |out hb hh hg=>
   obtain⟨b,k1,k2,k3,k4⟩:=key _ _ _ _ _ hb hh;obtain⟨vD,rfl,_⟩:=T5 k3;exact⟨.out k1 k2 hg,_,hb,rfl⟩
  |sub hb hh hi hj ho hc hg=>
   obtain⟨b,k1,k2,k3,k4⟩:=key _ _ _ _ _ hb hh;obtain⟨vD,rfl,rfl⟩:=T5 k3;refine⟨.sub k1 k2 hi hj ?_ hc hg,_,hb,rfl⟩;rw [T9 k4]at ho;cases h9:jQ vD _ _ with
   |none=>rfl
   |some k0=>
    obtain⟨k',e⟩:=abo k4 h9;rw [h9]at ho;simp [e]at ho
 refine⟨λ{id p g} hh=> ?_,λh1 h2=> ?_,λ{id t xs op hd} hb hh=> ?_⟩
 ·obtain⟨hb,b,mv,_⟩:=back hh;obtain⟨a1,a2,a3,a4⟩:=h.ak hb;exact⟨a1,hS id b p g mv hb a2,a3,λho=>a4 (aPa g ho)⟩
 ·obtain⟨b1,c1,m1,n1⟩:=back h1;obtain⟨b2,c2,m2,n2⟩:=back h2;obtain⟨e1,e2⟩:=h.inj b1 b2;exact⟨ahh _ _ _ _ m1 m2 n1 n2 e1,e2⟩
 ·obtain⟨b,k1,k2,k3,k4⟩:=key _ _ _ _ _ hb hh;obtain⟨vD,rfl,rfl⟩:=T5 k3;exact(h.rep k1 k2).iR hX hf k4
def idx:dy->Nat->Option Nat
 | [],_=>none
 |i::is,id=>if id==i then some 0 else(idx is id).map (·+1)
def an9:∀{bx:dy} {id j:Nat},idx bx id=some j->bx[j]?=some id
 | [],id,j,h=>by simp [idx]at h
 |i::is,id,j,h=>by
  simp only [idx]at h;split at h
  ·rename_i hi;injection h with h;subst h;simpa using Eq.symm (EF)
  ·cases hx:idx is id with
   |none=>rw [hx]at h;cases h
   |some m=>
    rw [hx]at h;simp only [ox,Option.some.injEq]at h;subst h;simpa using an9 hx
def qa(m:Nat)(bx:dy)(n:Nat)(j:Nat):Option Nat:=match Nat.blt j m with|true=>bx[j]?|false=>some (n+(j- m))
def sub(d:Hd)(ρ:bF)(bx:dy):bF:=bx.map λi=>ρ.getD i d
def ux(M:aL)(bx:dy):aL:=bx.map λi=>vq (idx bx) (M.getD i .dead)
def Ac(M:aL)(bx:dy):Bool:=distinct bx&&bx.all λi=>Nat.blt i M.length&&vj (idx bx) (M.getD i .dead)
where distinct:dy->Bool
 | []=>true
 |i::is=> !is.contains i&&distinct is
def aai:∀{bx:dy},Ac.distinct bx=true->bx.Nodup
 | [],_=> .nil
 |i::is,h=>by
  simp only [Ac.distinct,bA]at h;exact Cq.2 ⟨by simpa using h.1,aai h.2⟩
def yj:aL->dy->aL->aL
 |M,i::is,b::bs=>yj (M.set i b) is bs
 |M,_,_=>M
def JN:∀(bx:dy) (bs M:aL),(yj M bx bs).length =M.length
 | [],_,_=>by simp [yj]
 |_::_,[],_=>by simp [yj]
 |i::is,b::bs,M=>by simp only [yj];rw [JN is bs];simp
def Ua:∀(bx:dy) (bs M:aL) {id:Nat},id∉bx->(yj M bx bs)[id]?=M[id]?
 | [],_,_,_,_=>by simp [yj]
 |_::_,[],_,_,_=>by simp [yj]
 |i::is,b::bs,M,id,h=>by
  simp only [yj];rw [Ua is bs _ (λh'=>h (jV _ h')),mw (λe=>h (by rw [e];exact ji))]
def adq:∀(bx:dy) (bs M:aL),bx.Nodup->(∀i∈bx,i<M.length)->∀{j i:Nat} {b:eH},bx[j]?=some i->bs[j]?=some b->(yj M bx bs)[i]?=some b
 | [],_,_,_,_,j,i,b,h,_=>jY
 |_::_,[],_,_,_,j,i,b,_,h=>jY
 |i0::is,b0::bs,M,hn,hl,j,i,b,hi,hb=>by
  simp only [yj];rw [Cq]at hn;cases j with
  |zero=>
   simp at hi hb;subst hi;subst hb;rw [Ua is bs _ hn.1,oV (hl i0 ji)]
  |succ j=>
   simp at hi hb;exact adq is bs _ hn.2 (λk hk=>by simpa using hl k (jV _ hk)) hi hb
def merge(m:Nat)(M:aL)(bx:dy)(Mc:aL):aL:=yj M bx ((Mc.take m).map (vq (qa m bx M.length))++List.replicate (bx.length- m) .dead)++(Mc.drop m).map (vq (qa m bx M.length))
def Kh(m:Nat)(M:aL)(bx:dy)(Mc:aL):Bool:=Nat.ble m bx.length&&Nat.ble m Mc.length&&Mc.all (vj (qa m bx M.length))
structure v7(m:Nat)(F F':bC)(ρ ρ':bF)(w w':World):Prop where
 hF:∀a,F a->F' a
 gP:∀(id:Nat) hd,id<m->ρ[id]?=some hd->ρ'[id]?=some hd
 hb:∀a,F a->w'.heap[a.block]?=w.heap[a.block]?
def Grow.toF{F F':bC}{ρ:bF}{w w':World}(h:Grow F F' ρ ρ' w w')(m:Nat):v7 m F F' ρ ρ' w w':=⟨h.hF,λid hd _ hh=>h.gP id hd hh,h.hb⟩
def v7.hw{m:Nat}{F F':bC}{ρ:bF}{w w':World}(h:v7 m F F' ρ ρ' w w'):∀a v,F a->w.cell? a=some v->w'.cell? a=some v:=λa _ ha hc=>ab7 (h.hb a ha) hc
section
variable {w0 w w':World} {S:Sc} {F F':bC} {ρ qY:bF} {M qi:aL} {bx:dy}
def hand(w:World)(ρ:bF)(M:aL)(bx:dy)(F:bC):Sc:=⟨λg=>(∃i∈bx,∃b hd,M[i]?=some b/\b.kq=false/\ρ[i]?=some hd/\hd.dE=some g)∨∃i∈bx,∃p,Hid w ρ M i p g,F⟩
def Uz{d:Hd}(h:bx[j]?=some i)(hi:i<ρ.length):(sub d ρ bx)[j]?=ρ[i]?:=by
 simp only [sub,kW,h,ox,List.getD,c8 hi,qm]
def adO(bI:∀i∈bx,i<ρ.length)(d:Hd):Ren (idx bx) ρ (sub d ρ bx):=by
 intro id j hd hj hh;have:=an9 hj;rw [Uz this (bI _ (qk this)),hh]
def Inv.atw(hX:X.Ok)(hI:Inv X w0 S F ρ M w)(aX:Ac M bx=true)(d:Hd):Inv X w0 S F (ah.sub d ρ bx) (ux M bx) w/\Inv X w (hand w ρ M bx F) F (ah.sub d ρ bx) (ux M bx) w:=by
 unfold Ac at aX;rw [bA]at aX;obtain⟨ahn,jA⟩:=aX;have uP:=aai ahn;have bI:∀i∈bx,i<M.length:=λi hi=>aqr;have nO:∀i∈bx,vj (idx bx) (M.getD i .dead)=true:=λi hi=>by
  have:=mP.1 jA i hi;rw [bA]at this;exact this.2
 have afU:∀i∈bx,i<ρ.length:=λi hi=>by rw [hI.len];exact bI i hi
 have back:∀{j:Nat} {c:eH},(ux M bx)[j]?=some c->∃i b,bx[j]?=some i/\M[i]?=some b/\c=vq (idx bx) b/\vj (idx bx) b=true:=by
  intro j c hc;simp only [ux,kW]at hc;cases hj:bx[j]? with
  |none=>rw [hj]at hc;cases hc
  |some i=>
   rw [hj]at hc;have hi:=bI i (qk hj);simp only [ox,Option.some.injEq,List.getD,c8 hi,qm]at hc;have h2:=nO i (qk hj);simp only [List.getD,c8 hi,qm]at h2;exact⟨i,M[i],rfl,c8 hi,hc.symm,h2⟩
 have Hj:∀{j:Nat} {h:Hd},(ah.sub d ρ bx)[j]?=some h->∃i,bx[j]?=some i/\ρ[i]?=some h:=by
  intro j h hh;cases hj:bx[j]? with
  |none=>simp only [ah.sub,kW,hj]at hh;cases hh
  |some i=>rw [Uz hj (afU i (qk hj))]at hh;exact⟨i,rfl,hh⟩
 have h1:∀(id:Nat) b hd,(ux M bx)[id]?=some b->(ah.sub d ρ bx)[id]?=some hd->nx X (ah.sub d ρ bx) F w hd b:=by
  intro j c h hc hh;obtain⟨i,b,h1,h2,rfl,h3⟩:=back hc;obtain⟨i',wF,h4⟩:=Hj hh;rw [h1]at wF;injection wF with wF;subst wF;exact(hI.rep i b h h2 h4).iR hX (adO afU d) h3
 have h2:∀(j:Nat) c h g,(ux M bx)[j]?=some c->c.kq=false->(ah.sub d ρ bx)[j]?=some h->h.dE=some g->(g<w.heap.size/\(S g∨w0.heap.size<=g)/\∀a,F a->a.block≠g)/\(hand w ρ M bx F) g:=by
  intro j c h g hc dT hh cX;obtain⟨i,b,h1,h2,rfl,h3⟩:=back hc;obtain⟨i',wF,h4⟩:=Hj hh;rw [h1]at wF;injection wF with wF;subst wF;rw [Ci]at dT;exact⟨hI.sep i b h g h2 dT h4 cX,.inl ⟨i,qk h1,b,h,h2,dT,h4,cX⟩⟩
 have h3:∀(j j':Nat) c c' h h' g,j≠j'->(ux M bx)[j]?=some c->(ux M bx)[j']?=some c'->c.kq=false->c'.kq=false->(ah.sub d ρ bx)[j]?=some h->(ah.sub d ρ bx)[j']?=some h'->h.dE=some g->h'.dE≠some g:=by
  intro j j' c c' h h' g fv hc AR dT rT hh dm cX;obtain⟨i,b,h1,h2,rfl,h3⟩:=back hc;obtain⟨i',b',wF,h2',rfl,F9⟩:=back AR;obtain⟨i2,e1,h4⟩:=Hj hh;obtain⟨i2',e2,h4'⟩:=Hj dm;rw [h1]at e1;injection e1 with e1;subst e1;rw [wF]at e2;injection e2 with e2;subst e2;rw [Ci]at dT rT;refine hI.k5 i i' b b' h h' g (λe=>fv ?_) h2 h2' dT rT h4 h4' cX;subst e;have l1:=(dX.1 h1).1;have l2:=(dX.1 wF).1;exact(List.getElem?_inj l1 uP).1 (h1.trans wF.symm)
 have h4:∀(id:Nat) hd,(ah.sub d ρ bx)[id]?=some hd->hd.v.oneCell'=true:=by
  intro j h hh;obtain⟨i,_,h4⟩:=Hj hh;exact hI.one i h h4
 have h5:∀g,aR X.K (ah.sub d ρ bx) F w (X.jH g) (.pointer (some ⟨g,0,none⟩)):=λg=>(hI.jH g).aKp hX.kinds (hX.jH g);have h6:(ah.sub d ρ bx).length =(ux M bx).length :=by simp [ah.sub,ux]
 have h7:∀(yp:World) (S':Sc),(∀i∈bx,∀p g,Hid w ρ M i p g->(S g∨w0.heap.size<=g)->S' g∨yp.heap.size<=g)->qN X yp S' F (ah.sub d ρ bx) (ux M bx) w:=by
  intro yp S' hS;refine hI.bD.iR hX (adO afU d) (λj=>bx.getD j 0) (λj t xs op hd hc hh=> ?_) (λj j' c c' hc AR _ _ e=> ?_) (λg hg=> ?_) λj c p g hc hh hs=> ?_
  ·obtain⟨i,b,e1,e2,e3,e4⟩:=back hc;obtain⟨i',xq,e5⟩:=Hj hh;rw [e1]at xq;injection xq with xq;subst xq;simp only [List.getD,e1,qm];exact⟨b,e2,e5,e3.symm,e4⟩
  ·obtain⟨i,b,e1,_,_,_⟩:=back hc;obtain⟨i',b',xq,_,_,_⟩:=back AR;simp only [List.getD,e1,xq,qm]at e;subst e;have l1:=(dX.1 e1).1;exact(List.getElem?_inj l1 uP).1 (e1.trans xq.symm)
  ·obtain⟨j,c,hd,hc,dT,hh,cX⟩:=hg;obtain⟨i,b,e1,e2,rfl,e4⟩:=back hc;obtain⟨i',xq,e5⟩:=Hj hh;rw [e1]at xq;injection xq with xq;subst xq;rw [Ci]at dT;exact⟨i,b,hd,e2,dT,e5,cX⟩
  ·obtain⟨i,b,e1,_,_,_⟩:=back hc;simp only [List.getD,e1,qm]at hh;exact hS i (qk e1) p g hh hs
 exact⟨⟨hI.os,hI.tape,hI.output,hI.size,hI.frame,h6,h1,λj c h g p1 p2 p3 p4=>(h2 j c h g p1 p2 p3 p4).1,h3,hI.fz,h5,h4,hI.iw,hI.fin,h7 w0 S λ_ _ _ _ _ h=>h⟩,
  ⟨rfl,rfl,rfl,gQ _,λ_ _ _=>rfl,h6,h1,λj c h g p1 p2 p3 p4=>⟨(h2 j c h g p1 p2 p3 p4).1.1,.inl (h2 j c h g p1 p2 p3 p4).2,(h2 j c h g p1 p2 p3 p4).1.2.2⟩,h3,hI.fz,h5,h4,λa ha=> .inl ha,λa ha=>ha,h7 w _ λi hi p g hh _=> .inl (.inr ⟨i,hi,p,hh⟩)⟩⟩
def Inv.sub(hX:X.Ok)(hI:Inv X w0 S F ρ M w)(aX:Ac M bx=true)(d:Hd):Inv X w (hand w ρ M bx F) F (ah.sub d ρ bx) (ux M bx) w:=(hI.atw hX aX d).2
end
end
end Go.ah
namespace Go.ah
def Kx{p:Prop}(h:p:=by simp [eH.kq]):p:=h
end Go.ah
namespace Go.ah
open Go
noncomputable section
variable {X:Cx} {R:Type}
variable {w0 w w':World} {S:Sc} {F F':bC} {ρ qY:bF} {M qi:aL} {bx:dy} {m:Nat}
structure adL(M:aL)(bx:dy):Prop where
 nd:bx.Nodup
 lt:∀i∈bx,i<M.length
def aml(aX:Ac M bx=true):adL M bx:=by
 unfold Ac at aX;rw [bA]at aX;obtain⟨ahn,jA⟩:=aX;refine⟨aai ahn,λi hi=> ?_⟩;exact aqr
def ale:(merge m M bx qi).length =M.length+(qi.length- m):=by
 simp [merge,JN]
def Ej(hs:adL M bx)(hm:Kh m M bx qi=true){id:Nat}{b:eH}(h:(merge m M bx qi)[id]?=some b):
 (id∉bx/\id<M.length/\M[id]?=some b)∨b= .dead ∨∃j c,qa m bx M.length j=some id/\qi[j]?=some c/\b=vq (qa m bx M.length) c/\vj (qa m bx M.length) c=true:=by
 unfold Kh at hm;rw [bA,bA]at hm;obtain⟨⟨QV,hle⟩,jA⟩:=hm;have hle:m<=qi.length:=yR hle;have QV:m<=bx.length:=yR QV;have ro:∀{j:Nat} {c:eH},qi[j]?=some c->vj (qa m bx M.length) c=true:=λhj=>mP.1 jA _ (qk hj);unfold merge at h
 by_cases bf:id<M.length
 ·rw [kV (by rw [JN];exact bf)]at h
  by_cases ahd:id∈bx
  ·obtain⟨j,hj⟩:=Cp ahd;have QZ:=(dX.1 hj).1
   by_cases DU:j<m
   ·have hjc:j<qi.length:=by omega
    have hb:((qi.take m).map (vq (qa m bx M.length))++List.replicate (bx.length- m) .dead)[j]?=some (vq (qa m bx M.length) qi[j]):=by
     rw [kV (eE),kW,u6,if_pos DU,c8 hjc];rfl
    rw [adq bx _ M hs.nd hs.lt hj hb]at h;injection h with h;have:Nat.blt j m=true:=by simpa using DU
    exact .inr (.inr ⟨j,qi[j],by simp only [qa,this];exact hj,c8 hjc,h.symm,ro (c8 hjc)⟩)
   ·have hb:((qi.take m).map (vq (qa m bx M.length))++List.replicate (bx.length- m) .dead)[j]?=some .dead :=by
     rw [nT (eE),Eo,if_pos (eE)]
    rw [adq bx _ M hs.nd hs.lt hj hb]at h;injection h with h;exact .inr (.inl h.symm)
  ·rw [Ua bx _ M ahd]at h;exact .inl ⟨ahd,bf,h⟩
 ·rw [nT (by rw [JN];omega),JN,kW,vV]at h;cases hc:qi[m+(id- M.length)]? with
  |none=>rw [hc]at h;cases h
  |some c=>
   rw [hc]at h;simp only [ox,Option.some.injEq]at h;refine .inr (.inr ⟨_,c,?_,hc,h.symm,ro hc⟩);have:Nat.blt (m+(id- M.length)) m=false:=by
    rw [Bool.eq_false_iff];simp
   simp only [qa,this,Option.some.injEq];omega
def aJX(hI:Inv X w0 S F ρ M w)(hs:adL M bx)(d:Hd)(hg:v7 m F F' (sub d ρ bx) qY w w'):Ren (qa m bx M.length) qY (ρ++qY.drop m):=by
 intro j id hd hj hh;have hlen:=hI.len;simp only [qa]at hj;split at hj
 ·rename_i hb;have DU:j<m:=G6;have hi:id<ρ.length:=by rw [hlen];exact hs.lt id (qk hj)
  rw [kV hi];have h1:(sub d ρ bx)[j]?=some ρ[id]:=by rw [Uz hj hi,c8 hi]
  have:=hg.gP j _ DU h1;rw [hh]at this;injection this with this;rw [c8 hi,this]
 ·rename_i hb;have DU:¬j<m:=λbI=>by rw [(by simpa using bI:Nat.blt j m=true)]at hb;cases hb
  simp only [Option.some.injEq]at hj;subst hj;rw [nT (by omega),vV,<-hh]
  congr 1
  omega
def Inv.merge(hX:X.Ok)(hI:Inv X w0 S F ρ M w)(aX:Ac M bx=true)(d:Hd)(hC:Inv X w (hand w ρ M bx F) F' qY qi w')(hg:v7 m F F' (ah.sub d ρ bx) qY w w')(hm:Kh m M bx qi=true):
 Inv X w0 S F' (ρ++qY.drop m) (ah.merge m M bx qi) w'/\Grow F F' ρ (ρ++qY.drop m) w w'/\Ren (qa m bx M.length) qY (ρ++qY.drop m):=by
 have hs:=aml aX;have Xg:=aJX hI hs d hg;have hlen:=hI.len;have a0c:=hC.len;have fU:w.heap.size<=w'.heap.size:=hC.size;have qy:∀(id:Nat) hd,ρ[id]?=some hd->(ρ++qY.drop m)[id]?=some hd:=λid hd h=>Vz;have pd:Grow F F' ρ (ρ++qY.drop m) w w':=⟨hg.hF,qy,hg.hb⟩;have apart:∀{id:Nat} {b:eH} {hd:Hd} {g:Nat},id∉bx->M[id]?=some b->b.kq=false->ρ[id]?=some hd->hd.dE=some g->g<w.heap.size/\¬(hand w ρ M bx F) g:=by
  intro id b hd g nP hb dT hh cX;refine⟨(hI.sep id b hd g hb dT hh cX).1,?_⟩;rintro(⟨i,hi,b',du,mv,rT,dm,oq⟩|⟨i,hi,p,hp⟩)
  ·exact hI.k5 id i b b' hd du g (λe=>nP (e▸hi)) hb mv dT rT hh dm cX oq
  ·exact(hI.bD.ak hp).2.2.2 ⟨id,b,hd,hb,dT,hh,cX⟩
 have handed:∀{g:Nat},(hand w ρ M bx F) g->S g∨w0.heap.size<=g:=by
  rintro g (⟨i,_,b',du,mv,rT,dm,oq⟩|⟨i,_,p,hp⟩)
  ·exact(hI.sep i b' du g mv rT dm oq).2.1
  ·exact(hI.bD.ak hp).2.1
 have VL:∀{id:Nat} {p:Option (Nat×Nat)} {g:Nat},id∉bx->Hid w ρ M id p g->g<w.heap.size/\¬(hand w ρ M bx F) g:=by
  intro id p g nP hh;obtain⟨a1,_,_,a4⟩:=hI.bD.ak hh;refine⟨a1,?_⟩;rintro(⟨i,hi,b',du,mv,rT,dm,oq⟩|⟨i,hi,p',hp⟩)
  ·exact a4 ⟨i,b',du,mv,rT,dm,oq⟩
  ·exact nP ((hI.bD.inj hh hp).1 ▸hi)
 have cρ:∀{id:Nat} {h:Hd},id<M.length->(ρ++qY.drop m)[id]?=some h->ρ[id]?=some h:=by
  intro id h bf hh;rw [kV (by omega)]at hh;exact hh
 have Du:∀{j id:Nat} {c:eH} {h:Hd},qa m bx M.length j=some id->qi[j]?=some c->(ρ++qY.drop m)[id]?=some h->qY[j]?=some h:=by
  intro j id c h hj hc hh;have hl:j<qY.length:=by have:=(dX.1 hc).1;omega
  have:=Xg j id _ hj (c8 hl);rw [hh]at this;injection this with this;rw [c8 hl,this]
 have ag1:∀{id:Nat} {t:TypeId} {xs:aE} {op:Option (Nat×Nat×Nat)} {hd:Hd},(ah.merge m M bx qi)[id]?=some (.bD t xs op)->(ρ++qY.drop m)[id]?=some hd->
  (id∉bx/\M[id]?=some (.bD t xs op)/\ρ[id]?=some hd)∨∃j vD,qa m bx M.length j=some id/\qi[j]?=some (.bD t xs vD)/\qY[j]?=some hd/\op=HK (qa m bx M.length) vD/\vj (qa m bx M.length) (.bD t xs vD)=true:=by
  intro id t xs op hd hb hh;rcases Ej hs hm hb with⟨nP,bI,hb⟩|e|⟨j,c,hj,hc,e,nO⟩
  ·exact .inl ⟨nP,hb,cρ bI hh⟩
  ·cases e
  ·obtain⟨vD,rfl,e2⟩:=T5 e.symm;exact .inr ⟨j,vD,hj,hc,Du hj hc hh,e2,nO⟩
 have afx:∀{id:Nat} {p:Option (Nat×Nat)} {g:Nat},Hid w' (ρ++qY.drop m) (ah.merge m M bx qi) id p g->(id∉bx/\Hid w ρ M id p g)∨∃j,qa m bx M.length j=some id/\Hid w' qY qi j p g:=by
  intro id p g hh;cases hh with
  |out hb hh hg=>
   rcases ag1 hb hh with⟨n1,n2,n3⟩|⟨j,vD,n1,n2,n3,n4,n5⟩
   ·exact .inl ⟨n1,.out n2 n3 hg⟩
   ·exact .inr ⟨j,n1,.out n2 n3 hg⟩
  |sub hb hh hi hj ho hc hg=>
   rcases ag1 hb hh with⟨n1,n2,n3⟩|⟨j,vD,n1,n2,n3,n4,n5⟩
   ·refine .inl ⟨n1,.sub n2 n3 hi hj ho ?_ hg⟩;rw [<-hc];exact(aKh (λg hg=>let⟨a1,a2⟩:=VL n1 (.out n2 n3 hg);hC.frame g a1 a2) _ _).symm
   ·refine .inr ⟨j,n1,.sub n2 n3 hi hj ?_ hc hg⟩;subst n4;rw [T9 n5]at ho;cases h9:jQ vD _ _ with
    |none=>rfl
    |some k0=>
     obtain⟨k',e⟩:=abo n5 h9;rw [h9]at ho;simp [e]at ho
 have P2:qN X w0 S F' (ρ++qY.drop m) (ah.merge m M bx qi) w':=by
  have Wm:∀{id:Nat} {p:Option (Nat×Nat)} {g:Nat},id∉bx->Hid w ρ M id p g->((hand w ρ M bx F) g∨w.heap.size<=g)->False:=by
   intro id p g nP hh h;obtain⟨a1,a2⟩:=VL nP hh;rcases h with h|h
   ·exact a2 h
   ·omega
  refine⟨λ{id p g} hh=> ?_,λ{id id' p p' g} h1 h2=> ?_,λ{id t xs op hd} hb hh=> ?_⟩
  ·rcases afx hh with⟨n1,n2⟩|⟨j,n1,n2⟩
   ·obtain⟨a1,a2,a3,a4⟩:=hI.bD.ak n2;refine⟨qQ a1 fU,a2,λa ha e=> ?_,?_⟩
    ·rcases hC.iw a ha with h|h
     ·exact a3 a h e
     ·exact Wm n1 n2 (e▸h)
    ·rintro⟨i,b,hd,hb,dT,hh,cX⟩;rcases Ej hs hm hb with⟨nP,bI,hb⟩|rfl|⟨j,c,hj,hc,rfl,nO⟩
     ·exact a4 ⟨i,b,hd,hb,dT,cρ bI hh,cX⟩
     ·exact absurd dT (Kx)
     ·rw [Ci]at dT;exact Wm n1 n2 (hC.sep j c hd g hc dT (Du hj hc hh) cX).2.1
   ·obtain⟨a1,a2,a3,a4⟩:=hC.bD.ak n2;refine⟨a1,?_,a3,?_⟩
    ·rcases a2 with h|h
     ·exact handed h
     ·exact .inr (pz hI.size h)
    ·rintro⟨i,b,hd,hb,dT,hh,cX⟩;rcases Ej hs hm hb with⟨nP,bI,hb⟩|rfl|⟨j',c,sH,hc,rfl,nO⟩
     ·obtain⟨b1,b2⟩:=apart nP hb dT (cρ bI hh) cX;rcases a2 with h|h
      ·exact b2 h
      ·omega
     ·exact absurd dT (Kx)
     ·rw [Ci]at dT;exact a4 ⟨j',c,hd,hc,dT,Du sH hc hh,cX⟩
  ·rcases afx h1 with⟨n1,n2⟩|⟨j,n1,n2⟩<;>rcases afx h2 with⟨m1,m2⟩|⟨j',m1,m2⟩
   ·exact hI.bD.inj n2 m2
   ·exact(Wm n1 n2 (hC.bD.ak m2).2.1).elim
   ·exact(Wm m1 m2 (hC.bD.ak n2).2.1).elim
   ·obtain⟨e1,e2⟩:=hC.bD.inj n2 m2;subst e1;rw [n1]at m1;injection m1 with m1;exact⟨m1,e2⟩
  ·rcases ag1 hb hh with⟨n1,n2,n3⟩|⟨j,vD,n1,n2,n3,n4,n5⟩
   ·exact(hI.bD.rep n2 n3).mono qy hg.hF hg.hw (λg hg=>let⟨a1,a2⟩:=VL n1 (.out n2 n3 hg);hC.frame g a1 a2) λi j row e ys v g hi hx ho hc hg=>let⟨a1,a2⟩:=VL n1 (.sub n2 n3 hi hx ho hc hg);hC.frame g a1 a2
   ·subst n4;exact(hC.bD.rep n2 n3).iR hX Xg n5
 refine⟨⟨hC.os.trans hI.os,hC.tape.trans hI.tape,hC.output.trans hI.output,pz hI.size fU,λg h1 h2=> ?_,?_,λid b hd hb hh=> ?_,λid b hd g hb dT hh cX=> ?_,
  λid id' b b' hd du g fv hb mv dT rT hh dm cX oq=> ?_,hC.fz,λg=>(hI.jH g).grow pd,λid hd hh=> ?_,λa ha=> ?_,λa ha=>hg.hF _ (hI.fin a ha),P2⟩,pd,Xg⟩
 ·refine(hC.frame g (qQ h1 hI.size) (λh=> ?_)).trans (hI.frame g h1 h2);rcases handed h with h|h
  ·exact h2 h
  ·omega
 ·rw [ale,fI,Ba];omega
 ·rcases Ej hs hm hb with⟨nP,bI,hb⟩|rfl|⟨j,c,hj,hc,rfl,nO⟩
  ·have hh:=cρ bI hh
   by_cases dT:b.kq=true
   ·exact(hI.rep id b hd hb hh).TC qy hg.hF hg.hw dT
   ·refine(hI.rep id b hd hb hh).mono qy hg.hF hg.hw λg cX=> ?_;obtain⟨a1,a2⟩:=apart nP hb (by simpa using dT) hh cX;exact hC.frame g a1 a2
  ·trivial
  ·exact(hC.rep j c hd hc (Du hj hc hh)).iR hX Xg nO
 ·rcases Ej hs hm hb with⟨nP,bI,hb⟩|rfl|⟨j,c,hj,hc,rfl,nO⟩
  ·have hh:=cρ bI hh;obtain⟨a1,a2,a3⟩:=hI.sep id b hd g hb dT hh cX;refine⟨qQ a1 fU,a2,λa ha e=> ?_⟩;rcases hC.iw a ha with h|h|h
   ·exact a3 a h e
   ·exact(apart nP hb dT hh cX).2 (e▸h)
   ·omega
  ·exact absurd dT (Kx)
  ·rw [Ci]at dT;obtain⟨a1,a2,a3⟩:=hC.sep j c hd g hc dT (Du hj hc hh) cX;refine⟨a1,?_,a3⟩;rcases a2 with a2|a2
   ·exact handed a2
   ·exact .inr (pz hI.size a2)
 ·have mixed:∀{id id' j:Nat} {b c:eH} {hd du:Hd} {g:Nat},id∉bx->M[id]?=some b->b.kq=false->ρ[id]?=some hd->hd.dE=some g->qi[j]?=some c->c.kq=false->qY[j]?=some du->du.dE=some g->False:=by
   intro id id' j b c hd du g nP hb dT hh cX hc rT dm oq;obtain⟨a1,a2⟩:=apart nP hb dT hh cX;rcases(hC.sep j c du g hc rT dm oq).2.1 with h|h
   ·exact a2 h
   ·omega
  rcases Ej hs hm hb with⟨nP,bI,hb⟩|rfl|⟨j,c,hj,hc,rfl,nO⟩
  ·rcases Ej hs hm mv with⟨avM,Fm,mv⟩|rfl|⟨j',c',sH,AR,rfl,aYU⟩
   ·exact hI.k5 id id' b b' hd du g fv hb mv dT rT (cρ bI hh) (cρ Fm dm) cX oq
   ·exact absurd rT (Kx)
   ·rw [Ci]at rT;exact mixed (id':=0) nP hb dT (cρ bI hh) cX AR rT (Du sH AR dm) oq
  ·exact absurd dT (Kx)
  ·rw [Ci]at dT;rcases Ej hs hm mv with⟨avM,Fm,mv⟩|rfl|⟨j',c',sH,AR,rfl,aYU⟩
   ·exact mixed (id':=0) avM mv rT (cρ Fm dm) oq hc dT (Du hj hc hh) cX
   ·exact absurd rT (Kx)
   ·rw [Ci]at rT;refine hC.k5 j j' c c' hd du g (λe=>fv ?_) hc AR dT rT (Du hj hc hh) (Du sH AR dm) cX oq;subst e;rw [hj]at sH;injection sH
 ·by_cases bf:id<ρ.length
  ·rw [kV bf]at hh;exact hI.one id hd hh
  ·rw [nT (by omega),vV]at hh;exact hC.one _ hd hh
 ·rcases hC.iw a ha with h|h|h
  ·exact hI.iw a h
  ·exact .inr (handed h)
  ·exact .inr (.inr (pz hI.size h))
end
noncomputable section
variable {X:Cx} {R:Type} {M M':aL}
variable{x:AV}{g:FuncId}{o:Oper}{e:Operand->AV}{args:aq}
def Pp:AV->Bool| .int _ _| .bool _| .str _| .oI | .iO _ _ _| .aj _ _| .oE | .gM _ [] []=>true|_=>false
def xb:AV->Bool| .agg cs=>cs.all Pp|x=>Pp x
def amb(h:Pp x=true):x.pure=true:=by
 unfold Pp at h;split at h<;>first|rfl|cases h
def aR.xb(hX:X.Ok){ρ ρ':bF}{F:bC}{w:World}{x:AV}{v:Value}(hq:xb x=true)(h:aR X.K ρ F w x v):aR X.K ρ' F w x v:=by
 cases h with
 |agg cs vs hl hr=>exact .agg cs vs hl λj y u hy hu=>(hr j y u hy hu).pure hX.kinds (amb (mP.1 hq y (qk hy)))
 |int k n=>exact .int k n
 |bool b=>exact .bool b
 |str s=>exact .str s
 |oI=>exact .oI
 |iO t row off a vs hk hl hc hr=>exact aR.pure hX.kinds (.iO t row off a vs hk hl hc hr) rfl
 |n7 t=>exact .n7 t
 |aj t xs a cap vss hl pG oJ hk hc hr=>exact aR.pure hX.kinds (.aj t xs a cap vss hl pG oJ hk hc hr) rfl
 |oE=>exact .oE
 |gM f first iP vf vc hf hc h1 h2=>exact aR.pure hX.kinds (.gM f first iP vf vc hf hc h1 h2) (amb (by simpa only [ah.xb]using hq))
 |_=>exact absurd hq (by simp [ah.xb,Pp])
def dZ.xb(hX:X.Ok){ρ ρ':bF}{F:bC}{w:World}{xs:aq}{vs:jb}(hq:xs.all xb=true)(h:dZ X.K ρ F w xs vs):dZ X.K ρ' F w xs vs:=
 ⟨h.1,λj y u hy hu=>(h.2 j y u hy hu).xb hX (mP.1 hq y (qk hy))⟩
def hdQ:Hd:=⟨.nilFunc,0⟩
def ya.lift(hX:X.Ok){f:FuncId}(h:ya X f args [] x [])(ha:args.all xb=true)(hx:xb x=true)(M:aL):ya X f args M x M:=by
 refine⟨h.1,λ{w0 S F ρ w vs} hI hr=> ?_⟩;have aX:Ac M []=true:=rfl;have hs:=hI.sub hX aX hdQ;have xl:dZ X.K (ah.sub hdQ ρ []) F w args vs:=hr.xb hX ha;refine(h.2 hs xl).mono ?_;rintro e w' ⟨v,ρ',F',rfl,fY,hg,hv⟩;obtain⟨i3,g3,_⟩:=hI.merge (m:=0) hX aX hdQ fY (hg.toF 0) rfl;have hm:ah.merge 0 M [] []=M:=by simp [ah.merge,yj]
 rw [hm]at i3;exact⟨v,_,F',rfl,i3,g3,hv.xb hX hx⟩
def aKi{c:Call}(ho:o.op= .call c){f:Operand}(tR:c.callee= .value f){first iP:aq}(hf:e f= .gM g first iP)
 (h:ya X g (first++c.args.toList.map e++iP) M x M'):jR X o e M x M':=by
 obtain⟨tu,vL⟩:=h;intro rd n w0 S F ρ w act next Q hI hr hn;have h1:=hr f;rw [hf]at h1;generalize hv:act.eval f=vf at h1;cases h1 with
 |gM _ _ _ v1 v2 jg ki r1 r2=>
  exact avu
def aPA(X:Cx)(t:TypeId):Bool:=(X.ti t).ok &&(X.ti t).ks.all λk=>match k with| .int _=>true| .bool =>true| .str =>true|_=>false
def af6(X:Cx)(e:Operand->AV)(o:Oper):Option (FuncId×aq):=
 match o.op with
 | .call c=>
   match c.callee with
   | .value f=>
     match e f with
     | .gM g first iP=>
       match(aPA X o.type&&(first++c.args.toList.map e++iP).all xb)&&X.pk with
       |true=>some (g,first++c.args.toList.map e++iP)
       |false=>none
     |_=>none
   |_=>none
 |_=>none
def aJL(hX:X.Okb){T:nQ R}(hT:T.wU X){k:AV->Option R}{r:R}(hq:af6 X e o=some (g,args))
 (h:(T.call g args [] λx M'=>a8 (M'.isEmpty&&xb x) (k x))=some r):∃y,k y=some r/\∀(M':aL),jR X o e M' y M':=by
 unfold af6 at hq;split at hq
 case h_2=>cases hq
 rename_i c ho;split at hq
 case h_2=>cases hq
 rename_i f tR;split at hq
 case h_2=>cases hq
 rename_i g' first iP hf
 split at hq
 case h_2=>cases hq
 rename_i jA;injection hq with hq;injection hq with h1 h2;subst h1;subst h2;obtain⟨x,M1,hc,h,_⟩:=hT.call h;replace h:=cP h;obtain⟨h1,h⟩:=h;rw [bA]at h1 jA;obtain⟨jA,DQ⟩:=jA;rw [bA]at jA;have:M1=[]:=by simpa using h1.1
 subst this;exact⟨x,h,λM'=>aKi ho tR hf (hc.lift (hX.ok DQ) jA.2 h1.2 M')⟩
end
end Go.ah
namespace Go.ah
def ar8{p:Prop}(h:p:=by
 intro t xs ih y h;cases y<;>first|cases h|skip
 rename_i t' ys;have h:(Nat.beq t t'&&ad8 xs ys)=true:=h;rw [bA]at h;rw [fk h.1,ih _ h.2]):p:=h
def O0{p:Prop}(h:p:=by
 intro y h;cases y<;>first|rfl|cases h):p:=h
def aeV{p:Prop}(h:p:=by
 intro a y h;cases y<;>first|cases h|skip
 rw [fk h]):p:=h
def aqa{p:Prop}(h:p:=by
 simp only [bA]at h;rw [fk h.1.1,fk h.1.2,fk h.2]):p:=h
def ap1{p:Prop}(h:p:=by
 obtain⟨e',tt,hh⟩:=h2 w hw;exact⟨e',jV _ tt,hh⟩):p:=h
def OQ{p:Prop}(h:p:=by simpa using ht):p:=h
def apz{p:Prop}(h:p:=by
 intro cs ih y h;cases y<;>first|cases h|skip
 rw [ih _ h]):p:=h
end Go.ah
namespace Go.ah
open Go
noncomputable section
variable {X:Cx} {R:Type}
variable{id:Nat}
structure dz where
 i:Nat
 o:Oper
 q:Bool
 x:AV
 ids:dy
 cl:Nat
 env:cf
 M:aL
 M':aL
variable{s:dz}
def sq(o:Oper):dy:=o.op.operands.toList.filterMap λ| .tmp t=>some t|_=>none
def guardOf(ops:Array Oper)(o:Oper):dy:=match o.guard with|some (j,_)=>(Hw ops j).toList |none=>[]
def vv(rs:dy)(env:cf):cf:=rs.map λu=>(u,look env u)
theorem anq(env:cf)(t:Nat):∀rs:dy,look (vv rs env) t=look env t/\t∈rs∨look (vv rs env) t= .top
 | []=> .inr rfl
 |u::rs=>by
  unfold vv;simp only [my,ug,look_nil]
  by_cases ht:t=u
  ·subst ht;simp
  ·have:(t==u)=false:=by simpa using ht
   simp only [this,oW,sj];rcases anq env t rs with⟨h,hm⟩|h
   ·exact .inl ⟨h,jV _ hm⟩
   ·exact .inr h
def Wn:List dz->Nat->Option Nat
 | [],_=>none
 |t::log,i=>if t.i==i then some t.cl else Wn log i
def BL(log:List dz):List Edge->Option Nat
 | []=>some 0
 |e::es=>
  if Region.binds .any e then
   match Wn log e.on,BL log es with
   |some m,some r=>some (2^e.on|||m|||r)
   |_,_=>none
  else BL log es
theorem aJJ{log:List dz}{i m:Nat}(h:Wn log i=some m):∃t∈log,t.i=i/\t.cl=m:=by
 induction log with
 |nil=>exact aM
 |cons t log ih=>
  simp only [Wn]at h;split at h
  ·rename_i ht;injection h with h;exact⟨t,ji,OQ,h⟩
  ·obtain⟨s,hs,h1⟩:=ih h;exact⟨s,jV _ hs,h1⟩
theorem acI{log:List dz}:∀{es:List Edge} {m:Nat},BL log es=some m->
 (∀e∈es,Region.binds .any e=true->∃t∈log,t.i=e.on)/\∀w,m.testBit w=true->∃e∈es,Region.binds .any e=true/\(w=e.on∨∃t∈log,t.i=e.on/\t.cl.testBit w=true)
 | [],m,h=>by
   simp only [BL,Option.some.injEq]at h;subst h;exact⟨λe he=>by simp at he,λw hw=>by simp at hw⟩
 |e::es,m,h=>by
  simp only [BL]at h;split at h
  ·rename_i hb;split at h
   ·rename_i a r ha hr;injection h with h;subst h;obtain⟨t,ht,X2,htc⟩:=aJJ ha;obtain⟨h1,h2⟩:=acI hr;refine⟨λe' tt mv=> ?_,λw hw=> ?_⟩
    ·rcases iz.1 tt with rfl|tt
     ·exact⟨t,ht,X2⟩
     ·exact h1 e' tt mv
    ·rw [Nat.testBit_or,Nat.testBit_or,GS,GS]at hw;rcases hw with(hw|hw)|hw
     ·rw [Nat.testBit_two_pow]at hw;exact⟨e,ji,hb,.inl (by simpa using Eq.symm (by simpa using hw))⟩
     ·exact⟨e,ji,hb,.inr ⟨t,ht,X2,by rw [htc];exact hw⟩⟩
     ·exact ap1
   ·exact aM
  ·rename_i hb;obtain⟨h1,h2⟩:=acI h;refine⟨λe' tt mv=> ?_,λw hw=> ?_⟩
   ·rcases iz.1 tt with rfl|tt
    ·exact absurd mv hb
    ·exact h1 e' tt mv
   ·exact ap1
def BF(o:Option Nat)(l:dy):Bool:=match o with|some d=>l.contains d|none=>false
theorem ant{o:Option Nat}{l:dy}(h:(!BF o l)=true):∀d,o=some d->d∉l:=by
 intro d hd hm;subst hd;simp [BF,hm]at h
def y6{α:Type}(f:α->α->Bool):List α->List α->Bool
 | [],[]=>true
 |x::xs,y::ys=>f x y&&y6 f xs ys
 |_,_=>false
theorem Em{α:Type}{f:α->α->Bool}(hf:∀x y,f x y=true->x=y):∀{xs ys:List α},y6 f xs ys=true->xs=ys
 | [],[],_=>rfl
 | [],_::_,h=>by simp [y6]at h
 |_::_,[],h=>by simp [y6]at h
 |x::xs,y::ys,h=>by
  simp only [y6,bA]at h;rw [hf x y h.1,Em hf h.2]
def Pd:AV->AV->Bool
 | .int k a,.int k' b=>k==k'&&a==b
 | .bool a,.bool b=>a==b
 | .oI,.oI =>true
 | .ptr a i o,.ptr b j p=>Nat.beq a b&&Nat.beq i j&&Nat.beq o p
 | .ak a,.ak b=>Nat.beq a b
 | .jX,.jX =>true
 | .oE,.oE =>true
 | .lM a,.lM b=>Nat.beq a b
 | .mp a,.mp b=>Nat.beq a b
 | .qW,.qW =>true
 | .p8 a n,.p8 b m=>Nat.beq a b&&Nat.beq n m
 | .vw a l n,.vw b k m=>Nat.beq a b&&Nat.beq l k&&Nat.beq n m
 | .oh,.oh =>true
 | .str a,.str b=>decide (a=b)
 |_,_=>false
theorem adm(x y:AV)(h:Pd x y=true):x=y:=by
 cases x<;>cases y<;>simp_all [Pd]
def KI(x:AV):AV->Bool:=AV.rec (motive_1:=λ_=>AV->Bool) (motive_2:=λ_=>List AV->Bool) (motive_3:=λ_=>List aq->Bool) (λ_=>false) (λk a y=>match y with| .int k' b=>k==k'&&a==b|_=>false) (λa y=>match y with| .bool b=>a==b|_=>false) (λa y=>match y with| .str b=>decide (a=b)|_=>false)
 (λ_ ih y=>match y with| .agg ys=>ih ys|_=>false) (λ_ ih y=>match y with| .gw ys=>ih ys|_=>false) (λy=>match y with| .oI =>true|_=>false)
 (λt _ off ih y=>match y with| .iO t' row Dm=>Nat.beq t t'&&Nat.beq off Dm&&ih row|_=>false) (λa i o y=>match y with| .ptr b j p=>Nat.beq a b&&Nat.beq i j&&Nat.beq o p|_=>false)
 (λt _ ih y=>match y with| .aj t' ys=>Nat.beq t t'&&ih ys|_=>false) (λa y=>match y with| .ak b=>Nat.beq a b|_=>false) (λy=>match y with| .jX =>true|_=>false)
 (λf _ _ oO gN y=>match y with| .gM g a b=>Nat.beq f g&&oO a&&gN b|_=>false) (λy=>match y with| .oE =>true|_=>false) (λa y=>match y with| .lM b=>Nat.beq a b|_=>false) (λa y=>match y with| .mp b=>Nat.beq a b|_=>false)
 (λy=>match y with| .qW =>true|_=>false) (λa n y=>match y with| .p8 b m=>Nat.beq a b&&Nat.beq n m|_=>false) (λa l n y=>match y with| .vw b k m=>Nat.beq a b&&Nat.beq l k&&Nat.beq n m|_=>false) (λy=>match y with| .oh =>true|_=>false) (λt _ ih y=>match y with| .sub t' ys=>Nat.beq t t'&&ih ys|_=>false)
 (λl=>match l with| []=>true|_=>false) (λ_ _ oO gN l=>match l with|y::ys=>oO y&&gN ys| []=>false) (λl=>match l with| []=>true|_=>false) (λ_ _ oO gN l=>match l with|y::ys=>oO y&&gN ys| []=>false) x
def Km(x:aq):aq->Bool:=AV.rec_1 (motive_1:=λ_=>AV->Bool) (motive_2:=λ_=>List AV->Bool) (motive_3:=λ_=>List aq->Bool) (λ_=>false) (λk a y=>match y with| .int k' b=>k==k'&&a==b|_=>false) (λa y=>match y with| .bool b=>a==b|_=>false) (λa y=>match y with| .str b=>decide (a=b)|_=>false)
 (λ_ ih y=>match y with| .agg ys=>ih ys|_=>false) (λ_ ih y=>match y with| .gw ys=>ih ys|_=>false) (λy=>match y with| .oI =>true|_=>false)
 (λt _ off ih y=>match y with| .iO t' row Dm=>Nat.beq t t'&&Nat.beq off Dm&&ih row|_=>false) (λa i o y=>match y with| .ptr b j p=>Nat.beq a b&&Nat.beq i j&&Nat.beq o p|_=>false)
 (λt _ ih y=>match y with| .aj t' ys=>Nat.beq t t'&&ih ys|_=>false) (λa y=>match y with| .ak b=>Nat.beq a b|_=>false) (λy=>match y with| .jX =>true|_=>false)
 (λf _ _ oO gN y=>match y with| .gM g a b=>Nat.beq f g&&oO a&&gN b|_=>false) (λy=>match y with| .oE =>true|_=>false) (λa y=>match y with| .lM b=>Nat.beq a b|_=>false) (λa y=>match y with| .mp b=>Nat.beq a b|_=>false)
 (λy=>match y with| .qW =>true|_=>false) (λa n y=>match y with| .p8 b m=>Nat.beq a b&&Nat.beq n m|_=>false) (λa l n y=>match y with| .vw b k m=>Nat.beq a b&&Nat.beq l k&&Nat.beq n m|_=>false) (λy=>match y with| .oh =>true|_=>false) (λt _ ih y=>match y with| .sub t' ys=>Nat.beq t t'&&ih ys|_=>false)
 (λl=>match l with| []=>true|_=>false) (λ_ _ oO gN l=>match l with|y::ys=>oO y&&gN ys| []=>false) (λl=>match l with| []=>true|_=>false) (λ_ _ oO gN l=>match l with|y::ys=>oO y&&gN ys| []=>false) x
def ad8(x:List aq):List aq->Bool:=AV.rec_2 (motive_1:=λ_=>AV->Bool) (motive_2:=λ_=>List AV->Bool) (motive_3:=λ_=>List aq->Bool) (λ_=>false) (λk a y=>match y with| .int k' b=>k==k'&&a==b|_=>false) (λa y=>match y with| .bool b=>a==b|_=>false) (λa y=>match y with| .str b=>decide (a=b)|_=>false)
 (λ_ ih y=>match y with| .agg ys=>ih ys|_=>false) (λ_ ih y=>match y with| .gw ys=>ih ys|_=>false) (λy=>match y with| .oI =>true|_=>false)
 (λt _ off ih y=>match y with| .iO t' row Dm=>Nat.beq t t'&&Nat.beq off Dm&&ih row|_=>false) (λa i o y=>match y with| .ptr b j p=>Nat.beq a b&&Nat.beq i j&&Nat.beq o p|_=>false)
 (λt _ ih y=>match y with| .aj t' ys=>Nat.beq t t'&&ih ys|_=>false) (λa y=>match y with| .ak b=>Nat.beq a b|_=>false) (λy=>match y with| .jX =>true|_=>false)
 (λf _ _ oO gN y=>match y with| .gM g a b=>Nat.beq f g&&oO a&&gN b|_=>false) (λy=>match y with| .oE =>true|_=>false) (λa y=>match y with| .lM b=>Nat.beq a b|_=>false) (λa y=>match y with| .mp b=>Nat.beq a b|_=>false)
 (λy=>match y with| .qW =>true|_=>false) (λa n y=>match y with| .p8 b m=>Nat.beq a b&&Nat.beq n m|_=>false) (λa l n y=>match y with| .vw b k m=>Nat.beq a b&&Nat.beq l k&&Nat.beq n m|_=>false) (λy=>match y with| .oh =>true|_=>false) (λt _ ih y=>match y with| .sub t' ys=>Nat.beq t t'&&ih ys|_=>false)
 (λl=>match l with| []=>true|_=>false) (λ_ _ oO gN l=>match l with|y::ys=>oO y&&gN ys| []=>false) (λl=>match l with| []=>true|_=>false) (λ_ _ oO gN l=>match l with|y::ys=>oO y&&gN ys| []=>false) x
theorem adk(x:AV):∀(y:AV),KI x y=true->x=y:=by
 refine AV.rec (motive_1:=λx=>∀y,KI x y=true->x=y) (motive_2:=λl=>∀l',Km l l'=true->l=l') (motive_3:=λl=>∀l',ad8 l l'=true->l=l') ?_ ?_ ?_ ?_ ?_ ?_ ?_ ?_ ?_ ?_ ?_ ?_ ?_ ?_ ?_ ?_ ?_ ?_ ?_ ?_ ?_ ?_ ?_ ?_ ?_ x
 ·intro y h;cases h
 ·intro k a y h;cases y<;>first|cases h|skip
  rename_i k' b;have h:(k==k'&&a==b)=true:=h;simp only [bA,iA]at h;rw [h.1,h.2]
 ·intro a y h;cases y<;>first|cases h|skip
  rename_i b;have h:(a==b)=true:=h;rw [iA]at h;rw [h]
 ·intro a y h;cases y<;>first|cases h|skip
  rename_i b;have h:decide (a=b)=true:=h;rw [Um h]
 ·exact apz
 ·exact apz
 ·exact O0
 ·intro t row off ih y h;cases y<;>first|cases h|skip
  rename_i t' jT Dm;have h:(Nat.beq t t'&&Nat.beq off Dm&&Km row jT)=true:=h;simp only [bA]at h;rw [fk h.1.1,fk h.1.2,ih _ h.2]
 ·intro a i o y h;cases y<;>first|cases h|skip
  rename_i b j p;have h:(Nat.beq a b&&Nat.beq i j&&Nat.beq o p)=true:=h;exact aqa
 ·exact ar8
 ·exact aeV
 ·exact O0
 ·intro f a b oO gN y h;cases y<;>first|cases h|skip
  rename_i g a' b';have h:(Nat.beq f g&&Km a a'&&Km b b')=true:=h;simp only [bA]at h;rw [fk h.1.1,oO _ h.1.2,gN _ h.2]
 ·exact O0
 ·exact aeV
 ·exact aeV
 ·exact O0
 ·intro a n y h;cases y<;>first|cases h|skip
  rename_i b m;have h:(Nat.beq a b&&Nat.beq n m)=true:=h;rw [bA]at h;rw [fk h.1,fk h.2]
 ·intro a l n y h;cases y<;>first|cases h|skip
  rename_i b k m;have h:(Nat.beq a b&&Nat.beq l k&&Nat.beq n m)=true:=h;exact aqa
 ·exact O0
 ·exact ar8
 ·intro l h;cases l<;>first|rfl|cases h
 ·intro x xs oO gN l h;cases l with
  |nil=>exact aM
  |cons y ys=>
   have h:(KI x y&&Km xs ys)=true:=h;rw [bA]at h;rw [oO _ h.1,gN _ h.2]
 ·intro l h;cases l<;>first|rfl|cases h
 ·intro x xs oO gN l h;cases l with
  |nil=>exact aM
  |cons y ys=>
   have h:(Km x y&&ad8 xs ys)=true:=h;rw [bA]at h;rw [oO _ h.1,gN _ h.2]
def VW:AV->AV->Bool
 | .aj t xs,y=>KI (.aj t xs) y
 | .iO t row off,y=>KI (.iO t row off) y
 |x,y=>Pd x y
theorem am8(x y:AV)(h:VW x y=true):x=y:=by
 unfold VW at h;split at h
 ·exact adk _ _ h
 ·exact adk _ _ h
 ·exact adm _ _ h
def Pb:AV->AV->Bool
 | .agg xs,.agg ys=>y6 VW xs ys
 | .gM f [] xs,.gM g [] ys=>Nat.beq f g&&y6 Pd xs ys
 |x,y=>VW x y
theorem adl(x y:AV)(h:Pb x y=true):x=y:=by
 unfold Pb at h;split at h
 ·rw [Em am8 h]
 ·rw [bA]at h;rw [Em adm h.2,fk h.1]
 ·exact am8 _ _ h
def afr(x y:AV×AV):Bool:=Pd x.1 y.1&&Pb x.2 y.2
theorem aKD(x y:AV×AV)(h:afr x y=true):x=y:=by
 obtain⟨a,b⟩:=x;obtain⟨c,d⟩:=y;simp only [afr,bA]at h;rw [adm _ _ h.1,adl _ _ h.2]
def afs:eH->eH->Bool
 | .var ks cs,.var DI B5=>ks==DI&&y6 Pb cs B5
 | .row t xs,.row t' jd=>t==t'&&y6 (y6 Pb) xs jd
 | .map k ag ks es,.map k' ag' DI es'=>k==k'&&ag==ag'&&ks==DI&&y6 afr es es'
 | .dead,.dead =>true
 |_,_=>false
theorem aKE(x y:eH)(h:afs x y=true):x=y:=by
 unfold afs at h;split at h
 ·simp only [bA,iA]at h;rw [h.1,Em adl h.2]
 ·simp only [bA,iA]at h;rw [h.1,Em (λ_ _ h=>Em adl h) h.2]
 ·simp only [bA,iA]at h;rw [h.1.1.1,h.1.1.2,h.1.2,Em aKD h.2]
 ·rfl
 ·exact aM
def aho(l:dy)(d:Nat):Bool:=List.rec (motive:=λ_=>Bool) false (λu _ ih=>Bool.rec (motive:=λ_=>Bool) ih true (Nat.beq d u)) l
theorem anu:∀{l:dy} {d:Nat},aho l d=false->d∉l
 | [],_,_,h=>jY
 |u::l,d,h,hm=>by
  have h:Bool.rec (motive:=λ_=>Bool) (aho l d) true (Nat.beq d u)=false:=h;cases hb:Nat.beq d u with
  |true=>rw [hb]at h;cases h
  |false=>
   rw [hb]at h;rcases iz.1 hm with e|hm
   ·subst e;simp at hb
   ·exact anu h hm
def dz.keeps(s:dz)(id:Nat):Bool:=
 match gm s.M id with
 |none=>false
 |some b=>match aho s.ids id with
  |false=>true
  |true=>match gm s.M' id with|some a=>afs a b|none=>false
def dz.K9(s:dz)(id:Nat):Prop:=(id∉s.ids/\id<s.M.length)∨s.M'[id]?=s.M[id]?
theorem dz.aJn(h:s.keeps id=true):s.K9 id:=by
 unfold dz.keeps at h;simp only [fF]at h;split at h
 ·exact aM
 ·rename_i b hb;split at h
  ·rename_i hn;exact .inl ⟨anu hn,(dX.1 hb).1⟩
  ·split at h
   ·rename_i a ha;exact .inr (by rw [ha,hb,aKE _ _ h])
   ·exact aM
theorem dz.K9.at(h:s.K9 id)(ha:eR s.ids s.M s.M'):s.M'[id]?=s.M[id]?:=by
 rcases h with⟨h1,h2⟩|h
 ·exact ha.2 id h2 h1
 ·exact h
def aeg(ops:Array Oper)(t s:dz):Bool:=
 !(t.i==s.i)&& !(t.o.dst.isSome&&t.o.dst==s.o.dst)&&
 (t.cl.testBit s.i||
   (!BF s.o.dst (sq t.o++guardOf ops t.o)&& !BF t.o.dst (sq s.o++guardOf ops s.o)&&
     match t.q,s.q with
     |true,true=>true
     |false,false=>false
     |true,false=>t.ids.all λid=>s.keeps id
     |false,true=>s.ids.all λid=>t.keeps id))
def dz.awq(X:Cx)(nt:Nt)(ops:Array Oper)(t:dz):Prop:=
 ∀{M0:aL},(t.q=true->∀id∈t.ids,M0[id]?=t.M[id]?)->(t.q=false->M0=t.M)->
  ∀{rdc:Cy} {n:Nat} {w0:World} {S:Sc} {F:bC} {ρ:bF} {a:Act} {w:World} {Q:Exit->Act->World->Prop} {K:Act->World->Prop},Inv X w0 S F ρ M0 w->a.tmps.size=nt.n->
   (∀u∈sq t.o++guardOf ops t.o,aR X.K ρ F w (look t.env u) (a.tmps.getD u undef))->
   (∀v w' F' ρ',Inv X w0 S F' ρ' (if t.q then M0 else t.M') w'->aR X.K ρ' F' w' t.x v->Grow F F' ρ ρ' w w'->K (a.put t.o.dst v) w')->wpOpIn (qM rdc.r) n X.P ops Q t.i K a w
section
variable {D:Nat->Bool} {nt:Nt} {ops:Array Oper} {env0:cf} {M0:aL}
abbrev fq(L:Array Bool)(i:Nat):Prop:=L.getD i false=true
def CO(L:Array Bool)(log:List dz):Prop:=∀t∈log,fq L t.i->∀e∈t.o.after,Region.binds .any e=true->fq L e.on
end
end
end Go.ah
namespace Go.ah
def Ks{p:Prop}(h:p:=by simp [hq]):p:=h
end Go.ah
namespace Go.ah
def TS:=@List.countP_cons_of_pos
def acZ:=@List.countP_cons_of_neg
end Go.ah
namespace Go.ah
open Go
noncomputable section
variable {X:Cx} {R:Type}
section
variable {D:Nat->Bool} {nt:Nt} {ops:Array Oper} {env0:cf} {M0:aL}
theorem amI{α:Type}{p q:α->Bool}:∀{l:List α},(∀x∈l,q x=true->p x=true)->(∃x∈l,p x=true/\q x=false)->l.countP q<l.countP p
 | [],_,⟨x,hx,_⟩=>Bb
 |a::l,h,⟨x,hx,hp,hq⟩=>by
  have a0b:l.countP q<=l.countP p:=List.countP_mono_left λy hy=>h y (jV _ hy);rcases iz.1 hx with rfl|hx
  ·rw [TS hp,acZ (Ks)];omega
  ·have ih:=amI (λy hy=>h y (jV _ hy)) ⟨x,hx,hp,hq⟩
   by_cases hqa:q a=true
   ·rw [TS hqa,TS (h a ji hqa)];omega
   ·rw [acZ hqa]
    by_cases hpa:p a=true
    ·rw [TS hpa];omega
    ·rw [acZ hpa];omega
end
end
noncomputable section
variable {X:Cx} {R:Type}
section
variable {w0 w:World} {S:Sc} {F:bC}
end
section
variable {D:Nat->Bool} {nt:Nt} {ops:Array Oper} {env0:cf} {M0:aL}
end
end
noncomputable section
variable {X:Cx} {R:Type}
variable{env:cf}
def VY(T:nQ R)(ops:Array Oper)(t:dz)(st:St)(log:List dz)(k:List dz->St->Option R):Option R:=
 a8 (log.all (aeg ops t)) (yg T.nt st t.o.dst t.x t.M' λaW=>k (t::log) aW)
def arv:Nat->List Oper->Bool
 |_,[]=>true
 |i,o::os=>(o.after.toList.all λe=> !Region.binds .any e||Nat.blt e.on i)&&arv (i+1) os
def am3(done:dy):Nat->List Oper->Option Nat
 |_,[]=>none
 |i,o::os=>if !done.contains i&&(o.after.toList.all λe=> !Region.binds .any e||done.contains e.on)then some i else am3 done (i+1) os
def atu(ops:List Oper):Nat->dy->dy
 |0,done=>done.reverse
 |n+1,done=>match am3 done 0 ops with|some i=>atu ops n (i::done)|none=>done.reverse
def aOE(ops:List Oper):dy:=if arv 0 ops then List.range ops.length else atu ops ops.length []
theorem NZ{ρ:bF}{F:bC}{w:World}{tmps:Array Value}{rs:dy}(h:∀u∈rs,aR X.K ρ F w (look env u) (tmps.getD u undef)):mA X ρ F w (vv rs env) tmps:=by
 intro t;rcases anq env t rs with⟨he,hm⟩|he
 ·rw [he];exact h t hm
 ·rw [he];exact .top _
theorem Td{d:Nat}{x:AV}(h:look env d=x)(u:Nat):look ((d,x)::env) u=look env u:=by
 simp only [ug,look_nil]
 by_cases hu:u=d
 ·subst hu;simp [h]
 ·have:(u==d)=false:=by simpa using hu
  simp [this]
def af9(X:Cx)(ops:Array Oper)(o:Oper)(env:cf)(b:Bool):Prop:=
 ∀{ρ:bF} {F:bC} {w:World} {tmps:Array Value},(∀u∈sq o++guardOf ops o,aR X.K ρ F w (look env u) (tmps.getD u undef))->Region.wanted o (yielded ops tmps)=b
variable {D:Nat->Bool} {nt:Nt} {ops:Array Oper} {env0 rh:cf} {M0 M1:aL}
theorem aJh{T:nQ R}{t:dz}{st:St}{log:List dz}{k:List dz->St->Option R}{r:R}(h:VY T ops t st log k=some r):
 ∃aW,k (t::log) aW=some r/\(∀s∈log,aeg ops t s=true)/\(∀d,t.o.dst=some d->d<T.nt.n/\T.nt.mask.testBit d=true)/\(∀u,look aW.env u=(if t.o.dst=some u then t.x else look st.env u))/\aW.mem=t.M'/\aW.px=st.px/\aW.rd=st.rd:=by
 unfold VY at h;replace h:=cP h;obtain⟨hp,h⟩:=h;unfold yg at h;have ue:∀s∈log,aeg ops t s=true:=λs hs=>mP.1 hp s hs;cases hd:t.o.dst with
 |none=>
  rw [hd]at h;exact⟨_,h,ue,λd e=>by simp at e,λu=>by simp,rfl,rfl,rfl⟩
 |some d=>
  rw [hd]at h;replace h:=cP h;obtain⟨bI,h⟩:=h;refine⟨_,h,ue,λd' e=>by injection e with e;subst e;simp only [bA]at bI;exact⟨by simpa using bI.1,bI.2⟩,λu=> ?_,rfl,rfl,rfl⟩;simp only [ug,look_nil]
  by_cases hu:u=d
  ·subst hu;simp
  ·have:(u==d)=false:=by simpa using hu
   have h2:¬d=u:=λe=>hu e.symm;simp [this,h2]
theorem World.aHf(w:World):w.grownBy {w with drawn:=w.drawn+1} none:=⟨rfl,rfl,rfl,gQ _,λ_ _ _=>rfl⟩
end
noncomputable section
variable {X:Cx} {R:Type}
variable {D:Nat->Bool} {nt:Nt} {ops:Array Oper} {env0:cf} {M0:aL}
end
noncomputable section
variable {X:Cx} {R:Type}
variable {D:Nat->Bool} {nt:Nt} {ops:Array Oper} {env0 rh:cf} {M0 M1:aL}
end
end Go.ah
namespace Go.ah
def asy{p:Prop}(h:p:=by
 obtain⟨aW,h,hp,AI,hd,yE,uQ,h1,h2⟩:=JV h;refine⟨_,aW,h,JY hl he hm (λ_=>rfl) (λhq=>by cases hq) ?_ (λhf=>(agZ hf).elim) hi hd hp AI hc yE uQ,h1,h2⟩;intro _ Mx hM _ rdc n w0 S F ρ a w Q K hI fU hr hk;unfold wpOpIn;simp only [hi,hw hr,uY];exact eG Mx hI (λz=>GX hI (NZ λu hu=>hr u (Co _ hu)) z) (λv w' ρ' F' fY hg hx=>hk v w' F' ρ' fY hx hg)):p:=h
def asu{p:Prop}(h:p:=by
 cases rC:(df M0 L c).2 with
 |false=>rfl
 |true=>
  rw [zW]at rC;have:(df M0 (L.setIfInBounds t.i true) c).2 =true:=zW.2 λr hr DP=>(BG _).2 (.inr (rC r hr DP));rw [this]at k8;cases k8):p:=h
def ar1{p:Prop}(h:p:=by
 intro s hs hU fK;rcases(BG _).1 hU with h|h
 ·exact absurd (ez.distinct hL s hs t ht h) fK
 ·exact h):p:=h
def Vm{p:Prop}(h:p:=by simp [ug,look_nil]):p:=h
def aqD{p:Prop}(h:p:=by
 intro ht hs id bf;rw [ht,hs]at h6;exact dz.aJn (mP.1 h6 id bf)):p:=h
def apK{p:Prop}(h:p:=by simp only [newRow,iB,J5,lg,mQ,J4]):p:=h
def apk{p:Prop}(h:p:=by rw [h3];exact sQ _ (jV _ hr)):p:=h
def aet{p:Prop}(h:p:=by rw [zL]at h;cases h):p:=h
def UZ{p:Prop}(h:p:=by rw [h0];simp):p:=h
def UY{p:Prop}(h:p:=by rw [hq];simp):p:=h
end Go.ah
namespace Go.ah
def pM:=@List.cons_append
def adG:=@List.all_nil
def Us:=@Bool.false_or
def A7:=@List.append_of_mem
def sQ:=@List.mem_append_right
def Co:=@List.mem_append_left
def GK:=@congrArg
def ac6:=@List.any_eq_true
end Go.ah
namespace Go.ah
open Go
noncomputable section
variable {X:Cx} {R:Type}
variable{s t:dz}{l2 log:List dz}{k:List dz->St->Option R}{cl i:Nat}{o:Oper}{r:R}{st:St}{T:nQ R}{env:cf}
def ahx(X:Cx)(t:TypeId)(len:Nat)(ps:cf):Option (TypeId×aE):=
 match(X.ti t).ok,(X.ti t).u with
 |true,.slice e=>
  (match(X.ti e).ok &&decide (0<(X.ti e).size)&&decide (len*(X.ti e).size <=16777216)with
   |true=>(match Bo (λi=>some (i*(X.ti e).size,(X.ti e).size)) ((List.replicate len (qu X e)).flatten) ps with
    |some cs=>(match(chunk (X.ti e).size len cs).all λrow=>dq (X.K e) row with
     |true=>some (e,chunk (X.ti e).size len cs)
     |false=>none)
    |none=>none)
   |false=>none)
 |_,_=>none
theorem aLD(hX:X.Okb){t:TypeId}{len:Nat}{ps:cf}{e:TypeId}{rows:aE}(h:ahx X t len ps=some (e,rows)){ρ:bF}{F:bC}{w:World}(qz:∀(id:Nat) hd,ρ[id]?=some hd->hd.v.oneCell'=true)
 (pv:List (Nat×Value)) (hl:pv.length=ps.length) (hp:∀(j:Nat) p q,ps[j]?=some p->pv[j]?=some q->p.1=q.1/\aR X.K ρ F w p.2 q.2):
 ∃us,(Instr.buildSlice t len pv.toArray).run X.P w= .ok (.slice (some ⟨w.heap.size,0,none⟩) len len) (w.alloc (.cells us e))/\rows.length=len/\
  nx X ρ F (w.alloc (.cells us e)) ⟨.slice (some ⟨w.heap.size,0,none⟩) len len,(X.K e).length⟩ (.row e rows):=by
 unfold ahx at h;split at h
 ·rename_i e' aX hu;split at h
  ·rename_i h1;split at h
   ·rename_i cs ze;split at h
    ·rename_i nz;injection h with h;injection h with h2 h3;subst h2;subst h3;simp only [bA,iT]at h1;obtain⟨⟨he,sy⟩,oJ⟩:=h1;obtain⟨i,d,z,f⟩:=hX.facts aX;obtain⟨i2,d2,z2,f2⟩:=hX.facts he;have e8:=f.slice hu;have uN:z2.cells.size=(X.ti e').size :=OX;have pF:(X.K e').length =(X.ti e').size :=CY;have hz:dZ X.K ρ F w (List.replicate len (qu X e')).flatten ((Array.range (len*z2.cells.size)).map (z2.cells[· %z2.cells.size]!)).toList :=afD;obtain⟨us,hf,hr⟩:=JP qz ps _ cs _ pv ze hz hl hp;have aZe:cs.length=len*(X.ti e').size :=avs;refine⟨us,?_,Gw _ _ _,rfl,λi row hi=> ?_,.inr ⟨w.heap.size,0,len,us,?_,Oe w _,by rw [Gw];exact gQ _,?_,?_,λi row hi j x hx=> ?_⟩⟩
     ·unfold Instr.buildSlice;simp only [iB,mz e8,lg,f2.sizeOf];rw [if_neg (by omega)]
      by_cases h0:len*(X.ti e').size =0
      ·have e0:(Array.range (len*z2.cells.size)).map (z2.cells[· %z2.cells.size]!)= #[]:=by rw [uN,h0];simp
       rw [e0]at hf;rw [if_pos h0];simp only [iB,mQ,lg];have e1:(Array.range (len*(X.ti e').size)).map (λx=>(#[]:Array Value)[x %(#[]:Array Value).size]!)= #[]:=UZ;rw [e1,hf];exact apK
      ·rw [if_neg h0];simp only [iB,mQ,lg,f2.zeroValue];rw [uN]at hf;rw [uN,hf];exact apK
     ·rw [mP]at nz;exact nz row (qk hi)
     ·rw [Gw]
     ·have:len<=len*(X.ti e').size :=TY _ sy;exact N4 (by omega)
     ·have:=hr.1;simp only [sS]at this;show 0+len*(X.K e').length <=us.size;rw [pF];omega
     ·obtain⟨v,h1,h2⟩:=amJ hr hi hx;refine⟨v,?_,h2.mono (λ_ _ h=>h) (λ_ h=>h) (λa v _ hc=>aEL a v hc)⟩;show us[0+i*(X.K e').length +j]?=some v;rw [pF,Cw];rw [Oo]at h1;exact h1
    ·exact aM
   ·exact aM
  ·exact aM
 ·cases h
def flO(X:Cx)(o:Oper):Bool:=
 o.guard.isNone&&match o.op with
 | .alloc _=>o.after.toList.isEmpty|| !X.pk
 | .buildSlice _ n _=>(!X.pk&&Nat.blt 0 n)||(X.pk&&Nat.beq n 0&&o.after.toList.isEmpty)
 |_=>false
def jo(X:Cx)(t:dz):Bool:= !t.q&&flO X t.o
def Kf(X:Cx)(ops:Array Oper)(t s:dz):Bool:=
 !(t.i==s.i)&& !(t.o.dst.isSome&&t.o.dst==s.o.dst)&&
 (t.cl.testBit s.i||
   (!BF s.o.dst (sq t.o++guardOf ops t.o)&& !BF t.o.dst (sq s.o++guardOf ops s.o)&&
     match t.q,s.q with
     |true,true=>true
     |false,false=>jo X t
     |true,false=>t.ids.all λid=>s.keeps id
     |false,true=>s.ids.all λid=>t.keeps id))
theorem yM{ops:Array Oper}(h:Kf X ops t s=true):t.i≠s.i/\(∀d,t.o.dst=some d->s.o.dst≠some d)/\
 (t.cl.testBit s.i=true∨((∀d,s.o.dst=some d->d∉sq t.o++guardOf ops t.o)/\(∀d,t.o.dst=some d->d∉sq s.o++guardOf ops s.o)/\(t.q=true∨s.q=true∨jo X t=true)/\
   (t.q=true->s.q=false->∀id∈t.ids,s.K9 id)/\(t.q=false->s.q=true->∀id∈s.ids,t.K9 id))):=by
 unfold Kf at h;rw [bA,bA,GS]at h;obtain⟨⟨h1,h2⟩,h3⟩:=h;refine⟨y9,λd hd hs=>by simp [hd,hs]at h2,?_⟩;rcases h3 with h3|h3
 ·exact .inl h3
 ·refine .inr ?_;rw [bA,bA]at h3;obtain⟨⟨h4,h5⟩,h6⟩:=h3;refine⟨ant h4,ant h5,?_,?_,?_⟩
  ·revert h6;cases t.q<;>cases s.q<;>simp
  ·exact aqD
  ·exact aqD
def FA(X:Cx)(t:dz):List dz->Bool
 | []=>true
 |f::l=>(!(jo X f&&t.cl.testBit f.i)||l.all λr=>r.q||t.cl.testBit r.i)&&FA X t l
theorem T6{t:dz}:∀{l2:List dz} {f:dz} {l1:List dz},FA X t (l2++f::l1)=true->jo X f=true->t.cl.testBit f.i=true->∀r∈l1,r.q=false->t.cl.testBit r.i=true
 | [],f,l1,h,hf,hc,r,hr,hq=>by
   simp only [rF,FA,hf,hc,Bool.and_self,Bool.not_true,Us,bA]at h;have:=mP.1 h.1 r hr;rw [hq,Us]at this;exact iK
 |_::l2,f,l1,h,hf,hc,r,hr,hq=>by
  simp only [pM,FA,bA]at h;exact T6 (l2:=l2) h.2 hf hc r hr hq
def dz.arx(X:Cx)(nt:Nt)(ops:Array Oper)(t:dz)(b:eH):Prop:=b.oj=false/\
 ∀{M0:aL} {rdc:Cy} {n:Nat} {w0:World} {S:Sc} {F:bC} {ρ:bF} {a:Act} {w:World} {Q:Exit->Act->World->Prop} {K:Act->World->Prop},Inv X w0 S F ρ M0 w->a.tmps.size=nt.n->
  (∀u∈sq t.o++guardOf ops t.o,aR X.K ρ F w (look t.env u) (a.tmps.getD u undef))->
  (∀v w' hd,w.grownBy w' none->hd.dE=some w.heap.size->w.heap.size<w'.heap.size->hd.v.oneCell'=true->nx X ρ F w' hd b->
    (∀(ρ2:bF) (F2:bC) (w2:World),ρ2.length=t.M.length->aR X.K (ρ2++[hd]) F2 w2 t.x v)->K (a.put t.o.dst v) w')->wpOpIn (qM rdc.r) n X.P ops Q t.i K a w
structure as1(X:Cx)(nt:Nt)(ops:Array Oper)(t:dz)(log:List dz)(rh:cf)(M1:aL)(env:cf)(M:aL):Prop where
 ahm:∀u,look t.env u=look rh u
 hM:t.M=M1
 hq:t.q=true->t.M'=t.M
 jv:t.q=false->eR t.ids t.M t.M'
 runs:jo X t=false->t.awq X nt ops
 fl:jo X t=true->∃b,t.M'=t.M++[b]/\t.arx X nt ops b
 op:ops[t.i]?=some t.o
 dst:∀d,t.o.dst=some d->d<nt.n/\nt.mask.testBit d=true
 pair:∀s∈log,Kf X ops t s=true
 rok:FA X t log=true
 pre:∀e∈t.o.after,Region.binds .any e=true->∃s∈log,s.i=e.on
 cl:∀w,t.cl.testBit w=true->∃e∈t.o.after,Region.binds .any e=true/\(w=e.on∨∃s∈log,s.i=e.on/\s.cl.testBit w=true)
 lk:∀u,look env u=(if t.o.dst=some u then t.x else look rh u)
 mem:M=t.M'
def ez(X:Cx)(nt:Nt)(ops:Array Oper)(env0:cf)(M0:aL):List dz->cf->aL->Prop
 | [],env,M=>(∀u,look env u=look env0 u)/\M=M0
 |t::log,env,M=>∃rh M1,ez X nt ops env0 M0 log rh M1/\as1 X nt ops t log rh M1 env M
def df(M0:aL)(L:Array Bool):List dz->aL×Bool
 | []=>(M0,true)
 |t::log=>if t.q=true then df M0 L log else if fq L t.i/\(df M0 L log).2 =true then(t.M',true)else((df M0 L log).1,false)
section
variable {nt:Nt} {ops:Array Oper} {env0:cf} {M0:aL} {L:Array Bool}
theorem zW:∀{log:List dz},(df M0 L log).2 =true ↔∀s∈log,s.q=false->fq L s.i
 | []=>by simp [df]
 |t::log=>by
  have ih:=zW (log:=log);simp only [df];cases hq:t.q with
  |true=>
   rw [if_pos rfl,ih];constructor
   ·intro h s hs qb;rcases iz.1 hs with rfl|hs
    ·rw [hq]at qb;cases qb
    ·exact h s hs qb
   ·exact λh s hs=>h s (jV _ hs)
  |false=>
   rw [if_neg (by simp)]
   by_cases hc:fq L t.i/\(df M0 L log).2 =true
   ·rw [if_pos hc];refine⟨λ_ s hs qb=> ?_,λ_=>rfl⟩;rcases iz.1 hs with rfl|hs
    ·exact hc.1
    ·exact ih.1 hc.2 s hs qb
   ·rw [if_neg hc];refine⟨λh=>jY,λh=>absurd ⟨h t ji hq,ih.2 λs hs=>h s (jV _ hs)⟩ hc⟩
theorem anm:∀{l2 l1:List dz},(df M0 L l1).2 =false->df M0 L (l2++l1)=((df M0 L l1).1,false)
 | [],l1,h=>by rw [rF];exact Prod.ext rfl h
 |t::l2,l1,h=>by
  have ih:=anm (l2:=l2) h;simp only [pM,df];rw [ih];split
  ·rfl
  ·rw [if_neg (by simp)]
theorem acd{L':Array Bool}:∀{log:List dz},(∀s∈log,s.q=false->(fq L s.i ↔ fq L' s.i))->df M0 L log=df M0 L' log
 | [],_=>rfl
 |t::log,h=>by
  have ih:=acd (log:=log) λs hs=>h s (jV _ hs);simp only [df];rw [ih];cases hq:t.q with
  |true=>rfl
  |false=>
   have:=h t ji hq
   by_cases hc:fq L t.i/\(df M0 L' log).2 =true
   ·simp only [oW,sj];rw [if_pos hc,if_pos ⟨this.1 hc.1,hc.2⟩]
   ·simp only [oW,sj];rw [if_neg hc,if_neg λhh=>hc ⟨this.2 hh.1,hh.2⟩]
theorem ez.look:∀{log:List dz} {env:cf} {M:aL},ez X nt ops env0 M0 log env M->∀u,(∃s∈log,s.o.dst=some u/\ah.look env u=s.x)∨((∀s∈log,s.o.dst≠some u)/\ah.look env u=ah.look env0 u)
 | [],env,M,⟨h,_⟩,u=> .inr ⟨λs hs=>by simp at hs,h u⟩
 |t::log,env,M,⟨_,_,hl,st⟩,u=>by
  rw [st.lk u];split
  ·rename_i hd;exact .inl ⟨t,ji,hd,rfl⟩
  ·rename_i hd;rcases ez.look hl u with⟨s,hs,h⟩|⟨h1,h2⟩
   ·exact .inl ⟨s,jV _ hs,h⟩
   ·refine .inr ⟨λs hs=> ?_,h2⟩;rcases iz.1 hs with rfl|hs
    ·exact hd
    ·exact h1 s hs
theorem ez.closed:∀{log:List dz} {env:cf} {M:aL},ez X nt ops env0 M0 log env M->CO L log->∀t∈log,(∀e∈t.o.after,Region.binds .any e=true->fq L e.on)->∀w,t.cl.testBit w=true->fq L w
 | [],_,_,_,_,t,ht,_,_,_=>by simp at ht
 |t::log,_,_,⟨_,_,hl,st⟩,iJ,s,hs,hp,w,hw=>by
  have ih:=ez.closed hl (λa ha=>iJ a (jV _ ha));rcases iz.1 hs with rfl|hs
  ·obtain⟨e,he,hb,rfl|⟨u,hu,Iy,hut⟩⟩:=st.cl w hw
   ·exact hp e he hb
   ·exact ih u hu (iJ u (jV _ hu) (by rw [Iy];exact hp e he hb)) w hut
  ·exact ih s hs hp w hw
theorem ez.entry{t:dz}{l1:List dz}:∀{l2:List dz} {oc:cf} {M':aL},ez X nt ops env0 M0 (l2++t::l1) oc M'->∃rh M1 env M,ez X nt ops env0 M0 l1 rh M1/\as1 X nt ops t l1 rh M1 env M
 | [],_,_,⟨_,_,hl,st⟩=>⟨_,_,_,_,hl,st⟩
 |_::l2,_,_,⟨_,_,hl,_⟩=>ez.entry (l2:=l2) hl
theorem ez.distinct:∀{env:cf} {M:aL},ez X nt ops env0 M0 log env M->∀s∈log,∀t∈log,s.i=t.i->s=t:=by
 induction log with
 |nil=>intro _ _ _ s hs;simp at hs
 |cons a log ih=>
  intro env M h s hs t ht e;obtain⟨_,_,hl,st⟩:=h
  ·rcases iz.1 hs with rfl|dR<;>rcases iz.1 ht with rfl|QN
   ·rfl
   ·exact absurd e (yM (st.pair t QN)).1
   ·exact absurd e.symm (yM (st.pair s dR)).1
   ·exact ih hl s dR t QN e
theorem ez.dst{log:List dz}:∀{env:cf} {M:aL},ez X nt ops env0 M0 log env M->∀s∈log,∀t∈log,∀d,s.o.dst=some d->t.o.dst=some d->s=t:=by
 induction log with
 |nil=>intro _ _ _ s hs;simp at hs
 |cons a log ih=>
  intro env M h s hs t ht d h1 h2;obtain⟨_,_,hl,st⟩:=h
  ·rcases iz.1 hs with rfl|dR<;>rcases iz.1 ht with rfl|QN
   ·rfl
   ·exact absurd h2 ((yM (st.pair t QN)).2.1 d h1)
   ·exact absurd h1 ((yM (st.pair s dR)).2.1 d h2)
   ·exact ih hl s dR t QN d h1 h2
theorem ez.Ou:∀{log:List dz} {env:cf} {M:aL},ez X nt ops env0 M0 log env M->(df M0 L log).2 =true->(df M0 L log).1 =M
 | [],_,_,⟨_,h⟩,_=>h.symm
 |t::log,_,_,⟨_,_,hl,st⟩,h=>by
  simp only [df]at h⊢;cases hq:t.q with
  |true=>
   rw [if_pos hq]at h;rw [if_pos rfl,ez.Ou hl h,st.mem,st.hq hq,st.hM]
  |false=>
   rw [if_neg (Ks)]at h;rw [if_neg (by simp)]
   by_cases hc:fq L t.i/\(df M0 L log).2 =true
   ·rw [if_pos hc];exact st.mem.symm
   ·rw [if_neg hc]at h;simp at h
theorem ez.flag{o1:List dz}{M:aL}(hL:ez X nt ops env0 M0 (l2++s::o1) env M)(iJ:CO L (l2++s::o1))(qb:s.q=false)(hf:jo X s=false)
 (qy:∀e∈s.o.after,Region.binds .any e=true->fq L e.on):(df M0 L o1).2 =true:=by
 rw [zW];intro r hr DP;obtain⟨_,_,_,_,hl,st⟩:=ez.entry hL;have hc:=ez.closed (L:=L) hL iJ s (sQ _ ji) qy;obtain⟨_,_,h|⟨_,_,h,_⟩⟩:=yM (st.pair r hr)
 ·exact hc _ h
 ·rw [qb,DP,hf]at h;simp at h
theorem ez.amv{t:dz}{l1:List dz}{id:Nat}(pW:¬fq L t.i)(hq:t.q=true)(bf:id∈t.ids):
 ∀{l2:List dz} {oc:cf} {M':aL},ez X nt ops env0 M0 (l2++t::l1) oc M'->CO L (l2++t::l1)->(∀e∈t.o.after,Region.binds .any e=true->fq L e.on)->
  (df M0 L (l2++t::l1)).1[id]?=t.M[id]?
 | [],oc,M',hL,iJ,qy=>by
   obtain⟨_,_,hl,st⟩:=_root_.id hL
   ·simp only [rF,df];rw [if_pos hq,st.hM];have P7:=ez.closed (L:=L) hL iJ t ji qy;have key:∀(l:List dz) (l':List dz) (e:cf) (N:aL),l'++l=l1->ez X nt ops env0 M0 l e N->(df M0 L l).1[id]?=N[id]?:=by
     intro l
     induction l with
     |nil=>intro _ _ _ _ h;rw [h.2];rfl
     |cons s l ih=>
      intro l' e N DS h;have ju:s∈l1:=by rw [<-DS];exact sQ _ ji
      have hp:=yM (st.pair s ju);obtain⟨_,_,ki,mG⟩:=h
      ·have FX:=ih (l'++[s]) _ _ (by simpa using DS) ki;simp only [df];cases qb:s.q with
       |true=>rw [if_pos rfl,FX,mG.mem,mG.hq qb,mG.hM]
       |false=>
        rw [if_neg (by simp)]
        by_cases hc:fq L s.i/\(df M0 L l).2 =true
        ·rw [if_pos hc,mG.mem]
        ·rw [if_neg hc];have hk:s.K9 id:=by
          obtain⟨_,_,h|⟨_,_,_,h,_⟩⟩:=hp
          ·exfalso;refine hc ⟨P7 _ h,?_⟩;cases hf:jo X s with
           |true=>
            rw [zW];intro r hr DP;have:=T6 (l2:=l') (l1:=l) (by rw [DS];exact st.rok) hf h r hr DP;exact P7 _ this
           |false=>
            have DY:ez X nt ops env0 M0 ((t::l')++s::l) oc M':=by
             have e:(t::l')++s::l=t::l1:=by rw [<-DS];rfl
             rw [e];exact hL
            have av0:CO L ((t::l')++s::l):=by
             have e:(t::l')++s::l=t::l1:=by rw [<-DS];rfl
             rw [e];exact iJ
            exact ez.flag DY av0 qb hf (av0 s (sQ _ ji) (P7 _ h))
          ·exact h hq qb id bf
         rw [FX,mG.mem,hk.at (mG.jv qb),mG.hM]
    exact key l1 [] _ _ rfl hl
 |s::l2,oc,M',hL,iJ,qy=>by
  obtain⟨_,_,hl,st⟩:=_root_.id hL
  ·have ih:=ez.amv pW hq bf (l2:=l2) hl (λa ha=>iJ a (jV _ ha)) qy;simp only [pM,df];cases qb:s.q with
   |true=>rw [if_pos rfl];exact ih
   |false=>
    rw [if_neg (by simp)]
    by_cases hc:fq L s.i/\(df M0 L (l2++t::l1)).2 =true
    ·rw [if_pos hc];have hp:=yM (st.pair t (sQ _ ji));have vK:=ez.closed (L:=L) hL iJ s ji (iJ s ji hc.1);obtain⟨_,_,h|⟨_,_,_,_,h⟩⟩:=hp
     ·exact absurd (vK _ h) pW
     ·show s.M'[id]?=_;rw [(h qb hq id bf).at (st.jv qb),st.hM,<-ez.Ou hl hc.2];exact ih
    ·rw [if_neg hc];exact ih
theorem ez.an5{l1:List dz}(pW:¬fq L t.i)(hq:t.q=false):df M0 L (l2++t::l1)=((df M0 L l1).1,false):=by
 have:df M0 L (t::l1)=((df M0 L l1).1,false):=by
  simp only [df];rw [if_neg (Ks),if_neg (λh=>pW h.1)]
 rw [anm (by rw [this]),this]
theorem ez.reads{t:dz}{l1:List dz}(pW:¬fq L t.i){u:Nat}(hu:u∈sq t.o++guardOf ops t.o){P:AV->Prop}:
 ∀{l2:List dz} {oc:cf} {M':aL},ez X nt ops env0 M0 (l2++t::l1) oc M'->CO L (l2++t::l1)->(∀e∈t.o.after,Region.binds .any e=true->fq L e.on)->
  (∀s∈l1,t.cl.testBit s.i=true->s.o.dst=some u->P s.x)->((∀s∈l2++t::l1,fq L s.i->s.o.dst≠some u)->P (ah.look env0 u))->P (ah.look t.env u)
 | [],oc,M',hL,iJ,qy,hw,h0=>by
   obtain⟨_,_,hl,st⟩:=hL
   ·rw [st.ahm u];rcases ez.look hl u with⟨s,hs,hd,he⟩|⟨hn,he⟩
    ·rw [he];refine hw s hs ?_ hd;obtain⟨_,_,h|⟨h,_⟩⟩:=yM (st.pair s hs)
     ·exact h
     ·exact absurd hu (h u hd)
    ·rw [he];refine h0 λs hs hU hd=> ?_;rcases iz.1 hs with rfl|hs
     ·exact pW hU
     ·exact hn s hs hd
 |s::l2,oc,M',hL,iJ,qy,hw,h0=>by
  obtain⟨_,_,hl,st⟩:=_root_.id hL
  ·refine ez.reads pW hu (l2:=l2) hl (λa ha=>iJ a (jV _ ha)) qy hw λhn=>h0 λr hr vH hd=> ?_;rcases iz.1 hr with rfl|hr
   ·have vK:=ez.closed (L:=L) hL iJ r ji (iJ r ji vH);obtain⟨_,_,h|⟨_,h,_⟩⟩:=yM (st.pair t (sQ _ ji))
    ·exact pW (vK _ h)
    ·exact h u hd hu
   ·exact hn r hr vH hd
end
def live(w:World)(ρ:bF)(M:aL)(F:bC):Sc:=⟨λg=>rW ρ M g∨∃id p,Hid w ρ M id p g,F⟩
section
variable {w0 w w':World} {S:Sc} {F F':bC} {ρ ρ':bF} {M M':aL}
theorem Inv.aNf(hI:Inv X w0 S F ρ M w):Inv X w (live w ρ M F) F ρ M w:=
 ⟨rfl,rfl,rfl,gQ _,λ_ _ _=>rfl,hI.len,hI.rep,λid b hd g h1 h2 h3 h4=>⟨(hI.sep id b hd g h1 h2 h3 h4).1,.inl (.inl ⟨id,b,hd,h1,h2,h3,h4⟩),(hI.sep id b hd g h1 h2 h3 h4).2.2⟩,hI.k5,hI.fz,hI.jH,hI.one,λa ha=> .inl ha,λa ha=>ha,
   ⟨λhh=>⟨(hI.bD.ak hh).1,.inl (.inr ⟨_,_,hh⟩),(hI.bD.ak hh).2.2⟩,hI.bD.inj,hI.bD.rep⟩⟩
theorem Inv.back(hI:Inv X w0 S F ρ M w)(h:Inv X w (live w ρ M F) F' ρ' M' w'):Inv X w0 S F' ρ' M' w' where
 os:=h.os.trans hI.os
 tape:=h.tape.trans hI.tape
 output:=h.output.trans hI.output
 size:=pz hI.size h.size
 frame:=λg hg hn=>by
  rw [h.frame g (qQ hg hI.size) ?_,hI.frame g hg hn];rintro(⟨id,b,hd,h1,h2,h3,h4⟩|⟨id,p,hh⟩)
  ·rcases(hI.sep id b hd g h1 h2 h3 h4).2.1 with h5|h5
   ·exact hn h5
   ·omega
  ·rcases(hI.bD.ak hh).2.1 with h5|h5
   ·exact hn h5
   ·omega
 len:=h.len
 rep:=h.rep
 sep:=λid b hd g h1 h2 h3 h4=>by
  obtain⟨s1,s2,s3⟩:=h.sep id b hd g h1 h2 h3 h4;refine⟨s1,?_,s3⟩;rcases s2 with(⟨id',b',du,p1,p2,p3,p4⟩|⟨id',p,hh⟩)|s2
  ·exact(hI.sep id' b' du g p1 p2 p3 p4).2.1
  ·exact(hI.bD.ak hh).2.1
  ·exact .inr (pz hI.size s2)
 k5:=h.k5
 fz:=h.fz
 jH:=h.jH
 one:=h.one
 iw:=λa ha=>by
  rcases h.iw a ha with h1|(⟨id',b',du,p1,p2,p3,p4⟩|⟨id',p,hh⟩)|h1
  ·exact hI.iw a h1
  ·exact .inr (hI.sep id' b' du _ p1 p2 p3 p4).2.1
  ·exact .inr (hI.bD.ak hh).2.1
  ·exact .inr (.inr (pz hI.size h1))
 fin:=λa ha=>h.fin a (hI.fin a ha)
 bD:=⟨λhh=>by
  obtain⟨a1,a2,a3,a4⟩:=h.bD.ak hh;refine⟨a1,?_,a3,a4⟩;rcases a2 with(⟨id',b',du,p1,p2,p3,p4⟩|⟨id',p,hh⟩)|s2
  ·exact(hI.sep id' b' du _ p1 p2 p3 p4).2.1
  ·exact(hI.bD.ak hh).2.1
  ·exact .inr (pz hI.size s2),h.bD.inj,h.bD.rep⟩
structure Aside(F:bC)(ρ:bF)(M:aL)(w:World)(g:Nat):Prop where
 lt:g<w.heap.size
 fz:∀a,F a->a.block≠g
 no:∀(id:Nat) b hd,M[id]?=some b->b.kq=false->ρ[id]?=some hd->hd.dE≠some g
 nh:∀id p,¬Hid w ρ M id p g
theorem Aside.pV{g:Nat}(hA:Aside F ρ M w g)(h:Inv X w (live w ρ M F) F' ρ' M' w'):Aside F' ρ' M' w' g/\w'.heap[g]?=w.heap[g]?:=by
 have hn:¬(live w ρ M F) g:=by
  rintro(⟨id,b,hd,h1,h2,h3,h4⟩|⟨id,p,hh⟩)
  ·exact hA.no id b hd h1 h2 h3 h4
  ·exact hA.nh id p hh
 refine⟨⟨qQ hA.lt h.size,λa ha e=> ?_,λid b hd h1 h2 h3 h4=> ?_,λid p hh=> ?_⟩,h.frame g hA.lt hn⟩
 ·rcases h.iw a ha with h1|h1|h1
  ·exact hA.fz a h1 e
  ·exact hn (e▸h1)
  ·have:=hA.lt;omega
 ·rcases(h.sep id b hd g h1 h2 h3 h4).2.1 with h5|h5
  ·exact hn h5
  ·have:=hA.lt;omega
 ·rcases(h.bD.ak hh).2.1 with h5|h5
  ·exact hn h5
  ·have:=hA.lt;omega
structure Aq(X:Cx)(w0:World)(ρ:bF)(F:bC)(a:Act)(w:World)(g:Nat)(s:dz):Prop where
 ex:∃b hd,s.M'=s.M++[b]/\hd.dE=some g/\hd.v.oneCell'=true/\nx X ρ F w hd b/\
  ∀d,s.o.dst=some d->∀(ρ2:bF) (F2:bC) (w2:World),ρ2.length=s.M.length->aR X.K (ρ2++[hd]) F2 w2 s.x (a.tmps.getD d undef)
 new:w0.heap.size<=g
 nn:∀b,s.M'=s.M++[b]->b.oj=false
theorem Aq.mono{w0 w w':World}{ρ ρ':bF}{F F':bC}{a a':Act}{g:Nat}{s:dz}(h:Aq X w0 ρ F a w g s)(gP:∀(id:Nat) hd,ρ[id]?=some hd->ρ'[id]?=some hd)(hF:∀x,F x->F' x)(hw:∀x v,F x->w.cell? x=some v->w'.cell? x=some v)(hg:w'.heap[g]?=w.heap[g]?)
 (ha:∀d,s.o.dst=some d->a'.tmps.getD d undef=a.tmps.getD d undef):Aq X w0 ρ' F' a' w' g s:=by
 obtain⟨⟨b,hd,h1,h2,h3,h4,h5⟩,h6,h7⟩:=h;exact⟨⟨b,hd,h1,h2,h3,h4.mono gP hF hw (λk hk=>by rw [h2]at hk;injection hk with hk;subst hk;exact hg),λd du=>by rw [ha d du];exact h5 d du⟩,h6,h7⟩
end
section
variable {nt:Nt} {ops:Array Oper} {env0:cf} {M0:aL} {L:Array Bool}
theorem ad9{w0 w:World}{S:Sc}{F:bC}{ρ:bF}{a:Act}{γ:Nat->Nat}{base:List dz}:∀{l2:List dz} {env:cf} {M:aL},ez X nt ops env0 M0 (l2++base) env M->Inv X w0 S F ρ (df M0 L base).1 w->
 (∀s∈l2,s.q=false->fq L s.i->jo X s=true)->
 (∀s∈l2,jo X s=true->fq L s.i->Aq X w0 ρ F a w (γ s.i) s/\Aside F ρ (df M0 L base).1 w (γ s.i))->
 (∀s∈l2,∀s'∈l2,jo X s=true->jo X s'=true->fq L s.i->fq L s'.i->s.i≠s'.i->γ s.i≠γ s'.i)->
 ∃ρ2,Inv X w0 S F ρ2 (df M0 L (l2++base)).1 w/\(∀(id:Nat) hd,ρ[id]?=some hd->ρ2[id]?=some hd)/\
  (∀b s c,l2=b++s::c->jo X s=true->fq L s.i->(df M0 L (c++base)).2 =true->∀d,s.o.dst=some d->aR X.K ρ2 F w s.x (a.tmps.getD d undef))/\
  (∀g,Aside F ρ (df M0 L base).1 w g->(∀b s c,l2=b++s::c->jo X s=true->fq L s.i->(df M0 L (c++base)).2 =true->γ s.i≠g)->Aside F ρ2 (df M0 L (l2++base)).1 w g)
 | [],env,M,hL,hI,_,_,_=>⟨ρ,hI,λ_ _ h=>h,λb s c h=>jY,λg hg _=>hg⟩
 |s::l2,env,M,hL,hI,yF,Xk,hγ=>by
  obtain⟨rh,M1,hl,st⟩:=_root_.id hL;obtain⟨ρ1,i1,e1,p1,a1⟩:=ad9 (l2:=l2) hl hI (λr hr=>yF r (jV _ hr)) (λr hr=>Xk r (jV _ hr)) (λr hr r' xl=>hγ r (jV _ hr) r' (jV _ xl));have same:(df M0 L (s::(l2++base))).1 =(df M0 L (l2++base)).1 ->(jo X s=true->fq L s.i->(df M0 L (l2++base)).2 =true->False)->_:=λkM vI=>
   (⟨ρ1,by rw [pM,kM];exact i1,e1,λb r c gK hf eT k8 d hd=>by
      cases b with
      |nil=>
       rw [rF]at gK;injection gK with h1 h2;subst h1;subst h2;exact(vI hf eT k8).elim
      |cons b0 b=>
       rw [pM]at gK;injection gK with h1 h2;exact p1 b r c h2 hf eT k8 d hd,
     λg hg hr=>by
      rw [pM,kM];exact a1 g hg λb r c gK=>hr (s::b) r c (by rw [gK,pM])⟩:
     ∃ρ2,Inv X w0 S F ρ2 (df M0 L (s::l2++base)).1 w/\(∀(id:Nat) hd,ρ[id]?=some hd->ρ2[id]?=some hd)/\
      (∀b r c,s::l2=b++r::c->jo X r=true->fq L r.i->(df M0 L (c++base)).2 =true->∀d,r.o.dst=some d->aR X.K ρ2 F w r.x (a.tmps.getD d undef))/\
      (∀g,Aside F ρ (df M0 L base).1 w g->(∀b r c,s::l2=b++r::c->jo X r=true->fq L r.i->(df M0 L (c++base)).2 =true->γ r.i≠g)->Aside F ρ2 (df M0 L (s::l2++base)).1 w g))
  cases hq:s.q with
  |true=>
   refine same (by simp only [df];rw [if_pos hq]) λhf _ _=> ?_;simp [jo,hq]at hf
  |false=>
   by_cases hc:fq L s.i/\(df M0 L (l2++base)).2 =true
   ·have hf:=yF s ji hq hc.1;obtain⟨hh,ha⟩:=Xk s ji hf hc.1;obtain⟨b1,AP,DX,Xl,afS,afO,afI⟩:=hh.ex;have kM:(df M0 L (s::(l2++base))).1 =s.M':=by
     simp only [df];rw [if_neg (Ks),if_pos hc]
    have hMs:s.M=(df M0 L (l2++base)).1 :=by rw [st.hM];exact(ez.Ou hl hc.2).symm
    have asd:∀g,Aside F ρ (df M0 L base).1 w g->(∀b r c,l2=b++r::c->jo X r=true->fq L r.i->(df M0 L (c++base)).2 =true->γ r.i≠g)->Aside F ρ1 s.M w g:=by
     intro g h1 h2;rw [hMs];exact a1 g h1 h2
    have ju:=asd (γ s.i) ha λb r c gK rB F7 _=>by
     have hr:r∈l2:=by rw [gK];exact sQ _ ji
     exact hγ r (jV _ hr) s ji rB hf F7 hc.1 (λe=>(yM (st.pair r (Co _ hr))).1 e.symm)
    rw [<-hMs]at i1;have hlen:ρ1.length=s.M.length:=i1.len;have i2:Inv X w0 S F (ρ1++[AP]) (s.M++[b1]) w:=by
     refine i1.EP (hd:=AP) (λg hg=> ?_) afS (afO.mono (λid hd h=>ou (e1 id hd h)) (λ_ h=>h) (λ_ _ _ h=>h) (λ_ _=>rfl)) (hh.nn b1 DX);rw [Xl]at hg;injection hg with hg;subst hg;exact⟨ju.lt,.inr hh.new,ju.fz,ju.no,ju.nh⟩
    refine⟨_,by rw [pM,kM,DX];exact i2,λid hd h=>ou (e1 id hd h),λb r c gK rB F7 k8 dd dT=> ?_,λg hg hr=> ?_⟩
    ·cases b with
     |nil=>
      rw [rF]at gK;injection gK with h1 h2;subst h1;subst h2;exact afI dd dT ρ1 F w hlen
     |cons b0 b=>
      rw [pM]at gK;injection gK with h1 h2;exact(p1 b r c h2 rB F7 k8 dd dT).mono (λid hd h=>ou h) (λ_ h=>h) (λ_ _ _ h=>h)
    ·have h1:=asd g hg λb r c gK=>hr (s::b) r c (by rw [gK,pM]);have fv:γ s.i≠g:=hr [] s l2 rfl hf hc.1 hc.2;rw [pM,kM,DX];refine⟨h1.lt,h1.fz,λid b hd hb dT dm=> ?_,λid p hp=>h1.nh id p (hp.pop hlen (hh.nn b1 DX))⟩
     by_cases bf:id<s.M.length
     ·rw [kV bf]at hb;rw [kV (by omega)]at dm;exact h1.no id b hd hb dT dm
     ·by_cases aY9:id=s.M.length
      ·subst aY9;rw [nT (by omega),hlen,J3]at dm;simp only [TX,Option.some.injEq]at dm;subst dm;rw [Xl];exact λe=>fv (Option.some.inj e)
      ·rw [Ob (eE)]at hb;cases hb
   ·refine same (by simp only [df];rw [if_neg (Ks),if_neg hc]) λ_ eT k8=>hc ⟨eT,k8⟩
end
structure awr(X:Cx)(nt:Nt)(env0:cf)(M0:aL)(w0:World)(S:Sc)(F0:bC)(ρ0:bF)(wb:World)(ds:List Deferred)(tv:Nat->Value)(log:List dz)(L:Array Bool)(γ:Nat->Nat)(F:bC)(ρ:bF)(a:Act)(w:World):Prop where
 inv:Inv X w0 S F ρ (df M0 L log).1 w
 grow:Grow F0 F ρ0 ρ wb w
 size:a.tmps.size=nt.n
 defs:a.defers=ds
 kept:∀t,nt.mask.testBit t=false->a.tmps.getD t undef=tv t
 wrote:∀l2 s l1,log=l2++s::l1->fq L s.i->(jo X s=true->(df M0 L l1).2 =true)->∀d,s.o.dst=some d->aR X.K ρ F w s.x (a.tmps.getD d undef)
 bf:∀l2 s l1,log=l2++s::l1->fq L s.i->jo X s=true->(df M0 L l1).2 =false->Aq X w0 ρ F a w (γ s.i) s/\Aside F ρ (df M0 L log).1 w (γ s.i)
 lt:∀s∈log,jo X s=true->fq L s.i->γ s.i<w.heap.size
 Re:∀s∈log,∀s'∈log,jo X s=true->jo X s'=true->fq L s.i->fq L s'.i->s.i≠s'.i->γ s.i≠γ s'.i
 iw:∀u,(∀s∈log,fq L s.i->s.o.dst≠some u)->aR X.K ρ F w (ah.look env0 u) (a.tmps.getD u undef)
section
variable {nt:Nt} {ops:Array Oper} {env0:cf} {M0:aL}
theorem aND(h:jo X t=true):t.q=false:=by
 unfold jo at h;rw [bA]at h;simpa using h.1
theorem abQ{α:Type}{b c l2 l1:List α}{s t:α}(h:b++s::c=l2++t::l1):
 (∃m,l2=b++s::m/\c=m++t::l1)∨(b=l2/\s=t/\c=l1)∨(∃m,l1=m++s::c/\b=l2++t::m):=by
 induction b generalizing l2 with
 |nil=>
  cases l2 with
  |nil=>simp only [rF,List.cons.injEq]at h;exact .inr (.inl ⟨rfl,h.1,h.2⟩)
  |cons x l2=>simp only [rF,pM,List.cons.injEq]at h;exact .inl ⟨l2,by rw [h.1];rfl,h.2⟩
 |cons y b ih=>
  cases l2 with
  |nil=>simp only [rF,pM,List.cons.injEq]at h;exact .inr (.inr ⟨b,h.2.symm,by rw [h.1];rfl⟩)
  |cons x l2=>
   simp only [pM,List.cons.injEq]at h;rcases ih h.2 with⟨m,h1,h2⟩|⟨h1,h2,h3⟩|⟨m,h1,h2⟩
   ·exact .inl ⟨m,by rw [h1,h.1];rfl,h2⟩
   ·exact .inr (.inl ⟨by rw [h1,h.1],h2,h3⟩)
   ·exact .inr (.inr ⟨m,h1,by rw [h2,h.1];rfl⟩)
theorem ez.uniq{M:aL}(hL:ez X nt ops env0 M0 log env M){b c b' c':List dz}(h1:log=b++s::c)(h2:log=b'++s::c'):c=c':=by
 have irr:∀{p q r:List dz},log=p++s::(q++s::r)->False:=by
  intro p q r h;obtain⟨_,_,_,_,_,st⟩:=ez.entry (h▸hL);exact(yM (st.pair s (sQ _ ji))).1 rfl
 rcases abQ (h1.symm.trans h2)with⟨m,h3,h4⟩|⟨_,_,h⟩|⟨m,h3,h4⟩
 ·exact(irr (p:=b) (q:=m) (r:=c') (by rw [h1,h4])).elim
 ·exact h
 ·exact(irr (p:=b') (q:=m) (r:=c) (by rw [h2,h3])).elim
theorem aKk(hX:X.Okb){rdc:Cy}{n:Nat}{w0 wb:World}{S:Sc}{F0:bC}{ρ0:bF}{ds:List Deferred}{tv:Nat->Value}{Q:Exit->Act->World->Prop}{M:aL}(hL:ez X nt ops env0 M0 log env M)
 (jA:∀i,i<ops.size->∃t∈log,t.i=i)
 (hQ:∀a' w' F' ρ',Inv X w0 S F' ρ' M w'->mA X ρ' F' w' env a'.tmps->a'.tmps.size=nt.n->a'.defers=ds->(∀t,nt.mask.testBit t=false->a'.tmps.getD t undef=tv t)->Grow F0 F' ρ0 ρ' wb w'->Q .normal a' w'):
 ∀(fuel:Nat) (L:Array Bool) (γ:Nat->Nat) (F:bC) (ρ:bF) (a:Act) (w:World),L.size=ops.size->log.countP (λt=> !(L.getD t.i false))<=fuel->CO L log->
  awr X nt env0 M0 w0 S F0 ρ0 wb ds tv log L γ F ρ a w->wpAnyIn (qM rdc.r) n X.P .any ops Q fuel L a w:=by
 have done:∀(L:Array Bool) (γ:Nat->Nat) (F:bC) (ρ:bF) (a:Act) (w:World),(∀t∈log,fq L t.i)->awr X nt env0 M0 w0 S F0 ρ0 wb ds tv log L γ F ρ a w->Q .normal a w:=by
  intro L γ F ρ a w eT hm;refine hQ a w F ρ ?_ (λu=> ?_) hm.size hm.defs hm.kept hm.grow
  ·have:=ez.Ou hL (L:=L) (zW.2 λs hs _=>eT s hs);rw [<-this];exact hm.inv
  ·rcases ez.look hL u with⟨s,hs,hd,he⟩|⟨hn,he⟩
   ·rw [he];obtain⟨l2,l1,qA⟩:=A7 hs;exact hm.wrote l2 s l1 qA (eT s hs) (λ_=>zW.2 λr hr _=>eT r (by rw [qA];exact sQ _ (jV _ hr))) u hd
   ·rw [he];exact hm.iw u λs hs _=>hn s hs
 have none_ready:∀(L:Array Bool),L.size=ops.size->Region.ready .any ops L=[]->∀t∈log,fq L t.i:=by
  intro L fU hr;have key:∀(l1:List dz) (l2:List dz) (oc:cf) (M':aL),ez X nt ops env0 M0 l1 oc M'->l2++l1=log->∀t∈l1,fq L t.i:=by
   intro l1
   induction l1 with
   |nil=>intro _ _ _ _ _ t ht;simp at ht
   |cons s l1 ih=>
    intro l2 oc M' hl he t ht;obtain⟨rh,M1,jg,st⟩:=hl;have FX:=ih (l2++[s]) rh M1 jg (CK);rcases iz.1 ht with rfl|ht
    ·by_cases eT:fq L t.i
     ·exact eT
     ·exfalso;have kM:t.i∈Region.ready .any ops L:=by
       rw [mem_ready];have bI:t.i<ops.size:=(Cn.1 st.op).1;refine⟨?_,t.o,st.op,λe hee hb=> ?_⟩
       ·have:t.i<L.size:=by omega
        simp only [fq,vQ,GL this,qm]at eT⊢;simpa using eT
       ·obtain⟨r,xl,vH⟩:=st.pre e hee hb;rw [<-vH];exact FX r xl
      rw [hr]at kM;simp at kM
    ·exact FX t ht
  exact λt ht=>key log [] env M hL rfl t ht
 intro fuel
 induction fuel with
 |zero=>
  intro L γ F ρ a w fU aZf iJ hm;have eT:∀t∈log,fq L t.i:=by
   intro t ht;have h0:log.countP (λt=> !(L.getD t.i false))=0:=by omega
   have:=List.countP_eq_zero.1 h0 t ht;cases hb:L.getD t.i false with
   |true=>exact hb
   |false=>exact absurd (by simp only [hb,Bool.not_false]) this
  refine⟨?_,done L γ F ρ a w eT hm⟩;cases hr:Region.ready .any ops L with
  |nil=>rfl
  |cons i is=>
   exfalso;have kM:i∈Region.ready .any ops L:=by rw [hr];exact ji
   rw [mem_ready]at kM;obtain⟨hf,o,ho,_⟩:=kM;have bI:i<ops.size:=(Cn.1 ho).1;obtain⟨t,ht,rfl⟩:=jA i bI;have h1:=eT t ht;have:t.i<L.size:=by omega
   simp only [fq,vQ,GL this,qm]at h1 hf;rw [h1]at hf;cases hf
 |succ fuel ih=>
  intro L γ F ρ a w fU aZf iJ hm;refine⟨λhr=>done L γ F ρ a w (none_ready L fU hr) hm,λi hi=> ?_⟩;rw [mem_ready]at hi;obtain⟨hf,o,ho,qy⟩:=hi;have bI:i<ops.size:=(Cn.1 ho).1;obtain⟨t,ht,rfl⟩:=jA i bI;have avP:t.i<L.size:=by omega
  have pW:¬fq L t.i:=by
   simp only [fq,vQ,GL avP,qm]at hf⊢;rw [hf];simp
  obtain⟨l2,l1,qA⟩:=A7 ht;obtain⟨rh,M1,a0h,ME,jg,st⟩:=ez.entry (qA▸hL);have hoo:t.o=o:=by have BY:=st.op;rw [ho]at BY;injection BY with BY;exact BY.symm
  subst hoo;have BG:∀j,fq (L.setIfInBounds t.i true) j ↔ j=t.i∨fq L j:=by
   intro j
   by_cases hj:j=t.i
   ·subst hj;simp [fq,vQ,avP]
   ·simp only [fq];rw [getD_set_ne false (Ne.symm hj)];simp [hj]
  have aPf:log.countP (λs=> !((L.setIfInBounds t.i true).getD s.i false))<=fuel:=by
   have:=amI (l:=log) (p:=λt=> !(L.getD t.i false)) (q:=λs=> !((L.setIfInBounds t.i true).getD s.i false)) (λs hs h=>by
    have h':¬fq (L.setIfInBounds t.i true) s.i:=by simpa [fq]using h
    rw [BG]at h';have:¬fq L s.i:=λhh=>h' (.inr hh);simpa [fq]using this) ⟨t,ht,by simpa [fq]using pW,by have:=(BG t.i).2 (.inl rfl);simpa [fq]using this⟩
   omega
  have P7:CO (L.setIfInBounds t.i true) log:=by
   intro s hs hU e he hb;rw [BG]at hU⊢;rcases hU with h|h
   ·have:=ez.distinct hL s hs t ht h;subst this;exact .inr (qy e he hb)
   ·exact .inr (iJ s hs h e he hb)
  have Xm:=ez.closed (L:=L) hL iJ t ht qy;have Lm:CO L (l2++t::l1):=qA▸iJ;have DY:ez X nt ops env0 M0 (l2++t::l1) env M:=qA▸hL;have avN:∀s∈l1,s.i≠t.i:=λs hs e=>(yM (st.pair s hs)).1 e.symm;have W5:∀{l:List dz},(∀s∈l,s∈l1)->df M0 (L.setIfInBounds t.i true) l=df M0 L l:=λh=>acd λs hs _=>by
   rw [BG];exact⟨λhh=>hh.resolve_left (avN s (h s hs)),.inr⟩
  have avI:∀s∈log,fq L s.i->s≠t:=λs _ hU e=>pW (e▸hU);have tmp_ne:∀(v:Value) (s:dz),s∈log->s≠t->∀d,s.o.dst=some d->(a.put t.o.dst v).tmps.getD d undef=a.tmps.getD d undef:=by
   intro v s hs fK d hd;cases QL:t.o.dst with
   |none=>rfl
   |some d'=>
    have fv:d'≠d:=λe=>fK (ez.dst hL s hs t ht d hd (e▸QL));exact aeE
  have tmp_eq:∀(v:Value) d,t.o.dst=some d->(a.put t.o.dst v).tmps.getD d undef=v:=by
   intro v d hd;have Fm:=(st.dst d hd).1;simp [Act.put,hd,vQ,hm.size,Fm]
  have tmp_old:∀(v:Value) u,t.o.dst≠some u->(a.put t.o.dst v).tmps.getD u undef=a.tmps.getD u undef:=by
   intro v u Iz;cases QL:t.o.dst with
   |none=>rfl
   |some d'=>
    have fv:d'≠u:=λe=>Iz (e▸QL);exact aeE
  have afW:∀(v:Value),∀u,nt.mask.testBit u=false->(a.put t.o.dst v).tmps.getD u undef=tv u:=by
   intro v;cases QL:t.o.dst with
   |none=>exact hm.kept
   |some d=>exact ans (st.dst d QL).2 hm.kept
  have avV:t.q=false->∀s∈l2,s.q=false->fq L s.i->jo X s=true:=by
   intro IA s hs qb hU;cases fe:jo X s with
   |true=>rfl
   |false=>
    exfalso;obtain⟨b,c,gK⟩:=A7 hs;have hLs:ez X nt ops env0 M0 (b++s::(c++t::l1)) env M:=by have:=DY;rw [gK]at this;simpa using this
    have aZg:CO L (b++s::(c++t::l1)):=by have:=Lm;rw [gK]at this;simpa using this
    have dR:s∈log:=by rw [qA];exact Co _ hs
    have:=ez.flag hLs aZg qb fe (iJ s dR hU);rw [zW]at this;exact pW (this t (sQ _ ji) IA)
  have fin:∀(γ2:Nat->Nat) (F2:bC) (ρ2:bF) (v:Value) (w2:World),Inv X w0 S F2 ρ2 (df M0 (L.setIfInBounds t.i true) log).1 w2->Grow F F2 ρ ρ2 w w2->w.heap.size<=w2.heap.size->
   (jo X t=false->aR X.K ρ2 F2 w2 t.x v)->
   (∀b s c,log=b++s::c->jo X s=true->fq (L.setIfInBounds t.i true) s.i->(df M0 (L.setIfInBounds t.i true) c).2 =true->(s=t∨(df M0 L c).2 =false)->∀d,s.o.dst=some d->aR X.K ρ2 F2 w2 s.x ((a.put t.o.dst v).tmps.getD d undef))->
   (∀b s c,log=b++s::c->jo X s=true->fq (L.setIfInBounds t.i true) s.i->(df M0 (L.setIfInBounds t.i true) c).2 =false->Aq X w0 ρ2 F2 (a.put t.o.dst v) w2 (γ2 s.i) s/\Aside F2 ρ2 (df M0 (L.setIfInBounds t.i true) log).1 w2 (γ2 s.i))->
   (∀s∈log,jo X s=true->s≠t->γ2 s.i=γ s.i)->(jo X t=true->w.heap.size<=γ2 t.i/\γ2 t.i<w2.heap.size)->
   wpAnyIn (qM rdc.r) n X.P .any ops Q fuel (L.setIfInBounds t.i true) (a.put t.o.dst v) w2:=by
   intro γ2 F2 ρ2 v w2 qI hg aO6 hx avK Xk hγ BA;have pj:∀s∈log,fq (L.setIfInBounds t.i true) s.i->s≠t->fq L s.i:=ar1;refine ih _ γ2 F2 ρ2 _ w2 (U6) aPf P7 ⟨qI,hm.grow.trans hg,by simp only [Act.put];split<;>simp [hm.size],by simp only [Act.put];split<;>exact hm.defs,afW v,?_,λb s c h1 h2 h3 h4=>Xk b s c h1 h3 h2 h4,?_,?_,?_⟩
   ·intro b s c gK hU asJ d hd;have hs:s∈log:=by rw [gK];exact sQ _ ji
    by_cases fK:s=t
    ·subst fK;cases zL:jo X s with
     |true=>exact avK b s c gK zL hU (asJ zL) (.inl rfl) d hd
     |false=>rw [tmp_eq v d hd];exact hx zL
    ·have BD:=pj s hs hU fK;cases fe:jo X s with
     |false=>rw [tmp_ne v s hs fK d hd];exact(hm.wrote b s c gK BD (λh=>by rw [fe]at h;cases h) d hd).grow hg
     |true=>
      cases rC:(df M0 L c).2 with
      |true=>rw [tmp_ne v s hs fK d hd];exact(hm.wrote b s c gK BD (λ_=>rC) d hd).grow hg
      |false=>exact avK b s c gK fe hU (asJ fe) (.inr rC) d hd
   ·intro s hs fe hU
    by_cases fK:s=t
    ·subst fK;exact(BA fe).2
    ·rw [hγ s hs fe fK];exact qQ (hm.lt s hs fe (pj s hs hU fK)) aO6
   ·intro s hs s' dR fe BH hU BD fv
    by_cases fK:s=t
    ·by_cases Fl:s'=t
     ·exact absurd (by rw [fK,Fl]) fv
     ·rw [hγ s' dR BH Fl];have h1:=hm.lt s' dR BH (pj s' dR BD Fl);have h2:=(BA (fK▸fe)).1;rw [fK];omega
    ·by_cases Fl:s'=t
     ·rw [hγ s hs fe fK];have h1:=hm.lt s hs fe (pj s hs hU fK);have h2:=(BA (Fl▸BH)).1;rw [Fl];omega
     ·rw [hγ s hs fe fK,hγ s' dR BH Fl];exact hm.Re s hs s' dR fe BH (pj s hs hU fK) (pj s' dR BD Fl) fv
   ·intro u hu;have Iz:t.o.dst≠some u:=hu t ht ((BG _).2 (.inl rfl));rw [tmp_old v u Iz];exact(hm.iw u λs hs hU=>hu s hs ((BG _).2 (.inr hU))).grow hg
  have hid_flag:t.q=false->∀{b:List dz} {s:dz} {c:List dz},log=b++s::c->s∈l2->(df M0 L c).2 =false:=by
   intro IA b s c gK hs;obtain⟨b',c',Dq⟩:=A7 hs;have e:=ez.uniq hL gK (show log=b'++s::(c'++t::l1)by rw [qA,Dq];simp);rw [e];cases k8:(df M0 L (c'++t::l1)).2 with
   |false=>rfl
   |true=>
    rw [zW]at k8;exact absurd (k8 t (sQ _ ji) IA) pW
  have hin_log:∀{b:List dz} {s:dz} {c:List dz},log=b++s::c->s∈log:=λh=>by rw [h];exact sQ _ ji
  have pj:∀s∈log,fq (L.setIfInBounds t.i true) s.i->s≠t->fq L s.i:=ar1;have oK:∀{s:dz},s∈l2->s∈log:=λhs=>by rw [qA];exact Co _ hs
  have xa:∀s∈l2,s≠t:=by
   intro s hs e;subst e;obtain⟨b',c',Dq⟩:=A7 hs;have:=ez.uniq hL qA (show log=b'++s::(c'++s::l1)by rw [qA,Dq];simp);have:=GK List.length this;simp at this;omega
  cases zL:jo X t with
  |true=>
   have IA:=aND zL;obtain⟨b1,DX,hnn,eG⟩:=st.fl zL;have kM:df M0 L log=((df M0 L l1).1,false):=by rw [qA];exact ez.an5 pW IA
   have DR:df M0 (L.setIfInBounds t.i true) l1=df M0 L l1:=W5 (λs hs=>hs);refine eG hm.inv hm.size (λu hu=>ez.reads (P:=λx=>aR X.K ρ F w x (a.tmps.getD u undef)) pW hu DY Lm qy (λs hs DW hd=>by
    obtain⟨m,c,QW⟩:=A7 hs;exact hm.wrote (l2++t::m) s c (by rw [qA,QW];simp) (Xm _ DW) (λfe=>zW.2 λr hr DP=>Xm _ (T6 (l2:=m) (QW▸st.rok) fe DW r hr DP)) u hd) (λh=>hm.iw u (by rw [qA];exact h))) ?_
   intro v1 w1 AP uU Xl Xj afS afO afI;have sK:Inv X w0 S F ρ (df M0 (L.setIfInBounds t.i true) l1).1 w1:=by
    rw [DR];have:=hm.inv.grown uU;rw [kM]at this;exact iK
   have He:=hm.inv.cells uU (by simp);have qg:Inv X w0 S F ρ (df M0 L l1).1 w:=by have:=hm.inv;rw [kM]at this;exact this
   have nb:∀{id p g},Hid w1 ρ (df M0 L l1).1 id p g->Hid w ρ (df M0 L l1).1 id p g:=λhh=>hh.back qg.bD qg.len (λ_ _ h _=>h) (λ_ _ h _=>h) λg h1 _ _ _=>uU.block g h1 (by simp)
   let γ2:Nat->Nat:=λj=>if j=t.i then w.heap.size else γ j
   have BA:γ2 t.i=w.heap.size:=by simp [γ2]
   have BB:∀s∈log,s≠t->γ2 s.i=γ s.i:=λs hs fK=>by
    have:s.i≠t.i:=λe=>fK (ez.distinct hL s hs t ht e);simp [γ2,this]
   have V8:(l2++[t])++l1=log:=by rw [qA];simp
   have hLr:ez X nt ops env0 M0 ((l2++[t])++l1) env M:=V8▸hL;have tr:∀b s c,log=b++s::c->fq L s.i->jo X s=true->(df M0 L c).2 =false->Aq X w0 ρ F (a.put t.o.dst v1) w1 (γ2 s.i) s/\Aside F ρ (df M0 (L.setIfInBounds t.i true) l1).1 w1 (γ2 s.i):=by
    intro b s c gK hU fe k8;have hs:=hin_log gK;have fK:=avI s hs hU;obtain⟨h1,h2⟩:=hm.bf b s c gK hU fe k8;rw [BB s hs fK];rw [kM]at h2;exact⟨h1.mono (λ_ _ h=>h) (λ_ h=>h) He (uU.block _ h2.lt (by simp)) (λdd dT=>tmp_ne _ s hs fK dd dT),⟨qQ h2.lt uU.size,h2.fz,by rw [DR];exact h2.no,λid p hh=>h2.nh id p (by rw [DR]at hh;exact nb hh)⟩⟩
   have trt:Aq X w0 ρ F (a.put t.o.dst v1) w1 (γ2 t.i) t/\Aside F ρ (df M0 (L.setIfInBounds t.i true) l1).1 w1 (γ2 t.i):=by
    rw [BA];refine⟨⟨⟨b1,AP,DX,Xl,afS,afO,λdd dT=>by rw [tmp_eq _ dd dT];exact afI⟩,hm.inv.size,λb hb=>by rw [DX]at hb;have hb:=List.append_cancel_left hb;injection hb with hb;subst hb;exact hnn⟩,⟨Xj,λb hb e=> ?_,λid b hd h1 h2 h3 h4=> ?_,λid p hh=> ?_⟩⟩
    ·have:=hm.inv.fz b hb;omega
    ·rw [DR]at h1;have uQ:(df M0 L log).1 =(df M0 L l1).1 :=by rw [kM]
     have:=(hm.inv.sep id b hd _ (by rw [uQ];exact h1) h2 h3 h4).1;omega
    ·rw [DR]at hh;have:=(qg.bD.ak (nb hh)).1;omega
   obtain⟨ρ2,i2,e2,p2,a2⟩:=ad9 (L:=L.setIfInBounds t.i true) (γ:=γ2) (a:=a.put t.o.dst v1) hLr sK (λs hs qb hU=>by
    rcases nA.1 hs with hs|hs
    ·exact avV IA s hs qb (pj s (oK hs) hU (xa s hs))
    ·rw [sP.1 hs];exact zL) (λs hs fe hU=>by
    rcases nA.1 hs with hs|hs
    ·obtain⟨b,c,gK⟩:=A7 (oK hs);exact tr b s c gK (pj s (oK hs) hU (xa s hs)) fe (hid_flag IA gK hs)
    ·rw [sP.1 hs];exact trt) (λs hs s' dR fe BH hU BD fv=>by
    rcases nA.1 hs with hs|hs<;>rcases nA.1 dR with dR|dR
    ·rw [BB s (oK hs) (xa s hs),BB s' (oK dR) (xa s' dR)];exact hm.Re s (oK hs) s' (oK dR) fe BH (pj s (oK hs) hU (xa s hs)) (pj s' (oK dR) BD (xa s' dR)) fv
    ·rw [sP.1 dR,BA,BB s (oK hs) (xa s hs)];have:=hm.lt s (oK hs) fe (pj s (oK hs) hU (xa s hs));omega
    ·rw [sP.1 hs,BA,BB s' (oK dR) (xa s' dR)];have:=hm.lt s' (oK dR) BH (pj s' (oK dR) BD (xa s' dR));omega
    ·exact absurd (by rw [sP.1 hs,sP.1 dR]) fv)
   rw [V8]at i2 a2;refine fin γ2 F ρ2 _ _ i2 ⟨λ_ h=>h,e2,hm.inv.BM uU (by simp)⟩ uU.size (λh=>aet) ?_ ?_ (λs hs _ fK=>BB s hs fK) (λ_=>by rw [BA];exact⟨gQ _,Xj⟩)
   ·intro b s c gK fe hU k8 wz dd dT;rcases abQ (gK.symm.trans qA)with⟨m,h3,h4⟩|⟨h3,h4,h5⟩|⟨m,h3,h4⟩
    ·exact p2 b s (m++[t]) (by rw [h3];simp) fe hU (by rw [show(m++[t])++l1=c by rw [h4];simp];exact k8) dd dT
    ·subst h4;exact p2 l2 s [] rfl fe hU (by rw [rF,<-h5];exact k8) dd dT
    ·exfalso;have h6:df M0 (L.setIfInBounds t.i true) c=df M0 L c:=W5 (λr hr=>apk);rw [h6]at k8;rcases wz with h|h
     ·exact avN s (by rw [h3];exact sQ _ ji) (by rw [h])
     ·rw [h]at k8;cases k8
   ·intro b s c gK fe hU k8;have hs:=hin_log gK;have hH:Aq X w0 ρ F (a.put t.o.dst v1) w1 (γ2 s.i) s/\Aside F ρ (df M0 (L.setIfInBounds t.i true) l1).1 w1 (γ2 s.i):=by
     by_cases fK:s=t
     ·rw [fK];exact trt
     ·refine tr b s c gK (pj s hs hU fK) fe ?_;exact asu
    refine⟨hH.1.mono e2 (λ_ h=>h) (λ_ _ _ h=>h) rfl (λ_ _=>rfl),a2 _ hH.2 λb' r c' Dq rB F7 ahl e=> ?_⟩;have hr:r∈log:=by rw [<-V8,Dq];simp
    by_cases wy:r.i=s.i
    ·have e1:=ez.distinct hL r hr s hs wy;subst e1;have:=ez.uniq hL gK (show log=b'++r::(c'++l1)by rw [<-V8,Dq];simp);rw [this,ahl]at k8;cases k8
    ·by_cases AG:r=t
     ·by_cases fK:s=t
      ·exact wy (by rw [AG,fK])
      ·rw [AG,BA,BB s hs fK]at e;have:=hm.lt s hs fe (pj s hs hU fK);omega
     ·by_cases fK:s=t
      ·rw [fK,BA,BB r hr AG]at e;have:=hm.lt r hr rB (pj r hr F7 AG);omega
      ·rw [BB r hr AG,BB s hs fK]at e;exact hm.Re r hr s hs rB fe (pj r hr F7 AG) (pj s hs hU fK) wy e
  |false=>
   refine st.runs zL (M0:=(df M0 L log).1) (λhq id bf=>by rw [qA];exact ez.amv pW hq bf DY Lm qy) (λhq=>by
    rw [qA,ez.an5 pW hq,st.hM];exact ez.Ou jg (ez.flag DY Lm hq zL qy))
    hm.inv.aNf hm.size (λu hu=>ez.reads (P:=λx=>aR X.K ρ F w x (a.tmps.getD u undef)) pW hu DY Lm qy (λs hs DW hd=>by
     obtain⟨m,c,QW⟩:=A7 hs;exact hm.wrote (l2++t::m) s c (by rw [qA,QW];simp) (Xm _ DW) (λfe=>zW.2 λr hr DP=>Xm _ (T6 (l2:=m) (QW▸st.rok) fe DW r hr DP)) u hd) (λh=>hm.iw u (by rw [qA];exact h))) ?_
   intro v w' F' ρ' fY hx hg;have qI:=hm.inv.back fY;have tr:∀b s c,log=b++s::c->fq L s.i->jo X s=true->(df M0 L c).2 =false->Aq X w0 ρ' F' (a.put t.o.dst v) w' (γ s.i) s/\Aside F' ρ' (if t.q=true then(df M0 L log).1 else t.M') w' (γ s.i):=by
    intro b s c gK hU fe k8;have hs:=hin_log gK;have fK:=avI s hs hU;obtain⟨h1,h2⟩:=hm.bf b s c gK hU fe k8;obtain⟨h3,h4⟩:=h2.pV fY;exact⟨h1.mono hg.gP hg.hF hg.hw h4 (λdd dT=>tmp_ne _ s hs fK dd dT),h3⟩
   have L1:∀s,jo X s=true->s≠t:=λs fe e=>by rw [e,zL]at fe;cases fe
   cases hq:t.q with
   |true=>
    have same:∀{l:List dz},(∀s∈l,s∈log)->df M0 (L.setIfInBounds t.i true) l=df M0 L l:=λh=>acd λs hs qb=>by
     rw [BG];refine⟨λhh=>hh.resolve_left λe=> ?_,.inr⟩;have:=ez.distinct hL s (h s hs) t ht e;rw [this,hq]at qb;cases qb
    rw [if_pos hq]at qI;have arQ:∀{b:List dz} {s:dz} {c:List dz},log=b++s::c->df M0 (L.setIfInBounds t.i true) c=df M0 L c:=λgK=>same λr hr=>by rw [gK];exact sQ _ (jV _ hr)
    refine fin γ F' ρ' v w' (by rw [same λs hs=>hs];exact qI) hg fY.size (λ_=>hx) ?_ ?_ (λ_ _ _ _=>rfl) (λh=>aet)
    ·intro b s c gK fe hU k8 wz;rw [arQ gK]at k8;rcases wz with h|h
     ·exact absurd h (L1 s fe)
     ·rw [h]at k8;cases k8
    ·intro b s c gK fe hU k8;rw [arQ gK]at k8;have:=tr b s c gK (pj s (hin_log gK) hU (L1 s fe)) fe k8;rw [if_pos hq]at this;rw [same λs hs=>hs];exact iK
   |false=>
    have hqn:¬t.q=true:=UY;have asM:df M0 (L.setIfInBounds t.i true) (t::l1)=(t.M',true):=by
     simp only [df];rw [if_neg hqn,if_pos ⟨(BG _).2 (.inl rfl),by rw [W5 λs hs=>hs];exact ez.flag DY Lm hq zL qy⟩]
    rw [if_neg hqn]at qI;have trb:∀b s c,log=b++s::c->fq L s.i->jo X s=true->(df M0 L c).2 =false->Aq X w0 ρ' F' (a.put t.o.dst v) w' (γ s.i) s/\Aside F' ρ' (df M0 (L.setIfInBounds t.i true) (t::l1)).1 w' (γ s.i):=by
     intro b s c h1 h2 h3 h4;have:=tr b s c h1 h2 h3 h4;rw [if_neg hqn]at this;rw [asM];exact iK
    obtain⟨ρ2,i2,e2,p2,a2⟩:=ad9 (L:=L.setIfInBounds t.i true) (γ:=γ) (a:=a.put t.o.dst v) (base:=t::l1) DY (by rw [asM];exact qI)
     (λs hs qb hU=>avV hq s hs qb (pj s (oK hs) hU (xa s hs)))
     (λs hs fe hU=>by
       obtain⟨b,c,gK⟩:=A7 (oK hs);exact trb b s c gK (pj s (oK hs) hU (xa s hs)) fe (hid_flag hq gK hs))
     (λs hs s' dR fe BH hU BD fv=>hm.Re s (oK hs) s' (oK dR) fe BH (pj s (oK hs) hU (xa s hs)) (pj s' (oK dR) BD (xa s' dR)) fv)
    rw [<-qA]at i2 a2;refine fin γ F' ρ2 v w' i2 ⟨hg.hF,λid hd h=>e2 id hd (hg.gP id hd h),hg.hb⟩ fY.size (λ_=>hx.mono e2 (λ_ h=>h) (λ_ _ _ h=>h)) ?_ ?_ (λ_ _ _ _=>rfl) (λh=>aet)
    ·intro b s c gK fe hU k8 wz dd dT;rcases abQ (gK.symm.trans qA)with⟨m,h3,h4⟩|⟨h3,h4,h5⟩|⟨m,h3,h4⟩
     ·exact p2 b s m h3 fe hU (by rw [<-h4];exact k8) dd dT
     ·exact absurd h4 (L1 s fe)
     ·exfalso;have h6:df M0 (L.setIfInBounds t.i true) c=df M0 L c:=W5 (λr hr=>apk);rw [h6]at k8;rcases wz with h|h
      ·exact L1 s fe h
      ·rw [h]at k8;cases k8
    ·intro b s c gK fe hU k8;have hs:=hin_log gK;have fK:=L1 s fe;have rC:(df M0 L c).2 =false:=asu;have hH:=trb b s c gK (pj s hs hU fK) fe rC;refine⟨hH.1.mono e2 (λ_ h=>h) (λ_ _ _ h=>h) rfl (λ_ _=>rfl),a2 _ hH.2 λb' r c' Dq rB F7 ahl e=> ?_⟩;have pK:r∈l2:=by rw [Dq];exact sQ _ ji
     have hr:=oK pK
     by_cases wy:r.i=s.i
     ·have e1:=ez.distinct hL r hr s hs wy;subst e1;have:=ez.uniq hL gK (show log=b'++r::(c'++t::l1)by rw [qA,Dq];simp);rw [this,ahl]at k8;cases k8
     ·exact hm.Re r hr s hs rB fe (pj r hr F7 (L1 r rB)) (pj s hs hU fK) wy e
end
def Bg(X:Cx)(T:nQ R)(ops:Array Oper)(t:dz)(st:St)(log:List dz)(k:List dz->St->Option R):Option R:=
 a8 (log.all (Kf X ops t)&&FA X t log) (yg T.nt st t.o.dst t.x t.M' λaW=>k (t::log) aW)
def Qb(X:Cx)(T:nQ R)(ops:Array Oper)(i:Nat)(o:Oper)(cl:Nat)(st:St)(log:List dz)(k:List dz->St->Option R):Option R:=
 match flO X o with
 |true=>
  match o.op with
  | .alloc ty=>a8 (((X.ti ty).ok &&X.H4 (tV X ty) ty)&&dq (tV X ty) (X.ti ty).zero) (Bg X T ops ⟨i,o,false,.ptr st.mem.length 0 0,[],cl,st.env,st.mem,st.mem++[.var (tV X ty) (X.ti ty).zero]⟩ st log k)
  | .buildSlice t n ps=>
    (match ahx X t n (ps.toList.map λp=>(p.1,tw X (vv (sq o) st.env) p.2))with
     |some (e,rows)=>fzB (.row e rows) λb=>Bg X T ops ⟨i,o,false,.ak st.mem.length,[],cl,st.env,st.mem,st.mem++[b]⟩ st log k
     |none=>none)
  |_=>none
 |false=>
 match Of X (tw X (vv (sq o) st.env)) o with
 |some ids=>BK X T (tw X (vv (sq o) st.env)) o st.mem λx _=>Bg X T ops ⟨i,o,true,x,ids,cl,st.env,st.mem,st.mem⟩ st log k
 |none=>
  match afG X ops (tw X (vv (sq o) st.env)) o with
  |some (t,n,ps)=>JQ X t n (ps.toList.map λp=>(p.1,tw X (vv (sq o) st.env) p.2)) λx=>Bg X T ops ⟨i,o,true,x,[],cl,st.env,st.mem,st.mem⟩ st log k
  |none=>
   match af6 X (tw X (vv (sq o) st.env)) o with
   |some (g,args)=>T.call g args [] λx M'=>a8 (M'.isEmpty&&xb x) (Bg X T ops ⟨i,o,true,x,[],cl,st.env,st.mem,st.mem⟩ st log k)
   |none=>
    match y4 T (tw X (vv (sq o) st.env)) o st.mem with
    |some ids=>BK X T (tw X (vv (sq o) st.env)) o st.mem λx M'=>Bg X T ops ⟨i,o,false,x,ids,cl,st.env,st.mem,M'⟩ st log k
    |none=>none
def Qc(X:Cx)(T:nQ R)(ops:Array Oper)(i:Nat)(o:Oper)(cl:Nat)(st:St)(log:List dz)(k:List dz->St->Option R):Option R:=
 Bg X T ops ⟨i,o,true,.gw [],[],cl,st.env,st.mem,st.mem⟩ st log k
def aht(X:Cx)(T:nQ R)(ops:Array Oper)(i:Nat)(o:Oper)(cl:Nat)(st:St)(log:List dz)(k:List dz->St->Option R):Option R:=
 match o.guard with
 |none=>Qb X T ops i o cl st log k
 |some (j,want)=>
  match Hw ops j with
  |none=>none
  |some d=>
   match look st.env d with
   | .bool b=>
     match b with
     |true=>match want with
      |true=>Qb X T ops i o cl {st with env:=(d,.bool true)::st.env} log k
      |false=>Qc X T ops i o cl {st with env:=(d,.bool true)::st.env} log k
     |false=>match want with
      |false=>Qb X T ops i o cl {st with env:=(d,.bool false)::st.env} log k
      |true=>Qc X T ops i o cl {st with env:=(d,.bool false)::st.env} log k
   | .gw []=>Qc X T ops i o cl st log k
   |_=>none
def Xr(X:Cx)(T:nQ R)(ops:Array Oper):dy->List dz->St->(List dz->St->Option R)->Option R
 | [],log,st,k=>k log st
 |i::rest,log,st,k=>
  match ops.toList[i]? with
  |none=>none
  |some o=>
   match BL log o.after.toList with
   |none=>none
   |some cl=>aht X T ops i o cl st log λLh aW=>Xr X T ops rest Lh aW k
def ae9(X:Cx)(T:nQ R)(ops:Array Oper)(st:St)(k:St->Option R):Option R:=
 Xr X T ops (aOE ops.toList) [] st λlog aW=>a8 (Nat.ble log.length ops.size&&(List.range ops.size).all λi=>log.any λt=>t.i==i) (k aW)
section
variable {nt:Nt} {ops:Array Oper} {env0 rh:cf} {M0 M1:aL}
theorem JV(h:Bg X T ops t st log k=some r):
 ∃aW,k (t::log) aW=some r/\(∀s∈log,Kf X ops t s=true)/\FA X t log=true/\(∀d,t.o.dst=some d->d<T.nt.n/\T.nt.mask.testBit d=true)/\(∀u,look aW.env u=(if t.o.dst=some u then t.x else look st.env u))/\aW.mem=t.M'/\aW.px=st.px/\aW.rd=st.rd:=by
 unfold Bg at h;replace h:=cP h;obtain⟨hp,h⟩:=h;rw [bA]at hp;have hq:VY T ops t st [] (λ_ aW=>k (t::log) aW)=some r:=by
  unfold VY;simp only [adG,a8];exact h
 obtain⟨aW,h,_,hd,yE,uQ,e1,e2⟩:=aJh hq;exact⟨aW,h,λs hs=>mP.1 hp.1 s hs,hp.2,hd,yE,uQ,e1,e2⟩
theorem JY(hl:ez X nt ops env0 M0 log rh M1)(h1:∀u,look t.env u=look rh u)(h2:t.M=M1)(h3:t.q=true->t.M'=t.M)(h4:t.q=false->eR t.ids t.M t.M')(h5:jo X t=false->t.awq X nt ops)
 (h5':jo X t=true->∃b,t.M'=t.M++[b]/\t.arx X nt ops b) (h6:ops[t.i]?=some t.o)
 (h7:∀d,t.o.dst=some d->d<nt.n/\nt.mask.testBit d=true) (h8:∀s∈log,Kf X ops t s=true) (h8':FA X t log=true) (h9:BL log t.o.after.toList=some t.cl)  {M:aL} (mK:∀u,look env u=(if t.o.dst=some u then t.x else look t.env u)) (qL:M=t.M'):
 ez X nt ops env0 M0 (t::log) env M:=by
 obtain⟨c1,c2⟩:=acI h9;refine⟨rh,M1,hl,h1,h2,h3,h4,h5,h5',h6,h7,h8,h8',λe he hb=>c1 e (CK) hb,λw hw=> ?_,λu=>by rw [mK u,h1 u],qL⟩;obtain⟨e,he,hb,hh⟩:=c2 w hw;exact⟨e,CK,hb,hh⟩
theorem acn(hl:ez X T.nt ops env0 M0 log rh M1)(hi:ops[i]?=some o)(hc:BL log o.after.toList=some cl)
 (he:∀u,look st.env u=look rh u) (hm:st.mem=M1) (hw:af9 X ops o st.env false) (h:Qc X T ops i o cl st log k=some r):
 ∃t aW,k (t::log) aW=some r/\ez X T.nt ops env0 M0 (t::log) aW.env aW.mem/\aW.px=st.px/\aW.rd=st.rd:=by
 unfold Qc at h;obtain⟨aW,h,hp,AI,hd,yE,uQ,h1,h2⟩:=JV h;refine⟨_,aW,h,JY hl he hm (λ_=>rfl) (λhq=>by cases hq) ?_ (λhf=>by simp [jo]at hf) hi hd hp AI hc yE uQ,h1,h2⟩;intro _ Mx _ _ rdc n w0 S F ρ a w Q K hI fU hr hk;unfold wpOpIn;simp only [hi,hw hr,oW,sj];exact⟨λ_ _=>trivial,hk _ w F ρ hI amn (Grow.refl _ _ _)⟩
theorem acm(hX:X.Okb)(hT:T.wU X)(hl:ez X T.nt ops env0 M0 log rh M1)(hi:ops[i]?=some o)(hc:BL log o.after.toList=some cl)
 (he:∀u,look st.env u=look rh u) (hm:st.mem=M1) (hw:af9 X ops o st.env true) (h:Qb X T ops i o cl st log k=some r):
 ∃t aW,k (t::log) aW=some r/\ez X T.nt ops env0 M0 (t::log) aW.env aW.mem/\aW.px=st.px/\aW.rd=st.rd:=by
 unfold Qb at h;split at h
 ·rename_i yF;have ari:∀{x:AV} {M':aL},jo X ⟨i,o,false,x,[],cl,st.env,st.mem,M'⟩=false->False:=λhf=>by simp [jo,yF]at hf
  split at h
  ·rename_i ty ho;replace h:=cP h;obtain⟨aX,h⟩:=h;rw [bA,bA]at aX;obtain⟨aW,h,hp,AI,hd,yE,uQ,h1,h2⟩:=JV h;refine⟨_,aW,h,JY hl he hm (λhq=>by cases hq) (λ_=>eR.push _ _ _) (λhf=>(ari hf).elim) (λ_=>⟨_,rfl,?_⟩) hi hd hp AI hc yE uQ,h1,h2⟩;refine⟨rfl,?_⟩;intro Mx rdc n w0 S F ρ a w Q K hI fU hr hk;obtain⟨i',d,z,f⟩:=hX.facts aX.1.1;have eG:(Instr.alloc ty true (.tuple #[])).run X.P w= .ok (.pointer (some ⟨w.heap.size,0,none⟩)) (w.alloc (.cells z.cells ty)):=by
    simp only [Instr.alloc,iB,f.zeroValue,lg,newVar,newRow,J5,mQ,J4]
   unfold wpOpIn;simp only [hi,hw hr,uY];refine Gt (kI) (v:= .pointer (some ⟨w.heap.size,0,none⟩)) (w':=w.alloc (.cells z.cells ty)) (by
    rw [show execOp a.eval o=(do pure (.value (<-Instr.alloc ty true (.tuple #[]))):Sem Next)from oF,iB,eG];rfl) ?_
   refine hk _ _ ⟨.slice (some ⟨w.heap.size,0,none⟩) 1 1,(X.ti ty).zero.length⟩ (GJ w _ none) rfl (by simp) rfl ⟨aX.2,rfl,_,_,_,rfl,Oe w _,KP,aX.1.2⟩ (λρ2 F2 w2 hlen=> ?_);have:=ado (X:=X) (M:=st.mem) (F:=F2) (w:=w2) (hd:=⟨.slice (some ⟨w.heap.size,0,none⟩) 1 1,(X.ti ty).zero.length⟩) hlen rfl 0 0;exact uj
  ·rename_i t n ps ho;split at h
   ·rename_i e rows hb;rw [aNO]at h;obtain⟨aW,h,hp,AI,hd,yE,uQ,h1,h2⟩:=JV h;refine⟨_,aW,h,JY hl he hm (λhq=>by cases hq) (λ_=>eR.push _ _ _) (λhf=>(ari hf).elim) (λ_=>⟨_,rfl,?_⟩) hi hd hp AI hc yE uQ,h1,h2⟩;refine⟨rfl,?_⟩;intro Mx rdc n' w0 S F ρ a w Q K hI fU hr hk;have X9:∀z,aR X.K ρ F w (tw X (vv (sq o) st.env) z) (a.eval z):=λz=>GX hI (NZ λu hu=>hr u (Co _ hu)) z;obtain⟨us,eG,hlen,nw⟩:=aLD hX hb (w:=w) hI.one (ps.toList.map λp=>(p.1,a.eval p.2)) (by simp) (λj p q hp hq=>by
     rw [kW]at hp hq;cases hj:ps.toList[j]? with
     |none=>exact OO
     |some z=>
      rw [hj]at hp hq;simp only [ox,Option.some.injEq]at hp hq;subst hp;subst hq;exact⟨rfl,X9 z.2⟩)
    have e1:(ps.map λ(i,x)=>(i,a.eval x))=(ps.toList.map λp=>(p.1,a.eval p.2)).toArray :=Ag;unfold wpOpIn;simp only [hi,hw hr,uY];refine Gt (kI) (v:= .slice (some ⟨w.heap.size,0,none⟩) n n) (w':=w.alloc (.cells us e)) (by
     rw [show execOp a.eval o=(do pure (.value (<-Instr.buildSlice t n (ps.map λ(i,x)=>(i,a.eval x)))):Sem Next)from oF,iB,e1,eG];rfl) ?_
    refine hk _ _ ⟨.slice (some ⟨w.heap.size,0,none⟩) n n,(X.K e).length⟩ (GJ w _ none) rfl (by simp) rfl nw (λρ2 F2 w2 aPd=> ?_);exact Cs (M:=st.mem) (hd:=⟨.slice (some ⟨w.heap.size,0,none⟩) n n,(X.K e).length⟩) aPd
   ·exact aM
  ·exact aM
 ·rename_i yF;have agZ:∀{q:Bool} {x:AV} {ids:dy} {M':aL},jo X ⟨i,o,q,x,ids,cl,st.env,st.mem,M'⟩=true->False:=by
   intro q x ids M' hf;simp [jo,yF]at hf
  split at h
  ·rename_i ids hq;obtain⟨y,h,eG⟩:=aJg hX hq h;obtain⟨aW,h,hp,AI,hd,yE,uQ,h1,h2⟩:=JV h;refine⟨_,aW,h,JY hl he hm (λ_=>rfl) (λhq=>by cases hq) ?_ (λhf=>(agZ hf).elim) hi hd hp AI hc yE uQ,h1,h2⟩;intro _ Mx hM _ rdc n w0 S F ρ a w Q K hI fU hr hk;unfold wpOpIn;simp only [hi,hw hr,uY];exact eG Mx (hM rfl) hI (λz=>GX hI (NZ λu hu=>hr u (Co _ hu)) z) (λv w' ρ' F' fY hg hx=>hk v w' F' ρ' fY hx hg)
  ·rename_i hq;split at h
   ·rename_i t n ps aY4;obtain⟨y,h,eG⟩:=aJZ hX (aJm aY4) h;exact asy
   ·split at h
    ·rename_i g args hcq;obtain⟨y,h,eG⟩:=aJL hX hT hcq (k:=λy=>Bg X T ops ⟨i,o,true,y,[],cl,st.env,st.mem,st.mem⟩ st log k) h;exact asy
    ·split at h
     ·rename_i ids hwr;obtain⟨x,M',eG,h,jv⟩:=Tu hX hT h;obtain⟨aW,h,hp,AI,hd,yE,uQ,h1,h2⟩:=JV h;refine⟨_,aW,h,JY hl he hm (λhq=>by cases hq) (λ_=>jv ids hwr) ?_ (λhf=>(agZ hf).elim) hi hd hp AI hc yE uQ,h1,h2⟩;intro _ Mx _ hM rdc n w0 S F ρ a w Q K hI fU hr hk;unfold wpOpIn;simp only [hi,hw hr,uY];have DX:=hM rfl;subst DX;exact eG hI (λz=>GX hI (NZ λu hu=>hr u (Co _ hu)) z) (λv w' ρ' F' fY hg hx=>hk v w' F' ρ' fY hx hg)
     ·exact aM
theorem aJr(hX:X.Okb)(hT:T.wU X)(hl:ez X T.nt ops env0 M0 log st.env st.mem)(hi:ops[i]?=some o)(hc:BL log o.after.toList=some cl)
 (h:aht X T ops i o cl st log k=some r):
 ∃t aW,k (t::log) aW=some r/\ez X T.nt ops env0 M0 (t::log) aW.env aW.mem/\aW.px=st.px/\aW.rd=st.rd:=by
 unfold aht at h;split at h
 ·rename_i hg;exact acm hX hT hl hi hc (λ_=>rfl) rfl (λ{ρ F w tmps} _=>alv hg _) h
 ·rename_i j want hg;split at h
  ·exact aM
  ·rename_i d hd;have kM:d∈sq o++guardOf ops o:=sQ _ (by simp [guardOf,hg,hd]);have VQ:∀(b:Bool) (env:cf),look env d= .bool b->af9 X ops o env (b==want):=by
    intro b env hb ρ F w tmps hr;have:=hr d kM;rw [hb]at this;generalize hv:tmps.getD d undef=v at this;cases this;rw [NG hg,alY hd hv];cases b<;>cases want<;>rfl
   split at h
   ·rename_i b hb;split at h
    ·split at h
     ·exact acm hX hT (st:={st with env:=(d,.bool true)::st.env}) hl hi hc (λu=>Td hb u) rfl (VQ true _ (Vm)) h
     ·exact acn (st:={st with env:=(d,.bool true)::st.env}) hl hi hc (λu=>Td hb u) rfl (VQ true _ (Vm)) h
    ·split at h
     ·exact acm hX hT (st:={st with env:=(d,.bool false)::st.env}) hl hi hc (λu=>Td hb u) rfl (VQ false _ (Vm)) h
     ·exact acn (st:={st with env:=(d,.bool false)::st.env}) hl hi hc (λu=>Td hb u) rfl (VQ false _ (Vm)) h
   ·rename_i hb;refine acn hl hi hc (λ_=>rfl) rfl (λ{ρ F w tmps} hr=> ?_) h;have:=hr d kM;rw [hb]at this;generalize hv:tmps.getD d undef=v at this;cases this with
    |gw cs vs ki _=>
     have:vs=[]:=by simpa using ki
     subst this;rw [NG hg,akO hd hv];rfl
   ·exact aM
theorem amf(hX:X.Okb){T:nQ R}(hT:T.wU X){k:List dz->St->Option R}{r:R}:∀(ord:dy) {log:List dz} {st:St},ez X T.nt ops env0 M0 log st.env st.mem->Xr X T ops ord log st k=some r->
 ∃Lh aW,k Lh aW=some r/\ez X T.nt ops env0 M0 Lh aW.env aW.mem/\aW.px=st.px/\aW.rd=st.rd
 | [],log,st,hl,h=>⟨log,st,h,hl,rfl,rfl⟩
 |i::rest,log,st,hl,h=>by
  simp only [Xr]at h;split at h
  ·exact aM
  ·rename_i o ho;split at h
   ·exact aM
   ·rename_i cl hc;obtain⟨t,st1,h,jg,e1,e2⟩:=aJr hX hT hl (by simpa using ho) hc h;obtain⟨Lh,aW,h,IE,e3,e4⟩:=amf hX hT rest jg h;exact⟨Lh,aW,h,IE,e3.trans e1,e4.trans e2⟩
theorem aH0(hX:X.Okb)(hT:T.wU X){id:Nat}{k:St->Option R}(h:ae9 X T ops st k=some r):
 ∃aW,k aW=some r/\vT X T.nt (.region id ops true) st .normal aW:=by
 unfold ae9 at h;obtain⟨log,aW,h,hl,e1,e2⟩:=amf hX hT (ops:=ops) (env0:=st.env) (M0:=st.mem) _ (log:=[]) (st:=st) (show ez X T.nt ops st.env st.mem [] st.env st.mem from⟨λ_=>rfl,rfl⟩) h;replace h:=cP h;obtain⟨jA,h⟩:=h;rw [bA]at jA;obtain⟨hlen,jA⟩:=jA;refine⟨aW,h,λ{rdc n w0 S F ρ a w Q} hI hs hq=>wpIn_region_any hX.mixed ?_⟩;have hg:=World.aHf w;have fY:=hI.grown hg;have mu:Grow F F ρ ρ w {w with drawn:=w.drawn+1}:=⟨λ_ h=>h,λ_ _ h=>h,hI.BM hg (by simp)⟩;have dR:=hs.grow mu;have vI:∀i,¬fq (Array.replicate ops.size false) i:=by
  intro i eT;simp only [fq,vQ,Array.getElem?_replicate]at eT;split at eT<;>simp at eT
 have hm0:∀l:List dz,(df st.mem (Array.replicate ops.size false) l).1 =st.mem:=by
  intro l
  induction l with
  |nil=>rfl
  |cons t l XY=>
   simp only [df];split
   ·exact XY
   ·rw [if_neg λhh=>vI _ hh.1];exact XY
 refine aKk hX (ds:=a.defers) (tv:=rdc.tv) (wb:=w) (S:=S) (w0:=w0) (F0:=F) (ρ0:=ρ) hl (λi hi=> ?_) (λa' w' F' ρ' qI hE fU Ya hkp tq=> ?_) ops.size _ (λ_=>0) F ρ a _ (by simp) ?_ ?_ ?_
 ·have:=mP.1 jA i (xJ.2 hi);obtain⟨t,ht,X2⟩:=ac6.1 this;exact⟨t,ht,by simpa using X2⟩
 ·refine hq a' w' F' ρ' qI ⟨hE,fU,?_,?_,hkp⟩ tq
  ·rw [e1,Ya];exact hs.defs.mono tq.hF tq.hb
  ·exact hs.rd.mono tq.hF tq.hb
 ·exact pz List.countP_le_length (yR hlen)
 ·exact λt ht eT=>absurd eT (vI _)
 ·exact⟨by rw [hm0];exact fY,mu,hs.size,rfl,hs.kept,λ_ s _ _ eT=>absurd eT (vI _),λ_ s _ _ eT=>absurd eT (vI _),λs _ _ eT=>absurd eT (vI _),λs _ s' _ _ _ eT=>absurd eT (vI _),λu _=>dR.env u⟩
end
end
noncomputable section
variable {X:Cx} {R:Type}
def Wi(X:Cx)(T:nQ R)(ops:Array Oper)(draw:Bool)(st:St)(k:St->Option R):Option R:=
 match draw with
 |false=>vX X T ops ops.toList st k
 |true=>ae9 X T ops st k
def alG(hX:X.Okb){T:nQ R}(hT:T.wU X){id:Nat}{ops:Array Oper}{draw:Bool}{st:St}{k:St->Option R}{r:R}(h:Wi X T ops draw st k=some r):
 ∃aW,k aW=some r/\vT X T.nt (.region id ops draw) st .normal aW:=by
 unfold Wi at h;split at h
 ·obtain⟨aW,h,hr⟩:=alH hX hT ops.toList 0 (λi=>by simp) h;refine⟨aW,h,λ{rdc n w0 S F ρ a w Q} hI hs hq=>wpIn_region ?_⟩;have:=hr (n:=n) hI hs hq;exact uj
 ·exact aH0 hX hT h
end
end Go.ah
namespace Go.ah
def Bh{p:Prop}(h:p:=by simp [Hh,hl]):p:=h
def aeW{p:Prop}(h:p:=by exact⟨_,a₁,w₁,hq,.of_steps (.one h0 S2) Xn⟩):p:=h
def Vl{p:Prop}(h:p:=by exact⟨F2,ρ2,i2,s2,g1.trans g2⟩):p:=h
end Go.ah
namespace Go.ah
def TR:=@Go.wpIn_block
end Go.ah
namespace Go.ah
open Go
noncomputable section
variable {X:Cx} {R:Type}
variable{c:Code}{p:Nat}{r:R}{st:St}{el:TypeId}
def Hh(root:Code):List Bool->Option Code
 | []=>some root
 |b::p=>
  match Hh root p with
  |some (.seq x y)=>some (bif b then y else x)
  |some (.cond _ x y)=>some (bif b then y else x)
  |some (.block _ x)=>bif b then none else some x
  |some (.loop x)=>bif b then none else some x
  |some (.scope x)=>bif b then none else some x
  |some (.rangeFunc _ _ x y)=>some (bif b then y else x)
  |_=>none
def enc:List Bool->Nat
 | []=>1
 |b::p=>2*enc p+(bif b then 1 else 0)
def UH:∀p,1<=enc p
 | []=>gQ _
 |b::p=>by have:=UH p;simp only [enc];omega
def aoh:∀{p q:List Bool},enc p=enc q->p=q
 | [],[],_=>rfl
 | [],b::q,h=>by
   have:=UH q;simp only [enc]at h;cases b<;>simp at h<;>omega
 |b::p,[],h=>by
  have:=UH p;simp only [enc]at h;cases b<;>simp at h<;>omega
 |b::p,c::q,h=>by
  simp only [enc]at h;have h2:enc p=enc q/\b=c:=by cases b<;>cases c<;>simp at h⊢<;>omega
  rw [aoh h2.1,h2.2]
def At(root:Code)(p:Nat)(c:Code):Prop:=∃l,enc l=p/\Hh root l=some c
def At.root(c:Code):At c 1 c:=⟨[],rfl,rfl⟩
def At.det{root:Code}(h:At root p c)(l:List Bool)(hl:enc l=p):Hh root l=some c:=by
 obtain⟨l',h1,h2⟩:=h;rw [aoh (hl.trans h1.symm)];exact h2
def At.down{root d:Code}(h:At root p c)(b:Bool)(hd:∀l,Hh root l=some c->Hh root (b::l)=some d):At root (2*p+(bif b then 1 else 0)) d:=by
 obtain⟨l,h1,h2⟩:=h;exact⟨b::l,by simp only [enc,h1],hd l h2⟩
def Ex.sw:Ex->Exit
 | .normal => .normal
 | .exit i=> .exit i
 | .ret => .ret
def Pa(env:cf)(M:aL):Src->Option Nat
 | .tmp t=>match look env t with| .ak id=>some id| .ptr id _ _=>some id|_=>none
 | .cell t c=>match look env t with| .ptr v _ _=>(match gm M v with|some (.var _ cs)=>(match cs[c]? with|some (.ak id)=>some id|_=>none)|_=>none)|_=>none
def Pu(X:Cx)(g:Gh)(env:cf)(M:aL)(k:aL->Option R):Option R:=
 match g with
 | .nest s=>match Pa env M s with|some id=>afv X id M k|none=>k M
 | .flat s=>match Pa env M s with|some id=>af0 id M k|none=>k M
 | .close s=>match Pa env M s with|some id=>afd X id M k|none=>k M
 | .opn s i j=>match Pa env M s with|some id=>(match tw X env i with| .int _ n=>Pg X id n.toNat j M k|_=>k M)|none=>k M
 | .aYi t j=>match look env t with| .ptr id i off=>Pg X id i (off+j) M k|_=>k M
 | .avi s t c j=>match Pa env M s with|some id=>(match look env t with| .ptr v _ _=>(match gm M v with|some (.var _ cs)=>Pg X id (cs.getD c .top).toI.toNat j M k|_=>k M)|_=>k M)|none=>k M
 | .Yn _ _=>k M
 | .Mk _ _=>k M
 | .j5 _ _=>k M
def alK(hX:X.Okb){g:Gh}{env:cf}{M:aL}{k:aL->Option R}(h:Pu X g env M k=some r):∃M',k M'=some r/\E3 X M M':=by
 unfold Pu at h;split at h<;>try split at h
 ·exact aIB hX h
 ·exact vk
 ·exact aIH h
 ·exact vk
 ·exact aIq h
 ·exact vk
 ·split at h
  ·exact abS h
  ·exact vk
 ·exact vk
 ·exact abS h
 ·exact vk
 ·split at h
  ·split at h
   ·exact abS h
   ·exact vk
  ·exact vk
 ·exact vk
 ·exact vk
 ·exact vk
 ·exact vk
def ahq(X:Cx)(t:Nat)(el:TypeId)(st:St)(k:St->Option R):Option R:=
 match look st.env t with
 | .ptr id 0 off=>
   match gm st.mem id with
   |some (.var _ cs)=>BI (X.K el) cs st.mem λB5 M=>match gm M id with
    |some (.var _ _)=>a8 (dq (X.K el) B5) (k {st with env:=(t,.iO el B5 off)::st.env,mem:=M.set id .dead })
    |_=>none
   |_=>k st
 |_=>k st
def Ab(X:Cx)(st aW:St):Prop:=∀{nt:Nt} {rdc:Cy} {w0:World} {S:Sc} {F:bC} {ρ:bF} {a:Act} {w:World},Inv X w0 S F ρ st.mem w->jh X nt st rdc F ρ a w->∃F' ρ',Inv X w0 S F' ρ' aW.mem w/\jh X nt aW rdc F' ρ' a w/\Grow F F' ρ ρ' w w
def Ab.refl(st:St):Ab X st st:=λ{nt rdc w0 S F ρ a w} hI hs=>⟨F,ρ,hI,hs,Grow.refl _ _ _⟩
def aJo{t:Nat}{k:St->Option R}(h:ahq X t el st k=some r):∃aW,k aW=some r/\Ab X st aW:=by
 unfold ahq at h;split at h
 ·rename_i id off hl;split at h
  ·rename_i ks cs hb;rw [fF]at hb;obtain⟨B5,M,h,hlen,_,hf⟩:=NY (X:=X) _ _ _ h;split at h
   ·rename_i ks2 cs2 im;rw [fF]at im;replace h:=cP h;obtain⟨hk,h⟩:=h;refine⟨_,h,λ{nt rdc w0 S F ρ a w} hI hs=> ?_⟩;have bI:id<ρ.length:=VA;have hh:ρ[id]?=some ρ[id]:=c8 bI;obtain⟨q1,q2,g,cur,e,q3,q4,q5,q6⟩:=hI.rep id _ _ hb hh;obtain⟨F1,i1,g1,r1⟩:=hf hI;have r2:=r1 _ q5;have i2:=i1.freeze im rfl hh (g:=g) (OZ) (b':= .dead) rfl trivial;have g2:Grow F1 (λa=>F1 a∨a.block=g) ρ ρ w w:=⟨λ_ h=> .inl h,λ_ _ h=>h,λ_ _=>rfl⟩;have LX:=(hs.grow g1).grow g2;refine⟨_,ρ,i2,⟨λu=> ?_,LX.size,LX.defs,LX.rd,LX.kept⟩,g1.trans g2⟩;simp only [ug];split
    ·rename_i hu;rw [iA]at hu;subst hu;have hr:=hs.env u;rw [hl]at hr;generalize a.tmps.getD u undef=v at hr;cases hr with
     |ptr _ _ _ hd g' o n c bf hv=>
      rw [hh]at bf;injection bf with bf;subst bf;rw [q3]at hv;injection hv with e1 _ _;injection e1 with e1;injection e1 with e1 e2 _;subst e1;subst e2;have:(⟨g,0+0*(ρ[id]).sz +off,none⟩:Addr)=(⟨g,0,none⟩:Addr).add off:=by rw [oX];simp
      rw [this];refine .iO el B5 off ⟨g,0,none⟩ cur.toList hk r2.1 (λj v hj=>⟨?_,.inr ?_⟩) (λj x v hx hv=>(r2.2 j x v hx hv).grow g2)
      ·rw [oX,zZ w g _ cur e (0,0) q4];simpa using hj
      ·rw [oX]
    ·exact LX.env u
   ·exact aM
  ·exact⟨_,h,Ab.refl _⟩
 ·exact⟨_,h,Ab.refl _⟩
def K7(x:AV)(el:TypeId)(k:Row->Option R):Option R:=
 match x with
 | .iO t row off=>(match Nat.beq t el with|true=>(match off with|0=>k row|_=>none)|false=>none)
 |_=>none
def aJK{x:AV}{k:Row->Option R}(h:K7 x el k=some r):∃row,x= .iO el row 0/\k row=some r:=by
 unfold K7 at h;split at h
 ·split at h
  ·rename_i hb;split at h
   ·exact⟨_,by rw [fk hb],h⟩
   ·exact aM
  ·exact aM
 ·exact aM
def Fq(X:Cx):List Gh->St->(St->Option R)->Option R
 | [],st,k=>k st
 | .Yn t el::gs,st,k=>ahq X t el st λaW=>Fq X gs aW k
 | .j5 t ty::gs,st,k=>j5 (.slice ty) (look st.env t) st.mem λx M=>Fq X gs {st with env:=(t,x)::st.env,mem:=M} k
 | .Mk t el::gs,st,k=>K7 (look st.env t) el λrow=>Fq X gs {st with env:=(t,.iO el row 0)::st.env} k
 |g::gs,st,k=>Pu X g st.env st.mem λM=>Fq X gs {st with mem:=M} k
def JX(hX:X.Okb){k:St->Option R}{r:R}:∀(gs:List Gh) {st:St},Fq X gs st k=some r->∃aW,k aW=some r/\Ab X st aW
 | [],st,h=>⟨st,h,Ab.refl _⟩
 |g::gs,st,h=>by
  have tr:∀{st1 aW:St},Ab X st st1->Ab X st1 aW->Ab X st aW:=λ{st1 aW} h1 h2 {nt rdc w0 S F ρ a w} hI hs=>by
   obtain⟨F1,ρ1,i1,s1,g1⟩:=h1 hI hs;obtain⟨F2,ρ2,i2,s2,g2⟩:=h2 i1 s1;exact Vl
  have iw:∀{g:Gh},(Pu X g st.env st.mem λM=>Fq X gs {st with mem:=M} k)=some r->∃aW,k aW=some r/\Ab X st aW:=λ{g} h=>by
   obtain⟨M',h,hA⟩:=alK hX h;obtain⟨aW,h,hr⟩:=JX hX gs h;refine⟨aW,h,tr (λ{nt rdc w0 S F ρ a w} hI hs=> ?_) hr⟩;obtain⟨F1,ρ1,i1,g1⟩:=hA hI;have ju:=hs.grow g1;exact⟨F1,ρ1,i1,⟨ju.env,ju.size,ju.defs,ju.rd,ju.kept⟩,g1⟩
  cases g with
  |Yn t el=>
   obtain⟨st1,h,h1⟩:=aJo h;obtain⟨aW,h,hr⟩:=JX hX gs h;exact⟨aW,h,tr h1 hr⟩
  |Mk t el=>
   obtain⟨row,hx,h⟩:=aJK h;obtain⟨aW,h,hr⟩:=JX hX gs h;exact⟨aW,h,tr (st1:={st with env:=(t,.iO el row 0)::st.env}) (λ{nt rdc w0 S F ρ a w} hI hs=>⟨F,ρ,hI,hs.refine hx,Grow.refl _ _ _⟩) hr⟩
  |j5 t ty=>
   obtain⟨x,M,h,_,_,hf⟩:=GG (X:=X) h;obtain⟨aW,h,hr⟩:=JX hX gs h;refine⟨aW,h,tr (st1:={st with env:=(t,x)::st.env,mem:=M}) (λ{nt rdc w0 S F ρ a w} hI hs=> ?_) hr⟩;obtain⟨F1,i1,g1,r1⟩:=hf hI;have ju:=hs.grow g1;refine⟨F1,ρ,i1,⟨λu=> ?_,ju.size,ju.defs,ju.rd,ju.kept⟩,g1⟩;simp only [ug];split
   ·rename_i hu;rw [iA]at hu;subst hu;exact r1 _ (hs.env u)
   ·exact ju.env u
  |_=>exact iw h
structure nN(R:Type) where
 kU:nQ R
 loop:Nat->St->(Ex->St->Option R)->Option R
 range:Nat->St->(Ex->St->Option R)->Option R
 cut:Nat->Option (St->(Ex->St->Option R)->Option R)
 gh:Nat->List Gh×List Gh:=λ_=>([],[])
structure nN.Ok(X:Cx)(root:Code)(L:nN R):Prop where
 kU:L.kU.wU X
 loop:∀{p c st k r},At root p (.loop c)->L.loop p st k=some r->∃e aW,vT X L.kU.nt (.loop c) st (Ex.sw e) aW/\k e aW=some r
 range:∀{p g ps x y st k r},At root p (.rangeFunc g ps x y)->L.range p st k=some r->∃e aW,vT X L.kU.nt (.rangeFunc g ps x y) st (Ex.sw e) aW/\k e aW=some r
 cut:∀{p c f st k r},At root p c->L.cut p=some f->f st k=some r->∃e aW,vT X L.kU.nt c st (Ex.sw e) aW/\k e aW=some r
def as0(o:Option (St->(Ex->St->Option R)->Option R))(other:(Ex->St->Option R)->Option R)(st:St)(k:Ex->St->Option R):Option R:=
 match o with
 |some f=>f st k
 |none=>other k
def UB(c:Operand)(b:Bool)(st:St):St:=match c with| .tmp t=>{st with env:=(t,.bool b)::st.env}|_=>st
def sf(X:Cx)(L:nN R):Code->Nat->St->(Ex->St->Option R)->Option R
 | .skip,_,st,k=>k .normal st
 | .label _,_,st,k=>k .normal st
 | .region rid ops draw,_,st,k=>match L.gh rid with
   |([],[])=>Wi X L.kU ops draw st λaW=>k .normal aW
   |(pre,post)=>Fq X pre st λst1=>Wi X L.kU ops draw st1 λmG=>Fq X post mG λH5=>k .normal H5
 | .seq a b,p,st,k=>as0 (L.cut (2*p)) (λk'=>sf X L a (2*p) st k') st λe aW=>match e with| .normal =>sf X L b (2*p+1) aW k| .exit i=>k (.exit i) aW| .ret =>k .ret aW
 | .cond c a b,p,st,k=>
   match tw X st.env c with
   | .bool t=>(match t with|true=>sf X L a (2*p) (UB c true st) k|false=>sf X L b (2*p+1) (UB c false st) k)
   |_=>none
 | .block i a,p,st,k=>sf X L a (2*p) st λe aW=>match e with| .normal =>k .normal aW| .exit j=>(match Nat.beq j i with|true=>k .normal aW|false=>k (.exit j) aW)| .ret =>k .ret aW
 | .scope a,p,st,k=>sf X L a (2*p) st k
 | .loop _,p,st,k=>L.loop p st k
 | .rangeFunc _ _ _ _,p,st,k=>L.range p st k
 | .exit i,_,st,k=>k (.exit i) st
 | .ret,_,st,k=>k .ret st
 |_,_,_,_=>none
section
variable {F:Fence} {n:Nat} {P:Program} {b:Frame} {a:Act} {k:List Item} {cs:List Frame} {w:World} {Q:Exit->Act->World->Prop}
def S2:step P (lone (b.atR a (.code (.scope c)::k)) cs w)= .next (lone (b.atR a (.code c:: .inScope c::k)) cs w):=
 step_lone_go (by simp [stepG,stepG.exec,Frame.atR])
def aFV:step P (lone (b.atR a (.inScope c::k)) cs w)= .next (lone (b.atR a k) cs w):=
 step_lone_go (by simp [stepG,stepG.exec,Frame.atR])
def aIt(h:c.wpIn F n P (λe a w=>(∀l,e≠ .goto l)/\Q e a w) a w):(Code.scope c).wpIn F n P Q a w:=by
 intro b k cs nO hb hr;have h0:(lone (b.atR a (.code (.scope c)::k)) cs w).fenced P F:=fenced_calm hb hr rfl;obtain⟨e,a₁,w₁,⟨hg,hq⟩,Xn⟩:=h b (.inScope c::k) cs nO hb hr;cases e with
 |normal=>exact⟨.normal,a₁,w₁,hq,.head h0 S2 (StepsIn.trans Xn (.one (fenced_calm hb hr rfl) aFV))⟩
 |exit id'=>
  have hx:exitTo id' (.inScope c::k)=exitTo id' k:=by simp [exitTo]
  exact⟨.exit id',a₁,w₁,hq,λk' hk=> .head h0 S2 (Xn.1 k' (by rw [hx];exact hk)),
   λxl hk=>let⟨k₁,h1,h2⟩:=Xn.2 xl (by rw [hx];exact hk);⟨k₁,h1,.head h0 S2 h2⟩⟩
 |goto l=>exact absurd rfl (hg l)
 |ret=>exact aeW
 |panic ch=>exact aeW
 |outgrown=>exact aeW
end
def aly{nt:Nt}{rdc:Cy}{F:bC}{ρ:bF}{a:Act}{w:World}{c:Operand}{b:Bool}(h:jh X nt st rdc F ρ a w)(hc:tw X st.env c= .bool b):jh X nt (UB c b st) rdc F ρ a w:=by
 cases c with
 |tmp t=>exact h.refine hc
 |_=>exact h
def alz(c:Operand)(b:Bool)(st:St):(UB c b st).mem =st.mem:=by cases c<;>rfl
def yO(hX:X.Okb){root:Code}{L:nN R}(hL:L.Ok X root):∀(c:Code) {p:Nat} {st:St} {k:Ex->St->Option R} {r:R},At root p c->sf X L c p st k=some r->
 ∃e aW,vT X L.kU.nt c st (Ex.sw e) aW/\k e aW=some r
 | .skip,p,st,k,r,_,h=>⟨.normal,st,λ{rdc n w0 S F ρ a w Q} hI hs hq=>wpIn_skip (hq a w F ρ hI hs (Grow.refl _ _ _)),h⟩
 | .label l,p,st,k,r,_,h=>⟨.normal,st,λ{rdc n w0 S F ρ a w Q} hI hs hq=>wpIn_label (hq a w F ρ hI hs (Grow.refl _ _ _)),h⟩
 | .region id ops draw,p,st,k,r,_,h=>by
   simp only [sf]at h;split at h
   ·obtain⟨aW,h,hr⟩:=alG hX hL.kU (id:=id) (k:=λaW=>k .normal aW) h;exact⟨.normal,aW,hr,h⟩
   ·obtain⟨st1,h,h1⟩:=JX hX _ h;obtain⟨mG,h,hr⟩:=alG hX hL.kU (id:=id) h;obtain⟨H5,h,h3⟩:=JX hX _ h;refine⟨.normal,H5,λ{rdc n w0 S F ρ a w Q} hI hs hq=> ?_,h⟩;obtain⟨F1,ρ1,i1,s1,g1⟩:=h1 (nt:=L.kU.nt) (rdc:=rdc) (a:=a) hI hs;refine hr i1 s1 λa' w' F' ρ' fY dR hg=> ?_;obtain⟨F3,ρ3,i3,s3,g3⟩:=h3 (nt:=L.kU.nt) (rdc:=rdc) (a:=a') fY dR;exact hq a' w' F3 ρ3 i3 s3 ((g1.trans hg).trans g3)
 | .seq x y,p,st,k,r,iq,h=>by
   simp only [sf]at h;have hax:At root (2*p) x:=iq.down false λl hl=>Bh;have h':∃e st1,vT X L.kU.nt x st (Ex.sw e) st1/\(match e with| .normal =>sf X L y (2*p+1) st1 k| .exit i=>k (.exit i) st1| .ret =>k .ret st1)=some r:=by
    unfold as0 at h;split at h
    ·rename_i f hf;exact hL.cut hax hf h
    ·exact yO hX hL x hax h
   obtain⟨e,st1,h1,h⟩:=h';cases e with
   |normal=>
    obtain⟨e,mG,h2,h⟩:=yO hX hL y (iq.down true λl hl=>Bh) h;refine⟨e,mG,λ{rdc n w0 S F ρ a w Q} hI hs hq=>wpIn_seq (h1 hI hs λa' w' F' ρ' fY dR hg=> ?_),h⟩;exact h2 fY dR λIW vt yL ye HU HQ lx=>hq IW vt yL ye HU HQ (hg.trans lx)
   |exit i=>exact⟨.exit i,st1,λ{rdc n w0 S F ρ a w Q} hI hs hq=>wpIn_seq (h1 hI hs λa' w' F' ρ' fY dR hg=>hq a' w' F' ρ' fY dR hg),h⟩
   |ret=>exact⟨.ret,st1,λ{rdc n w0 S F ρ a w Q} hI hs hq=>wpIn_seq (h1 hI hs λa' w' F' ρ' fY dR hg=>hq a' w' F' ρ' fY dR hg),h⟩
 | .cond c x y,p,st,k,r,iq,h=>by
   simp only [sf]at h;split at h
   ·rename_i t ht;have X9:∀{w0:World} {S:Sc} {F:bC} {ρ:bF} {a:Act} {w:World} {rdc:Cy},Inv X w0 S F ρ st.mem w->jh X L.kU.nt st rdc F ρ a w->a.eval c= .bool t:=by
     intro w0 S F ρ a w rdc hI hs;have:=GX hI hs.env c;rw [ht]at this;generalize a.eval c=v at this;cases this;rfl
    split at h
    ·obtain⟨e,st1,h1,h⟩:=yO hX hL x (iq.down false λl hl=>Bh) h;exact⟨e,st1,λ{rdc n w0 S F ρ a w Q} hI hs hq=>wpIn_cond_true (X9 hI hs) (h1 (by rw [alz];exact hI) (aly hs ht) hq),h⟩
    ·obtain⟨e,st1,h1,h⟩:=yO hX hL y (iq.down true λl hl=>Bh) h;exact⟨e,st1,λ{rdc n w0 S F ρ a w Q} hI hs hq=>wpIn_cond_false (X9 hI hs) (h1 (by rw [alz];exact hI) (aly hs ht) hq),h⟩
   ·exact aM
 | .block i x,p,st,k,r,iq,h=>by
   simp only [sf]at h;obtain⟨e,st1,h1,h⟩:=yO hX hL x (iq.down false λl hl=>Bh) h;cases e with
   |normal=>exact⟨.normal,st1,λ{rdc n w0 S F ρ a w Q} hI hs hq=>TR (h1 hI hs λa' w' F' ρ' fY dR hg=>hq a' w' F' ρ' fY dR hg),h⟩
   |exit j=>
    simp only at h;split at h
    ·rename_i hj;have hj:j=i:=fk hj;refine⟨.normal,st1,λ{rdc n w0 S F ρ a w Q} hI hs hq=>TR (h1 hI hs λa' w' F' ρ' fY dR hg=> ?_),h⟩;simp only [Ex.sw,Exit.inBlock,hj,uY];exact hq a' w' F' ρ' fY dR hg
    ·rename_i hj;have hj:j≠i:=λe=>by subst e;simp at hj
     refine⟨.exit j,st1,λ{rdc n w0 S F ρ a w Q} hI hs hq=>TR (h1 hI hs λa' w' F' ρ' fY dR hg=> ?_),h⟩;simp only [Ex.sw,Exit.inBlock,if_neg hj];exact hq a' w' F' ρ' fY dR hg
   |ret=>exact⟨.ret,st1,λ{rdc n w0 S F ρ a w Q} hI hs hq=>TR (h1 hI hs λa' w' F' ρ' fY dR hg=>hq a' w' F' ρ' fY dR hg),h⟩
 | .loop c,p,st,k,r,iq,h=>hL.loop iq h
 | .rangeFunc g ps x y,p,st,k,r,iq,h=>hL.range iq h
 | .exit i,p,st,k,r,_,h=>⟨.exit i,st,λ{rdc n w0 S F ρ a w Q} hI hs hq=>wpIn_exit (hq a w F ρ hI hs (Grow.refl _ _ _)),h⟩
 | .ret,p,st,k,r,_,h=>⟨.ret,st,λ{rdc n w0 S F ρ a w Q} hI hs hq=>wpIn_ret (hq a w F ρ hI hs (Grow.refl _ _ _)),h⟩
 | .scope x,p,st,k,r,iq,h=>by
   simp only [sf]at h;obtain⟨e,st1,h1,h⟩:=yO hX hL x (iq.down false λl hl=>Bh) h;exact⟨e,st1,λ{rdc n w0 S F ρ a w Q} hI hs hq=>aIt (h1 hI hs λa' w' F' ρ' fY dR hg=>⟨λl=>by cases e<;>simp [Ex.sw],hq a' w' F' ρ' fY dR hg⟩),h⟩
 | .goto _,_,_,_,_,_,h=>by simp [sf]at h
 | .refuse _,_,_,_,_,_,h=>by simp [sf]at h
end
end Go.ah
namespace Go.ah
def apG{p:Prop}(h:p:=by simp [Instr.sureAddr,iB,stuck,Sem.run,Result.andThen]at h1):p:=h
end Go.ah
namespace Go.ah
open Go
noncomputable section
variable {X:Cx} {R:Type}
variable{k:AV->aL->Option R}{c:Code}{fn:Func}{f:FuncId}{rs:List ResultVar}{r:R}{st:St}{args:aq}{M:aL}
def pq:Hd:=⟨.nilFunc,0⟩
def aIC{Mc:aL}{bx:dy}{m:Nat}:eR bx M (merge m M bx Mc):=
 ⟨by rw [ale];omega,λid bf hn=>by unfold merge;rw [kV (by rw [JN];exact bf),Ua bx _ M hn]⟩
def wT:Nat->aq->cf
 |_,[]=>[]
 |i,x::xs=>(i,x)::wT (i+1) xs
def abT:∀(xs:aq) (i t:Nat),look (wT i xs) t=if i<=t then(xs[t- i]?).getD .top else .top
 | [],i,t=>by simp [wT,ug,look_nil]
 |x::xs,i,t=>by
  simp only [wT,ug,look_nil]
  by_cases ht:t=i
  ·subst ht;simp
  ·have:(t==i)=false:=by simpa using ht
   simp only [this,oW,sj];rw [abT xs (i+1) t]
   by_cases h:i<=t
   ·rw [if_pos (by omega),if_pos h,show t- i=(t-(i+1))+1 by omega];simp
   ·rw [if_neg (by omega),if_neg h]
def Hf(X:Cx)(rv:ResultVar)(st:St)(k:AV->Option R):Option R:=
 match rv with
 | .tmp t=>k (look st.env t)
 | .cell a t=>wS X t (look st.env a) st.mem k
def Wh(X:Cx)(rs:List ResultVar)(st:St)(k:AV->aL->Option R):Option R:=
 match rs with
 | []=>k (.gw []) st.mem
 | [a]=>Hf X a st λx=>k x st.mem
 | [a,b]=>Hf X a st λx=>Hf X b st λy=>k (.gw [x,y]) st.mem
 | [a,b,c]=>Hf X a st λx=>Hf X b st λy=>Hf X c st λz=>k (.gw [x,y,z]) st.mem
 |_=>none
def agV(tmps:Array Value):ResultVar->Sem Value
 | .tmp t=>pure (tmps.getD t undef)
 | .cell a t=>do loadVar t (<-asAddr (tmps.getD a undef))
def JL(hX:X.Okb){rv:ResultVar}{k:AV->Option R}(h:Hf X rv st k=some r):
 ∃x,k x=some r/\∀{nt:Nt} {rdc:Cy} {w0:World} {S:Sc} {F:bC} {ρ:bF} {a:Act} {w:World},Inv X w0 S F ρ st.mem w->jh X nt st rdc F ρ a w->∃v,(agV a.tmps rv).run X.P w= .ok v w/\aR X.K ρ F w x v:=by
 cases rv with
 |tmp t=>exact⟨_,h,λ{nt rdc w0 S F ρ a w} hI hs=>⟨_,rfl,hs.env t⟩⟩
 |cell a t=>
  obtain⟨x,h,hd⟩:=alj hX h;refine⟨x,h,λ{nt rdc w0 S F ρ act w} hI hs=> ?_⟩;obtain⟨v,h1,h2⟩:=hd hI (hs.env a);refine⟨v,?_,h2⟩;unfold Instr.loadAt at h1;simp only [agV];generalize act.tmps.getD a undef=p at h1;cases p with
  |pointer o=>
   cases o with
   |some ad=>exact h1
   |none=>exact apG
  |_=>exact apG
def aIJ(hX:X.Okb)(wy:fn.results.toList=rs)(h:Wh X rs st k=some r):
 ∃x,k x st.mem=some r/\∀{nt:Nt} {rdc:Cy} {w0:World} {S:Sc} {F:bC} {ρ:bF} {a:Act} {w:World},Inv X w0 S F ρ st.mem w->jh X nt st rdc F ρ a w->∃v,(results fn a.tmps).run X.P w= .ok v w/\aR X.K ρ F w x v:=by
 have Dn:∀tmps,results fn tmps=(do let vs<-fn.results.mapM (agV tmps);pure (if h:vs.size=1 then vs[0]else .tuple vs)):=by
  intro tmps;unfold results
  congr 1
 have Xf:fn.results=rs.toArray:=by rw [<-wy]
 unfold Wh at h;split at h
 ·exact⟨_,h,λ{nt rdc w0 S F ρ a w} hI hs=>⟨.tuple #[],by rw [Dn,Xf];simp [iB],.gw [] [] rfl (λj x v h _=>jY)⟩⟩
 ·rename_i a;obtain⟨x,h,hd⟩:=JL hX h;refine⟨x,h,λ{nt rdc w0 S F ρ act w} hI hs=> ?_⟩;obtain⟨v,h1,h2⟩:=hd hI hs;exact⟨v,by rw [Dn,Xf];simp [iB,h1],h2⟩
 ·rename_i a b;obtain⟨x,h,hd⟩:=JL hX h;obtain⟨y,h,qH⟩:=JL hX h;refine⟨_,h,λ{nt rdc w0 S F ρ act w} hI hs=> ?_⟩;obtain⟨v,h1,h2⟩:=hd hI hs;obtain⟨v2,h3,h4⟩:=qH hI hs;refine⟨.tuple #[v,v2],by rw [Dn,Xf];simp [iB,h1,h3],.gw [x,y] [v,v2] rfl (λj z u hz hu=> ?_)⟩
  match j with
  |0=>simp at hz hu;subst hz;subst hu;exact h2
  |1=>simp at hz hu;subst hz;subst hu;exact h4
  |j+2=>simp at hz
 ·rename_i a b c;obtain⟨x,h,hd⟩:=JL hX h;obtain⟨y,h,qH⟩:=JL hX h;obtain⟨z,h,hd3⟩:=JL hX h;refine⟨_,h,λ{nt rdc w0 S F ρ act w} hI hs=> ?_⟩;obtain⟨v,h1,h2⟩:=hd hI hs;obtain⟨v2,h3,h4⟩:=qH hI hs;obtain⟨v3,h5,h6⟩:=hd3 hI hs;refine⟨.tuple #[v,v2,v3],by rw [Dn,Xf];simp [iB,h1,h3,h5],.gw [x,y,z] [v,v2,v3] rfl (λj q u hz hu=> ?_)⟩
  match j with
  |0=>simp at hz hu;subst hz;subst hu;exact h2
  |1=>simp at hz hu;subst hz;subst hu;exact h4
  |2=>simp at hz hu;subst hz;subst hu;exact h6
  |j+3=>simp at hz
 ·cases h
def Wj(X:Cx)(rs:List ResultVar)(k:AV->aL->Option R)(e:Ex)(st:St):Option R:=
 match e with
 | .exit _=>none
 |_=>match st.px with| []=>Wh X rs st k|_=>none
def Qa(X:Cx)(L:nN R)(c:Code)(rs:List ResultVar)(args:aq)(M:aL)(k:AV->aL->Option R):Option R:=
 a8 (Nat.ble args.length L.kU.nt.n) (sf X L c 1 ⟨wT 0 args,M,[],.out⟩ (Wj X rs k))
def Grow.less{F0 F:bC}{ρ ρ':bF}{wb w:World}(g:Grow F0 F ρ ρ' wb w){D:Nat}(hD:∀a,F0 a->a.block≠D)(o:Obj):Grow F0 (less F D) ρ ρ' wb (w.putObj D o):=
 ⟨λa ha=>⟨g.hF a ha,hD a ha⟩,g.gP,λa ha=>by rw [sk (hD a ha)];exact g.hb a ha⟩
def alg{fn:Func}{tmps:Array Value}{M:aL}{env:cf}{w0 wb:World}{S:Sc}{F0:bC}{ρ ρ':bF}{x:AV}(sJ:∀a,S.F0 a->F0 a)
 (Dn:∀{F:bC} {w:World},Inv X w0 S F ρ' M w->mA X ρ' F w env tmps->∃v,(results fn tmps).run X.P w= .ok v w/\aR X.K ρ' F w x v):
 ∀(ms:dy) {F:bC} {w:World},Inv X w0 S F ρ' M w->mA X ρ' F w env tmps->ms.Nodup->(∀D∈ms,(∀a,F0 a->a.block≠D)/\F ⟨D,0,none⟩/\w.heap[D]?=some (.deferred (some [])))->Grow F0 F ρ ρ' wb w->
  LeavesInM Fence.wide 0 X.P fn tmps (λe w'=>∃v ρ' F',e= .returned v/\Inv X w0 S F' ρ' M w'/\Grow F0 F' ρ ρ' wb w'/\aR X.K ρ' F' w' x v) (ms.map λD=>({target:= .collected D,args:= #[]}:Deferred)) .returning w
 | [],F,w,hI,hE,_,_,hg=>by
   obtain⟨v,h1,h2⟩:=Dn hI hE;exact⟨v,h1,v,ρ',F,rfl,hI,hg,h2⟩
 |D::ms,F,w,hI,hE,uP,QV,hg=>by
  obtain⟨h1,h2,h3⟩:=QV D (by simp);have hc:=aBW h3;refine⟨by simp,.inl ⟨D,_,rfl,run_takeDeferred h3,alg sJ Dn ms (hI.Tq h2 hc (λa ha=>h1 a (sJ a ha)) _) (hE.less hc _) (Cq.1 uP).2 (λD' hD'=> ?_) (hg.less h1 _)⟩⟩;have fv:D'≠D:=by rintro rfl;exact(Cq.1 uP).1 hD'
  obtain⟨k1,k2,k3⟩:=QV D' (by simp [hD']);exact⟨k1,⟨k2,fv⟩,by rw [sk fv];exact k3⟩
def aJ2(hX:X.Okb){nt:Nt}(hf:X.P.funcs[f]?=some fn)(hb:fn.body=some c)(hn:fn.ntmps=nt.n)
 (hc:∀(vs:Array Value) (w:World),(callFunc f vs).run X.P w= .ok (.enter f vs) w)  (wy:fn.results.toList=rs)    
 (hle:args.length<=nt.n) {e:Ex} {aW:St} (eG:vT X nt c ⟨wT 0 args,M,[],.out⟩ (Ex.sw e) aW) (h:Wj X rs k e aW=some r):
 ∃x M',ya X f args M x M'/\k x M'=some r:=by
 have he:e≠ .normal ->e= .ret :=by
  intro fv;cases e with
  |normal=>exact absurd rfl fv
  |ret=>rfl
  |exit i=>simp [Wj]at h
 have P5:(match aW.px with| []=>Wh X rs aW k|_=>none)=some r:=by
  cases e with
  |normal=>exact h
  |ret=>exact h
  |exit i=>simp [Wj]at h
 split at P5
 ·rename_i avX;obtain⟨x,hk,Dn⟩:=aIJ hX wy P5;refine⟨x,aW.mem,⟨hc,λ{w0 S F ρ w vs} hI hr=> ?_⟩,hk⟩;refine(ac3 (n:=0)).1 (callsIn_of_wp_marks hf hb trivial ?_);have hlen:=hr.1;have:=eG (rdc:=⟨none,F,λt=>(vs.toArray++Array.replicate (fn.ntmps- vs.toArray.size) undef).getD t undef⟩) (n:=0) (Q:=bodyPostM Fence.wide 0 X.P fn (λe w'=>∃v ρ' F',e= .returned v/\Inv X w0 S F' ρ' aW.mem w'/\Grow F F' ρ ρ' w w'/\aR X.K ρ' F' w' x v))
   (a:={tmps:=vs.toArray++Array.replicate (fn.ntmps- vs.toArray.size) undef,defers:=[]}) hI ⟨λt=> ?_,?_,Marks.nil _ _ (λ_ h=>h),.inl rfl,λt _=>rfl⟩ ?_
  ·exact iK
  ·rw [abT,if_pos (qR _)];cases hx:args[t- 0]? with
   |none=>exact .top _
   |some y=>
    have ht:t<vs.length:=O1;have hv:(vs.toArray++Array.replicate (fn.ntmps- vs.toArray.size) undef).getD t undef=vs[t]:=by
     rw [vQ,N9 (OQ)];simp [ht]
    rw [hv];exact hr.2 t y _ (Kv) (c8 ht)
  ·simp only [Array.size_append,J7,Array.size_replicate,hlen,hn];omega
  ·intro a' w' F' ρ' fY dR hg;have hd:Marks F' w' F a'.defers:=by have:=dR.defs;rw [avX]at this;exact this
   obtain⟨_,ms,aY2,aY1,aY0⟩:=hd;have arj:LeavesInM Fence.wide 0 X.P fn a'.tmps (λe w'=>∃v ρ' F',e= .returned v/\Inv X w0 S F' ρ' aW.mem w'/\Grow F F' ρ ρ' w w'/\aR X.K ρ' F' w' x v) a'.defers .returning w':=by
    rw [aY2];exact alg (env:=aW.env) hI.fin (λ{F2 w2} i2 e2=>Dn (rdc:=⟨none,λ_=>False,λt=>a'.tmps.getD t undef⟩) (a:={tmps:=a'.tmps,defers:=[]}) i2 ⟨e2,dR.size,by rw [avX];exact Marks.nil _ _ (λ_ h=>h.elim),.inl rfl,λt _=>rfl⟩) ms fY dR.env aY1 aY0 hg
   by_cases fv:e= .normal
   ·subst fv;exact arj
   ·rw [he fv];exact arj
 ·cases P5
def ack(hX:X.Okb){L:nN R}(hL:L.Ok X c)(hf:X.P.funcs[f]?=some fn)(hb:fn.body=some c)(hn:fn.ntmps=L.kU.nt.n)
 (hc:∀(vs:Array Value) (w:World),(callFunc f vs).run X.P w= .ok (.enter f vs) w)  (wy:fn.results.toList=rs)     (h:Qa X L c rs args M k=some r):
 ∃x M',ya X f args M x M'/\k x M'=some r:=by
 unfold Qa at h;replace h:=cP h;obtain⟨hle,h⟩:=h;obtain⟨e,aW,eG,h⟩:=yO hX hL c (At.root c) h;exact aJ2 hX hf hb hn hc wy (yR hle) eG h
end
end Go.ah
namespace Go.ah
def V6{p:Prop}(h:p:=by
 have ju:=hs.grow g1;obtain⟨F2,ρ2,i2,s2,g2⟩:=hr (nt:=nt) (rdc:=rdc) (a:=a) i1 ⟨ju.env,ju.size,ju.defs,ju.rd,ju.kept⟩;exact⟨F2,ρ2,i2,s2,g1.trans g2⟩):p:=h
def afE{p:Prop}(h:p:=by
 rw [zX]at fw;split at fw
 ·rename_i ej;subst ej;split at fw
  ·injection fw with fw;subst fw;rw [hk]at k7;injection k7 with k7;subst k7;rfl
  ·cases fw
 ·exact wN q1 k7 fw):p:=h
def asg{p:Prop}(h:p:=by
 have ju:=hs.grow g1;obtain⟨F2,ρ2,i2,s2,g2⟩:=hr (nt:=nt) (rdc:=rdc) (a:=a) i1 ⟨ju.env.over r1,ju.size,ju.defs,ju.rd,ju.kept⟩;exact⟨F2,ρ2,i2,s2,g1.trans g2⟩):p:=h
def Af{p:Prop}(h:p:=by exact wK hX cs h):p:=h
def Vs{p:Prop}(h:p:=by rw [hI.len];exact(dX.1 hb).1):p:=h
def aeK{p:Prop}(h:p:=by simp only [H3,eH.rows];rw [eq_of_beq h]):p:=h
def aeH{p:Prop}(h:p:=by simpa using lQ q1):p:=h
def apP{p:Prop}(h:p:=by
 rw [bA]at h;simp only [Dv];rw [aNl h.2,fk h.1]):p:=h
def U8{p:Prop}(h:p:=by simp [Bx]at h):p:=h
def U7{p:Prop}(h:p:=by simp [Fh]at h):p:=h
def U3{p:Prop}(h:p:=by simp [Ii]at h):p:=h
def Kp{p:Prop}(h:p:=by rw [fk h]):p:=h
end Go.ah
namespace Go.ah
def acO:=@List.headD_cons
def acN:=@List.tail_cons
end Go.ah
namespace Go.ah
open Go
noncomputable section
variable {X:Cx} {R O:Type}
variable{x:AV}{tmps:Array Value}{S:Sc}{st:St}{w w0:World}{F:bC}{bx:dy}{ρ:bF}
inductive dV where
 |cell(k:Kind)
 |ak(j:Nat)
 |ptr(j i off:Nat)
 |lM(j:Nat)
 |mpr(j:Nat)
 |oI
 |oE
 |fn(f:FuncId)
 |cl(f:FuncId)(ps:List (Nat×Nat×Nat))
 |Rf(f:FuncId)(ps:List (Nat×Nat×Nat))
 |vw(j:Nat)
 |jX
 |oh
 |any
inductive Sh where
 |one(s:dV)
 |agg(ss:List dV)
 |gM(f:FuncId)(ss:List dV)
inductive fu where
 |row(t:TypeId)
 |fx(t:TypeId)
 |var(ks:fh)(ss:List dV)
 |arr(ks:fh)
 |mp(k:Kind)(ag:Bool)(ks:fh)
 |loop(s:Nat)(es:List (Nat×Sh))(Dl:Option Ex)
 |gone
 |bD(t:TypeId)
def AV.iP:AV->List AV| .gM _ _ cs=>cs|_=>[]
def AV.aNS:AV->List AV| .gM _ fs _=>fs|_=>[]
def AV.id:AV->Nat| .ak id=>id| .ptr id _ _=>id| .lM id=>id| .mp id=>id| .vw id _ _=>id|_=>0
def eH.rows:eH->List Row| .row _ xs=>xs| .fx _ xs=>xs| .bD _ xs _=>xs|_=>[]
def eH.cells:eH->List AV| .var _ cs=>cs|_=>[]
def eH.aJ:eH->List (AV×AV)| .map _ _ _ es=>es|_=>[]
def eH.ag4:eH->List (Nat×AV)| .loop _ env _ _=>env|_=>[]
def Dv:dV->AV->AV
 | .cell k,x=>ld k x
 | .ak j,_=> .ak j
 | .ptr j i off,_=> .ptr j i off
 | .lM j,_=> .lM j
 | .mpr j,_=> .mp j
 | .oI,_=> .oI
 | .oE,_=> .oE
 | .fn f,_=> .gM f [] []
 | .cl f ps,_=> .gM f [] (ps.map λp=> .ptr p.1 p.2.1 p.2.2)
 | .Rf f ps,_=> .gM f (ps.map λp=> .ptr p.1 p.2.1 p.2.2) []
 | .vw j,x=> .vw j x.vlo x.vn
 | .jX,_=> .jX
 | .oh,_=> .oh
 | .any,x=>x
def Ih:List (Nat×Nat×Nat)->aq->Bool
 | [],[]=>true
 |p::ps,.ptr j i off::cs=>Nat.beq j p.1&&Nat.beq i p.2.1&&Nat.beq off p.2.2&&Ih ps cs
 |_,_=>false
def aNl:∀{ps:List (Nat×Nat×Nat)} {cs:aq},Ih ps cs=true->(ps.map λp=>AV.ptr p.1 p.2.1 p.2.2)=cs:=by
 intro ps cs h
 induction ps generalizing cs with
 |nil=>
  cases cs with
  |nil=>rfl
  |cons _ _=>simp [Ih]at h
 |cons p ps ih=>
  cases cs with
  |nil=>simp [Ih]at h
  |cons c cs=>
   cases c<;>simp only [Ih,oW]at h
   rw [bA,bA,bA]at h;rw [my,ih h.2,fk h.1.1.1,fk h.1.1.2,fk h.1.2]
def XK:dV->AV->Bool
 | .cell k,x=>js k x
 | .ak j,.ak i=>Nat.beq i j
 | .ptr j i off,.ptr j' i' Dm=>Nat.beq j' j&&Nat.beq i' i&&Nat.beq Dm off
 | .lM j,.lM i=>Nat.beq i j
 | .mpr j,.mp i=>Nat.beq i j
 | .oI,.oI =>true
 | .oE,.oE =>true
 | .fn f,.gM g [] []=>Nat.beq g f
 | .cl f ps,.gM g [] cs=>Nat.beq g f&&Ih ps cs
 | .Rf f ps,.gM g cs []=>Nat.beq g f&&Ih ps cs
 | .vw j,.vw i _ _=>Nat.beq i j
 | .jX,.jX =>true
 | .oh,.oh =>true
 | .any,_=>true
 |_,_=>false
def UK{s:dV}(h:XK s x=true):Dv s x=x:=by
 unfold XK at h;split at h
 ·exact GD h
 ·rw [fk h];rfl
 ·rw [bA,bA]at h;rw [fk h.1.1,fk h.1.2,fk h.2];rfl
 ·rw [fk h];rfl
 ·rw [fk h];rfl
 ·rfl
 ·rfl
 ·rw [fk h];rfl
 ·exact apP
 ·exact apP
 ·simp only [Dv,AV.vlo,AV.vn];rw [fk h]
 ·rfl
 ·rfl
 ·rfl
 ·exact aM
def K8:List dV->aq->aq
 | [],_=>[]
 |s::ss,xs=>Dv s (xs.headD .top)::K8 ss xs.tail
def Bx:List dV->aq->Bool
 | [],[]=>true
 |s::ss,x::xs=>XK s x&&Bx ss xs
 |_,_=>false
def Uh:∀{ss:List dV} {xs:aq},Bx ss xs=true->K8 ss xs=xs
 | [],[],_=>rfl
 |s::ss,x::xs,h=>by
  simp only [Bx,bA]at h;simp only [K8,acO,acN];rw [UK h.1,Uh h.2]
 | [],_::_,h=>U8
 |_::_,[],h=>U8
def Qe:Sh->AV->AV
 | .one s,x=>Dv s x
 | .agg ss,x=> .agg (K8 ss x.cells)
 | .gM f ss,x=> .gM f [] (K8 ss x.iP)
def LB:Sh->AV->Bool
 | .one s,x=>XK s x
 | .agg ss,.agg cs=>Bx ss cs
 | .gM f ss,.gM g [] cs=>Nat.beq g f&&Bx ss cs
 |_,_=>false
def adY{s:Sh}(h:LB s x=true):Qe s x=x:=by
 unfold LB at h;split at h
 ·exact UK h
 ·simp only [Qe,AV.cells];rw [Uh h]
 ·rw [bA]at h;simp only [Qe,AV.iP];rw [Uh h.2,fk h.1]
 ·exact aM
def Wo:List (Nat×Sh)->cf->cf
 | [],_=>[]
 |e::es,env=>(e.1,Qe e.2 (env.headD (0,.top)).2)::Wo es env.tail
def Fh:List (Nat×Sh)->cf->Bool
 | [],[]=>true
 |e::es,x::env=>Nat.beq x.1 e.1&&LB e.2 x.2&&Fh es env
 |_,_=>false
def anG:∀{es:List (Nat×Sh)} {env:cf},Fh es env=true->Wo es env=env
 | [],[],_=>rfl
 |e::es,x::env,h=>by
  simp only [Fh,bA]at h;simp only [Wo,acO,acN];rw [adY h.1.2,anG h.2,<-fk h.1.1]
 | [],_::_,h=>U7
 |_::_,[],h=>U7
def okX:Option Ex->Option Ex->Bool
 |none,none=>true
 |some .ret,some .ret =>true
 |some (.exit i),some (.exit j)=>Nat.beq i j
 |_,_=>false
def aoJ{a b:Option Ex}(h:okX a b=true):a=b:=by
 unfold okX at h;split at h
 ·rfl
 ·rfl
 ·exact Kp
 ·exact aM
def H3:fu->eH->eH
 | .row t,b=> .row t b.rows
 | .fx t,b=> .fx t b.rows
 | .var ks ss,b=> .var ks (K8 ss b.cells)
 | .arr ks,b=> .var ks b.cells
 | .mp k ag ks,b=> .map k ag ks b.aJ
 | .loop s es p,b=> .loop s (Wo es b.ag4) false p
 | .gone,_=> .dead
 | .bD t,b=> .bD t b.rows none
def okB:fu->eH->Bool
 | .row t,.row t' _=>t'==t
 | .fx t,.fx t' _=>t'==t
 | .var ks ss,.var DI cs=>DI==ks&&Bx ss cs
 | .arr ks,.var DI _=>DI==ks
 | .mp k ag ks,.map k' ag' DI _=>k'==k&&ag'==ag&&DI==ks
 | .loop s es p,.loop s' env false p'=>Nat.beq s' s&&Fh es env&&okX p' p
 | .gone,.dead =>true
 | .bD t,.bD t' _ none=>t'==t
 |_,_=>false
def aMS{s:fu}{b:eH}(h:okB s b=true):H3 s b=b:=by
 unfold okB at h;split at h
 ·exact aeK
 ·exact aeK
 ·rw [bA]at h;simp only [H3,eH.cells];rw [Uh h.2,eq_of_beq h.1]
 ·simp only [H3,eH.cells];rw [eq_of_beq h]
 ·rw [bA,bA]at h;simp only [H3,eH.aJ];rw [eq_of_beq h.1.1,eq_of_beq h.1.2,eq_of_beq h.2]
 ·rw [bA,bA]at h;simp only [H3,eH.ag4];rw [anG h.1.2,fk h.1.1,aoJ h.2]
 ·rfl
 ·exact aeK
 ·exact aM
def Xx:List fu->aL->aL
 | [],_=>[]
 |s::ss,M=>H3 s (M.headD .dead)::Xx ss M.tail
def Ii:List fu->aL->Bool
 | [],[]=>true
 |s::ss,b::M=>okB s b&&Ii ss M
 |_,_=>false
def adZ:∀{ss:List fu} {M:aL},Ii ss M=true->Xx ss M=M
 | [],[],_=>rfl
 |s::ss,x::xs,h=>by
  simp only [Ii,bA]at h;simp only [Xx,acO,acN];rw [aMS h.1,adZ h.2]
 | [],_::_,h=>U3
 |_::_,[],h=>U3
structure af where
 env:List (Nat×Sh)
 mem:List fu
variable{σ:af}
def H2(lk:Nat->AV):List (Nat×Sh)->cf
 | []=>[]
 |(t,s)::es=>(t,Qe s (lk t))::H2 lk es
def LC(lk:Nat->AV):List (Nat×Sh)->Bool
 | []=>true
 |(t,s)::es=>LB s (lk t)&&LC lk es
def awm(σ:af)(lk:Nat->AV)(M:aL):St:=⟨H2 lk σ.env,Xx σ.mem M,[],.yr⟩
def amM{lk:Nat->AV}:∀{es:List (Nat×Sh)},LC lk es=true->∀t,look (H2 lk es) t=lk t∨look (H2 lk es) t= .top
 | [],_,t=> .inr rfl
 |(u,s)::es,h,t=>by
  simp only [LC,bA]at h;simp only [H2,ug,look_nil]
  by_cases ht:t=u
  ·subst ht;simp only [TQ,uY];rw [adY h.1];exact .inl rfl
  ·have:(t==u)=false:=by simpa using ht
   simp only [this,oW,sj];exact amM h.2 t
def KC(σ:af)(bx:dy)(st:St):St:=awm σ (λt=>iR (idx bx) 4 (look st.env t)) (ux st.mem bx)
def A9(σ:af)(bx:dy)(st:St):Bool:=Ac st.mem bx&&LC (λt=>iR (idx bx) 4 (look st.env t)) σ.env&&Ii σ.mem (ux st.mem bx)
def Tm(h:A9 σ bx st=true):Ac st.mem bx=true/\(KC σ bx st).mem =ux st.mem bx/\
 ∀t,look (KC σ bx st).env t=iR (idx bx) 4 (look st.env t)∨look (KC σ bx st).env t= .top :=by
 unfold A9 at h;rw [bA,bA]at h;exact⟨h.1.1,adZ h.2,amM h.1.2⟩
def acF(hX:X.Ok)(h:A9 σ bx st=true)(hI:Inv X w0 S F ρ st.mem w)(he:mA X ρ F w st.env tmps):mA X (sub pq ρ bx) F w (KC σ bx st).env tmps:=by
 obtain⟨h1,h2,h3⟩:=Tm h;have hs:=aml h1;have bI:∀i∈bx,i<ρ.length:=λi hi=>by rw [hI.len];exact hs.lt i hi
 intro t;rcases h3 t with e|e
 ·rw [e];exact(he t).iR hX.kinds (adO bI pq) 4
 ·rw [e];exact .top _
inductive Cv where
 |j5(t:Nat)(k:Kind)
 |mk(t:Nat)(ty:TypeId)
 |yw(i:cf->aL->Nat)(c:Nat)(ty:TypeId)
 |rn(i:cf->aL->Nat)(c:Nat)(ty:TypeId)
 |Xo(i:cf->aL->Nat)(t:TypeId)
 |kO(t:Nat)(ks:fh)
 |mov(t:Nat)
 |wg(i:cf->aL->Nat)(c:Nat)(ty:TypeId)
 |gh(g:Gh)
def lZ(X:Cx):List Cv->St->(St->Option R)->Option R
 | [],st,k=>k st
 | .j5 t kd::cs,st,k=>j5 kd (look st.env t) st.mem λx M=>lZ X cs {st with env:=(t,x)::st.env,mem:=M} k
 | .mk t ty::cs,st,k=>
   match look st.env t with
   | .jX =>lZ X cs {st with env:=(t,.ak st.mem.length)::st.env,mem:=st.mem++[.row ty []]} k
   |_=>lZ X cs st k
 | .yw i c ty::cs,st,k=>
   match gm st.mem (i st.env st.mem)with
   |some (.var ks xs)=>
    match xs[c]?,ks[c]? with
    |some .jX,some .any =>lZ X cs {st with mem:=(st.mem++[eH.row ty []]).set (i st.env st.mem) (.var ks (xs.set c (.ak st.mem.length)))} k
    |_,_=>lZ X cs st k
   |_=>lZ X cs st k
 | .rn i c ty::cs,st,k=>
   match gm st.mem (i st.env st.mem)with
   |some (.var ks xs)=>
    match xs[c]?,ks[c]? with
    |some .jX,some .any =>lZ X cs {st with mem:=st.mem.set (i st.env st.mem) (.var ks (xs.set c (.aj ty [])))} k
    |_,_=>lZ X cs st k
   |_=>lZ X cs st k
 | .kO t ks::cs,st,k=>
   match look st.env t with
   | .agg xs=>a8 (Nat.beq xs.length ks.length) (BI ks xs st.mem λys M=>lZ X cs {st with env:=(t,.agg ys)::st.env,mem:=M} k)
   |_=>lZ X cs st k
 | .gh g::cs,st,k=>Pu X g st.env st.mem λM=>lZ X cs {st with mem:=M} k
 | .Xo i t::cs,st,k=>j5 (.slice t) (.ak (i st.env st.mem)) st.mem λ_ M=>lZ X cs {st with mem:=M} k
 | .mov t::cs,st,k=>
   match look st.env t with
   | .ak id=>
     match gm st.mem id with
     |some (.row ty xs)=>lZ X cs {st with env:=(t,.ak st.mem.length)::st.env,mem:=st.mem.set id .dead ++[.row ty xs]} k
     |_=>lZ X cs st k
   |_=>lZ X cs st k
 | .wg i c ty::cs,st,k=>
   match gm st.mem (i st.env st.mem)with
   |some (.var ks xs)=>
    match xs[c]?,ks[c]? with
    |some (.ak id),some .any =>
     match gm st.mem id with
     |some (.row t rs)=>a8 (ty==t) (lZ X cs {st with mem:=(st.mem.set id (.fx t rs)).set (i st.env st.mem) (.var ks (xs.set c (.aj t rs)))} k)
     |some (.fx t rs)=>a8 (ty==t) (lZ X cs {st with mem:=st.mem.set (i st.env st.mem) (.var ks (xs.set c (.aj t rs)))} k)
     |_=>lZ X cs st k
    |_,_=>lZ X cs st k
   |_=>lZ X cs st k
def mA.over{env:cf}(h:mA X ρ F w env tmps){d:Nat}(hx:aR X.K ρ F w x (tmps.getD d undef)):mA X ρ F w ((d,x)::env) tmps:=by
 intro t;simp only [ug,look_nil]
 by_cases ht:t=d
 ·subst ht;simpa using hx
 ·have:(t==d)=false:=by simpa using ht
  simp only [this,oW,sj];exact h t
def anx{M M1:aL}{i c id:Nat}{ks:fh}{xs:aq}{t:TypeId}{rs:aE}(hI:Inv X w0 S F ρ M w)(hb:M[i]?=some (.var ks xs))(hx:xs[c]?=some (.ak id))(hk:ks[c]?=some .any)(hM:M1[i]?=some (.var ks xs))
 (hf:j5 (.slice t) (.ak id) M (λx M'=>some (x,M'))=some (.aj t rs,M1)):∃F',Inv X w0 S F' ρ (M1.set i (.var ks (xs.set c (.aj t rs)))) w/\Grow F F' ρ ρ w w:=by
 obtain⟨x',M',e,hl,_,hd⟩:=GG (X:=X) hf;injection e with e;injection e with e1 e2;subst e1;subst e2;obtain⟨F1,i1,g1,r1⟩:=hd hI;refine⟨F1,?_,g1⟩;have bI:i<ρ.length:=Vs;have hh:ρ[i]?=some ρ[i]:=c8 bI;obtain⟨p1,p2,g0,aZL,e0,p3,p4,⟨p5,p6⟩,_⟩:=hI.rep _ _ _ hb hh;obtain⟨q1,q2,g,cur,e,q3,q4,⟨q5,q6⟩,q7⟩:=i1.rep _ _ _ hM hh;refine i1.write hM rfl hh (g:=g) (OZ) ⟨rfl,rfl,rfl,gQ _,λ_ _ _=>rfl⟩ ⟨?_,by simpa using q2,g,cur,e,q3,q4,⟨by simpa using q5,λj x v fw hv=> ?_⟩,q7⟩
 ·refine Ov (aeH) λj k x k7 fw=> ?_;exact afE
 ·rw [zX]at fw;split at fw
  ·rename_i ej;subst ej;split at fw
   ·injection fw with fw;subst fw;have eg:g0=g:=by rw [p3]at q3;simpa using q3
    subst eg;have ec:aZL=cur:=by rw [p4]at q4;injection q4 with q4;injection q4
    subst ec;exact r1 v (p6 _ _ v hx hv)
   ·cases fw
  ·exact q6 j x v fw hv
def wK(hX:X.Ok){k:St->Option R}{r:R}:∀(cs:List Cv) {st:St},lZ X cs st k=some r->∃aW,k aW=some r/\aW.px=st.px/\aW.rd=st.rd/\
 ∀{nt:Nt} {rdc:Cy} {w0:World} {S:Sc} {F:bC} {ρ:bF} {a:Act} {w:World},Inv X w0 S F ρ st.mem w->jh X nt st rdc F ρ a w->∃F' ρ',Inv X w0 S F' ρ' aW.mem w/\jh X nt aW rdc F' ρ' a w/\Grow F F' ρ ρ' w w
 | [],st,h=>⟨st,h,rfl,rfl,λ{nt rdc w0 S F ρ a w} hI hs=>⟨F,ρ,hI,hs,Grow.refl _ _ _⟩⟩
 | .j5 t kd::cs,st,h=>by
   simp only [lZ,fF]at h;obtain⟨x,M',h,hl,_,hd⟩:=GG (X:=X) h;obtain⟨aW,h,e1,e2,hr⟩:=wK hX cs h;refine⟨aW,h,e1,e2,λ{nt rdc w0 S F ρ a w} hI hs=> ?_⟩;obtain⟨F1,i1,g1,r1⟩:=hd hI;obtain⟨F2,ρ2,i2,s2,g2⟩:=hr (nt:=nt) (rdc:=rdc) (a:=a) i1 ⟨(hs.env.grow g1).over (r1 _ (hs.env t)),hs.size,(hs.grow g1).defs,(hs.grow g1).rd,hs.kept⟩;exact Vl
 | .kO t ks::cs,st,h=>by
   simp only [lZ,fF]at h;split at h
   ·rename_i xs hx;replace h:=cP h;obtain⟨_,h⟩:=h;obtain⟨ys,M',h,hl,_,hd⟩:=NY (X:=X) _ _ _ h;obtain⟨aW,h,e1,e2,hr⟩:=wK hX cs h;refine⟨aW,h,e1,e2,λ{nt rdc w0 S F ρ a w} hI hs=> ?_⟩;obtain⟨F1,i1,g1,r1⟩:=hd hI;have ju:=hs.grow g1;have hv:=hs.env t;rw [hx]at hv;have nw:aR X.K ρ F1 w (.agg ys) (a.tmps.getD t undef):=by
     generalize a.tmps.getD t undef=v at hv;cases hv with
     |agg _ vs hl hr=>
      have:=r1 vs ⟨hl,hr⟩;exact .agg ys vs this.1 this.2
    obtain⟨F2,ρ2,i2,s2,g2⟩:=hr (nt:=nt) (rdc:=rdc) (a:=a) i1 ⟨ju.env.over nw,ju.size,ju.defs,ju.rd,ju.kept⟩;exact Vl
   ·exact Af
 | .gh g::cs,st,h=>by
   simp only [lZ]at h;obtain⟨M',h,hA⟩:=alK hX.toOkb h;obtain⟨aW,h,e1,e2,hr⟩:=wK hX cs h;refine⟨aW,h,e1,e2,λ{nt rdc w0 S F ρ a w} hI hs=> ?_⟩;obtain⟨F1,ρ1,i1,g1⟩:=hA hI;exact V6
 | .Xo i t::cs,st,h=>by
   simp only [lZ,fF]at h;obtain⟨x,M',h,hl,_,hd⟩:=GG (X:=X) h;obtain⟨aW,h,e1,e2,hr⟩:=wK hX cs h;refine⟨aW,h,e1,e2,λ{nt rdc w0 S F ρ a w} hI hs=> ?_⟩;obtain⟨F1,i1,g1,r1⟩:=hd hI;exact V6
 | .mov t::cs,st,h=>by
   simp only [lZ,fF]at h;split at h
   ·rename_i id hv;split at h
    ·rename_i ty xs hb;obtain⟨aW,h,e1,e2,hr⟩:=wK hX cs h;refine⟨aW,h,e1,e2,λ{nt rdc w0 S F ρ a w} hI hs=> ?_⟩;have bI:id<ρ.length:=Vs;have hh:ρ[id]?=some ρ[id]:=c8 bI;have i0:=hI.rep _ _ _ hb hh;have g1:Grow F F ρ (ρ++[ρ[id]]) w w:=⟨λ_ h=>h,λ_ _ h=>ou h,λ_ _=>rfl⟩;have i1:Inv X w0 S F (ρ++[ρ[id]]) (st.mem.set id .dead ++[.row ty xs]) w:=
      hI.move hb rfl hh (row:=none) ⟨rfl,rfl,rfl,gQ _,λ_ _ _=>rfl⟩ (.inl rfl) (λg hg=>⟨(hI.sep id _ _ g hb rfl hh hg).1,.inl hg⟩) (hI.one _ _ hh) (nx.mono (b:= .row ty xs) g1.gP g1.hF (λ_ _ _ h=>h) (λ_ _=>rfl) i0)
     have r1:aR X.K (ρ++[ρ[id]]) F w (.ak st.mem.length) (a.tmps.getD t undef):=by
      have:=hs.env t;rw [hv]at this;generalize a.tmps.getD t undef=v at this;cases this with
      |ak _ hd h2=>
       rw [hh]at h2;injection h2 with h2;rw [<-h2];exact aR.ak (K:=X.K) _ ρ[id] (ES)
     exact asg
    ·exact Af
   ·exact Af
 | .wg i c ty::cs,st,h=>by
   simp only [lZ,fF]at h;split at h
   ·rename_i ks xs hb;split at h
    ·rename_i id hx hk;split at h
     ·rename_i t rs IB;replace h:=cP h;obtain⟨ht,h⟩:=h;have ht:=eq_of_beq ht;subst ht;obtain⟨aW,h,e1,e2,hr⟩:=wK hX cs h;refine⟨aW,h,e1,e2,λ{nt rdc w0 S F ρ a w} hI hs=> ?_⟩;have fv:id≠i st.env st.mem:=by intro e;subst e;rw [hb]at IB;cases IB
      obtain⟨F1,i1,g1⟩:=anx hI hb hx hk (M1:=st.mem.set id (.fx ty rs)) (id:=id) (t:=ty) (rs:=rs) (by rw [mw fv];exact hb) (by simp [j5,fF,IB,a8]);exact V6
     ·rename_i t rs IB;replace h:=cP h;obtain⟨ht,h⟩:=h;have ht:=eq_of_beq ht;subst ht;obtain⟨aW,h,e1,e2,hr⟩:=wK hX cs h;refine⟨aW,h,e1,e2,λ{nt rdc w0 S F ρ a w} hI hs=> ?_⟩;obtain⟨F1,i1,g1⟩:=anx hI hb hx hk (M1:=st.mem) (id:=id) (t:=ty) (rs:=rs) hb (by simp [j5,fF,IB,a8]);exact V6
     ·exact Af
    ·exact Af
   ·exact Af
 | .mk t ty::cs,st,h=>by
   simp only [lZ,fF]at h;split at h
   ·rename_i hn;obtain⟨aW,h,e1,e2,hr⟩:=wK hX cs h;refine⟨aW,h,e1,e2,λ{nt rdc w0 S F ρ a w} hI hs=> ?_⟩;have hv:a.tmps.getD t undef= .slice none 0 0:=by
     have:=hs.env t;rw [hn]at this;generalize a.tmps.getD t undef=v at this;cases this;rfl
    have i1:Inv X w0 S F (ρ++[⟨.slice none 0 0,(X.K ty).length⟩]) (st.mem++[.row ty []]) w:=hI.EP (hd:=⟨.slice none 0 0,(X.K ty).length⟩) (λg hg=>Vq) rfl
     ⟨rfl,λi row h=>jY,.inl ⟨rfl,rfl⟩⟩
    have g1:Grow F F ρ (ρ++[⟨.slice none 0 0,(X.K ty).length⟩]) w w:=⟨λ_ h=>h,λ_ _ h=>ou h,λ_ _=>rfl⟩;have r1:aR X.K (ρ++[⟨.slice none 0 0,(X.K ty).length⟩]) F w (.ak st.mem.length) (a.tmps.getD t undef):=by
     rw [hv];exact aR.ak (K:=X.K) _ ⟨.slice none 0 0,(X.K ty).length⟩ (ES)
    exact asg
   ·exact Af
 | .rn i c ty::cs,st,h=>by
   simp only [lZ,fF]at h;split at h
   ·rename_i ks xs hb;split at h
    ·rename_i hx hk;obtain⟨aW,h,e1,e2,hr⟩:=wK hX cs h;refine⟨aW,h,e1,e2,λ{nt rdc w0 S F ρ a w} hI hs=> ?_⟩;have bI:i st.env st.mem<ρ.length:=Vs;have hh:ρ[i st.env st.mem]?=some ρ[i st.env st.mem]:=c8 bI;obtain⟨q1,q2,g,cur,e,q3,q4,⟨q5,q6⟩,q7⟩:=hI.rep _ _ _ hb hh;have i2:Inv X w0 S F ρ (st.mem.set (i st.env st.mem) (.var ks (xs.set c (.aj ty [])))) w:=by
      refine hI.write hb rfl hh (g:=g) (OZ) ⟨rfl,rfl,rfl,gQ _,λ_ _ _=>rfl⟩ ⟨?_,by simpa using q2,g,cur,e,q3,q4,⟨by simpa using q5,λj x v fw hv=> ?_⟩,q7⟩
      ·refine Ov (aeH) λj k x k7 fw=> ?_;exact afE
      ·rw [zX]at fw;split at fw
       ·rename_i ej;subst ej;split at fw
        ·injection fw with fw;subst fw;have:=q6 c _ v hx hv;cases this;exact .n7 _
        ·cases fw
       ·exact q6 j x v fw hv
     exact hr (nt:=nt) (rdc:=rdc) (a:=a) i2 ⟨hs.env,hs.size,hs.defs,hs.rd,hs.kept⟩
    ·exact Af
   ·exact Af
 | .yw i c ty::cs,st,h=>by
   simp only [lZ,fF]at h;split at h
   ·rename_i ks xs hb;split at h
    ·rename_i hx hk;obtain⟨aW,h,e1,e2,hr⟩:=wK hX cs h;refine⟨aW,h,e1,e2,λ{nt rdc w0 S F ρ a w} hI hs=> ?_⟩;have i1:Inv X w0 S F (ρ++[⟨.slice none 0 0,(X.K ty).length⟩]) (st.mem++[.row ty []]) w:=hI.EP (hd:=⟨.slice none 0 0,(X.K ty).length⟩) (λg hg=>Vq) rfl
      ⟨rfl,λi row h=>jY,.inl ⟨rfl,rfl⟩⟩
     have g1:Grow F F ρ (ρ++[⟨.slice none 0 0,(X.K ty).length⟩]) w w:=⟨λ_ h=>h,λ_ _ h=>ou h,λ_ _=>rfl⟩;have bI:i st.env st.mem<ρ.length:=Vs;have hh:(ρ++[(⟨.slice none 0 0,(X.K ty).length⟩:Hd)])[i st.env st.mem]?=some ρ[i st.env st.mem]:=ou (c8 bI);have zN:(st.mem++[eH.row ty []])[i st.env st.mem]?=some (.var ks xs):=ou hb;obtain⟨q1,q2,g,cur,e,q3,q4,⟨q5,q6⟩,q7⟩:=i1.rep _ _ _ zN hh;have i2:Inv X w0 S F (ρ++[⟨.slice none 0 0,(X.K ty).length⟩]) ((st.mem++[eH.row ty []]).set (i st.env st.mem) (.var ks (xs.set c (.ak st.mem.length)))) w:=by
      refine i1.write zN rfl hh (g:=g) (OZ) ⟨rfl,rfl,rfl,gQ _,λ_ _ _=>rfl⟩ ⟨?_,by simpa using q2,g,cur,e,q3,q4,⟨by simpa using q5,λj x v fw hv=> ?_⟩,q7⟩
      ·refine Ov (aeH) λj k x k7 fw=> ?_;exact afE
      ·rw [zX]at fw;split at fw
       ·rename_i ej;subst ej;split at fw
        ·injection fw with fw;subst fw;have:=q6 c _ v hx hv;cases this;exact aR.ak (K:=X.K) _ ⟨.slice none 0 0,(X.K ty).length⟩ (ES)
        ·cases fw
       ·exact q6 j x v fw hv
     have ju:=hs.grow g1;obtain⟨F2,ρ2,i2,s2,g2⟩:=hr (nt:=nt) (rdc:=rdc) (a:=a) i2 ⟨ju.env,ju.size,ju.defs,ju.rd,ju.kept⟩;exact Vl
    ·exact Af
   ·exact Af
end
noncomputable section
variable {X:Cx} {R O:Type}
def aP3(X:Cx)(nt:Nt)(c:Code)(m:Nat)(st:St)(e:Exit)(aW:St):Prop:=
 ∀{rdc:Cy} {n:Nat} {w0:World} {S:Sc} {F:bC} {ρ:bF} {a:Act} {w:World} {Q:Exit->Act->World->Prop},Inv X w0 S F ρ st.mem w->jh X nt st rdc F ρ a w->
  (∀a' w' F' ρ',Inv X w0 S F' ρ' aW.mem w'->jh X nt aW rdc F' ρ' a' w'->v7 m F F' ρ ρ' w w'->Q e a' w')->c.wpIn (qM rdc.r) n X.P Q a w
def v7.trans{m:Nat}{F F' yL:bC}{ρ ρ' ye:bF}{w w' vt:World}(h:v7 m F F' ρ ρ' w w')(k:v7 m F' yL ρ' ye w' vt):v7 m F yL ρ ye w vt:=
 ⟨λa ha=>k.hF a (h.hF a ha),λid hd hm hh=>k.gP id hd hm (h.gP id hd hm hh),λa ha=>(k.hb a (h.hF a ha)).trans (h.hb a ha)⟩
def pre(m:Nat)(bx:dy):Bool:=(bx.take m)==List.range m
def aLX{m:Nat}{bx:dy}(h:pre m bx=true){j:Nat}(hj:j<m):bx[j]?=some j:=by
 have e:bx.take m=List.range m:=by simpa [pre]using h
 have:(bx.take m)[j]?=some j:=by rw [e,wP hj]
 rw [u6,if_pos hj]at this;exact iK
def VC(m mask:Nat)(bx:dy)(st so:St):St:=
 {env:=HL (qa m bx st.mem.length) 4 so.env++st.env.filter (λp=> !mask.testBit p.1),mem:=merge m st.mem bx so.mem,px:=st.px,rd:=st.rd}
def alC:∀(A B:cf) (t:Nat),look (A++B) t=look A t∨look (A++B) t=look B t
 | [],B,t=> .inr rfl
 |(u,x)::A,B,t=>by
  simp only [pM,ug,look_nil]
  by_cases ht:t=u
  ·subst ht;simp
  ·have:(t==u)=false:=by simpa using ht
   simp only [this,oW,sj];exact alC A B t
def amx(mask:Nat):∀(env:cf) (t:Nat),look (env.filter (λp=> !mask.testBit p.1)) t= .top ∨(mask.testBit t=false/\look (env.filter (λp=> !mask.testBit p.1)) t=look env t)
 | [],t=> .inl rfl
 |(u,x)::env,t=>by
  have ih:=amx mask env t;rw [List.filter_cons]
  by_cases hu:mask.testBit u=true
  ·rw [if_neg (by simp [hu])];rcases ih with h|⟨h1,h2⟩
   ·exact .inl h
   ·refine .inr ⟨h1,?_⟩;have ht:(t==u)=false:=by
     by_cases ht:t=u
     ·subst ht;rw [hu]at h1;cases h1
     ·exact OQ
    simp only [ug,look_nil,ht,oW,sj];exact h2
  ·have rZ:mask.testBit u=false:=by simpa using hu
   rw [if_pos (by simp [rZ])];simp only [ug,look_nil]
   by_cases ht:t=u
   ·subst ht;exact .inr ⟨rZ,by simp⟩
   ·have:(t==u)=false:=by simpa using ht
    simp only [this,oW,sj];exact ih
end
noncomputable section
variable {X:Cx} {R O:Type}
variable{w:World}{F:bC}{ρ:bF}{vs:jb}
def KD(X:Cx)(f:FuncId)(m:Nat)(args:aq)(M:aL)(x:AV)(M':aL):Prop:=
 ∀{w0:World} {S:Sc} {F:bC} {ρ:bF} {w:World} {vs:jb},Inv X w0 S F ρ M w->dZ X.K ρ F w args vs->
  Calls X.P f vs.toArray w (λe w'=>∃v ρ' F',e= .returned v/\Inv X w0 S F' ρ' M' w'/\v7 m F F' ρ ρ' w w'/\aR X.K ρ' F' w' x v)
def E0(n:Nat)(env:cf):aq:=(List.range n).map λt=>look env t
def amp{args:aq}(h:dZ X.K ρ F w args vs):mA X ρ F w (wT 0 args) vs.toArray:=by
 intro t;rw [abT,if_pos (qR _)];cases hx:args[t- 0]? with
 |none=>exact .top _
 |some y=>
  have ht:t<vs.length:=by have:=(dX.1 hx).1;have:=h.1;omega
  have hv:vs.toArray.getD t undef=vs[t]:=by simp [vQ,ht]
  rw [hv];exact h.2 t y _ (Kv) (c8 ht)
def am9{env:cf}(h:mA X ρ F w env vs.toArray):dZ X.K ρ F w (E0 vs.length env) vs:=by
 refine⟨by simp [E0],λj x v hx hv=> ?_⟩;simp only [E0,kW]at hx;have hj:j<vs.length:=(dX.1 hv).1;rw [wP hj]at hx;simp only [ox,Option.some.injEq]at hx;subst hx;have:=h j;have ny:vs.toArray.getD j undef=v:=by
  rw [c8 hj]at hv;injection hv with hv;simp [vQ,hj,hv]
 rw [ny]at this;exact iK
end
end Go.ah
namespace Go.ah
def sR:=@List.map_append
def ac5:=@List.length_eq_zero_iff
def acT:=@Go.World.alloc_heap_new
def acS:=@List.singleton_append
end Go.ah
namespace Go.ah
open Go
noncomputable section
variable {X:Cx} {R:Type}
variable{ps:Array Tmp}{id s:Nat}{g:Operand}{r:R}{w:World}{args:aq}{F:bC}{M:aL}
def Marks.putObj{F:bC}{w:World}{db:bC}{ds:List Deferred}(h:Marks F w db ds){g:Nat}{lp:Loop}(hg:w.heap[g]?=some (.loop lp))(o:Obj):Marks F (w.putObj g o) db ds:=by
 obtain⟨h0,ms,h1,h2,h3⟩:=h;refine⟨h0,ms,h1,h2,λD hD=>⟨(h3 D hD).1,(h3 D hD).2.1,?_⟩⟩;have fv:D≠g:=by
  rintro rfl;have:=(h3 D hD).2.2;rw [hg]at this;cases this
 rw [sk fv];exact(h3 D hD).2.2
def Inv.rewrite{w0:World}{S:Sc}{ρ:bF}(hI:Inv X w0 S F ρ M w){D:Nat}(hF:F ⟨D,0,none⟩)(hD:∀a v,a.block=D->w.cell? a≠some v)(hN:∀a,S.F0 a->a.block≠D)(o:Obj):
 Inv X w0 S F ρ M (w.putObj D o):=by
 have i:=hI.Tq hF hD hN o;have back:∀{id p g},Hid (w.putObj D o) ρ M id p g->Hid w ρ M id p g:=λhh=>hh.back hI.bD hI.len (λ_ _ h _=>h) (λ_ _ h _=>h) λg _ _ h3 _=>sk (λe=>h3 _ hF e.symm);have P2:qN X w0 S F ρ M (w.putObj D o):=⟨λhh=>⟨by simpa using(hI.bD.ak (back hh)).1,(hI.bD.ak (back hh)).2⟩,λh1 h2=>hI.bD.inj (back h1) (back h2),
  λhb hh=>(i.bD.rep hb hh).mono (λ_ _ h=>h) (λ_ h=>h.1) (λ_ _ _ h=>h) (λ_ _=>rfl) (λ_ _ _ _ _ _ _ _ _ _ _ _=>rfl)⟩
 exact⟨i.os,i.tape,i.output,i.size,i.frame,i.len,λid b hd hb hh=>(i.rep id b hd hb hh).mono (λ_ _ h=>h) (λ_ h=>h.1) (λ_ _ _ h=>h) (λ_ _=>rfl),
  λid b hd g hb dT hh cX=>⟨by simpa using(hI.sep id b hd g hb dT hh cX).1,(hI.sep id b hd g hb dT hh cX).2⟩,
  i.k5,λa ha=>by simpa using hI.fz a ha,λg=>(i.jH g).mono (λ_ _ h=>h) (λ_ h=>h.1) (λ_ _ _ h=>h),i.one,hI.iw,hI.fin,P2⟩
def Inv.pV{w0 w:World}{S:Sc}{F:bC}{ρ:bF}{M:aL}(hI:Inv X w0 S F ρ M w){mk:Option Nat}(h1:∀D,mk=some D->D<w.heap.size/\w0.heap.size<=D)
 (h2:∀(D:Nat) (id:Nat) b hd,mk=some D->M[id]?=some b->b.kq=false->ρ[id]?=some hd->hd.dE≠some D) (h3:∀D,mk=some D->∀id p,¬Hid w ρ M id p D):
 Inv X w0 S (λa=>F a∨∃D,mk=some D/\a.block=D) ρ M w where
 os:=hI.os
 tape:=hI.tape
 output:=hI.output
 size:=hI.size
 frame:=hI.frame
 len:=hI.len
 rep:=λid b hd hb hh=>(hI.rep id b hd hb hh).mono (λ_ _ h=>h) (λ_ h=> .inl h) (λ_ _ hF hc=>hc) (λ_ _=>rfl)
 sep:=λid b hd g hb dT hh cX=>let⟨a1,a2,a3⟩:=hI.sep id b hd g hb dT hh cX;⟨a1,a2,λa ha=>by
  rcases ha with ha|⟨D,hD,e⟩
  ·exact a3 a ha
  ·intro e';exact h2 D id b hd hD hb dT hh (by rw [cX,<-e',e])⟩
 k5:=hI.k5
 fz:=λa ha=>by
  rcases ha with ha|⟨D,hD,e⟩
  ·exact hI.fz a ha
  ·rw [e];exact(h1 D hD).1
 jH:=λg=>(hI.jH g).mono (λ_ _ h=>h) (λ_ h=> .inl h) (λ_ _ _ h=>h)
 one:=hI.one
 iw:=λa ha=>by
  rcases ha with ha|⟨D,hD,e⟩
  ·exact hI.iw a ha
  ·rw [e];exact .inr (.inr (h1 D hD).2)
 fin:=λa ha=> .inl (hI.fin a ha)
 bD:=⟨λ{id p g} hh=>by
  obtain⟨a1,a2,a3,a4⟩:=hI.bD.ak hh;refine⟨a1,a2,λa ha e=> ?_,a4⟩;rcases ha with ha|⟨D,hD,e'⟩
  ·exact a3 a ha e
  ·exact h3 D hD id p (by rw [<-e',e];exact hh),hI.bD.inj,λhb hh=>(hI.bD.rep hb hh).mono (λ_ _ h=>h) (λ_ h=> .inl h) (λ_ _ _ h=>h) (λ_ _=>rfl) (λ_ _ _ _ _ _ _ _ _ _ _ _=>rfl)⟩
def zl:dy->aq->cf->Option cf
 | [],[],env=>some env
 |p::ps,x::xs,env=>zl ps xs ((p,x)::env)
 |_,_,_=>none
def anb{ρ:bF}{F:bC}{w:World}:∀(ps:dy) {xs:aq} {env oc:cf} {tmps:Array Value} {vs:jb},zl ps xs env=some oc->mA X ρ F w env tmps->dZ X.K ρ F w xs vs->(∀p∈ps,p<tmps.size)->
 mA X ρ F w oc ((ps.zip vs).foldl (λt p=>t.setIfInBounds p.1 p.2) tmps)/\((ps.zip vs).foldl (λt p=>t.setIfInBounds p.1 p.2) tmps).size =tmps.size
 | [],[],env,oc,tmps,vs,h,he,_,_=>by
   simp only [zl,Option.some.injEq]at h;subst h;simpa using he
 |p::ps,x::xs,env,oc,tmps,[],h,he,hr,hp=>by have:=hr.1;simp at this
 |p::ps,x::xs,env,oc,tmps,v::vs,h,he,hr,hp=>by
  simp only [zl]at h;have hx:=hr.2 0 x v rfl rfl;have xl:dZ X.K ρ F w xs vs:=⟨by simpa using hr.1,λj x' v' fw jC=>hr.2 (j+1) x' v' (by simpa using fw) (by simpa using jC)⟩;have:=anb ps h (he.put (hp p (by simp)) hx) xl (λq hq=>by simpa using hp q (Ks));simp only [List.zip_cons_cons,vS];exact⟨this.1,by rw [this.2];simp⟩
 | [],_::_,_,_,_,_,h,_,_,_=>by simp [zl]at h
 |_::_,[],_,_,_,_,h,_,_,_=>by simp [zl]at h
def asU(e:Ex):Option Ex:=match e with| .normal =>none| .exit i=>some (.exit i)| .ret =>some .ret
def arl(e:Ex):Bool:=match e with| .normal =>true|_=>false
def OC(X:Cx)(L:nN R)(s p:Nat)(id:Nat)(args:aq)(M:aL)(k:AV->aL->Option R):Option R:=
 match gm M id with
 |some (.loop s' env false none)=>
  a8 (Nat.beq s' s&&Nat.beq (X.site s).nt L.kU.nt.n&&(X.site s).params.toList.all λt=>Nat.blt t L.kU.nt.n)
   (match zl (X.site s).params.toList args env with
    |none=>none
    |some oc=>
     sf X L (X.site s).assign (2*p) ⟨oc,M.set id .dead,[],.yr⟩ λe st1=>
      match e,st1.px with
      | .normal,[]=>
        sf X L (X.site s).body (2*p+1) st1 λe mG=>
         match gm mG.mem id with
         |some .dead =>k (.bool (arl e)) (mG.mem.set id (.loop s env false (asU e)))
         |_=>none
      |_,_=>none)
 |_=>none
def aHZ{nt:Nt}{s':Nat}{env oc:cf}(hb:M[id]?=some (.loop s' env false none))(L0:(X.site s').nt =nt.n)(QS:∀t∈(X.site s').params.toList,t<nt.n)
 (Xh:zl (X.site s').params.toList args env=some oc) {e1 e2:Ex} {st1 mG:St} (Q2:e1= .normal) (afM:vT X nt (X.site s').assign ⟨oc,M.set id .dead,[],.yr⟩ (Ex.sw e1) st1) (Fp:st1.px=[])
 (afL:vT X nt (X.site s').body st1 (Ex.sw e2) mG) (nG:mG.mem[id]?=some .dead):UP X id args M (.bool (arl e2)) (mG.mem.set id (.loop s' env false (asU e2))):=by
 subst Q2;intro rd n w0 S F ρ w vs hd g hI hr L5 hv;obtain⟨g',lp,jC,Bl,QU,LZ,BZ,LY,hp5,_,hp6,_,hp7,_⟩:=hI.rep _ _ _ hb L5;rw [hv]at jC;injection jC with jC;injection jC with jC;injection jC with jC;subst jC;have aNF:lp.state= .ready :=hp6 rfl rfl;have a0a:lp.pending=none:=hp7;have Dp:hd.dE=some g:=qx;obtain⟨q1,q2,q3⟩:=hI.sep _ _ _ _ hb rfl L5 Dp;have hN:∀a,S.F0 a->a.block≠g:=λa ha=>q3 a (hI.fin a ha);have hnc:=Na Bl;have hlen:args.length=(X.site s').params.toList.length :=by
  have:∀(ps:dy) (xs:aq) (env oc:cf),zl ps xs env=some oc->xs.length=ps.length:=by
   intro ps
   induction ps with
   |nil=>intro xs env oc h;cases xs with|nil=>rfl|cons _ _=>simp [zl]at h
   |cons p ps ih=>intro xs env oc h;cases xs with|nil=>simp [zl]at h|cons x xs=>simp only [zl]at h;simp [ih _ _ _ h]
  exact this _ _ _ _ Xh
 refine⟨lp.fn,_,lp.assign,lp.body,run_yield Bl (by rw [QU];simp [hr.1,hlen]),roundIn_of_wpIn trivial ?_⟩;rw [LZ,BZ];have i1:Inv X w0 S (λa=>F a∨a.block=g) ρ (M.set id .dead) w:=hI.freeze hb rfl L5 Dp rfl trivial;have g1:Grow F (λa=>F a∨a.block=g) ρ ρ w w:=⟨λ_ h=> .inl h,λ_ _ h=>h,λ_ _=>rfl⟩;have afY:(Array.foldl (λtmps (x:Nat×Value)=>tmps.setIfInBounds x.1 x.2) lp.tmps (lp.params.zip vs.toArray))=((X.site s').params.toList.zip vs).foldl (λt p=>t.setIfInBounds p.1 p.2) lp.tmps:=by
  rw [<-adI,Array.toList_zip,QU]
 have asF:=anb (X:=X) _ Xh (hp5.grow g1) (hr.grow g1) (λt ht=>by rw [LY,L0];exact QS t ht);refine afM (rdc:=⟨some g,λ_=>False,λt=>(((X.site s').params.toList.zip vs).foldl (λt p=>t.setIfInBounds p.1 p.2) lp.tmps).getD t undef⟩) (n:=n) i1
  ⟨by simp only [afY];exact asF.1,by simp only [afY];rw [asF.2,LY,L0],Marks.nil _ _ (λ_ h=>h.elim),.inr ⟨g,lp,rfl,.inr rfl,Bl⟩,λt _=>by simp only [afY]⟩ ?_
 intro a1 w1 F1 ρ1 i2 s2 g2;have uU:Grow F F1 ρ ρ1 w w1:=g1.trans g2;have Yk:F1 ⟨g,0,none⟩:=g2.hF _ (.inr rfl);have zK:w1.heap[g]?=some (.loop lp):=(g2.hb ⟨g,0,none⟩ (.inr rfl)).trans Bl;refine⟨_,run_beginRound zK aNF,?_⟩;have i3:=i2.rewrite Yk (Na zK) hN (.loop {lp with state:= .busy });have Xj:g<w1.heap.size:=(Cn.1 zK).1;have xm:(w1.putObj g (.loop {lp with state:= .busy })).heap[g]?=some (.loop {lp with state:= .busy }):=acU Xj;have AN:Grow F F1 ρ ρ1 w (w1.putObj g (.loop {lp with state:= .busy })):=⟨uU.hF,uU.gP,λa ha=>by rw [sk (q3 a ha)];exact uU.hb a ha⟩;have s3:jh X nt st1 ⟨some g,λ_=>False,λt=>(((X.site s').params.toList.zip vs).foldl (λt p=>t.setIfInBounds p.1 p.2) lp.tmps).getD t undef⟩ F1 ρ1 a1 (w1.putObj g (.loop {lp with state:= .busy })):=by
  refine⟨λt=>((s2.env t).less (Na zK) _).mono (λ_ _ h=>h) (λ_ h=>h.1) (λ_ _ _ h=>h),s2.size,?_,.inr ⟨g,_,rfl,Yk,xm⟩,s2.kept⟩;have:=s2.defs;rw [Fp]at this⊢;exact Marks.putObj this zK _
 refine afL (rdc:=⟨some g,λ_=>False,λt=>(((X.site s').params.toList.zip vs).foldl (λt p=>t.setIfInBounds p.1 p.2) lp.tmps).getD t undef⟩) (n:=n) i3 s3 ?_;intro a2 w3 F3 ρ3 i4 s4 g4;have Yj:F3 ⟨g,0,none⟩:=g4.hF _ Yk;have hh3:w3.heap[g]?=some (.loop {lp with state:= .busy }):=(g4.hb ⟨g,0,none⟩ Yk).trans xm;have avQ:g<w3.heap.size:=(Cn.1 hh3).1;have afX:Grow F F3 ρ ρ3 w w3:=AN.trans g4;have aZb:ρ3[id]?=some hd:=afX.gP _ _ L5;have key:∀(jump:Option Code) (pe:Option Ex),jump=pe.bind Ex.code->jump.isNone=pe.isNone->pe≠some .normal ->∃v w',(Instr.endRound g jump).run X.P w3= .ok v w'/\∃v' ρ' F',Ending.returned v= .returned v'/\Inv X w0 S F' ρ' (mG.mem.set id (.loop s' env false pe)) w'/\Grow F F' ρ ρ' w w'/\aR X.K ρ' F' w' (.bool pe.isNone) v':=by
  intro jump pe hj IG hpe;have pT:=Na hh3;refine⟨_,_,run_endRound jump hh3,_,ρ3,less F3 g,rfl,?_,afX.less q3 _,by rw [IG];exact .bool _⟩;refine(i4.Tq Yj pT hN _).aoE nG aZb Dp (by simpa using avQ) q2 (λa ha=>ha.2) (λid' b' du mv rT dm oq=>(i4.sep id' b' du g mv rT dm oq).2.2 _ Yj rfl) (λi p hp=>(i4.bD.ak (hp.back i4.bD i4.len (λ_ _ h _=>h) (λ_ _ h _=>h) λk _ _ h3 _=>sk (λe=>h3 _ Yj e.symm))).2.2.1 _ Yj rfl) ?_ rfl;have hE:mA X ρ3 (less F3 g) (w3.putObj g (.loop {lp with state:=if jump.isNone then .ready else .done,pending:=jump})) env lp.tmps:=(hp5.grow afX).less pT _;refine⟨g,_,hv,acU avQ,QU,LZ,BZ,LY,hE,(λh=>aM),λ_ h=> ?_,λ_ h=> ?_,hj,hpe⟩
  ·subst h;simp only [Option.isNone_none]at IG;simp [IG]
  ·cases pe with
   |none=>exact absurd rfl h
   |some _=>simp only [Option.isNone_some]at IG;simp [IG]
 cases e2 with
 |normal=>obtain⟨v,w',k1,k2⟩:=key none none rfl rfl (by simp);exact⟨v,w',k1,k2⟩
 |exit i=>obtain⟨v,w',k1,k2⟩:=key (some (.exit i)) (some (.exit i)) rfl rfl (by simp);exact⟨v,w',k1,k2⟩
 |ret=>obtain⟨v,w',k1,k2⟩:=key (some .ret) (some .ret) rfl rfl (by simp);exact⟨v,w',k1,k2⟩
def aHg(hX:X.Okb){root:Code}{L:nN R}(hL:L.Ok X root){p:Nat}(iq:At root p (.rangeFunc g ps (X.site s).assign (X.site s).body)){k:AV->aL->Option R}
 (h:OC X L s p id args M k=some r):∃x M',UP X id args M x M'/\k x M'=some r:=by
 unfold OC at h;simp only [fF]at h;split at h
 case h_2=>cases h
 rename_i s' env hb;replace h:=cP h;obtain⟨hc,h⟩:=h;rw [bA,bA]at hc;obtain⟨⟨dR,L0⟩,QS⟩:=hc;have dR:s'=s:=fk dR;subst dR;have L0:(X.site s').nt =L.kU.nt.n:=fk L0;have QS:∀t∈(X.site s').params.toList,t<L.kU.nt.n:=λt ht=>by have:=mP.1 QS t ht;simpa using this
 split at h
 case h_1=>cases h
 rename_i oc Xh;obtain⟨e1,st1,afM,h⟩:=yO hX hL _ (iq.down false λl hl=>Bh) h;split at h
 case h_2=>cases h
 rename_i Fp;obtain⟨e2,mG,afL,h⟩:=yO hX hL _ (iq.down true λl hl=>Bh) h;split at h
 case h_2=>cases h
 rename_i nG;exact⟨_,_,aHZ hb L0 QS Xh rfl afM Fp afL nG,h⟩
def adS(X:Cx)(T:nQ R)(s:Nat)(pV:dy)(g:Operand)(st:St)(k:Ex->St->Option R):Option R:=
 match tw X st.env g,st.px with
 | .gM f [] iP,[]=>
   T.call f (.lM st.mem.length::iP) (st.mem++[.loop s (vv pV st.env) false none]) λ_ M2=>
    match gm M2 (st.mem.length)with
    |some (.loop _ _ false pe)=>k (pe.getD .normal) {st with mem:=M2.set st.mem.length .dead }
    |_=>none
 |_,_=>none
def aJs{rdc:Option Nat}(qc:Py F w rdc)(fn:FuncId)(tmps:Array Value)(ps:Array Tmp)(ag bd:Code):
 ∃l mk w1 lp,(Instr.enterLoop fn tmps ps ag bd rdc).run X.P w= .ok (l,(mk:Option Nat).toList.map (λD=>({target:= .collected D,args:= #[]}:Deferred))) w1/\w.grownBy w1 none/\w1.heap[l]?=some (.loop lp)/\w.heap.size<=l/\
  (∀D,mk=some D->w.heap.size<=D/\D≠l/\w1.heap[D]?=some (.deferred (some [])))/\lp.state= .ready /\lp.pending=none/\lp.params=ps/\lp.assign=ag/\lp.body=bd/\lp.tmps=tmps:=by
 have ga:∀(w:World) (o:Obj),w.grownBy (w.alloc o) none:=λw o=>GJ w o none;rcases qc with rfl|⟨g,r,rfl,_,hg⟩
 ·refine⟨w.heap.size+1,some w.heap.size,(w.alloc (.deferred (some []))).alloc (.loop {state:= .ready,pending:=none,fn,tmps,params:=ps,assign:=ag,body:=bd,defers:=w.heap.size}),{state:= .ready,pending:=none,fn,tmps,params:=ps,assign:=ag,body:=bd,defers:=w.heap.size},run_enterLoop_outer fn tmps ps ag bd,?_,?_,by omega,(λD hD=> ?_),rfl,rfl,rfl,rfl,rfl,rfl⟩
  ·exact⟨rfl,rfl,rfl,eE,λk hk _=>by rw [(ga (w.alloc (.deferred (some []))) _).block k (eE) (by simp),(ga w _).block k hk (by simp)]⟩
  ·have:=acT (w.alloc (.deferred (some []))) (.loop {state:= .ready,pending:=none,fn,tmps,params:=ps,assign:=ag,body:=bd,defers:=w.heap.size})
   rwa [World.size_alloc]at this
  ·injection hD with hD;subst hD;refine⟨gQ _,by omega,?_⟩;rw [(ga (w.alloc (.deferred (some []))) _).block _ (by simp) (by simp)];exact acT w _
 ·exact⟨w.heap.size,none,w.alloc (.loop {state:= .ready,pending:=none,fn,tmps,params:=ps,assign:=ag,body:=bd,defers:=r.defers}),{state:= .ready,pending:=none,fn,tmps,params:=ps,assign:=ag,body:=bd,defers:=r.defers},run_enterLoop_inner hg fn tmps ps ag bd,ga _ _,acT w _,gQ _,(λD hD=>by cases hD),rfl,rfl,rfl,rfl,rfl,rfl⟩
def aHh(hX:X.Okb){T:nQ R}(hT:T.wU X){pV:dy}{ag bd:Code}(Hv:X.site s=⟨T.nt.n,ps,ag,bd⟩){st:St}{k:Ex->St->Option R}
 (h:adS X T s pV g st k=some r):∃e aW,vT X T.nt (.rangeFunc g ps ag bd) st (Ex.sw e) aW/\k e aW=some r:=by
 unfold adS at h;simp only [fF]at h;split at h
 case h_2=>cases h
 rename_i f iP hg Ya;obtain⟨x,M2,⟨tu,vL⟩,h,_⟩:=hT.call h;split at h
 case h_2=>cases h
 rename_i s2 a0i pe im;refine⟨_,_,λ{rdc n w0 S F ρ a w Q} hI hs hq=> ?_,h⟩;have h1:=GX hI hs.env g;rw [hg]at h1;generalize hv:a.eval g=vf at h1;cases h1 with
 |gM _ _ _ v1 v2 jg ki r1 r2=>
 have wx:v1=[]:=ac5.1 (by simpa using jg);subst wx;refine wpIn_rangeFunc λfn _=> ?_;obtain⟨l,mk,w1,lp,aNI,mu,hl,aY5,B0,p1,p2,p3,p4,p5,p6⟩:=aJs (X:=X) hs.rd fn a.tmps ps ag bd;have bI:l<w1.heap.size:=(Cn.1 hl).1;refine⟨l,_,w1,{target:= .fn (.func f) v2.toArray,args:= #[.func (.yield l) #[] #[]]},w1,f,#[.func (.yield l) #[] #[]]++v2.toArray,w1,aNI,?_,λ_ _=>trivial,?_,λhd=>by simp [qM,Fence.wide]at hd,?_⟩
 ·simp only [resolve,hv];simp [go_sem]
 ·simp [invoke,go_sem,tu]
 have gr0:Grow F F ρ ρ w w1:=⟨λ_ h=>h,λ_ _ h=>h,λa ha=>mu.block _ (hI.fz a ha) (by simp)⟩;have i1:Inv X w0 S F (ρ++[⟨.pointer (some ⟨l,0,none⟩),0⟩]) (st.mem++[.loop s (vv pV st.env) false none]) w1:=by
  refine hI.push mu (λg' lx=> ?_) rfl ?_
  ·simp only [Hd.dE,Value.dE,Option.some.injEq]at lx;subst lx;exact⟨aY5,bI⟩
  ·refine⟨l,lp,rfl,hl,by rw [p3,Hv],by rw [p4,Hv],by rw [p5,Hv],by rw [p6,Hv];exact hs.size,?_,(λh=>aM),λ_ _=>p1,λ_ h=>absurd rfl h,p2,by simp⟩;rw [p6];have he:mA X (ρ++[⟨.pointer (some ⟨l,0,none⟩),0⟩]) F w1 st.env a.tmps:=(hs.env.grow gr0).grow ⟨λ_ h=>h,λ_ _ h=>ou h,λ_ _=>rfl⟩;exact NZ λu _=>he u
 have i2:Inv X w0 S (λa=>F a∨∃D,mk=some D/\a.block=D) (ρ++[⟨.pointer (some ⟨l,0,none⟩),0⟩]) (st.mem++[.loop s (vv pV st.env) false none]) w1:=by
  refine i1.pV (λD hD=> ?_) (λD id b hd hD hb dT hh e=> ?_) (λD hD id p hp=>by
   have h:=(hI.bD.ak ((hp.pop hI.len rfl).back hI.bD hI.len (λ_ _ h _=>h) (λ_ _ h _=>h) λk h1 _ _ _=>mu.block k h1 (by simp))).1;have:=(B0 D hD).1;omega)
  ·obtain⟨m1,_,m3⟩:=B0 D hD;exact⟨(Cn.1 m3).1,pz hI.size m1⟩
  ·obtain⟨m1,m2,_⟩:=B0 D hD
   by_cases bf:id<st.mem.length
   ·rw [kV bf]at hb;rw [kV (by rw [hI.len];exact bf)]at hh;have:=(hI.sep id b hd D hb dT hh e).1;omega
   ·rw [nT (by rw [hI.len];omega)]at hh;have aZa:id- ρ.length=0:=by
     have:=(dX.1 hh).1;simp at this;exact this
    rw [aZa]at hh;simp only [TX,Option.some.injEq]at hh;subst hh;simp only [Hd.dE,Value.dE,Option.some.injEq]at e;exact m2 e.symm
 have g2:Grow F (λa=>F a∨∃D,mk=some D/\a.block=D) ρ (ρ++[⟨.pointer (some ⟨l,0,none⟩),0⟩]) w w1:=⟨λ_ h=> .inl h,λ_ _ h=>ou h,gr0.hb⟩;have hyl:(ρ++[(⟨.pointer (some ⟨l,0,none⟩),0⟩:Hd)])[st.mem.length]?=some ⟨.pointer (some ⟨l,0,none⟩),0⟩:=ES;have Bm:dZ X.K (ρ++[⟨.pointer (some ⟨l,0,none⟩),0⟩]) (λa=>F a∨∃D,mk=some D/\a.block=D) w1 (.lM st.mem.length::iP) (.func (.yield l) #[] #[]::v2):=by
  refine⟨by simp [ki],λj y v hy hv=> ?_⟩;cases j with
  |zero=>simp at hy hv;subst hy;subst hv;exact .lM _ _ l hyl rfl
  |succ j=>simp at hy hv;exact(r2 j y v hy hv).grow g2
 have C5:=vL i2 Bm;have eT:CallsIn Fence.wide (n- 1) X.P f (.func (.yield l) #[] #[]::v2).toArray w1 _:=ac3.2 C5;have oK:CallsIn (qM rdc.r) (n- 1) X.P f (.func (.yield l) #[] #[]::v2).toArray w1 _:=eT;have e1: #[Value.func (.yield l) #[] #[]]++v2.toArray=(.func (.yield l) #[] #[]::v2).toArray :=Ag;rw [e1];refine oK.mono ?_;rintro en w2 ⟨v,ρ',F',rfl,i3,g3,_⟩;have bf:ρ'[st.mem.length]?=some ⟨.pointer (some ⟨l,0,none⟩),0⟩:=g3.gP _ _ hyl;obtain⟨g',XS,jC,xm,_,_,_,_,_,_,k1,k2,k3,k4⟩:=i3.rep _ _ _ im bf;simp only [Value.pointer.injEq,Option.some.injEq,Addr.mk.injEq]at jC;obtain⟨rfl,_⟩:=jC;have IC:XS.state≠ .busy :=by
  cases pe with
  |none=>rw [k1 rfl rfl];simp
  |some _=>rw [k2 rfl (by simp)];simp
 have hFl:∀a,F a->a.block≠l:=λa ha e=>by have:=hI.fz a ha;omega
 have i4:Inv X w0 S (λa=>F' a∨a.block=l) ρ' (M2.set st.mem.length .dead) w2:=i3.freeze im rfl bf rfl rfl trivial;have i5:=i4.Tq (D:=l) (.inr rfl) (Na xm) (λa ha=>hFl a (hI.fin a ha)) (.loop {XS with state:= .exhausted });have g5:Grow F (less (λa=>F' a∨a.block=l) l) ρ ρ' w (w2.putObj l (.loop {XS with state:= .exhausted })):=(g2.trans (g3.trans ⟨λ_ h=> .inl h,λ_ _ h=>h,λ_ _=>rfl⟩)).less hFl _;have ahb:jh X T.nt {st with mem:=M2.set st.mem.length .dead } rdc (less (λa=>F' a∨a.block=l) l) ρ' {a with defers:=mk.toList.map (λD=>({target:= .collected D,args:= #[]}:Deferred))++a.defers} (w2.putObj l (.loop {XS with state:= .exhausted })):=by
  refine⟨hs.env.grow g5,hs.size,?_,hs.rd.mono g5.hF g5.hb,hs.kept⟩;have hd:=hs.defs;rw [Ya]at hd;simp only [Ya];obtain⟨d0,ms,d1,d2,d3⟩:=Marks.mono g5.hF g5.hb hd;refine⟨d0,mk.toList++ms,by rw [sR,d1],?_,λD hD=> ?_⟩
  ·cases mk with
   |none=>simpa using d2
   |some D=>
    simp only [Option.toList_some,acS,Cq];refine⟨λhD=> ?_,d2⟩;obtain⟨_,ms',xq,_,e3⟩:=hd;have:ms=ms':=by
     have:=d1.symm.trans xq;have inj:∀(a b:dy),a.map (λD=>({target:= .collected D,args:= #[]}:Deferred))=b.map (λD=>({target:= .collected D,args:= #[]}:Deferred))->a=b:=by
      intro a
      induction a with
      |nil=>intro b hb;cases b with|nil=>rfl|cons _ _=>simp at hb
      |cons x a ih=>intro b hb;cases b with
       |nil=>simp at hb
       |cons y b=>simp only [my,List.cons.injEq,Deferred.mk.injEq,Target.collected.injEq]at hb;rw [hb.1.1,ih b hb.2]
     exact inj _ _ this
    subst this;have:=hI.fz _ (e3 D hD).2.1;have:=(B0 D rfl).1;simp at*;omega
  ·rw [nA]at hD;rcases hD with hD|hD
   ·have hD:mk=some D:=by simpa using hD
    obtain⟨m1,m2,m3⟩:=B0 D hD;have afW:w2.heap[D]?=w1.heap[D]?:=g3.hb ⟨D,0,none⟩ (.inr ⟨D,hD,rfl⟩);refine⟨λa ha e=> ?_,⟨.inl (g3.hF _ (.inr ⟨D,hD,rfl⟩)),m2⟩,?_⟩
    ·have:=hI.fz a (hd.1 a ha);omega
    ·rw [sk m2,afW];exact m3
   ·exact d3 D hD
 refine⟨pe.bind Ex.code,_,by rw [<-k3];exact run_endLoop xm IC,?_⟩;cases pe with
 |none=>exact hq _ _ _ _ i5 ahb g5
 |some e=>
  cases e with
  |normal=>exact absurd rfl k4
  |exit i=>exact wpIn_exit (hq _ _ _ _ i5 ahb g5)
  |ret=>exact wpIn_ret (hq _ _ _ _ i5 ahb g5)
end
end Go.ah
namespace Go.ah
def aqG{p:Prop}(h:p:=by
 rw [TZ];exact eG hI hs λa' w' F' ρ' fY dR hg=>hq a' w' F' ρ' fY dR hg):p:=h
end Go.ah
namespace Go.ah
def TZ:=@Go.roundsIn_succ
end Go.ah
namespace Go.ah
open Go
noncomputable section
variable {X:Cx} {R O:Type}
variable{g:FuncId}{p:Nat}{r:R}{run:aq->aL->(AV->aL->Option R)->Option R}
abbrev tU(R:Type):=St->(Ex->St->Option R)->Option R
variable{es:List (Nat×tU R)}{P:Nat×tU R->Prop}
def KL:List (Nat×tU R)->Nat->tU R
 | [],_=>λ_ _=>none
 |e::es,p=>match Nat.beq p e.1 with|true=>e.2|false=>KL es p
def Pe:List (Nat×tU R)->Nat->Option (tU R)
 | [],_=>none
 |e::es,p=>match Nat.beq p e.1 with|true=>some e.2|false=>Pe es p
def p7{α:Type}(P:α->Prop):List α->Prop
 | []=>True
 |e::es=>P e/\p7 P es
def al8(hP:p7 P es){st:St}{k:Ex->St->Option R}(h:KL es p st k=some r):∃f,P (p,f)/\f st k=some r:=by
 induction es with
 |nil=>simp [KL]at h
 |cons e es ih=>
  simp only [KL]at h;cases hb:Nat.beq p e.1 with
  |true=>
   simp only [hb]at h;have:=fk hb;subst this;exact⟨e.2,hP.1,h⟩
  |false=>simp only [hb]at h;exact ih hP.2 h
def aJj(hP:p7 P es){f:tU R}(h:Pe es p=some f):P (p,f):=by
 induction es with
 |nil=>simp [Pe]at h
 |cons e es ih=>
  simp only [Pe]at h;split at h
  ·rename_i hb;have:=fk hb;subst this;injection h with h;subst h;exact hP.1
  ·exact ih hP.2 h
def arw(X:Cx)(root:Code)(nt:Nt)(e:Nat×tU R):Prop:=∀{c st k r},At root e.1 (.loop c)->e.2 st k=some r->∃x aW,vT X nt (.loop c) st (Ex.sw x) aW/\k x aW=some r
def aoq(X:Cx)(root:Code)(nt:Nt)(e:Nat×tU R):Prop:=∀{g ps a b st k r},At root e.1 (.rangeFunc g ps a b)->e.2 st k=some r->∃x aW,vT X nt (.rangeFunc g ps a b) st (Ex.sw x) aW/\k x aW=some r
def as6(X:Cx)(root:Code)(nt:Nt)(e:Nat×tU R):Prop:=∀{c st k r},At root e.1 c->e.2 st k=some r->∃x aW,vT X nt c st (Ex.sw x) aW/\k x aW=some r
structure CE(R:Type) where
 f:FuncId
 test:aq->aL->Bool
 wr:aq->aL->Option dy
 run:aq->aL->(AV->aL->Option R)->Option R
def KM:List (CE R)->FuncId->aq->aL->(AV->aL->Option R)->Option R
 | [],_,_,_,_=>none
 |e::es,f,args,M,k=>match Nat.beq f e.f&&e.test args M with|true=>e.run args M k|false=>KM es f args M k
def KJ:List (CE R)->FuncId->aq->aL->Option dy
 | [],_,_,_=>none
 |e::es,f,args,M=>match Nat.beq f e.f&&e.test args M with|true=>e.wr args M|false=>KJ es f args M
def zr(X:Cx)(e:CE R):Prop:=∀{args M k r},e.run args M k=some r->∃x M',ya X e.f args M x M'/\k x M'=some r/\∀ids,e.wr args M=some ids->eR ids M M'
def al9{es:List (CE R)}(hP:p7 (zr X) es){f:FuncId}{args:aq}{M:aL}{k:AV->aL->Option R}(h:KM es f args M k=some r):
 ∃x M',ya X f args M x M'/\k x M'=some r/\∀ids,KJ es f args M=some ids->eR ids M M':=by
 induction es with
 |nil=>simp [KM]at h
 |cons e es ih=>
  simp only [KM]at h;split at h
  ·rename_i hb;have mv:=hb;rw [bA]at hb;have:=fk hb.1;subst this;obtain⟨x,M',h1,h2,h3⟩:=hP.1 h;refine⟨x,M',h1,h2,λids hi=> ?_⟩;simp only [KJ,mv]at hi;exact h3 ids hi
  ·rename_i hb;obtain⟨x,M',h1,h2,h3⟩:=ih hP.2 h;refine⟨x,M',h1,h2,λids hi=> ?_⟩;simp only [KJ,hb]at hi;exact h3 ids hi
def arZ(nt:Nt)(cs:List (CE R))(y:Nat->aq->aL->(AV->aL->Option R)->Option R)(ls rs ks:List (Nat×tU R)):nN R:=
 ⟨⟨nt,KJ cs,KM cs,y⟩,KL ls,KL rs,Pe ks,λ_=>([],[])⟩
def aos(g:List (Nat×(List Gh×List Gh)))(L:nN R):nN R:={L with gh:=λrid=>(g.lookup rid).getD ([],[])}
def aJM{root:Code}{L:nN R}(g:List (Nat×(List Gh×List Gh)))(h:L.Ok X root):(aos g L).Ok X root:=⟨h.kU,h.loop,h.range,h.cut⟩
def IY(X:Cx)(y:Nat->aq->aL->(AV->aL->Option R)->Option R):Prop:=∀{id args M k r},y id args M k=some r->∃x M',UP X id args M x M'/\k x M'=some r
def Qs:Nat->aq->aL->(AV->aL->Option R)->Option R:=λ_ _ _ _=>none
def aoN:IY X (Qs (R:=R)):=λ{_ _ _ _ _} h=>aM
def aKP{root:Code}{nt:Nt}{cs:List (CE R)}{y:Nat->aq->aL->(AV->aL->Option R)->Option R}{ls rs ks:List (Nat×tU R)}(hc:p7 (zr X) cs)(hy:IY X y)
 (hl:p7 (arw X root nt) ls) (hr:p7 (aoq X root nt) rs) (hk:p7 (as6 X root nt) ks):(arZ nt cs y ls rs ks).Ok X root where
 kU:=⟨λ{f args M k r} h=>al9 hc h,λ{id args M k r} h=>hy h⟩
 loop:=λ{p c st k r} iq h=>by
  obtain⟨f,h1,h2⟩:=al8 hl h;exact h1 iq h2
 range:=λ{p g ps a b st k r} iq h=>by
  obtain⟨f,h1,h2⟩:=al8 hr h;exact h1 iq h2
 cut:=λ{p c f st k r} iq hf h=>aJj hk hf iq h
def UR(X:Cx)(L:nN R)(c:Code)(p:Nat):Nat->St->(Ex->St->Option R)->Option R
 |0,_,_=>none
 |n+1,st,k=>sf X L c p st λe aW=>match e with| .normal =>UR X L c p n aW k| .exit i=>k (.exit i) aW| .ret =>k .ret aW
def ala(hX:X.Okb){root c:Code}{p:Nat}{L:nN R}(hL:L.Ok X root)(iq:At root p (.loop c)):∀(fuel:Nat) {st:St} {k:Ex->St->Option R} {r:R},UR X L c (2*p) fuel st k=some r->
 ∃e aW,k e aW=some r/\∀{rdc:Cy} {n:Nat} {w0:World} {S:Sc} {F:bC} {ρ:bF} {a:Act} {w:World} {Q:Exit->Act->World->Prop},Inv X w0 S F ρ st.mem w->jh X L.kU.nt st rdc F ρ a w->
  (∀a' w' F' ρ',Inv X w0 S F' ρ' aW.mem w'->jh X L.kU.nt aW rdc F' ρ' a' w'->Grow F F' ρ ρ' w w'->Q (Ex.sw e) a' w')->Code.roundsIn (qM rdc.r) n X.P c Q fuel a w
 |0,st,k,r,h=>aM
 |fuel+1,st,k,r,h=>by
  simp only [UR]at h;obtain⟨e,st1,eG,h⟩:=yO hX hL c (iq.down false λl hl=>Bh) h;cases e with
  |normal=>
   obtain⟨e',aW,hk,hr⟩:=ala hX hL iq fuel h;refine⟨e',aW,hk,λ{rdc n w0 S F ρ a w Q} hI hs hq=> ?_⟩;rw [TZ];refine eG hI hs λa' w' F' ρ' fY dR hg=> ?_;exact hr fY dR λIW vt yL ye HU HQ P4=>hq IW vt yL ye HU HQ (hg.trans P4)
  |exit i=>
   refine⟨.exit i,st1,h,λ{rdc n w0 S F ρ a w Q} hI hs hq=> ?_⟩;exact aqG
  |ret=>
   refine⟨.ret,st1,h,λ{rdc n w0 S F ρ a w Q} hI hs hq=> ?_⟩;exact aqG
def inl(g:FuncId)(run:aq->aL->(AV->aL->Option R)->Option R):List (CE R):=[⟨g,λ_ _=>true,λ_ _=>none,run⟩]
def aef(nt:Nt)(cs:List (CE R)):nQ R:=⟨nt,KJ cs,KM cs,Qs⟩
def aJV{nt:Nt}{cs:List (CE R)}(hc:p7 (zr X) cs):(aef nt cs).wU X:=⟨λ{f args M k r} h=>al9 hc h,λ{_ _ _ _ _} h=>aM⟩
def aNE(h:∀{args M k r},run args M k=some r->∃x M',ya X g args M x M'/\k x M'=some r):p7 (zr X) (inl g run):=
 ⟨λ{args M k r} hr=>by
   obtain⟨x,M',h1,h2⟩:=h hr;exact⟨x,M',h1,h2,λids hi=>by cases hi⟩,trivial⟩
def aMs{test:aq->aL->Bool}(h:∀{args M k r},run args M k=some r->∃x M',ya X g args M x M'/\k x M'=some r):
 zr X ⟨g,test,λ_ M=>some (List.range M.length),λargs M k=>run args M λx M'=>a8 (Nat.ble M.length M'.length) (k x M')⟩:=by
 intro args M k r hr;obtain⟨x,M',h1,h2⟩:=h hr;replace h2:=cP h2;obtain⟨hle,h2⟩:=h2;refine⟨x,M',h1,h2,λids hi=> ?_⟩;injection hi with hi;subst hi;exact⟨yR hle,λi hi hn=>absurd (xJ.2 hi) hn⟩
def GZ:List (Nat×TypeId)->aq->aq
 | [],xs=>xs
 |p::ps,xs=>GZ ps (match xs[p.1]? with|some .jX =>xs.set p.1 (.aj p.2 [])|_=>xs)
def alx{ρ:bF}{F:bC}{w:World}{vs:jb}:∀(ps:List (Nat×TypeId)) {xs:aq},dZ X.K ρ F w xs vs->dZ X.K ρ F w (GZ ps xs) vs
 | [],xs,h=>h
 |p::ps,xs,h=>by
  refine alx ps ?_;split
  ·rename_i hx;refine⟨by simp [h.1],λj y v hy hv=> ?_⟩
   by_cases e:j=p.1
   ·subst e;have bI:p.1<xs.length:=(dX.1 hx).1;rw [oV bI]at hy;injection hy with hy;subst hy;have:=h.2 p.1 _ v hx hv;cases this;exact .n7 _
   ·rw [mw (Ne.symm e)]at hy;exact h.2 j y v hy hv
  ·exact h
def aNq{e:CE R}(h:zr X e)(ps:List (Nat×TypeId))(test:aq->aL->Bool):zr X ⟨e.f,test,λargs M=>e.wr (GZ ps args) M,λargs M k=>e.run (GZ ps args) M k⟩:=by
 intro args M k r hr;obtain⟨x,M',h1,h2,h3⟩:=h hr;exact⟨x,M',⟨h1.1,λ{w0 S F ρ w vs} hI hv=>h1.2 hI (alx ps hv)⟩,h2,h3⟩
end
noncomputable section
variable {X:Cx}
variable{P:Program}
def aPW:TI:=⟨false,.other,0,0,[],[]⟩
def y0:List (Nat×TI)->Nat->TI
 | [],_=>aPW
 |e::es,t=>match Nat.beq t e.1 with|true=>e.2|false=>y0 es t
def asz:List (Nat×Site)->Nat->Site
 | [],_=>⟨0,#[],.skip,.skip⟩
 |e::es,t=>match Nat.beq t e.1 with|true=>e.2|false=>asz es t
def TD{l:List (Nat×TI)}(h:p7 (λe=>e.2=E9 P e.1/\e.2.ok=true) l)(t:Nat):((y0 l t).ok =true->y0 l t=E9 P t)/\((y0 l t).ok =false->(y0 l t).ks =[]):=by
 induction l with
 |nil=>exact⟨λh=>(aM),λ_=>rfl⟩
 |cons e es ih=>
  simp only [y0];cases hb:Nat.beq t e.1 with
  |true=>
   have:=fk hb;subst this;exact⟨λ_=>h.1.1,λhf=>(by have:=h.1.2;rw [hf]at this;cases this)⟩
  |false=>exact ih h.2
def arb:List (Nat×Nat)->Nat->Nat->Bool
 | [],_,_=>false
 |e::es,d,t=>match Nat.beq d e.1&&Nat.beq t e.2 with|true=>true|false=>arb es d t
def EX:dy->Nat->Bool
 | [],_=>false
 |e::es,t=>match Nat.beq t e with|true=>true|false=>EX es t
def aKU{l:dy}(h:p7 (λe=>HZ P e=true) l)(t:Nat)(ht:EX l t=true):HZ P t=true:=by
 induction l with
 |nil=>cases ht
 |cons e es ih=>
  simp only [EX]at ht;cases hb:Nat.beq t e with
  |true=>
   have:=fk hb;subst this;exact h.1
  |false=>rw [hb]at ht;exact ih h.2 ht
def alike_refl(a:TI):TI.alike a a:=⟨rfl,rfl,rfl,rfl,rfl,rfl⟩
def aPJ{P:Program}{l:List (Nat×TI)}{s:Nat->Site}{el:dy}{gl:Nat->AV}{vw:Nat->TypeId->Bool}(hgl:∀g,gl g= .top ∨(gl g).pure =true)(hm:P.follows .mixedOrders =true)(h:p7 (λe=>e.2=E9 P e.1/\e.2.ok=true) l)(he:p7 (λe=>HZ P e=true) el):(⟨P,y0 l,s,gl,EX el,true,vw,none⟩:Cx).Ok where
 eqs:=aKU he
 facts:=λ{t} ht=>aII (X:=⟨P,y0 l,s,gl,EX el,true,vw,none⟩) (by rw [show(Cx.ti ⟨P,y0 l,s,gl,EX el,true,vw,none⟩ t)=y0 l t from rfl,(TD h t).1 ht];exact alike_refl _) ht
 mixed:=hm
 bad:=λt=>(TD h t).2
 jH:=hgl
 VE:=λ_=>aIF (X:=⟨P,y0 l,s,gl,EX el,true,vw,none⟩) (λt=>(TD h t).1) (λt=>(TD h t).2)
 ub:=λu h=>aM
 pkt:=rfl
def enters{f:FuncId}{fn:Func}{c:Code}(hf:P.funcs[f]?=some fn)(hb:fn.body=some c)(hn:(fn.name== "runtime.NumGoroutine")=false)(vs:Array Value)(w:World):(callFunc f vs).run P w= .ok (.enter f vs) w:=by
 have hp:(program).run P w= .ok P w:=rfl;have hn':fn.name≠ "runtime.NumGoroutine" :=by simpa using hn
 simp [callFunc,iB,hp,Result.andThen,hf,hn',hb]
end
end Go.ah
namespace Go.ah
def iV{p:Prop}(h:p:=by rw [this];rfl):p:=h
def CV{p:Prop}(h:p:=by simp [DataW.TrodAll]at h):p:=h
def aqB{p:Prop}(h:p:=by
 rw [nA]at hx;rcases hx with hx|hx
 ·exact a3 x hx
 ·exact b3 x hx):p:=h
def aqv{p:Prop}(h:p:=by
 have:=f.od;rw [f.u]at hu;cases d<;>simp_all [rP]):p:=h
def apZ{p:Prop}(h:p:=by
 rw [DK];simp only [rl,TM,Ke,amR];omega):p:=h
def apE{p:Prop}(h:p:=by
 have:=dZ.append a1 b1
 rwa [<-am1,Oj]at this):p:=h
end Go.ah
namespace Go.ah
def wO:=@List.sum_cons
def Oj:=@List.take_append_drop
def adg:=@Nat.succ_mul
def ac0:=@List.length_eq_one_iff
def amR:=@Function.comp_def
def acP:=@Option.map_eq_some_iff
end Go.ah
namespace Go.ah
open Go Go.ChangeShapes Go.WideShapes Go.ChangeAt Go.RowKit
noncomputable section
variable {X:Cx}
variable{H:Type}{t:TypeId}{enc:TypeId×Value->H}{v:Value}{S:vg}
inductive Wf(K:TypeId->fh):AV->Prop
 |int(k:IntKind)(n:Int)(h:(Lit.int k n).wf =true):Wf K (.int k n)
 |bool(b:Bool):Wf K (.bool b)
 |str(s:ByteArray)(h:s.size<=maxLen):Wf K (.str s)
 |aj(t:TypeId)(xs:aE)(hl:xs.length<=maxLen)(hk:∀row∈xs,dq (K t) row=true)(h:∀row∈xs,∀x∈row,Wf K x):Wf K (.aj t xs)
def WfL(K:TypeId->fh)(row:Row):Prop:=∀x∈row,Wf K x
mutual
def BV:AV->Nat
 | .aj _ xs=>tj xs+1
 |_=>1
def mb:aq->Nat
 | []=>0
 |x::xs=>BV x+mb xs
def tj:List aq->Nat
 | []=>0
 |r::rs=>mb r+tj rs
end
mutual
def rl{H:Type}:DataW H->Nat
 | .slice e s=>w5 e+w5 s+1
 | .agg p=>w5 p+1
 |_=>1
def w5{H:Type}:List (DataW H)->Nat
 | []=>0
 |d::r=>rl d+w5 r
end
def aMe(x:AV):1<=BV x:=by cases x<;>simp [BV]
def an3:∀row:aq,row.length<=mb row
 | []=>qR _
 |x::xs=>by have:=an3 xs;have:=aMe x;simp only [mb,mh];omega
def JW:∀a b:aq,mb (a++b)=mb a+mb b
 | [],b=>by simp [mb]
 |x::a,b=>by simp only [pM,mb,JW a b];omega
def Uk(d:DataW H):1<=rl d:=by cases d<;>simp [rl]
def TM{H:Type}:∀l:List (DataW H),w5 l=(l.map rl).sum
 | []=>rfl
 |d::l=>by simp only [w5,my,wO,TM l]
def aoK:∀{rs:List aq} {ns:dy},rs.length=ns.length->(∀(i:Nat) r n,rs[i]?=some r->ns[i]?=some n->mb r<=n)->tj rs<=ns.sum
 | [],[],_,_=>gQ _
 |r::rs,n::ns,hl,h=>by
  have:=h 0 r n rfl rfl;have:=aoK (rs:=rs) (ns:=ns) (sY) λi r' n' h1 h2=>h (i+1) r' n' (y9) (uu);simp only [tj,wO];omega
 | [],_::_,hl,_=>by simp at hl
 |_::_,[],hl,_=>by simp at hl
def OM(X:Cx):Nat->List (Nat×TypeId)->Nat->Bool
 |o,[],n=>o==n
 |o,f::fs,n=>f.1==o&&OM X (o+(X.ti f.2).size) fs n
def Ly(X:Cx)(S:vg)(t:TypeId):Bool:=
 (X.ti t).ok &&match(X.ti t).u with
   | .int k=>(X.ti t).ks == [.int k]
   | .bool =>(X.ti t).ks == [.bool]
   | .str =>(X.ti t).ks == [.str]
   | .slice e=>(X.ti t).ks == [.slice e]&&S.contains e&&Nat.blt 0 (X.ti e).size
   | .struct fs=>(X.ti t).ks ==fs.flatMap (λf=>(X.ti f.2).ks)&&OM X 0 fs (X.ti t).size &&fs.all (λf=>S.contains f.2)
   | .array m e=>(X.ti t).ks ==(List.replicate m (X.ti e).ks).flatten &&S.contains e&&(m*(X.ti e).size ==(X.ti t).size)
   |_=>false
def H8(X:Cx)(S:vg):Bool:=S.all (Ly X S)
def aea(h:H8 X S=true)(ht:S.contains t=true):Ly X S t=true:=by
 unfold H8 at h;exact mP.1 h t (OQ)
def abV:∀{ks ls:fh} {r s:Row},dq ks r=true->dq ls s=true->dq (ks++ls) (r++s)=true
 | [],_,[],_,_,h=>h
 |k::ks,ls,x::r,s,h,h'=>by
  simp only [dq,bA]at h;simp only [pM,dq,bA];exact⟨h.1,abV h.2 h'⟩
 | [],_,_::_,_,h,_=>G3
 |_::_,_,[],_,h,_=>G3
section
variable {w:World} {ρ:bF}
def there(w:World)(a:Addr):Prop:=a.block<w.heap.size
def Reads(X:Cx)(ρ:bF)(w:World)(ks:fh)(cs:jb)(row:Row):Prop:=dZ X.K ρ (there w) w row cs/\dq ks row=true/\WfL X.K row
def ald{cs:jb}:∀(fs:List (Nat×TypeId)) (ns:dy) (o:Nat),fs.length=ns.length->o<=cs.length->OM X o fs cs.length=true->(∀f∈fs,(X.ti f.2).ks.length =(X.ti f.2).size)->
 (∀(j:Nat) f n,fs[j]?=some f->ns[j]?=some n->∃row,Reads X ρ w (X.ti f.2).ks ((cs.drop f.1).take (X.ti f.2).size) row/\mb row<=n)->∃row,Reads X ρ w (fs.flatMap λf=>(X.ti f.2).ks) (cs.drop o) row/\mb row<=ns.sum
 | [],ns,o,_,ho,h,_,_=>by
   have:o=cs.length:=by simpa [OM]using h
   subst this;exact⟨[],⟨by simp [dZ],rfl,λx hx=>Bb⟩,qR _⟩
 |_::_,[],_,hl,_,_,_,_=>by simp at hl
 |f::fs,n::ns,o,hl,ho,h,nz,hr=>by
  simp only [OM,bA,iA]at h;obtain⟨h1,h2⟩:=h;obtain⟨r1,⟨a1,a2,a3⟩,an⟩:=hr 0 f n rfl rfl;rw [h1]at a1;have jg:((cs.drop o).take (X.ti f.2).size).length =(X.ti f.2).size :=by rw [a1.1,lQ a2];exact nz f (by simp)
  have ho2:o+(X.ti f.2).size <=cs.length:=by simp at jg;omega
  obtain⟨r2,⟨b1,b2,b3⟩,bn⟩:=ald fs ns (o+(X.ti f.2).size) (sY) ho2 h2 (λg hg=>nz g (by simp [hg])) (λj g m hg hm=>hr (j+1) g m (by simpa using hg) (U2));refine⟨r1++r2,⟨?_,?_,λx hx=> ?_⟩,by rw [JW,wO];omega⟩
  ·exact apE
  ·simp only [lz];exact abV a2 b2
  ·exact aqB
def alA{cs:jb}{ks:fh}{sz:Nat}(nz:ks.length=sz):∀(ns:dy) (o:Nat),o+ns.length*sz=cs.length->(∀(i:Nat) n,ns[i]?=some n->∃row,Reads X ρ w ks ((cs.drop (o+i*sz)).take sz) row/\mb row<=n)->∃row,Reads X ρ w (List.replicate ns.length ks).flatten (cs.drop o) row/\mb row<=ns.sum
 | [],o,ho,_=>by
   have:o=cs.length:=by simpa using ho
   subst this;exact⟨[],⟨by simp [dZ],rfl,λx hx=>Bb⟩,qR _⟩
 |n::ns,o,ho,hr=>by
  obtain⟨r1,⟨a1,a2,a3⟩,an⟩:=hr 0 n rfl;simp only [Nat.zero_mul,CB]at a1;rw [mh]at ho;have e1:(ns.length+1)*sz=ns.length*sz+sz:=adg _ sz;obtain⟨r2,⟨b1,b2,b3⟩,bn⟩:=alA (cs:=cs) nz ns (o+sz) (by omega) (λi m hi=>by
   have:=hr (i+1) m (EF);have e2:(i+1)*sz=i*sz+sz:=adg i sz;rw [e2,show o+(i*sz+sz)=o+sz+i*sz by omega]at this;exact this)
  refine⟨r1++r2,⟨?_,?_,λx hx=> ?_⟩,by rw [JW,wO];omega⟩
  ·exact apE
  ·simp only [mh,acQ,GH];exact abV a2 b2
  ·exact aqB
def N1{k:Kind}{x:AV}(hr:aR X.K ρ (there w) w x v)(hk:js k x=true)(hw:Wf X.K x):Reads X ρ w [k] [v] [x]:=
 ⟨⟨rfl,λj y u hy hu=>by
   cases j with
   |zero=>simp at hy hu;subst hy;subst hu;exact hr
   |succ j=>simp at hy⟩,by simp [dq,hk],λy hy=>by simp at hy;subst hy;exact hw⟩
def SR(hX:X.Ok){S:vg}(hS:H8 X S=true){H:Type}{enc:TypeId×Value->H}:∀(n:Nat) {fuel:Nat} {t:TypeId} {cs:jb} {x:DataW H×List MemPlace},fuel<n->S.contains t=true->
 DataW.trod enc X.P w 0 (λ_=>true) true fuel t cs=some x->∃row,Reads X ρ w (X.ti t).ks cs row/\mb row<=rl x.1
 |0,_,_,_,_,h,_,_=>absurd h (Nat.not_lt_zero _)
 |n+1,fuel,t,cs,x,hfu,ht,hx=>by
  have h:=aea hS ht;simp only [Ly,bA]at h;obtain⟨aX,h⟩:=h;obtain⟨i,d,z,f⟩:=hX.facts aX;have pT:∀t',(X.ti t').ok =true->X.P.cellsOf t'=(X.ti t').size :=λt' ahf=>by
   obtain⟨i',d',z',f'⟩:=hX.facts ahf;simp [Program.cellsOf,f'.info,f'.size]
  have hlen:∀t',(X.ti t').ok =true->(X.ti t').ks.length =(X.ti t').size :=λt' ahf=>by
   obtain⟨i',d',z',f'⟩:=hX.facts ahf;rw [f'.ks,f'.size]
  have W6:∀{t'},S.contains t'=true->(X.ti t').ok =true:=λ{t'} hm=>by
   have:=aea hS hm;simp only [Ly,bA]at this;exact this.1
  split at h
  ·rename_i k hu;have hk:(X.ti t).ks =[.int k]:=mU;obtain⟨m,rfl,_,hwf⟩:=DataW.trod_int (f.avD hu) hx;rw [hk];exact⟨_,N1 (.int k m) (by simp [js]) (.int k m hwf),Uk x.1⟩
  ·rename_i hu;have hk:(X.ti t).ks =[.bool]:=mU;have e8:X.P.underlying t=some .bool :=aqv;obtain⟨b,rfl,_⟩:=DataW.trod_bool e8 hx;rw [hk];exact⟨_,N1 (.bool b) rfl (.bool b),Uk x.1⟩
  ·rename_i hu;have hk:(X.ti t).ks =[.str]:=mU;have e8:X.P.underlying t=some .string :=aqv;obtain⟨s,rfl,_,hs⟩:=DataW.trod_string e8 hx;rw [hk];exact⟨_,N1 (.str s) rfl (.str s hs),Uk x.1⟩
  ·rename_i e hu;simp only [bA,iA]at h;obtain⟨⟨hk,qc⟩,sy⟩:=h;have sy:0<(X.ti e).size :=by simpa using sy
   have P1:=W6 qc;rcases DataW.trod_slice (f.slice hu) hx with⟨rfl,_⟩|⟨a,len,cap,elems,rest,m,B3,rfl,DK,_,hlc,Q3,hel,afP,_,_⟩
   ·rw [hk];exact⟨_,N1 (.n7 e) (by simp [js]) (.aj e [] (by simp) (λrow h=>jY) (λrow h=>jY)),Uk x.1⟩
   ·rw [hk];have each:∀i,i<len->∃vs row,w.cells? 0 (a.add (i*(X.ti e).size)) (X.ti e).size =some vs/\Reads X ρ w (X.ti e).ks vs row/\∀n,(elems.map λd=>rl d.1)[i]?=some n->mb row<=n:=by
     intro i hi;have:=afP i hi;rw [pT e P1,c8 (by omega)]at this;rw [Option.bind_eq_some_iff]at this;obtain⟨vs,h1,h2⟩:=this;obtain⟨row,h3,h4⟩:=SR hX hS n (by omega) qc h2;exact⟨vs,row,h1,h3,λm hm=>by
      rw [kW,c8 (by omega)]at hm;cases hm;exact h4⟩
    have hch:∃g:Nat->jb×Row,∀i,i<len->w.cells? 0 (a.add (i*(X.ti e).size)) (X.ti e).size =some (g i).1 /\Reads X ρ w (X.ti e).ks (g i).1 (g i).2 /\∀n,(elems.map λd=>rl d.1)[i]?=some n->mb (g i).2 <=n:=by
     refine⟨λi=>if hi:i<len then((each i hi).choose,(each i hi).choose_spec.choose)else([],[]),λi hi=> ?_⟩;simp only [hi,dif_pos];exact(each i hi).choose_spec.choose_spec
    obtain⟨g,hg⟩:=hch;have uS:=hlen e P1;have yA:((List.range len).map λi=>(g i).2).length =len:=by simp
    have rep:=aR.aj (K:=X.K) (ρ:=ρ) (F:=there w) (w:=w) e ((List.range len).map λi=>(g i).2) a cap ((List.range len).map λi=>(g i).1) (by simp) (by simpa using hlc) Q3
     (λi row hi=>by
       have bI:i<len:=Pm;simp only [kW,wP bI,ox,Option.some.injEq]at hi;subst hi;exact(hg i bI).2.1.2.1)
     (λi vs hi=>by
       have bI:i<len:=Pm;simp only [kW,wP bI,ox,Option.some.injEq]at hi;subst hi;obtain⟨c1,c2,_⟩:=hg i bI;have DN:(g i).1.length =(X.K e).length :=by rw [c2.1.1,lQ c2.2.1];rfl
       refine⟨DN,λj v hj=> ?_⟩;have QZ:j<(X.ti e).size :=by have:=(dX.1 hj).1;rw [DN]at this;rw [<-uS];exact this
       have ark:w.cell? (a.add (i*(X.K e).length +j))=some v:=by
        have afJ:=World.cells?_some c1;obtain⟨_,afJ⟩:=afJ;have:=afJ.2 j QZ;rw [hj]at this;have e2:(X.K e).length =(X.ti e).size :=uS;rw [e2]
        rwa [Ew]at this
       exact⟨ark,World.block_lt_of_cell? w _ ark⟩)
     (λi row vs hi gE j y v hy hv=>by
       have bI:i<len:=Pm;simp only [kW,wP bI,ox,Option.some.injEq]at hi gE;subst hi;subst gE;exact(hg i bI).2.1.1.2 j y v hy hv)
    rw [yA]at rep;refine⟨_,N1 rep (by simp [js]) (.aj e _ (by rw [yA];omega) (λrow ia=> ?_) λrow ia y hy=> ?_),?_⟩
    ·obtain⟨i,hi,rfl⟩:=wL.1 ia;exact(hg i (xJ.1 hi)).2.1.2.1
    ·obtain⟨i,hi,rfl⟩:=wL.1 ia;exact(hg i (xJ.1 hi)).2.1.2.2 y hy
    ·have:=aoK (rs:=(List.range len).map λi=>(g i).2) (ns:=elems.map λd=>rl d.1) (by simp [hel]) λi r n h1 h2=>by
      have bI:i<len:=by have:=(dX.1 h1).1;simpa using this
      simp only [kW,wP bI,ox,Option.some.injEq]at h1;subst h1;exact(hg i bI).2.2 n h2
     rw [DK];simp only [rl,TM,Ke,mb,BV,amR];omega
  ·rename_i fs hu;simp only [bA,iA]at h;obtain⟨⟨hk,zp⟩,jA⟩:=h;obtain⟨gs,e8,rfl⟩:=f.struct hu;obtain⟨xs,m,B3,DK,iJ,DJ,aNH⟩:=DataW.trod_struct e8 hx;rw [hk];rw [pT t aX]at iJ;have:=ald (X:=X) (ρ:=ρ) (w:=w) (cs:=cs) (gs.toList.map λf=>(f.offset,f.type)) (xs.map λd=>rl d.1) 0 (by simp [DJ]) (qR _) (by rw [iJ];exact zp)
    (λg hg=>hlen _ (W6 (mP.1 jA g hg))) (λj g k hg hn=>by
      have qc:=mP.1 jA g (qk hg);rw [kW,acP]at hg;obtain⟨q,hq,rfl⟩:=hg;have sH:gs[j]?=some q:=G5;have hf:=aNH j q sH;rw [pT _ (W6 qc)]at hf;rw [kW,acP]at hn;obtain⟨y,hy,rfl⟩:=hn;rw [hy]at hf;exact SR hX hS n (by omega) qc hf)
   obtain⟨row,h1,h2⟩:=this;refine⟨row,y9,?_⟩;exact apZ
  ·rename_i m e hu;simp only [bA,iA]at h;obtain⟨⟨hk,qc⟩,hmul⟩:=h;have P1:=W6 qc;obtain⟨xs,m',B3,DK,iJ,DJ,afP⟩:=DataW.trod_array (f.array hu) hx;rw [hk];rw [pT t aX]at iJ;have:=alA (X:=X) (ρ:=ρ) (w:=w) (cs:=cs) (hlen e P1) (xs.map λd=>rl d.1) 0 (by rw [dW,DJ];omega) (λi k hi=>by
    rw [kW,acP]at hi;obtain⟨y,hy,rfl⟩:=hi;have hf:=afP i (aeL);rw [pT _ P1,hy]at hf;simpa using SR hX hS n (by omega) qc hf)
   obtain⟨row,h1,h2⟩:=this;rw [dW,DJ]at h1;refine⟨row,y9,?_⟩;exact apZ
  ·exact aM
end
def agc(X:Cx)(t:TypeId)(x:AV):Prop:=((X.ti t).u.agg =true/\∃row,x= .agg row/\dq (X.ti t).ks row=true/\WfL X.K row)∨((X.ti t).u.agg =false/\dq (X.ti t).ks [x]=true/\Wf X.K x)
def LJ:AV->Nat
 | .agg row=>mb row
 |x=>BV x
def PW(xs:aq):Nat:=(xs.map LJ).sum
def aHP(hX:X.Ok)(hS:H8 X S=true){w:World}{base:Nat}{ρ:bF}{d:DataW H}{ps:List MemPlace}(qc:S.contains t=true)(h:DataW.Trod enc X.P w 0 (λ_=>true) true t v d ps)
 (aX:Value.okWide X.P w .any base t v):∃x,(agc X t x/\LJ x<=rl d)/\aR X.K ρ (there w) w x v:=by
 obtain⟨fuel,h⟩:=h;obtain⟨row,hr,hn⟩:=SR hX hS (ρ:=ρ) (fuel+1) (by omega) qc h;have yC:=aea hS qc;have BY:(X.ti t).ok =true:=by
  simp only [Ly,bA]at yC;exact yC.1
 obtain⟨i,dd,z,f⟩:=hX.facts BY;cases jv:(X.ti t).u.agg with
 |true=>
  have hv:∃cs,v= .agg cs:=by
   unfold Value.okWide at aX;rw [f.od]at aX;rw [f.u]at jv;cases dd<;>simp [rP,AU.agg]at jv
   ·obtain⟨cs,h1,_⟩:=aX;exact⟨cs,h1⟩
   ·obtain⟨cs,h1,_⟩:=aX;exact⟨cs,h1⟩
  obtain⟨cs,rfl⟩:=hv;have hc:(Value.agg cs).cells.toList =cs.toList:=rfl;rw [hc]at hr;refine⟨.agg row,⟨.inl ⟨jv,row,rfl,hr.2.1,hr.2.2⟩,hn⟩,?_⟩;have:=aR.agg (K:=X.K) (ρ:=ρ) (F:=there w) (w:=w) row cs.toList hr.1.1 hr.1.2;exact uj
 |false=>
  have uS:(X.ti t).ks.length =1:=by
   simp only [Ly,bA]at yC;have h2:=yC.2;split at h2
   ·rename_i k hu;have:(X.ti t).ks =[.int k]:=uu;exact iV
   ·have:(X.ti t).ks =[.bool]:=by simpa using h2
    exact iV
   ·have:(X.ti t).ks =[.str]:=by simpa using h2
    exact iV
   ·simp only [bA,iA]at h2;rw [h2.1.1];rfl
   ·rename_i hu;rw [hu]at jv;simp [AU.agg]at jv
   ·rename_i hu;rw [hu]at jv;simp [AU.agg]at jv
   ·cases h2
  have yB:=lQ hr.2.1;rw [uS]at yB;obtain⟨x,rfl⟩:=ac0.1 yB;have iJ:v.cells.toList.length=1:=by rw [hr.1.1,yB]
  have hv:v.cells.toList=[v]:=by
   cases v with
   |agg cs=>
    exfalso;unfold Value.okWide at aX;rw [f.od]at aX;rw [f.u]at jv;cases dd<;>simp [rP,AU.agg]at jv<;>simp [Cell.okWide,Cell.ok,f.od]at aX
   |_=>rfl
  rw [hv]at hr;have hw:=hr.2.2 x (by simp);exact⟨x,⟨.inr ⟨jv,hr.2.1,hw⟩,by cases hw<;>simpa [LJ,mb]using hn⟩,hr.1.2 0 x v rfl rfl⟩
def aIs{w0 w:World}{F:bC}{ρ:bF}{M:aL}{F0:bC}(hI:Inv X w0 ⟨λ_=>False,F0⟩ F ρ M w):Below w0.heap.size w0 w:=
 ⟨hI.os,hI.tape,hI.output,hI.size,λk hk=>hI.frame k hk (λh=>h)⟩
def aHc{w w':World}(h:Below w.heap.size w w')(may:MemPlace->Prop):w.keptBut w' may:=by
 refine⟨h.os,h.output,λi hi=> ?_⟩;rw [h.block i hi];exact(World.keptBut_refl w may).2.2 i hi
def aJ0(hX:X.Ok)(w:World)(hg:∀g,aR X.K [] (there w) w (X.jH g) (.pointer (some ⟨g,0,none⟩))):Inv X w ⟨λ_=>False,there w⟩ (there w) [] [] w where
 os:=rfl
 tape:=rfl
 output:=rfl
 size:=gQ _
 frame:=λ_ _ _=>rfl
 len:=rfl
 rep:=λid b hd hb _=>by simp at hb
 sep:=λid b hd g hb _ _ _=>by simp at hb
 k5:=λid id' b b' hd du g _ hb _ _ _ _ _ _=>by simp at hb
 fz:=λa ha=>ha
 jH:=hg
 one:=λid hd hh=>by simp at hh
 iw:=λa ha=> .inl ha
 fin:=λa ha=>ha
 bD:= .none (by simp)
def VO(X:Cx):vg->aq->Prop
 | [],[]=>True
 |t::ts,x::xs=>agc X t x/\VO X ts xs
 |_,_=>False
def akL(hX:X.Ok){S:vg}(hS:H8 X S=true){w:World}{base:Nat}{ρ:bF}{H:Type}{enc:TypeId×Value->H}:∀{ts:vg} {vs:jb} {ds:List (DataW H)} {ps:List MemPlace},(ts.all S.contains)=true->
 DataW.TrodAll enc X.P w 0 (λ_=>true) true ts vs ds ps->(∀(j:Nat) t v,ts[j]?=some t->vs[j]?=some v->Value.okWide X.P w .any base t v)->∃xs,(VO X ts xs/\PW xs<=w5 ds)/\dZ X.K ρ (there w) w xs vs
 | [],[],[],ps,_,_,_=>⟨[],⟨trivial,gQ _⟩,by simp [dZ]⟩
 |t::ts,v::vs,d::ds,ps,qc,h,aX=>by
  obtain⟨p,q,h1,h2,_⟩:=h;simp only [A8,bA]at qc;obtain⟨x,⟨hx,hn⟩,hr⟩:=aHP hX hS (ρ:=ρ) qc.1 h1 (aX 0 t v rfl rfl);obtain⟨xs,⟨yA,nP⟩,wy⟩:=akL hX hS (ρ:=ρ) (ts:=ts) (vs:=vs) qc.2 h2 (λj t' v' ht hv=>aX (j+1) t' v' (OQ) (by simpa using hv));refine⟨x::xs,⟨⟨hx,yA⟩,by simp only [PW,my,wO,w5]at nP⊢;omega⟩,by simp [wy.1],λj y u hy hu=> ?_⟩;cases j with
  |zero=>simp at hy hu;subst hy;subst hu;exact hr
  |succ j=>simp at hy hu;exact wy.2 j y u hy hu
 | [],[],_::_,_,_,h,_=>CV
 | [],_::_,_,_,_,h,_=>CV
 |_::_,[],_,_,_,h,_=>CV
 |_::_,_::_,[],_,_,h,_=>CV
def akt{P:Program}{H:Type}{enc:TypeId×Value->H}(hl:laidOutB P=true){w w':World}(hb:Below w.heap.size w w'):∀{ts:vg} {vs:jb} {ds:List (DataW H)} {ps:List MemPlace},(ts.all λt=>P.readableRec t&&Nat.blt t P.types.size)=true->
 DataW.TrodAll enc P w 0 (λ_=>true) true ts vs ds ps->(∀x∈ps,x.block<w.heap.size)->DataW.TrodAll enc P w' 0 (λb=>decide (b<w.heap.size)) true ts vs ds ps
 | [],[],[],ps,_,h,_=>h
 |t::ts,v::vs,d::ds,ps,qc,h,bI=>by
  obtain⟨p,q,h1,h2,rfl⟩:=h;simp only [A8,bA]at qc;exact⟨p,q,Below.trod hl qc.1.1 (by simpa using qc.1.2) h1 hb (λx hx=>bI x (by simp [hx])),akt hl hb (ts:=ts) (vs:=vs) qc.2 h2 (λx hx=>bI x (by simp [hx])),rfl⟩
 | [],[],_::_,_,_,h,_=>CV
 | [],_::_,_,_,_,h,_=>CV
 |_::_,[],_,_,_,h,_=>CV
 |_::_,_::_,[],_,_,h,_=>CV
def aHb(hX:X.Ok)(hl:laidOutB X.P=true){f:FuncId}{fn:Func}{s:ChangeSpec}{ts:vg}{tb:TypeId}(hts:fn.params.toList=ts)(AG:fn.resultTypes= #[tb]) (htb:X.P.underlying tb=some .bool)
  (hS:H8 X S=true) (qc:(ts.all S.contains)=true) (hrr:(ts.all λt=>X.P.readableRec t&&Nat.blt t X.P.types.size)=true) (hv:s.vars=[])  
 (hs:∀ds:List (DataW H),ds.length=ts.length->s.fn H ds={results:=[.lit (.bool true)],args:=ds})
 (W:World) (hg:∀g,aR X.K [] (there W) W (X.jH g) (.pointer (some ⟨g,0,none⟩))) (base:Nat) (args:Array Value) (ds gs:List (DataW H)) (before:List MemPlace) (Ll:∀(j:Nat) t v,fn.params[j]?=some t->args[j]?=some v->Value.okWide X.P W .any base t v)
 (hW:DataW.Whole enc X.P fn.params.toList s.vars false W args.toList ds gs before)
 (aY6:∀xs,VO X ts xs->PW xs<=w5 ds->∃m M',KD X f m xs [] (.bool true) M'):
 Calls X.P f args W λe W'=>∃v,e= .returned v/\s.post enc X.P fn false true false false W args v W':=by
 have hW':=hW;obtain⟨p,q,hA,hV,hpq,L7,uP⟩:=hW;rw [hv]at hV;obtain⟨rfl,rfl⟩:=trodVars_none hV;rw [yW]at hpq;have aYX:p=before:=hpq.symm;subst aYX;have Mb:=hA;rw [hts]at hA;have hlen:ds.length=ts.length:=by
  have:∀(ts:vg) (vs:jb) (ds:List (DataW H)) (ps:List MemPlace),DataW.TrodAll enc X.P W 0 (λ_=>true) true ts vs ds ps->ds.length=ts.length:=by
   intro ts
   induction ts with
   |nil=>intro vs ds ps h;cases vs<;>cases ds<;>simp_all [DataW.TrodAll]
   |cons t ts ih=>
    intro vs ds ps h;cases vs with
    |nil=>cases ds<;>simp [DataW.TrodAll]at h
    |cons v vs=>
     cases ds with
     |nil=>exact CV
     |cons d ds=>obtain⟨_,_,_,h2,_⟩:=h;simp [ih _ _ _ h2]
  exact this _ _ _ _ hA
 obtain⟨xs,⟨yA,hnv⟩,nw⟩:=akL hX hS (ρ:=[]) qc hA (λj t v ht hv=>Ll j t v (by rw [<-hts]at ht;simpa using ht) (by simpa using hv));obtain⟨m,M',C5⟩:=aY6 xs yA hnv;have:=C5 (aJ0 hX W hg) nw;refine this.mono ?_;rintro e W' ⟨v,ρ',F',rfl,hI,_,hr⟩;refine⟨v,rfl,?_⟩;cases hr;have hb:=aIs hI;have bI:∀x∈p,x.block<W.heap.size:=λx hx=>by simpa using hW'.lt x hx
 have hfn:s.fn H (ds++[])={results:=[.lit (.bool true)],args:=ds}:=by rw [yW];exact hs ds hlen
 refine⟨ds,[],p,[],p,[],hW',?_,?_,?_,aHc hb _,λh=>aM⟩
 ·rw [hfn,AG];exact trodAll_mk1 (shut_bool htb true)
 ·rw [hfn];rw [hts];exact akt hl hb hrr hA bI
 ·rw [hfn,hv];exact rfl
end
noncomputable section
variable {X:Cx} {R:Type}
section
variable {w:World} {F:bC} {ρ:bF} {n:Nat}
end
section
variable {w:World} {F:bC} {ρ:bF}
end
def kce{R:Type}(f:FuncId):CE R:=⟨f,λ_ _=>true,λ_ _=>some [],λargs M k=>match args with| []=>k (.bool true) M|_=>none⟩
end
end Go.ah

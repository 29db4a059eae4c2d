/- The count of draws never falls, whatever step the machine. -/
import Derived.Calls
import Derived.Test.YtckfnbckoclhpaaGreatDoorE15
import Derived.Test.YtckfnbckoclhpaaGreatDoorE16
import Derived.Test.YtckfnbckoclhpaaGreatDoorE10
import Derived.Test.YtckfnbckoclhpaaGreatDoorSrt
import Derived.Deep.RegionHeld3
import Derived.Test.YtckfnbckoclhpaaGreatDoorE19
namespace Go.Proofs.YtckfnbckoclhpaaGreatDoor
set_option linter.unusedVariables false
set_option linter.unusedSimpArgs false
set_option maxRecDepth 100000
set_option maxHeartbeats 4000000
section
open Go
theorem zgL{α:Type}:∀(k:Ask α) (w:World),w.drawn≤(w.ask k).2.drawn
 | .done a,w=>Nat.le_refl _
 | .ask what range k,w=>by
  unfold World.ask;dsimp only;split
  ·exact zgL (k 0) w
  ·exact Nat.le_trans (Nat.le_succ _) (zgL (k _) {w with drawn:=w.drawn+1})
theorem zgz(w:World)(c:Sys):w.drawn≤(w.sys c).2.drawn:=by
 have h:=zgL (Kernel.perform c w.os) w;unfold World.sys;split
 ·exact Nat.le_refl _
 ·rename_i e;rw [e]at h;exact h
def zrm{α:Type}:Result α→World
 | .ok _ w=>w
 | .halt _ w=>w
theorem zma{p:Program}{w:World}{j:Addr}{u:TypeId}{k:Addr}{v:Value}{i:Bool}{r:World×List Addr}(h:w.viewStore p j u k v i= .ok r):r.1.drawn=w.drawn:=by
 unfold World.viewStore at h;simp only [bind,Except.bind,pure,Except.pure]at h
 repeat' split at h
 all_goals first|cases h|skip
 all_goals first|rfl| (injection h with h;subst h;rfl)|skip
theorem zjm{p:Program}{w:World}{a:Addr}{v:Value}{i:Bool}{r:World×List Addr}(h:w.farStore p a v i= .ok r):r.1.drawn=w.drawn:=by
 unfold World.farStore at h;split at h
 ·split at h
  ·rename_i e;injection h with h;subst h;exact zma e
  ·cases h
 ·cases h
theorem zfU(w:World)(a:Addr)(n:Nat):(w.freeze a n).drawn=w.drawn:=by unfold World.freeze;split<;>rfl
theorem za6{α:Type}(p:Program)(s:Sem α):∀w:World,w.drawn≤(zrm (s.run p w)).drawn:=by
 induction s with
 |pure a=>exact fun w=>Nat.le_refl _
 |load m a k ih=>
  intro w;unfold Sem.run;split
  ·exact ih _ w
  ·split
   ·exact ih _ w
   ·exact Nat.le_refl _
 |store m a v k ih=>
  intro w;have i:w.drawn≤(zrm (match w.cell? a with
    |some _=>if w.frozen? a then .halt (.unsupported (.unsafePointer "a write to bytes that a string shares")) w else k.run p (w.setCell a v)
    |none=>match w.farStore p a v (m== .atomic)with
     | .ok (w,_)=>k.run p w
     | .error h=> .halt h w)).drawn:=by
   split
   ·split
    ·exact Nat.le_refl _
    ·exact ih (w.setCell a v)
   ·split
    ·rename_i w' _ e;have:=zjm e;dsimp only at this;rw [←this];exact ih w'
    ·exact Nat.le_refl _
  cases v
  all_goals first|exact Nat.le_refl _|exact i
 |new o k ih=>exact fun w=>by unfold Sem.run;exact ih _ {w with heap:=w.heap.push o}
 |shape r k ih=>exact fun w=>by unfold Sem.run;exact ih _ w
 |freeze a n k ih=>exact fun w=>by unfold Sem.run;rw [←zfU w a n];exact ih _
 |frozen a k ih=>exact fun w=>by unfold Sem.run;exact ih _ w
 |getObj r k ih=>
  intro w;unfold Sem.run;split
  ·exact Nat.le_refl _
  ·exact ih _ w
  ·exact Nat.le_refl _
 |setObj r o k ih=>
  intro w;unfold Sem.run;split
  ·exact Nat.le_refl _
  ·exact ih {w with heap:=w.heap.setIfInBounds r o}
  ·exact Nat.le_refl _
 |choose q k ih=>
  intro w;unfold Sem.run;split
  ·exact ih _ w
  ·exact Nat.le_trans (Nat.le_succ _) (ih _ {w with drawn:=w.drawn+1})
 |sys c k ih=>exact fun w=>by unfold Sem.run;exact Nat.le_trans (zgz w c) (ih _ _)
 |program k ih=>exact fun w=>by unfold Sem.run;exact ih _ w
 |mark m k ih=>exact fun w=>by unfold Sem.run;exact ih w
 |halt h=>exact fun w=>Nat.le_refl _
theorem za0{α:Type}(p:Program)(s:Sem α):∀(w:World) (i:Array Event),w.drawn≤(zrm (s.runT p w i).1).drawn:=by
 induction s with
 |pure a=>exact fun w i=>Nat.le_refl _
 |load m a k ih=>
  intro w i;unfold Sem.runT;split
  ·exact ih _ w _
  ·split
   ·exact ih _ w _
   ·exact Nat.le_refl _
 |store m a v k ih=>
  intro w i;have j:w.drawn≤(zrm (match w.cell? a with
    |some _=>if w.frozen? a then(.halt (.unsupported (.unsafePointer "a write to bytes that a string shares")) w,i)else k.runT p (w.setCell a v) (i.push ⟨.cell a,true,m== .atomic⟩)
    |none=>match w.farStore p a v (m== .atomic)with
     | .ok (w,touched)=>k.runT p w (i++touched.toArray.map (⟨.cell ·,true,m== .atomic⟩))
     | .error h=>(.halt h w,i):Result α×Array Event).1).drawn:=by
   split
   ·split
    ·exact Nat.le_refl _
    ·exact ih (w.setCell a v) _
   ·split
    ·rename_i w' _ e;have:=zjm e;dsimp only at this;rw [←this];exact ih w' _
    ·exact Nat.le_refl _
  cases v
  all_goals first|exact Nat.le_refl _|exact j
 |new o k ih=>exact fun w i=>by unfold Sem.runT;exact ih _ {w with heap:=w.heap.push o} _
 |shape r k ih=>exact fun w i=>by unfold Sem.runT;exact ih _ w _
 |freeze a n k ih=>exact fun w i=>by unfold Sem.runT;rw [←zfU w a n];exact ih _ _
 |frozen a k ih=>exact fun w i=>by unfold Sem.runT;exact ih _ w _
 |getObj r k ih=>
  intro w i;unfold Sem.runT;split
  ·exact Nat.le_refl _
  ·exact ih _ w _
  ·exact Nat.le_refl _
 |setObj r o k ih=>
  intro w i;unfold Sem.runT;split
  ·exact Nat.le_refl _
  ·exact ih {w with heap:=w.heap.setIfInBounds r o} _
  ·exact Nat.le_refl _
 |choose q k ih=>
  intro w i;unfold Sem.runT;split
  ·exact ih _ w _
  ·exact Nat.le_trans (Nat.le_succ _) (ih _ {w with drawn:=w.drawn+1} _)
 |sys c k ih=>exact fun w i=>by unfold Sem.runT;exact Nat.le_trans (zgz w c) (ih _ _ _)
 |program k ih=>exact fun w i=>by unfold Sem.runT;exact ih _ w _
 |mark m k ih=>exact fun w i=>by unfold Sem.runT;exact ih w _
 |halt h=>exact fun w i=>Nat.le_refl _
theorem zfO{α:Type}{p:Program}{s:Sem α}{w:World}{r:Result α}(e:s.run p w=r):w.drawn≤(zrm r).drawn:=e▸za6 p s w
def gW:GStep→World
 | .go _ w _=>w
 | .comm _ _ _ _ w _=>w
 | .spawn _ _ w _=>w
 | .count _ w _=>w
 | .timer _ _ w _=>w
 | .alone _ _ w _=>w
 | .newcoro _ _ _ w _=>w
 | .coroswitch _ _ _ w _=>w
 | .collect _ w _=>w
 | .watch _ w _=>w
 | .ended _ w _=>w
theorem zdz(i:Array Event)(s:GStep):gW (GStep.after i s)=gW s:=by cases s<;>rfl
theorem zoc{c:Prop} [Decidable c] {x y:GStep}{n:Nat}(j:n≤(gW x).drawn)(i:n≤(gW y).drawn):n≤(gW (if c then x else y)).drawn:=by
 split
 ·exact j
 ·exact i
theorem zic(w:World)(j:Nat)(i:ByteArray)(o:Outcome):w.drawn≤(gW (endWith w j i o)).drawn:=by
 have h:=zgz w (.write j i);unfold endWith;dsimp only;generalize w.sys (.write j i)=x at h;obtain⟨r,w'⟩:=x;split
 ·rename_i e;injection e with e1 e2;subst e2;split<;>exact h
 ·rename_i e;injection e with e1 e2;subst e2;exact h
 ·rename_i e;injection e with e1 e2;subst e2;exact h
theorem zcU(p:Program)(i:Frame)(v:Value)(w:World):w.drawn≤(gW (endPrinting p i v w)).drawn:=by
 unfold endPrinting;dsimp only
 repeat' split
 all_goals exact Nat.le_refl _
theorem zeo(p:Program)(j:Frame)(callers:List Frame)(dying:Option Dying)(m:String)(w:World):w.drawn≤(gW (endFatal p j callers dying m w)).drawn:=by
 unfold endFatal;dsimp only;have i:∀s:Sem (List (ByteArray×String)×List ByteArray),w.drawn≤(gW (match s.run p w with
   | .ok (texts,tabs) w=>dieOf j (panicPieces texts++tabs) m true w
   | .halt (.unsupported u) w=> .ended (.unsupported u "") w
   | .halt _ w=> .ended (.stuck "the report of a panic" "") w)).drawn:=fun s=>by
  have h:=za6 p s w;split
  all_goals
   rename_i e;rw [e]at h;exact h
 exact i _
theorem zh5(p:Program)(i:Frame)(d:Dying)(f:Fatal)(w:World):w.drawn≤(gW (writeOn p i d f w)).drawn:=by
 unfold writeOn;dsimp only;split
 ·exact Nat.le_refl _
 ·have k:∀S:Sem Unit,∀g:Bool→Fatal,w.drawn≤(gW (match S.runT p w #[]with
    | (.ok _ w,j)=> .go {frame:=i,callers:=[],status:= .running,dying:=some {d with fatal:=some (g true)}} w j
    | (.halt .blocked w,_)=> .go {frame:=i,callers:=[],status:= .blocked,dying:=some {d with fatal:=some (g false)}} w #[]
    | (.halt (.unsupported u) w,_)=> .ended (.unsupported u "") w
    | (.halt _ w,_)=> .ended (.stuck "the report of a fatal error" "") w)).drawn:=fun S g=>by
   have h:=za0 p S w #[];generalize S.runT p w #[]=x at h;obtain⟨r,j⟩:=x
   cases r with
   |ok a w'=>exact h
   |halt hh w'=>cases hh<;>exact h
  exact k _ (fun b=>if b then {f with pieces:=_,begun:=true}else f)
theorem znL(p:Program)(k:Frame)(d:Dying)(w:World):w.drawn≤(gW (die p k d w)).drawn:=by
 unfold die;split
 ·exact zh5 ..
 ·split
  ·split
   ·exact Nat.le_refl _
   ·exact zic ..
  ·dsimp only;split
   ·exact Nat.le_refl _
   ·rename_i s _;have h:=za6 p (withAddress s) w;split
    all_goals
     rename_i e;rw [e]at h;exact h
   ·rename_i t j i _;have h:=za0 p (invoke (.fn (.method i) #[]) #[.iface t j]) w #[];generalize (invoke (.fn (.method i) #[]) #[.iface t j]).runT p w #[]=x at h;obtain⟨r,o⟩:=x;dsimp only at h⊢;rw [zdz];split
    ·exact h
    ·exact h
    ·exact h
    ·exact Nat.le_trans h (zcU ..)
    ·exact Nat.le_refl _
   ·exact Nat.le_refl _
theorem zkx(p:Program)(i:Frame)(callers:List Frame)(dying:Option Dying)(g:Nat)(w:World):w.drawn≤(gW (early p i callers dying g w)).drawn:=by
 have j:∀w':World,w'.drawn=(gW (match w'.heap[g]? with
  |some (.pending c elem)=> .go {frame:=i,callers,status:= .running,dying} {w' with heap:=w'.heap.setIfInBounds g (.cells c elem)}
  |_=> .ended (.stuck "early: the variable does not wait" (i.pos p)) w')).drawn:=fun w'=>by split<;>rfl
 unfold early;dsimp only
 repeat' first
  |exact Nat.le_refl _
  |exact Nat.le_of_eq (j w)
  | (rename_i e;exact zfO e)
  | (rename_i e;exact Nat.le_trans (zfO e) (Nat.le_of_eq (j _)))
  | (rename_i e _;exact zfO e)
  |split
theorem zcI(p:Program)(i:Bool)(j:Frame)(callers:List Frame)(dying:Option Dying)(v:Value)(w:World):gW (doReturn p i j callers dying v w)=w:=by
 unfold doReturn
 repeat' split
 all_goals rfl
theorem zff(p:Program)(i:Frame)(callers:List Frame)(dying:Option Dying)(d:Deferred)(w:World):w.drawn≤(gW (callDeferred p i callers dying d w)).drawn:=by
 unfold callDeferred;refine zoc (Nat.le_refl _) ?_
 ·have h:=za0 p (invoke d.target d.args) w #[];generalize (invoke d.target d.args).runT p w #[]=x at h;obtain⟨r,j⟩:=x;dsimp only at h⊢;rw [zdz]
  repeat' split
  all_goals first|exact h|exact Nat.le_trans h (zeo ..)
theorem zjq(p:Program)(j:Bool)(k:Frame)(callers:List Frame)(dying:Option Dying)(w:World):w.drawn≤(gW (unwind p j k callers dying w)).drawn:=by
 unfold unwind;split
 ·rename_i block _ v _;have h:=za0 p (Instr.takeDeferred block) w #[];generalize (Instr.takeDeferred block).runT p w #[]=x at h;obtain⟨r,t⟩:=x;dsimp only at h⊢;rw [zdz];split<;>exact h
 ·exact zff ..
 ·split
  ·exact Nat.le_refl _
  ·rename_i i _;split
   ·exact Nat.le_refl _
   ·split
    ·exact Nat.le_refl _
    ·split
     ·split
      ·exact Nat.le_refl _
      ·have h:=za6 p (reportChain i false) w;split
       all_goals
        rename_i e;rw [e]at h;exact h
     ·split
      ·exact zcU ..
      ·exact Nat.le_refl _
  ·split
   ·rw [zcI];exact Nat.le_refl _
   ·rename_i o _;have h:=za0 p (results o k.tmps) w #[];generalize (results o k.tmps).runT p w #[]=x at h;obtain⟨r,t⟩:=x;dsimp only at h⊢;rw [zdz];split
    ·rw [zcI];exact h
    ·exact h
    ·exact h
theorem zcm(p:Program)(i:Bool)(j:Frame)(callers:List Frame)(dying:Option Dying)(s:Sem Next)(w:World):w.drawn≤(gW (stepG.apply p i j callers dying s w)).drawn:=by
 unfold stepG.apply;have h:w.drawn≤(zrm (if i then s.runT p w #[]else(s.run p w,#[])).1).drawn:=by
  split
  ·exact za0 ..
  ·exact za6 ..
 generalize (if i then s.runT p w #[]else(s.run p w,#[]))=x at h;obtain⟨r,k⟩:=x;dsimp only at h⊢;rw [zdz]
 repeat' split
 all_goals first|exact h|exact Nat.le_trans h (zeo ..)|exact Nat.le_trans h (zkx ..)
theorem zl2(p:Program)(i:Bool)(j:Frame)(callers:List Frame)(dying:Option Dying)(w:World):w.drawn≤(gW (stepG.oper p i j callers dying w)).drawn:=by
 unfold stepG.oper
 repeat' split
 all_goals first|exact Nat.le_refl _|exact zcm ..
theorem zlQ(p:Program)(B z:Bool)(i:Frame)(callers:List Frame)(dying:Option Dying)(w:World):w.drawn≤(gW (stepG.exec p B z i callers dying w)).drawn:=by
 have E:∀(c:Bool) (j:Option Code),w.drawn≤(gW (match i.roundOf with
   |none=>if c then .go {frame:={i with mode:= .returning},callers,status:= .running,dying} w else .ended (.stuck "exit, goto: no such block or label" (i.pos p)) w
   |some l=>
    let(r,D):=(Instr.endRound l j).runT p w #[]
    GStep.after (seen p i.fn D)<|match r with
    | .ok v w=>doReturn p B i callers dying v w
    | .halt _ w=> .ended (.stuck "range over a function: no such loop" (i.pos p)) w)).drawn:=fun c j=>by
  split
  ·split<;>exact Nat.le_refl _
  ·rename_i l _;have h:=za0 p (Instr.endRound l j) w #[];generalize (Instr.endRound l j).runT p w #[]=x at h;obtain⟨r,D⟩:=x;dsimp only at h⊢;rw [zdz];split
   ·rw [zcI];exact h
   ·exact h
 unfold stepG.exec;dsimp only;split
 ·exact E _ none
 ·exact E _ (some .ret)
 ·exact Nat.le_refl _
 ·exact Nat.le_refl _
 ·exact Nat.le_refl _
 ·exact Nat.le_refl _
 ·exact Nat.le_refl _
 ·split<;>exact Nat.le_refl _
 ·exact Nat.le_refl _
 ·exact Nat.le_refl _
 ·exact Nat.le_refl _
 ·exact Nat.le_refl _
 ·rename_i id k _
  cases exitTo id k with
  |none=>exact E _ (some (.exit id))
  |some t=>exact Nat.le_refl _
 ·rename_i l k _
  cases gotoIn l k with
  |none=>exact E _ (some (.goto l))
  |some t=>exact Nat.le_refl _
 ·rename_i f y o C k _;have h:=za0 p (Instr.enterLoop i.fn i.tmps y o C i.roundOf) w #[];generalize (Instr.enterLoop i.fn i.tmps y o C i.roundOf).runT p w #[]=x at h;obtain⟨r,D⟩:=x;dsimp only at h⊢;rw [zdz];split
  ·exact Nat.le_trans h (zcm ..)
  ·exact h
 ·exact Nat.le_refl _
 ·exact zcm ..
 ·rename_i l k _;have h:=za0 p (Instr.endLoop l) w #[];generalize (Instr.endLoop l).runT p w #[]=x at h;obtain⟨r,D⟩:=x;dsimp only at h⊢;rw [zdz];split
  all_goals exact h
 ·exact Nat.le_refl _
 ·exact zcm ..
 ·rename_i F args _ _
  cases Extern.next F with
  |none=>exact Nat.le_refl _
  |some e=>exact zcm ..
 ·rename_i id H G k _;split
  ·exact Nat.le_refl _
  ·have h:=za6 p (choose (.order i.fn id)) w;split
   all_goals
    rename_i e;rw [e]at h;exact h
 ·exact Nat.le_refl _
 ·split
  ·exact zl2 ..
  ·exact Nat.le_refl _
theorem zj4(p:Program)(j:Bool)(g:Goroutine)(w:World)(i:Bool):w.drawn≤(gW (stepG p j g w i)).drawn:=by
 unfold stepG;dsimp only;split
 ·exact znL ..
 ·exact zlQ ..
 ·exact zjq ..
def Up(n:Nat)(s:Stepped):Prop:=∀m,s= .next m→n≤m.world.drawn
theorem Up.next{n:Nat}{m:Machine}(h:n≤m.world.drawn):Up n (.next m):=fun i e=>by injection e with e;subst e;exact h
theorem Up.ended{n:Nat}{o:Outcome}{w:World}:Up n (.ended o w):=fun i e=>by cases e
theorem zmv(p:Program)(rest:Rest)(gs:Array Goroutine)(i:Nat)(g:Goroutine)(cases:Array CommCase)(j:Bool)(k:CommShape)(w:World):Up w.drawn (communicate p rest gs i g cases j k w).1:=by
 unfold communicate;dsimp only;split
 ·exact Up.ended
 ·split
  ·split
   ·split
    ·rename_i w' e;refine Up.next ?_;unfold waitingAt at e;split at e
     ·split at e
      ·injection e with e;subst e;exact Nat.le_refl _
      ·cases e
     ·injection e with e;subst e;exact Nat.le_refl _
    ·exact Up.ended
   ·exact Up.next (Nat.le_refl _)
  ·split
   ·exact Up.ended
   ·rename_i e;have h:=zfO e;change w.drawn≤_ at h;split
    ·split
     ·rename_i o;exact Up.next (Nat.le_trans h (zfO o))
     ·exact Up.ended
    ·exact Up.next h
    ·exact Up.next h
    ·split
     ·exact Up.next h
     ·split
      ·rename_i o;exact Up.next (Nat.le_trans h (zfO o))
      ·exact Up.ended
    ·exact Up.next h
    ·exact Up.next h
    ·exact Up.ended
theorem zfu(p:Program)(gs:Array Goroutine)(rest:Rest)(w:World):Up w.drawn (look p gs rest w):=by
 unfold look;split
 ·dsimp only;split
  ·exact Up.ended
  ·split
   ·exact Up.ended
   ·split
    ·rename_i e;exact Up.next (zfO e)
    ·exact Up.ended
    ·exact Up.ended
 ·exact Up.ended
theorem zkj(p:Program)(m:Machine)(k:Nat):Up m.world.drawn (serve p m k):=by
 unfold serve;split
 ·exact Up.ended
 ·exact Up.next (Nat.le_refl _)
 ·dsimp only;split
  ·exact Up.ended
  ·exact Up.next (Nat.le_refl _)
theorem zj2(w:World)(c:Nat):(drain w c).2.drawn=w.drawn:=by unfold drain;split<;>rfl
theorem zfP(m:Machine)(k:Nat)(t:Timer)(j i:Nat):(retime m k t j i).2.world.drawn=m.world.drawn:=by
 unfold retime;dsimp only;split
 ·exact zj2 ..
 ·rfl
theorem zkJ(m:Machine)(w:TimerOp){v:Value}{i:Machine}(h:timerOp m w= .ok (v,i)):i.world.drawn=m.world.drawn:=by
 have p:∀(o:Machine) (j:Addr) (f:Nat→Timer→Value×Machine),(∀k t,(f k t).2.world.drawn=m.world.drawn)→timerOp.named o j f= .ok (v,i)→i.world.drawn=m.world.drawn:=fun o j f hf h=>by
  unfold timerOp.named at h;split at h
  ·rename_i k _;injection h with h;have:=hf k (o.rest.timers.getD k default);rw [h]at this;exact this
  ·cases h
 unfold timerOp at h;split at h
 ·split at h
  ·injection h with h;injection h with _ h;subst h;rfl
  ·split at h
   ·split at h
    ·cases h
    ·injection h with h;injection h with _ h;subst h;rfl
   ·cases h
 ·exact p _ _ _ (fun k t=>zfP ..) h
 ·split at h
  ·rename_i x e;refine p _ _ _ (fun k t=>(zfP ..).trans ?_) h;unfold timerOp.opened at e;split at e
   ·split at e
    ·injection e with e;subst e;rfl
    ·cases e
   ·injection e with e;subst e;rfl
  ·cases h
 ·injection h with h;injection h with _ h;subst h;rfl
theorem zjU(p:Program)(m:Machine)(i:Nat)(j:Bool):Up m.world.drawn (Go.runT p m i j).1:=by
 unfold Go.runT;dsimp only;have h:=zj4 p (i==0) (m.gs.swapAt! i {(default:Goroutine)with status:= .finished}).1 m.world j;generalize stepG p (i==0) (m.gs.swapAt! i {(default:Goroutine)with status:= .finished}).1 m.world j=s at h;split
 ·exact Up.ended
 ·rename_i e;exact fun k e=>Nat.le_trans h (zmv _ _ _ _ _ _ _ _ _ k e)
 ·exact Up.next h
 ·exact Up.next h
 ·dsimp only;split
  ·exact Up.ended
  ·exact Up.next h
 ·exact Up.next h
 ·exact fun k e=>Nat.le_trans h (zfu _ _ _ _ k e)
 ·exact Up.next h
 ·exact Up.next h
 ·dsimp only;split
  ·exact Up.next h
  ·split
   ·rename_i e;unfold endThrow dieOf at e
    cases e
    exact Up.next h
   ·exact Up.ended
  ·exact Up.ended
 ·dsimp only;split
  ·rename_i e;have:=zkJ _ _ e;refine Up.next ?_;show _≤_;rw [this];exact h
  ·split
   ·rename_i e;unfold endThrow dieOf at e
    cases e
    exact Up.next h
   ·exact Up.ended
  ·exact Up.ended
  ·exact Up.ended
def UpM(n:Nat):Move→Prop
 | .goroutine m _=>n≤m.world.drawn
 | .machine s _=>Up n s
theorem zez(p:Program)(m:Machine):UpM m.world.drawn (askOn p m):=by
 have y:∀(o:Machine) (v:List Nat),m.world.drawn≤o.world.drawn→UpM m.world.drawn (match(choose (.sched v.length)).run p o.world with
   | .halt _ w=> .machine (.ended (.stuck "sched" "") w)
   | .ok k world=>
    if v.length≤1 then .goroutine {o with world} (v.getD k 0)else
    match(choose (.extern "sched.slice" 65536)).run p world with
    | .halt _ w=> .machine (.ended (.stuck "sched.slice" "") w)
    | .ok n world=> .goroutine {o with world,rest:={o.rest with slice:=if n=0 then none else some (v.getD k 0,n)}} (v.getD k 0)):=fun o v B=>by
  have i:=za6 p (choose (.sched v.length)) o.world;split
  ·exact Up.ended
  ·rename_i e;rw [e]at i;split
   ·exact Nat.le_trans B i
   ·rename_i F _;have C:=za6 p (choose (.extern "sched.slice" 65536)) F;split
    ·exact Up.ended
    ·rename_i G;rw [G]at C;exact Nat.le_trans B (Nat.le_trans i C)
 unfold askOn;dsimp only;split
 ·exact Up.ended
 ·rename_i k world e;have j:=zfO e;change m.world.drawn≤world.drawn at j;split
  ·exact fun D e=>Nat.le_trans j (zkj p {m with world} _ D e)
  ·split
   ·split
    ·exact Up.next j
    ·split
     ·exact Up.next j
     ·split
      ·exact Up.ended
      ·exact Up.ended
   ·split
    ·exact y {m with world} _ j
    ·rename_i t _;have i:=za6 p (choose (.extern "clock.wait" (t - m.world.os.mono+1))) world;split
     ·exact Up.ended
     ·rename_i z x;rw [x]at i;exact y {m with world:=z} _ (Nat.le_trans j i)
     ·rename_i x;rw [x]at i;exact Up.next (Nat.le_trans j i)
     ·rename_i E z x;rw [x]at i;exact y (Machine.advanceTo {m with world:=z} (t - (E+1))) _ (Nat.le_trans j i)
theorem zgh(p:Program)(m:Machine):UpM m.world.drawn (ask p m):=by
 have j:∀{a b:Nat} {x:Move},a≤b→UpM b x→UpM a x:=fun {a b x} hab h=>by
  cases x with
  |goroutine m i=>exact Nat.le_trans hab h
  |machine s ops=>exact fun m e=>Nat.le_trans hab (h m e)
 unfold ask;split
 ·have h:=za6 p (choose (.extern "collector.look" 2)) m.world;split
  ·exact Up.ended
  ·rename_i w e;rw [e]at h;change m.world.drawn≤w.drawn at h;split
   ·rename_i o k;exact j (Nat.le_trans h (zfu p _ _ _ _ k)) (zez p o)
   ·rename_i s _;exact fun o k=>Nat.le_trans h (zfu p _ _ _ _ k)
  ·rename_i w _ e;rw [e]at h;exact j h (zez p {m with world:=w})
 ·exact zez p m
theorem zmA(p:Program)(m:Machine):UpM m.world.drawn (move p m):=by
 unfold move;split
 ·split
  ·exact Nat.le_refl _
  ·exact Up.ended
 ·split
  ·split
   ·exact Nat.le_refl _
   ·exact zgh p {m with rest:={m.rest with slice:=none}}
  ·exact zgh p m
theorem zl1(p:Program)(m:Machine):Up m.world.drawn (step p m):=by
 have h:=zmA p m;unfold step stepT;split
 ·rename_i e;rw [e]at h;exact fun i j=>Nat.le_trans h (zjU _ _ _ _ i j)
 ·rename_i e;rw [e]at h;exact h
theorem zhE(p:Program):∀(n:Nat) (m:Machine),Up m.world.drawn (runN p n m)
 |0,m=>Up.next (Nat.le_refl _)
 |n+1,m=>by
  have h:=zl1 p m;unfold runN;split
  ·rename_i i e;exact fun j k=>Nat.le_trans (h i e) (zhE p n i j k)
  ·rename_i s e;exact h
theorem zkm{P:Program}{f:FuncId}{args:Array Value}{w:World}{R:Ending→World→Prop}(h:Calls P f args w R)(x:∀e w',R e w'→∃v,e= .returned v):Calls P f args w fun e w'=>R e w'∧w.drawn≤w'.drawn:=by intro p;obtain⟨e,w',t,i,j,o⟩:=h p;obtain⟨v,rfl⟩:=x e w' i;refine⟨_,w',t,⟨i,?_⟩,j,o⟩;obtain⟨n,k⟩:=j;exact zhE P n _ _ k
end
section
open Go.RowKit
theorem zgA:∀x y:Key,Lib.compareBytes x y=zfL x y
 | [],[]=>rfl
 | [],b::y=>by
  have h:([]:Key)<b::y:=by simp
  rw [zdP h];rfl
 |a::x,[]=>by
  have h:([]:Key)<a::x:=by simp
  rw [zdJ h];rfl
 |a::x,b::y=>by
  unfold Lib.compareBytes;by_cases h:a<b
  ·rw [if_pos h,zdP (List.cons_lt_cons_iff.2 (.inl h))]
  ·rw [if_neg h];by_cases k:b<a
   ·rw [if_pos k,zdJ (List.cons_lt_cons_iff.2 (.inl k))]
   ·rw [if_neg k,zgA x y];have e:a=b:=UInt8.le_antisymm (UInt8.not_lt.1 k) (UInt8.not_lt.1 h);subst e;have i:∀x y:Key,a::x<a::y↔x<y:=fun x y=>by
     rw [List.cons_lt_cons_iff];exact⟨fun z=>z.elim (fun z=>absurd z (UInt8.lt_irrefl a)) (fun z=>z.2),fun z=> .inr ⟨rfl,z⟩⟩
    unfold zfL;simp only [i]
theorem zmg(a b:RowM):zhz a b=if zfL (zy a.rest a.fs) (zy b.rest b.fs)≠0∨a.eq=b.eq then zfL (zy a.rest a.fs) (zy b.rest b.fs)else if a.eq then -1 else 1:=by
 unfold zhz;rcases zij (zy a.rest a.fs) (zy b.rest b.fs)with h|h|h
 ·rw [zdP h,if_neg (fun e=>by rw [e]at h;exact zev _ h),if_pos h,if_pos (.inl (by decide))]
 ·rw [zfG h,if_pos h];by_cases e:a.eq=b.eq
  ·rw [if_pos e,if_pos (.inr e)]
  ·have i:¬((0:Int)≠0∨a.eq=b.eq):=fun x=>x.elim (fun z=>z rfl) e;rw [if_neg e,if_neg i]
 ·rw [zdJ h,if_neg (fun e=>by rw [e]at h;exact zev _ h),if_neg (fun x=>zev _ (zdC x h)),if_pos (.inl (by decide))]
structure Sml(r:RowM):Prop where
 rest:r.rest.natAbs<4294967296^E4
 fs:∀f∈r.fs,f.2.natAbs<4294967296^E4
 text:(zcr r.fs).length≤140737488355328
theorem znY(q1 q2:RawR)(r1 r2:RowM)(w:World)(k:zeP w q1 r1)(o:zeP w q2 r2)(D:Sml r1)(G:Sml r2):Calls Tryz.prog 39 #[q1.val,q2.val] w fun e w'=>e= .returned (.int .i64 (zhz r1 r2))∧Pu w w':=by
 obtain⟨H,x,K,J,I,Q⟩:=q1;obtain⟨C,v,y,F,B,R⟩:=q2;obtain⟨P,k⟩:=k;obtain⟨N,o⟩:=o;unfold RawR.term at k o;dsimp only at P N k o;unfold RawR.val;dsimp only;obtain⟨W,hWe⟩:∃W,W=(w.alloc (.cells #[.bool H,.slice x K J,.pointer I,.bool Q] 35)).alloc (.cells #[.bool C,.slice v y F,.pointer B,.bool R] 35):=⟨_,rfl⟩
 have O:Pu w W:=by rw [hWe];exact((Pu.refl w).alloc _).alloc _
 have z:Blk W w.heap.size 35 #[.bool H,.slice x K J,.pointer I,.bool Q]:=by rw [hWe];exact(Blk.new w _ _).alloc _
 have E:Blk W (w.heap.size+1) 35 #[.bool C,.slice v y F,.pointer B,.bool R]:=by rw [hWe];exact Blk.at_new _ _ _ (by simp)
 have U:=Qh (fun V (p:Pu W V)=>zeq _ r1.rest r1.fs V ((k.pu O).pu p) D.rest D.fs D.text);have T:=Qh (fun V (p:Pu W V)=>zeq _ r2.rest r2.fs V ((o.pu O).pu p) G.rest G.fs G.text);have j:=Qh (fun V=>(Tryz.strings_Compare ⟨(zy r1.rest r1.fs).toArray⟩ ⟨(zy r2.rest r2.fs).toArray⟩ V));have L:Lib.compareBytes (⟨(zy r1.rest r1.fs).toArray⟩:ByteArray).data.toList (⟨(zy r2.rest r2.fs).toArray⟩:ByteArray).data.toList=zfL (zy r1.rest r1.fs) (zy r2.rest r2.fs):=by rw [←zgA]
 rw [L]at j;rw [zmg,←P,←N];have S:=Qh hWe;have d0:W.cell? ⟨w.heap.size,0,none⟩=some (.bool H):=z.cell 0;have Z:W.cell? ⟨w.heap.size,1,none⟩=some (.slice x K J):=z.cell 1;have Y:W.cell? ⟨w.heap.size,2,none⟩=some (.pointer I):=z.cell 2;have X:W.cell? ⟨w.heap.size+1,0,none⟩=some (.bool C):=E.cell 0;have d4:W.cell? ⟨w.heap.size+1,1,none⟩=some (.slice v y F):=E.cell 1;have d5:W.cell? ⟨w.heap.size+1,2,none⟩=some (.pointer B):=E.cell 2;have i:Pu W W.drew:=(Pu.refl W).drew;clear hWe k o D G P N L;obtain⟨s,hs,hcase⟩:∃s:Int,zfL (zy r1.rest r1.fs) (zy r2.rest r2.fs)=s∧(s= -1∨s=0∨s=1):=by
  rcases zij (zy r1.rest r1.fs) (zy r2.rest r2.fs)with h|h|h
  ·exact⟨_,zdP h,.inl rfl⟩
  ·exact⟨_,zfG h,.inr (.inl rfl)⟩
  ·exact⟨_,zdJ h,.inr (.inr rfl)⟩
 rw [hs]at j⊢;clear hs;generalize zy r1.rest r1.fs=t1 at*
 generalize zy r2.rest r2.fs=t2 at*
 rcases hcase with rfl|rfl|rfl
 all_goals
  go_enter Tryz.func39,Tryz.ntmps39;go_wp2_with fail;rw [←S.out];go_region_held3 (fun t=>t.cell? ⟨w.heap.size,0,none⟩=some (.bool H)∧t.cell? ⟨w.heap.size,1,none⟩=some (.slice x K J)∧t.cell? ⟨w.heap.size,2,none⟩=some (.pointer I)∧t.cell? ⟨w.heap.size+1,0,none⟩=some (.bool C)∧t.cell? ⟨w.heap.size+1,1,none⟩=some (.slice v y F)∧t.cell? ⟨w.heap.size+1,2,none⟩=some (.pointer B))
   (first|exact zcq d0 Z Y X d4 d5 (by repeat' (first|with_reducible exact i|with_reducible exact Pu.refl _|with_reducible refine Pu.drew ?_|with_reducible refine Pu.alloc ?_ _))|go_keep)
   (first
    | (go_at_call_of 33 x;refine(U.out _ i).mono ?_;rintro e u2 ⟨rfl,M⟩;replace i:=i.trans M)
    | (go_at_call_of 33 v;refine(T.out _ i).mono ?_;rintro e u2 ⟨rfl,M⟩;replace i:=i.trans M)
    | (go_at_call 76;refine(j.out _).mono ?_;rintro e u3 ⟨rfl,rfl⟩))
  all_goals
   have y0:=(z.pu i).cell 3;have y1:=(E.pu i).cell 3;have HP:=Qh (O.trans i);clear i
   cases Q<;>cases R
   all_goals
    go_wp2;go_ret;exact⟨rfl,HP.out⟩
end
section
open Go.RowKit
structure zeH(K:Nat)(fs:List (Key×Int)):Prop where
 up:zad K fs
 few:fs.length<300
 nz:NZ fs
 nm:∀f∈fs,f.1.length≤100
structure zou(K:Nat)(r:RowM):Prop where
 fs:zeH K r.fs
 rest:r.rest.natAbs<4294967296^E3
def Big(K:Nat):Prop:=K+1100000*K<4294967296^E3
structure zfH(K:Nat)(p:Pr):Prop where
 fs:zeH K p.fs
 num:∀m,(p.up=some m∨p.lo=some m∨p.eq=some m)→m.natAbs<4294967296^E3
theorem zeH.map{K:Nat}{fs gs:List (Key×Int)}(h:zeH K fs)(j:gs.map (·.1)=fs.map (·.1))(p:zad K gs)(t:NZ gs):zeH K gs:=by
 refine⟨p,?_,t,fun f k=>?_⟩
 ·have:=congrArg List.length j;rw [List.length_map,List.length_map]at this;rw [this];exact h.few
 ·have i:f.1∈gs.map (·.1):=List.mem_map_of_mem k;rw [j]at i;obtain⟨q,o,e⟩:=List.mem_map.1 i;rw [←e];exact h.nm q o
theorem zeH.mul{K:Nat}{fs:List (Key×Int)}(h:zeH K fs):zeH K (za9 fs (-1)):=h.map (zjA fs (-1)) (za5 h.up) (zgH h.nz (by omega))
theorem zgW{N:Nat}:∀(fs:List (Key×Int)),(∀f∈fs,(za7 f.2).length+f.1.length+2≤N)→(zcr fs).length≤fs.length*N
 | [],_=>by simp [zcr]
 |f::fs,h=>by have i:=zgW fs (fun g hg=>h g (List.mem_cons_of_mem _ hg));have j:=h f (List.mem_cons_self ..);have e:zcr (f::fs)=(za7 f.2++(42::(f.1++[43])))++zcr fs:=rfl;rw [e,List.length_append,List.length_append,List.length_cons,List.length_append,List.length_cons,List.length_nil,List.length_cons,Nat.succ_mul];omega
theorem zeH.text{K:Nat}{fs:List (Key×Int)}(h:zeH K fs)(j:Big K):(zcr fs).length≤140737488355328:=by have i:=zgW (N:=30000000200) fs (fun f hf=>by have i:=zgc (h.up.big j f hf);rw [show E3=3000000000 from rfl]at i;have k:=h.nm f hf;omega);have k:=h.few;have o:fs.length*30000000200≤300*30000000200:=Nat.mul_le_mul_right _ (by omega);omega
theorem zou.sml{K:Nat}{r:RowM}(h:zou K r)(i:Big K):Sml r:=⟨zej h.rest,h.fs.up.big2 i,h.fs.text i⟩
theorem zqX{K:Nat}{ps:List (Key×Pr)}{fs:List (Key×Int)}(h:zeH K fs)(p:Big K)(t:∀e∈ps,zfH K e.2)(w:ps.length<1100000):zrW ps fs K where
 len:=w
 psb:=fun e z m x=>(t e z).num m x
 up:=h.up
 big:=p
 few:=h.few
 text:=fun gs o y=>by
  have k:zad K gs∧gs.length<300∧∀f∈gs,f.1.length≤100:=by
   refine⟨y,?_,fun f j=>?_⟩
   ·have:=congrArg List.length o;rw [List.length_map,List.length_map]at this;rw [this];exact h.few
   ·have i:f.1∈gs.map (·.1):=List.mem_map_of_mem j;rw [o]at i;obtain⟨q,v,e⟩:=List.mem_map.1 i;rw [←e];exact h.nm q v
  have i:=zgW (N:=30000000200) gs (fun f j=>by have i:=zgc (k.1.big p f j);rw [show E3=3000000000 from rfl]at i;have C:=k.2.2 f j;omega);have B:gs.length*30000000200≤300*30000000200:=Nat.mul_le_mul_right _ (by omega);omega
theorem zg0{K:Nat}{fs:List (Key×Int)}{d:Int}(h:zeH K fs)(o:d≠0)(k:∀f∈fs,f.2%d=0):zeH K (zbI fs d):=h.map (zfi fs d) (fun f i=>by obtain⟨q,j,rfl⟩:=List.mem_map.1 i;exact Nat.le_trans (zeb (k q j) o) (h.up q j)) (zgo h.nz (fun f i=>Int.dvd_of_emod_eq_zero (k f i)))
def zcs.num:zcs→Option Int
 | .bad=>none
 | .nothing=>none
 | .eq _ n=>some n
 | .up _ n=>some n
 | .lo _ n=>some n
theorem zdo{fs:List (Key×Int)}:∀f∈fs,f.2%zaa fs=0:=by
 intro f i;unfold zaa;split
 ·rw [Int.emod_neg];exact zb3 f i
 ·exact zb3 f i
theorem znS{K:Nat}{r:RowM}(h:zou K r):(∀fs,(zP r).of=some fs→zeH K fs)∧∀n,(zP r).num=some n→n.natAbs<4294967296^E3:=by
 unfold zP;by_cases i:zbZ r.fs=0
 ·rw [if_pos i];split<;>exact⟨fun fs e=>(by cases e),fun n e=>(by cases e)⟩
 ·have j:zaa r.fs≠0:=by
   unfold zaa;split<;>omega
  rw [if_neg i];split
  ·split
   ·rename_i o;refine⟨fun fs e=>?_,fun n e=>?_⟩
    ·injection e with e;rw [←e];exact zg0 h.fs j zdo
    ·injection e with e;rw [←e];exact Nat.lt_of_le_of_lt (zeb o j) h.rest
   ·exact⟨fun fs e=>(by cases e),fun n e=>(by cases e)⟩
  ·have k:(-((-r.rest)/zbZ r.fs)).natAbs<4294967296^E3:=by
    have p:0≤zbZ r.fs:=zes _;rw [Int.natAbs_neg];exact Nat.lt_of_le_of_lt (zf3 (by omega) (-r.rest)) (by rw [Int.natAbs_neg];exact h.rest)
   split
   ·refine⟨fun fs e=>?_,fun n e=>?_⟩
    ·injection e with e;rw [←e];exact(zg0 h.fs i zb3).mul
    ·injection e with e;rw [←e];exact k
   ·refine⟨fun fs e=>?_,fun n e=>?_⟩
    ·injection e with e;rw [←e];exact zg0 h.fs i zb3
    ·injection e with e;rw [←e];exact k
theorem zeu{K:Nat}{ps:List (Key×Pr)}(k:zx ps)(j:∀e∈ps,zfH K e.2){fs:List (Key×Int)}(i:zeH K fs):zfH K (zz ps fs):=by
 unfold zz
 cases e:zae ps (zy 0 fs)with
 |some p=>exact j _ ((zv k).1 e)
 |none=>exact⟨i,fun m o=>by rcases o with h|h|h<;>cases h⟩
theorem zhn{o:Option Int}{n m:Int}(p:∀m,o=some m→m.natAbs<4294967296^E3)(j:n.natAbs<4294967296^E3)(h:za3 o n=some m):m.natAbs<4294967296^E3:=by
 obtain⟨k,e,_,_,i⟩:=zgj o n;rw [e]at h;injection h with h;rw [←h];rcases i with i|i
 ·rw [i];exact j
 ·exact p k i
theorem zl4{K:Nat}{s:Bool×List (Key×Pr)}{r:RowM}(o:zx s.2)(t:∀e∈s.2,zfH K e.2)(h:zou K r):zx (zbP s r).2∧(∀e∈(zbP s r).2,zfH K e.2)∧(zbP s r).2.length≤s.2.length+1:=by
 have j:=znS h;have w:∀fs p,zfH K p→zx (zau s.2 (zy 0 fs) p)∧(∀e∈zau s.2 (zy 0 fs) p,zfH K e.2)∧(zau s.2 (zy 0 fs) p).length≤s.2.length+1:=fun fs p hpp=>by
  refine⟨zN o _ _,fun e y=>?_,?_⟩
  ·rcases(zfF o _ _ e).1 y with e1|e1
   ·rw [e1];exact hpp
   ·exact t e e1.1
  ·unfold zau;have z:=zbb s.2 (zy 0 fs);split
   ·rw [List.length_append,List.length_cons,List.length_take,List.length_drop];omega
   ·rw [List.length_append,List.length_cons,List.length_take,List.length_drop];omega
 unfold zbP
 cases hf:zP r with
 |bad=>exact⟨o,t,Nat.le_succ _⟩
 |nothing=>exact⟨o,t,Nat.le_succ _⟩
 |eq fs n=>
  rw [hf]at j;have i:=zeu o t (j.1 fs rfl);exact w fs _ ⟨i.fs,fun m v=>by
   rcases v with h|h|h
   ·exact i.num m (.inl h)
   ·exact i.num m (.inr (.inl h))
   ·injection h with h;rw [←h];exact j.2 n rfl⟩
 |up fs n=>
  rw [hf]at j;have i:=zeu o t (j.1 fs rfl);exact w fs _ ⟨i.fs,fun m v=>by
   rcases v with h|h|h
   ·exact zhn (fun k x=>i.num k (.inl x)) (j.2 n rfl) h
   ·exact i.num m (.inr (.inl h))
   ·exact i.num m (.inr (.inr h))⟩
 |lo fs n=>
  rw [hf]at j;have i:=zeu o t (j.1 fs rfl);exact w fs _ ⟨i.fs,fun m v=>by
   rcases v with h|h|h
   ·exact i.num m (.inl h)
   ·exact zhn (fun k x=>i.num k (.inr (.inl x))) (j.2 n rfl) h
   ·exact i.num m (.inr (.inr h))⟩
theorem zcG{K:Nat}:∀(l:List RowM) (s:Bool×List (Key×Pr)),zx s.2→(∀e∈s.2,zfH K e.2)→(∀r∈l,zou K r)→zx (l.foldl zbP s).2∧(∀e∈(l.foldl zbP s).2,zfH K e.2)∧(l.foldl zbP s).2.length≤s.2.length+l.length
 | [],s,hr,hp,_=>⟨hr,hp,Nat.le_refl _⟩
 |r::l,s,hr,hp,h=>by obtain⟨j,o,t⟩:=zl4 hr hp (h r (List.mem_cons_self ..));obtain⟨i,k,v⟩:=zcG l (zbP s r) j o (fun x p=>h x (List.mem_cons_of_mem _ p));rw [List.foldl_cons];refine⟨i,k,?_⟩;rw [List.length_cons];omega
theorem zoB{p:Pr}{e:Int}(h:p.eq=some e):zaV p=([⟨e,p.fs,true⟩],zdK p e):=by unfold zaV zkr;rw [h];rfl
theorem znR{p:Pr}{a b:Int}(i:p.eq=none)(j:p.up=some a)(k:p.lo=some b)(h:a+b>0):zaV p=([],false):=by unfold zaV;rw [i,j,k];simp [h]
theorem zlG{p:Pr}{a b:Int}(i:p.eq=none)(j:p.up=some a)(k:p.lo=some b)(h:a+b=0):zaV p=([⟨a,p.fs,true⟩],zdK p a):=by unfold zaV zkr;rw [i,j,k];simp [h]
theorem znV{p:Pr}{a b:Int}(i:p.eq=none)(k:p.up=some a)(o:p.lo=some b)(h:a+b<0):zaV p=([⟨a,p.fs,false⟩,⟨b,za9 p.fs (-1),false⟩],true):=by
 unfold zaV zkr;rw [i,k,o];have j:¬a+b>0:=by omega
 have t:¬a+b=0:=by omega
 simp [j,t]
theorem zpe{p:Pr}{a:Int}(i:p.eq=none)(j:p.up=some a)(k:p.lo=none):zaV p=([⟨a,p.fs,false⟩],true):=by unfold zaV zkr;rw [i,j,k];simp
theorem zpH{p:Pr}{b:Int}(i:p.eq=none)(j:p.up=none)(k:p.lo=some b):zaV p=([⟨b,za9 p.fs (-1),false⟩],true):=by unfold zaV zkr;rw [i,j,k];simp
theorem zl6{p:Pr}(i:p.eq=none)(j:p.up=none)(k:p.lo=none):zaV p=([],true):=by unfold zaV zkr;rw [i,j,k];simp
theorem zaS(p:Pr):(∃e,p.eq=some e∧zaV p=([⟨e,p.fs,true⟩],zdK p e))∨(∃a b,p.eq=none∧p.up=some a∧p.lo=some b∧a+b>0∧zaV p=([],false))∨(∃a b,p.eq=none∧p.up=some a∧p.lo=some b∧a+b=0∧zaV p=([⟨a,p.fs,true⟩],zdK p a))∨(∃a b,p.eq=none∧p.up=some a∧p.lo=some b∧a+b<0∧zaV p=([⟨a,p.fs,false⟩,⟨b,za9 p.fs (-1),false⟩],true))∨(∃a,p.eq=none∧p.up=some a∧p.lo=none∧zaV p=([⟨a,p.fs,false⟩],true))∨(∃b,p.eq=none∧p.up=none∧p.lo=some b∧zaV p=([⟨b,za9 p.fs (-1),false⟩],true))∨(p.eq=none∧p.up=none∧p.lo=none∧zaV p=([],true)):=by
 cases he:p.eq with
 |some e=>exact .inl ⟨e,rfl,zoB he⟩
 |none=>
  right
  cases hu:p.up with
  |some a=>
   cases hl:p.lo with
   |some b=>
    rcases Int.lt_trichotomy (a+b) 0 with h|h|h
    ·exact .inr (.inr (.inl ⟨a,b,rfl,rfl,rfl,h,znV he hu hl h⟩))
    ·exact .inr (.inl ⟨a,b,rfl,rfl,rfl,h,zlG he hu hl h⟩)
    ·exact .inl ⟨a,b,rfl,rfl,rfl,h,znR he hu hl h⟩
   |none=>exact .inr (.inr (.inr (.inl ⟨a,rfl,rfl,rfl,zpe he hu hl⟩)))
  |none=>
   cases hl:p.lo with
   |some b=>exact .inr (.inr (.inr (.inr (.inl ⟨b,rfl,rfl,rfl,zpH he hu hl⟩))))
   |none=>exact .inr (.inr (.inr (.inr (.inr ⟨rfl,rfl,rfl,zl6 he hu hl⟩))))
theorem znG{K:Nat}{p:Pr}(h:zfH K p):∀r∈(zaV p).1,zou K r:=by
 intro r i;rcases zaS p with⟨e,j,k⟩|⟨a,b,_,_,_,_,k⟩|⟨a,b,_,j,_,_,k⟩|⟨a,b,_,j,o,_,k⟩|⟨a,_,j,_,k⟩|⟨b,_,_,j,k⟩|⟨_,_,_,k⟩
 all_goals rw [k]at i
 ·rw [List.mem_singleton.1 i];exact⟨h.fs,h.num e (.inr (.inr j))⟩
 ·cases i
 ·rw [List.mem_singleton.1 i];exact⟨h.fs,h.num a (.inl j)⟩
 ·rcases List.mem_cons.1 i with i|i
  ·rw [i];exact⟨h.fs,h.num a (.inl j)⟩
  ·rw [List.mem_singleton.1 i];exact⟨h.fs.mul,h.num b (.inr (.inl o))⟩
 ·rw [List.mem_singleton.1 i];exact⟨h.fs,h.num a (.inl j)⟩
 ·rw [List.mem_singleton.1 i];exact⟨h.fs.mul,h.num b (.inr (.inl j))⟩
 ·cases i
theorem zpD{K:Nat}{ps:List (Key×Pr)}(h:∀e∈ps,zfH K e.2):∀r∈zO ps,zou K r:=by intro r k;obtain⟨e,j,i⟩:=List.mem_flatMap.1 k;exact znG (h e j) r i
end
end Go.Proofs.YtckfnbckoclhpaaGreatDoor

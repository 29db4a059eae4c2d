/- A region that draws its order. -/
import Derived.Deep.RegionHeld3
import Derived.StillTail
import Derived.Lib.Hide
namespace Go.Proofs.YtckfnbckoclhpaaGreatDoor
set_option linter.unusedVariables false
set_option linter.unusedSimpArgs false
section
open Go.RowKit
section
variable{P:Program}{ops:Array Oper}{Q:Exit→Act→World→Prop}{md:Region.Mode}{S:World→Prop}{n:Nat}
def zhu(P:Program)(md:Region.Mode)(ops:Array Oper)(Q:Exit→Act→World→Prop)(S:World→Prop)(n:Nat):Nat→Array Bool→Act→World→Prop
 |0,listed,a,w=>Region.ready md ops listed= []∧Q .normal a w
 |fuel+1,listed,a,w=>
  (Region.ready md ops listed= []→Q .normal a w)∧
  ∀i∈Region.ready md ops listed,wpOp P ops Q i (fun a' w'=>(i<n→S w')∧zhu P md ops Q S n fuel (listed.setIfInBounds i true) a' w') a w
theorem zdY:∀(fuel:Nat) (j:Array Bool) (a:Act) (w:World),zhu P md ops Q S n fuel j a w→wpAny P md ops Q fuel j a w
 |0,_,_,_,h=>h
 |fuel+1,_,_,_,h=>⟨h.1,fun i k=>wpOp_mono (fun a' w' h'=>zdY fuel _ a' w' h'.2) (h.2 i k)⟩
theorem zjV{i:Nat}{B:Oper}{v:Value}(U:ops[i]?=some B)(E:∀(j:Nat) (o:Oper) cs b,ops[j]?=some o→o.op≠ .select cs b) (hs:Region.sinkB md ops n=true) (Y:Region.chainB md ops n=true) (hn:n<ops.size) (V:i<n) (Z:∀c a w,Q (.panic c) (a.put B.dst v) w→Q (.panic c) a w):∀(x:Nat) (p:Array Bool) (a:Act) (w:World),HeadInv md ops n p→(∀j z,ops[j]?=some z→j≠i→p.getD j true=false→(∀e∈z.after,Region.binds md e=true→e.on≠i)→B.apart ops z=true)→i∈Region.ready md ops p→YieldsIf P ops S B v a→S w→zhu P md ops Q S n x (p.setIfInBounds i true) (a.put B.dst v) w→zhu P md ops Q S n (x+1) p a w:=by
 intro x
 induction x with
 |zero=>
  intro p a w _ _ y J F H;refine⟨fun h=>(by rw [h]at y;cases y),fun j hj=>?_⟩;by_cases t:j=i
  ·subst t;exact J.wpOp U F ⟨fun _=>F,H⟩
  ·have:=ready_mono hj t;rw [H.1]at this
   cases this
 |succ x ih=>
  intro p a w O C y J F H;refine⟨fun h=>(by rw [h]at y;cases y),fun j hj=>?_⟩;by_cases t:j=i
  ·subst t;exact J.wpOp U F ⟨fun _=>F,H⟩
  ·have K:=H.2 j (ready_mono hj t);have M:j<n:=by
    rcases Nat.lt_or_ge j n with h|h
    ·exact h
    ·exact absurd hj (tail_waits hs Y hn O _ i rfl V (mem_ready.1 y).1 j h)
   obtain⟨I,z,D,R⟩:=mem_ready.1 hj;have T:∀e∈z.after,Region.binds md e=true→e.on≠i:=fun e he hb heq=>by
    have K:=R e he hb;have X:=(mem_ready.1 y).1;rw [heq,getD_both X]at K
    cases K
   have h2:=wpOp_putIf D (C j z D t I T) (fun cs b=>E i B cs b U) (fun cs b=>E j z cs b D) Z J K;have G:∀k ok,ops[k]?=some ok→k≠i→(p.setIfInBounds j true).getD k true=false→(∀e∈ok.after,Region.binds md e=true→e.on≠i)→B.apart ops ok=true:=fun k ok hk hki hun hno=>by
    refine C k ok hk hki ?_ hno;by_cases N:j=k
    ·subst N;exact I
    ·rw [getD_set_ne true N]at hun;exact hun
   refine wpOp_mono (fun W w' L=>⟨L.2.1,ih (p.setIfInBounds j true) W w' (O.set hj M) G (ready_mono y (Ne.symm t)) L.1 (L.2.1 M) ?_⟩) h2;rw [Array.setIfInBounds_comm _ _ t];exact L.2.2
theorem zb4:∀(l:List Oper) (k:Nat) (p:Array Bool) (a:Act) (w:World),n≤k→(∀j,l[j]?=ops[k+j]?)→Region.seqB md ops l.length k p=true→wpList P ops Q l a w→zhu P md ops Q S n l.length p a w
 | [],_,_,_,_,_,_,hB,h=>⟨by simpa [Region.seqB]using hB,h⟩
 |o::l,k,p,a,w,hnk,hl,hB,h=>by
  have x:ops[k]?=some o:=by simpa using(hl 0).symm
  simp only [List.length_cons,Region.seqB,Bool.and_eq_true,decide_eq_true_eq]at hB;refine⟨fun t=>(by rw [hB.1]at t;cases t),fun i hi=>?_⟩;rw [hB.1]at hi;have v:i=k:=by simpa using hi
  subst v;have z:wpOp P ops Q i (wpList P ops Q l) a w:=by unfold wpOp;simp only [x];exact h
  exact wpOp_mono (fun B w' y=>⟨fun hlt=>absurd hlt (by omega),zb4 l (i+1) _ B w' (by omega) (fun j=>by have:=hl (j+1);simpa [Nat.add_assoc,Nat.add_comm 1 j]using this) hB.2 y⟩) z
theorem zgf{ops:Array Oper}{i:Nat}{o:Oper}{l:List Oper}(h:ops.toList.drop i=o::l):ops[i]?=some o:=by have:=congrArg (·[0]?) h;simpa using this
def wpX(P:Program)(md:Region.Mode)(ops:Array Oper)(Q:Exit→Act→World→Prop)(S:World→Prop)(n fuel:Nat)(listed:Array Bool)(a:Act)(w:World):Prop:=HeadInv md ops n listed→S w→zhu P md ops Q S n fuel listed a w
def Region.tailB(md:Region.Mode)(ops:Array Oper)(n:Nat):Bool:=Region.noSelect ops&&decide (n<ops.size)&&Region.sinkB md ops n&&Region.chainB md ops n
theorem zt(i:Nat){o:Oper}{v:Value}{k:Nat}{j:Array Bool}{a:Act}{w:World}(D:Region.tailB md ops n=true){l:List Oper}(C:ops.toList.drop i=o::l) (p:(decide (i<n)&&Region.free md ops j i&&(Region.ready md ops j).contains i)=true) (G:∀c a w,Q (.panic c) (a.put o.dst v) w→Q (.panic c) a w) (H:YieldsIf P ops S o v a) (h:wpX P md ops Q S n k (j.setIfInBounds i true) (a.put o.dst v) w):wpX P md ops Q S n (k+1) j a w:=by
 have E:ops[i]?=some o:=zgf C;simp only [Region.tailB,Bool.and_eq_true,decide_eq_true_eq]at D p;obtain⟨⟨⟨z,I⟩,J⟩,F⟩:=D;obtain⟨⟨t,p⟩,K⟩:=p;have y:i∈Region.ready md ops j:=by simpa using K
 exact fun x B=>zjV E (Region.noSelect_spec z) J F I t G k j a w x (Region.free_spec E p) y H B (h (x.set y t) B)
theorem zim(k:Nat){o:Oper}{p:Nat}{j:Array Bool}{a:Act}{w:World}(t:Region.ready md ops j= [k]){l:List Oper}(C:ops.toList.drop k=o::l)(x:k<n)
  (h:∀K:Act→World→Prop,Shut (∀a' w',S w'→wpX P md ops Q S n p (j.setIfInBounds k true) a' w'→K a' w')→if Region.wanted o (yielded ops a.tmps)=true then Oper.wp P o a w K Q else K (a.put o.dst undef) w):
  wpX P md ops Q S n (p+1) j a w:=by
 intro y D;refine⟨fun v=>(by rw [t]at v;cases v),fun i hi=>?_⟩;rw [t]at hi;have z:i=k:=by simpa using hi
 subst z;refine wpOp_step (zgf C) fun K B=>h K (fun a' w' hS' hX=>B a' w' ?_);exact⟨fun _=>hS',hX (y.set (by rw [t];simp) x) hS'⟩
def zro(P:Program)(md:Region.Mode)(ops:Array Oper)(Q:Exit→Act→World→Prop)(S:World→Prop)(n fuel:Nat)(listed:Array Bool)(a:Act)(w:World)(rs:List Nat):Prop:=∀i∈rs,i<n∧∀K:Act→World→Prop,(∀a' w',S w'→wpX P md ops Q S n fuel (listed.setIfInBounds i true) a' w'→K a' w')→wpOp P ops Q i K a w
theorem zro.nil{j:Nat}{i:Array Bool}{a:Act}{w:World}:zro P md ops Q S n j i a w []:=fun _ h=>by cases h
theorem zro.cons{p:Nat}{k:Array Bool}{a:Act}{w:World}{i:Nat}{o:Oper}{l:List Oper}{x:List Nat}(y:ops.toList.drop i=o::l)(v:i<n)
  (h:∀K:Act→World→Prop,Shut (∀a' w',S w'→wpX P md ops Q S n p (k.setIfInBounds i true) a' w'→K a' w')→if Region.wanted o (yielded ops a.tmps)=true then Oper.wp P o a w K Q else K (a.put o.dst undef) w)
  (B:zro P md ops Q S n p k a w x):zro P md ops Q S n p k a w (i::x):=fun j t=>by
 rcases List.mem_cons.1 t with rfl|t
 ·exact⟨v,fun K z=>wpOp_step (zgf y) fun K' hK'=>h K' (fun a' w' hS' hX=>hK' a' w' (z a' w' hS' hX))⟩
 ·exact B j t
theorem zpW{l:List Oper}{m:Nat}{i:Array Bool}{a:Act}{w:World}(o:(ops.toList.drop n)=l)(p:l.length=m)(k:Region.seqB md ops m n i=true) (h:wpList P ops Q l a w):wpX P md ops Q S n m i a w:=by subst p;exact fun _ _=>zb4 l n i a w (Nat.le_refl _) (fun j=>by subst o;simp [List.getElem?_drop]) k h
theorem zgU{k j:Oper}{i:Array Bool}{a:Act}{w:World}(p:(ops.toList.drop n)=k::j::[])(o:Region.seqB md ops 2 n i=true) (h:wpList P ops Q [k,j] a w):wpX P md ops Q S n 2 i a w:=zpW p rfl o h
theorem zeF{id:Nat}{a:Act}{w:World}(n:Nat)(S:World→Prop)(p:P.follows .mixedOrders=true)(o:S w.drew) (h:wpX P .any ops Q S n ops.size (Array.replicate ops.size false) a w.drew):(Code.region id ops true).wp P Q a w:=by
 have i:HeadInv .any ops n (Array.replicate ops.size false):=⟨by simp,fun j v _ k=>(by rw [getD_replicate_false]at k;cases k),fun t _ ht=>getD_in (by simpa using ht) (getD_replicate_false _ _)⟩
 exact wp_region_any p (zdY _ _ _ _ (h i o))
end
end
end Go.Proofs.YtckfnbckoclhpaaGreatDoor

/- The law's anchor. -/
import Derived.Test.YtckfnbckoclhpaaGreatDoorE27
import Derived.Test.YtckfnbckoclhpaaGreatDoorE22
import Derived.Test.YtckfnbckoclhpaaGreatDoorE23
namespace Go.Proofs.YtckfnbckoclhpaaGreatDoor
set_option linter.unusedVariables false
set_option linter.unusedSimpArgs false
section
open Go.RowKit
theorem zoN{d:Nat}(i:d≠0)(h:d<10):zeK d= [d]:=by rw [zdX i,Nat.mod_eq_of_lt h,Nat.div_eq_of_lt h,zcS]
theorem zli{w:World}{q1 q2:RawR}{r1 r2:RowM}(i:zeP w q1 r1)(j:zeP w q2 r2):zF w [q1,q2] [r1,r2]:=(zF.one i).append (zF.one j)
end
section
open Go.RowKit
theorem zkE{n:Int}{acc:List (Key×Int)}{g f:Key×Int}(h:f∈zX n acc g):f.1=g.1∨f∈acc:=by
 unfold zX at h;split at h
 ·exact .inr (zjZ h)
 ·rcases zfn h with rfl|h
  ·exact .inl rfl
  ·exact .inr h
theorem ziD{n:Int}:∀(gs fs:List (Key×Int)) (f:Key×Int),f∈zG fs gs n→(∃g∈gs,f.1=g.1)∨f∈fs
 | [],fs,f,h=> .inr h
 |g::gs,fs,f,h=>by
  have i:f∈zG (zX n fs g) gs n:=h;rcases ziD gs _ f i with⟨x,k,e⟩|j
  ·exact .inl ⟨x,List.mem_cons_of_mem _ k,e⟩
  ·rcases zkE j with e|h3
   ·exact .inl ⟨g,List.mem_cons_self ..,e⟩
   ·exact .inr h3
theorem zo2{p f:Key×Int}(h:f∈zlB p):f.1=p.1:=by
 rcases ziD _ _ _ h with⟨g,i,e⟩|h
 ·rw [List.mem_singleton.1 i]at e;exact e
 ·cases h
theorem zf1{C:List (Key×Int)→Prop}:∀(ps acc:List (Key×Int)),C acc→(∀fs p,p∈ps→C fs→C (zoH fs p))→C (ps.foldl zoH acc)
 | [],acc,h0,_=>h0
 |p::ps,acc,h0,h=>zf1 ps _ (h acc p (List.mem_cons_self ..) h0) (fun fs q j i=>h fs q (List.mem_cons_of_mem _ j) i)
theorem zgm(ps:List (Key×Int)):zx (zh9 ps):=zf1 (C:=zx) ps [] List.Pairwise.nil fun fs p _ h=>zac _ _ h
theorem zq3(ps:List (Key×Int)):NZ (zh9 ps):=(zf1 (C:=fun fs=>zx fs∧NZ fs) ps [] ⟨List.Pairwise.nil,NZ.nil⟩ fun fs p _ h=>⟨zac _ _ h.1,zdE _ _ h.1 h.2⟩).2
theorem ziw(ps:List (Key×Int)):∀f∈zh9 ps,∃p∈ps,f.1=p.1:=by
 have:=zf1 (C:=fun fs=>∀f∈fs,∃p∈ps,f.1=p.1) ps [] (fun f hf=>by cases hf) (fun fs p hp h f hf=>by
  rcases ziD _ _ _ hf with⟨g,i,e⟩|j
  ·exact⟨p,hp,e.trans (zo2 i)⟩
  ·exact h f j)
 exact this
theorem zoh{p:Key×Int}(h:zcn p=true):p.2.natAbs≤1099511627776∧p.1.length≤40∧zdN p.1=true:=by unfold zcn at h;simp only [Bool.and_eq_true,decide_eq_true_eq]at h;exact⟨zkA h.1.1,h.1.2,h.2⟩
theorem zqb{ps:List (Key×Int)}{rest:Int}(h:okM ps rest=true):ps.length≤12∧rest.natAbs≤1099511627776∧∀p∈ps,zcn p=true:=by unfold okM at h;simp only [Bool.and_eq_true,decide_eq_true_eq,List.all_eq_true]at h;exact⟨h.1.1,zkA h.1.2,h.2⟩
theorem zkh{k:Key}(h:zdN k=true):∀u∈k,u≠43:=fun u hu e=>by
 unfold zdN at h;rw [List.all_eq_true]at h;have:=h u hu;subst e
 revert this
 decide
theorem zp9{m:Nat}{i:List LineM}(h:okL m i=true):i.length≤m∧∀l∈i,zei l=true:=by unfold okL at h;simp only [Bool.and_eq_true,decide_eq_true_eq,List.all_eq_true]at h;exact h
end
end Go.Proofs.YtckfnbckoclhpaaGreatDoor

/- Arguments that are slices, as the walks take them. -/
import Derived.Test.YtckfnbckoclhpaaGreatDoorC01
import Derived.ProofKit
import Derived.OpenShut
import Derived.SliceStrings
import Derived.Lib.Strings
import Derived.ChangeOld
import Derived.Deep.Slices
import Derived.Deep.Fields
import Derived.ChangeSame
namespace Go.Proofs.YtckfnbckoclhpaaGreatDoor
set_option linter.unusedVariables false
set_option linter.unusedSimpArgs false
open Go.ChangeShapes Go.WideShapes Go.RowKit
section
variable{H:Type}{enc:TypeId×Value→H}{P:Program}{w:World}{base:Nat}{spare:Nat→Bool}{held:Bool}
open Go.Deep in
theorem zfA{t e:TypeId}{fs:Array Field}{G:Nat}{K:List Value}{x:DataW H×List MemPlace}(ht:P.underlying t=some (.slice e))(he:P.underlying e=some (.struct fs)) (L:oneCellFields P fs=true) (O:P.cellsOf e=fs.size) (h:DataW.trod enc P w base spare held G t K=some x):(K= [.slice none 0 0]∧x=(.nil,[]))∨∃(a:Addr) (k o m:Nat) (D:Nat→DataW H) (B:Nat→List MemPlace),K= [.slice (some a) k o]∧base≤a.block∧k≤o∧o≤maxLen∧m=(if spare a.block then o else k)∧x=(.slice ((List.range k).map D) ((List.range (m - k)).map fun j=>D (k+j)),MemPlace.row a (m*fs.size)++(List.range m).flatMap B)∧∀i,i<m→∃(p:List (DataW H×List MemPlace)) (n:Nat),D i= .agg (p.map (·.1))∧B i=p.flatMap (·.2)∧p.length=fs.size∧∀(j:Nat) (f:Field),fs[j]?=some f→∃(v:Value) (y:DataW H×List MemPlace),w.cell? (a.add (i*fs.size+j))=some v∧p[j]?=some y∧DataW.trod enc P w base spare held n f.type [v]=some y:=by
 rcases open_slice ht h with h0|⟨a,k,o,m,n,D,B,T,hb,hl,hm,X,N,hi⟩
 ·exact .inl h0
 ·refine .inr ⟨a,k,o,m,D,B,T,hb,hl,hm,X,by rw [O]at N;exact N,fun i V=>?_⟩;obtain⟨z,Q,S⟩:=hi i V;rw [O]at Q;obtain⟨p,n',ap,I,af,W,hf⟩:=DataW.trod_struct he S;obtain⟨_,ao,R⟩:=World.cells?_some Q;simp only [Prod.mk.injEq]at I;refine⟨p,n',I.1,I.2,W,fun j f M=>?_⟩;obtain⟨Z,hk⟩:=hone_of L j f M;have U:j<fs.size:=(Array.getElem?_eq_some_iff.1 M).1;have C:=R j U;have Y:z[j]?=some (z[j]'(by omega)):=List.getElem?_eq_getElem (by omega);have J:=hf j f M;rw [Z,hk]at J;have E:(z.drop j).take 1= [z[j]'(by omega)]:=by rw [List.drop_eq_getElem_cons (by omega)];rfl
  rw [E]at J;have F:p[j]?=some (p[j]'(by omega)):=List.getElem?_eq_getElem (by omega);refine⟨_,_,?_,F,J.trans F⟩;rw [←Go.Deep.add_add,C,Y]
end
theorem zno{w:World}{k n c:Nat}{x:Addr}{i:List Value}(t:i.length=n*k)(D:n≤c)(B:0<k)(h:∀j u,i[j]?=some u→w.cell? (x.add j)=some u):Sl w k (some x) n c i:=by
 refine⟨t,D,fun v=>?_⟩;have y:0<i.length:=by rw [t];exact Nat.mul_pos v B
 have p:=h 0 _ (List.getElem?_eq_getElem y);obtain⟨b,off,o⟩:=x;have z:o=none:=by simpa [Addr.add]using World.cell?_spot p
 subst z;refine⟨b,off,rfl,?_,fun j u C=>?_⟩
 ·have:=zfB p;simpa [Addr.add]using this
 ·have:=h j u C;unfold Addr.add at this;split at this
  ·rename_i e;subst e;exact this
  ·exact this
end Go.Proofs.YtckfnbckoclhpaaGreatDoor

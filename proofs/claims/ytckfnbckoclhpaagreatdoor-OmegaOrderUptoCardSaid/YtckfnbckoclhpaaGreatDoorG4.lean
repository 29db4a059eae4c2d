/- The law's lines, as an argument hands them in. -/
import Derived.Test.YtckfnbckoclhpaaGreatDoorUArgSlice
import Derived.Test.YtckfnbckoclhpaaGreatDoorE27
namespace Go.Proofs.YtckfnbckoclhpaaGreatDoor
set_option linter.unusedVariables false
set_option linter.unusedSimpArgs false
set_option maxRecDepth 100000
section
open Go.ChangeShapes Go.WideShapes Go.ChangeAt Go.RowKit
theorem zkO{m:Int}(h:(Lit.int .i64 m).wf=true): -9223372036854775808≤m∧m≤9223372036854775807:=by have i:(decide (IntKind.i64.min≤m)&&decide (m≤IntKind.i64.max))=true:=h;simp only [Bool.and_eq_true,decide_eq_true_iff]at i;exact⟨i.1,i.2⟩
theorem zsg{α:Type}{P:Nat→α→Prop}{n:Nat}(h:∀i,i<n→∃x,P i x):∃L:List α,L.length=n∧∀i x,L[i]?=some x→P i x:=by
 refine⟨List.ofFn (n:=n) fun i=>(h i.1 i.2).choose,by simp,fun i o ho=>?_⟩;rw [List.getElem?_ofFn]at ho;split at ho
 ·rename_i j;injection ho with ho;subst ho;exact(h i j).choose_spec
 ·cases ho
theorem zga{α:Type}{v:α→List Value}{w:World}{k n c:Nat}{x:Addr}{L:List α}(o:∀p,(v p).length=k)(C:0<k)(y:L.length=n)(F:n≤c)(h:∀i q,L[i]?=some q→∀t u,(v q)[t]?=some u→w.cell? (x.add (i*k+t))=some u):Sl w k (some x) n c (cat v L):=by
 refine zno (by rw [zfz o,y]) F C (fun j u D=>?_);have E:=(List.getElem?_eq_some_iff.1 D).1;rw [zfz o,y]at E;have G:j/k<L.length:=by rw [y];exact Nat.div_lt_of_lt_mul (by rw [Nat.mul_comm];exact E)
 have z:L[j/k]?=some L[j/k]:=List.getElem?_eq_getElem G;have I:=Nat.mod_lt j C;have B:=zgs o z (j%k) I;have e:j/k*k+j%k=j:=by rw [Nat.mul_comm];exact Nat.div_add_mod j k
 rw [e,D]at B;have:=h (j/k) _ z (j%k) u B.symm;rwa [e]at this
section
variable{H:Type}{enc:TypeId×Value→H}{w:World}{base:Nat}{spare:Nat→Bool}{held:Bool}
theorem zmf{B:Nat}{F:List Value}{x:DataW H×List MemPlace}(h:DataW.trod enc Tryz.prog w base spare held B 47 F=some x):∃A n c ps,F= [.slice A n c]∧n≤c∧ps.length=n∧Sl w 2 A n c (cat zfh ps)∧znA ps:=by
 rcases zfA Tryz.underlying47 Tryz.underlying113 (by kernel_rfl) (by kernel_rfl) h with⟨rfl,_⟩|⟨a,n,c,m,D,Pl,rfl,_,E,V,L,_,v⟩
 ·exact⟨none,0,0,[],rfl,Nat.le_refl _,rfl,Sl.nil _ _ _ _,⟨fun p z=>(by cases z),by decide⟩⟩
 ·have Y:n≤m:=by
   rw [L];split<;>omega
  have C:∀i,i<n→∃p:Key×Int,(w.cell? (a.add (i*2))=some (.string ⟨p.1.toArray⟩)∧w.cell? (a.add (i*2+1))=some (.int .i64 p.2))∧(-9223372036854775808≤p.2∧p.2≤9223372036854775807)∧p.1.length≤9223372036854775807:=by
   intro i G;obtain⟨ys,k,_,_,_,K⟩:=v i (by omega);obtain⟨v0,y0,R,_,M⟩:=K 0 _ rfl;obtain⟨Z,y1,T,_,Q⟩:=K 1 _ rfl;obtain⟨s,I,_,U⟩:=DataW.trod_string Tryz.underlying9 M;obtain⟨N,J,_,X⟩:=DataW.trod_int Tryz.underlying3 Q;simp at I J;subst I J;refine⟨(s.data.toList,N),⟨?_,by simpa using T⟩,zkO X,?_⟩
   ·have e:(⟨s.data.toList.toArray⟩:ByteArray)=s:=by cases s;rfl
    rw [e];simpa using R
   ·have:s.data.toList.length=s.size:=Array.length_toList;show s.data.toList.length≤_;have W:s.size≤9223372036854775807:=U;omega
  obtain⟨ps,o,y⟩:=zsg C;refine⟨some a,n,c,ps,rfl,E,o,zga zdm (by decide) o E (fun i q O t u j=>?_),⟨fun p z=>?_,?_⟩⟩
  ·obtain⟨⟨P,S⟩,_⟩:=y i q O
   match t,j with
   |0,j=>have e:u= .string ⟨q.1.toArray⟩:=(Option.some.inj j).symm;rw [e];exact P
   |1,j=>have e:u= .int .i64 q.2:=(Option.some.inj j).symm;rw [e];exact S
   |t+2,j=>cases j
  ·obtain⟨i,G⟩:=List.getElem?_of_mem z;exact(y i p G).2
  ·have W:c≤9223372036854775807:=V;omega
theorem zmu{af:Nat}{Z tS:TypeId}{cs:List Value}{x:DataW H×List MemPlace}{t:TypeId}(ht:Tryz.prog.underlying t=some (.slice Z)) {N I K G:Field} (hL:Tryz.prog.underlying Z=some (.struct #[N,I])) (X:N.type=tS∧N.offset=0) (V:I.type=4∧I.offset=2) (a4:Tryz.prog.cellsOf Z=3) (hS:Tryz.prog.underlying tS=some (.struct #[K,G])) (W:K.type=47∧K.offset=0) (P:G.type=3∧G.offset=1) (a7:Tryz.prog.cellsOf tS=2) (h:DataW.trod enc Tryz.prog w base spare held af t cs=some x):∃A n c Q ls,cs= [.slice A n c]∧n≤c∧c≤maxLen∧SlL w A n c Q∧zgw w Q ls:=by
 rcases Go.Deep.open_slice ht h with⟨rfl,_⟩|⟨a,n,c,m,k,D,Pl,rfl,_,hl,hm,az,_,J⟩
 ·exact⟨none,0,0,[],[],rfl,Nat.le_refl _,Nat.zero_le _,Sl.nil _ _ _ _,⟨rfl,fun i q l j=>by simp at j⟩⟩
 ·have aL:n≤m:=by
   rw [az];split<;>omega
  have aj:∀i,i<n→∃ql:zf7×LineM,(∀t u,(ql.1.cells)[t]?=some u→w.cell? (a.add (i*3+t))=some u)∧zhF w ql.1 ql.2:=by
   intro i hi;obtain⟨U,S,ah⟩:=J i (by omega);rw [a4]at S;obtain⟨_,o,ap⟩:=World.cells?_some S;obtain⟨xs,k1,_,_,_,a0,T⟩:=DataW.trod_struct hL ah;have v:=T 0 N rfl;have E:=T 1 I rfl;rw [X.1,X.2,a7,List.drop_zero]at v;have a8:Tryz.prog.cellsOf 4=1:=by kernel_rfl
   rw [V.1,V.2,a8]at E;have aI:xs.length=2:=a0;obtain⟨y0,hy0⟩:∃y,xs[0]?=some y:=⟨_,List.getElem?_eq_getElem (by omega)⟩
   obtain⟨y1,hy1⟩:∃y,xs[1]?=some y:=⟨_,List.getElem?_eq_getElem (by omega)⟩
   rw [hy0]at v;rw [hy1]at E;obtain⟨L,M,F,rfl⟩:∃L M F,U= [L,M,F]:=by
    match U,o with
    | [L,M,F],_=>exact⟨L,M,F,rfl⟩
   have a5:Tryz.prog.cellsOf 47=1:=by kernel_rfl
   have ai:Tryz.prog.cellsOf 3=1:=by kernel_rfl
   obtain⟨zs,k2,_,_,_,ak,Y⟩:=DataW.trod_struct hS v;have B:=Y 0 K rfl;have C:=Y 1 G rfl;rw [W.1,W.2,a5,List.drop_zero]at B;rw [P.1,P.2,ai]at C;have aK:zs.length=2:=ak;obtain⟨u0,hu0⟩:∃y,zs[0]?=some y:=⟨_,List.getElem?_eq_getElem (by omega)⟩
   obtain⟨u1,hu1⟩:∃y,zs[1]?=some y:=⟨_,List.getElem?_eq_getElem (by omega)⟩
   rw [hu0]at B;rw [hu1]at C;obtain⟨A,np,cp,ps,e0,aJ,ag,aw,a6⟩:=zmf B;obtain⟨z,e1,_,ax⟩:=DataW.trod_int Tryz.underlying3 C;obtain⟨b,O,_⟩:=DataW.trod_bool Tryz.underlying4 E;simp at e0 e1 O;subst e0 e1 O;have hw:=zkO ax;refine⟨(⟨A,np,cp,z,b⟩,⟨ps,z,b⟩),fun t u p=>?_,⟨rfl,rfl,ag.symm,aw,hw.1,hw.2,a6⟩⟩;have aq:t<3:=(List.getElem?_eq_some_iff.1 p).1;rw [←Go.Deep.add_add,ap t aq];exact p
  obtain⟨R,o,hR⟩:=zsg aj;refine⟨some a,n,c,R.map (·.1),R.map (·.2),rfl,hl,hm,zga zf7.cells_len (by decide) (by simpa using o) hl (fun i q j t u p=>?_),⟨by simp,fun i q l j hl'=>?_⟩⟩
  ·rw [List.getElem?_map]at j
   cases hr:R[i]? with
   |none=>rw [hr]at j;cases j
   |some ql=>rw [hr]at j;have e:ql.1=q:=Option.some.inj j;rw [←e]at p;exact(hR i ql hr).1 t u p
  ·rw [List.getElem?_map]at j hl'
   cases hr:R[i]? with
   |none=>rw [hr]at j;cases j
   |some ql=>rw [hr]at j hl';have e:ql.1=q:=Option.some.inj j;have O:ql.2=l:=Option.some.inj hl';rw [←e,←O];exact(hR i ql hr).2
end
end
section
open Go.ChangeShapes Go.WideShapes Go.ChangeAt Go.RowKit
section
variable{H:Type}{enc:TypeId×Value→H}{w:World}{base:Nat}{spare:Nat→Bool}{held:Bool}
theorem zgD{a:Option Addr}{n c:Nat}{d:DataW H}{p:List MemPlace}(h:DataW.Trod enc Tryz.prog w base spare held 69 (.slice a n c) d p):n≤c∧c≤maxLen∧(∃Q j,SlL w a n c Q∧zgw w Q j)∧(n=0∨∃el sp,d= .slice el sp∧el.length=n):=by
 obtain⟨v,o⟩:=h;obtain⟨A,C,y,Q,j,e,z,E,B,t⟩:=zmu Tryz.underlying69 Tryz.underlying130 ⟨rfl,rfl⟩ ⟨rfl,rfl⟩ (by kernel_rfl) Tryz.underlying49 ⟨rfl,rfl⟩ ⟨rfl,rfl⟩ (by kernel_rfl) o;simp [Value.cells]at e;obtain⟨rfl,rfl,rfl⟩:=e;refine⟨z,E,⟨Q,j,B,t⟩,?_⟩;rcases Go.Deep.open_slice Tryz.underlying69 o with⟨e,_⟩|⟨x,C,y,m,k,D,G,e,_,_,_,_,i,_⟩
 ·simp [Value.cells]at e;exact .inl e.2.1
 ·simp [Value.cells]at e;obtain⟨-,F,-⟩:=e;injection i with i _;exact .inr ⟨_,_,i,by simp [F]⟩
end
end
end Go.Proofs.YtckfnbckoclhpaaGreatDoor

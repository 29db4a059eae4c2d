/- A region that draws its order, all of whose head operatio. -/
import Derived.Test.YtckfnbckoclhpaaGreatDoorCH
import Derived.Test.YtckfnbckoclhpaaGreatDoorC01
namespace Go.Proofs.YtckfnbckoclhpaaGreatDoor
set_option linter.unusedVariables false
set_option linter.unusedSimpArgs false
section
open Go.RowKit
def upd(y:Nat→Value)(i:Nat)(v:Value):Nat→Value:=fun j=>if j=i then v else y j
theorem zby(y:Nat→Value)(i:Nat)(v:Value):upd y i v i=v:=by simp [upd]
theorem zcg{y:Nat→Value}{i j:Nat}{v:Value}(h:j≠i):upd y i v j=y j:=by simp [upd,h]
def Region.backB(md:Region.Mode)(ops:Array Oper):Bool:=
 (List.range ops.size).all fun i=>match ops[i]? with
  |some o=>o.after.all fun e=>!Region.binds md e || decide (e.on<i)
  |none=>true
def Region.beforeB(md:Region.Mode)(ops:Array Oper):Nat→Nat→Nat→Bool
 |0,_,_=>false
 |f+1,i,j=>match ops[i]? with
  |some o=>o.after.any fun e=>Region.binds md e&&(e.on==j || Region.beforeB md ops f e.on j)
  |none=>false
section
variable{P:Program}{ops:Array Oper}{Q:Exit→Act→World→Prop}{md:Region.Mode}{n:Nat}
theorem zhq:∀(f:Nat) (j:Array Bool) (a:Act) (w:World),wpAny P md ops Q f j a w→wpAny P md ops Q (f+1) j a w
 |0,j,a,w,h=>⟨fun _=>h.2,fun i k=>(by rw [h.1]at k;cases k)⟩
 |f+1,j,a,w,h=>⟨h.1,fun i k=>wpOp_mono (fun a' w' h'=>zhq f _ a' w' h') (h.2 i k)⟩
theorem zeE{f:Nat}{i:Array Bool}{a:Act}{w:World}(h:wpAny P md ops Q f i a w):∀k,wpAny P md ops Q (k+f) i a w
 |0=>by rw [Nat.zero_add];exact h
 |k+1=>by rw [show k+1+f=(k+f)+1 by omega];exact zhq _ _ _ _ (zeE h k)
theorem zdj{k:Array Bool}(t:HeadInv md ops n k):∀(f i j:Nat) (o:Oper),ops[i]?=some o→(∀e∈o.after,Region.binds md e=true→k.getD e.on false=true)→Region.beforeB md ops f i j=true→k.getD j false=true
 |0,_,_,_,_,_,h=>by simp [Region.beforeB]at h
 |f+1,i,j,o,ho,hall,h=>by
  simp only [Region.beforeB,ho]at h;obtain⟨e,z,v⟩:=Array.any_eq_true'.1 h;simp only [Bool.and_eq_true,Bool.or_eq_true,beq_iff_eq]at v;obtain⟨y,p⟩:=v;have x:=hall e z y;rcases p with p|p
  ·rw [←p];exact x
  ·cases hoe:ops[e.on]? with
   |none=>cases f<;>simp [Region.beforeB,hoe]at p
   |some oe=>exact zdj t f e.on j oe hoe (t.closed e.on oe hoe x) p
theorem zhB(p:Region.backB md ops=true){j:Array Bool}(H:j.size=ops.size):∀(i:Nat),i<ops.size→j.getD i true=false→∃k,k∈Region.ready md ops j:=by
 intro i
 induction i using Nat.strongRecOn with
 |_ i ih=>
  intro t C;by_cases h:∃k,k<i∧j.getD k true=false
  ·obtain⟨k,G,B⟩:=h;exact ih k G (by omega) B
  ·refine⟨i,mem_ready.2 ⟨C,ops[i],Array.getElem?_eq_getElem t,fun e E D=>?_⟩⟩;have v:=List.all_eq_true.1 p i (List.mem_range.2 t);rw [Array.getElem?_eq_getElem t]at v;have y:=Array.all_eq_true_iff_forall_mem.1 v e E;simp only [D,Bool.not_true,Bool.false_or,decide_eq_true_eq]at y;have z:j.getD e.on true≠false:=fun hh=>h ⟨e.on,y,hh⟩;have x:e.on<j.size:=by omega
   simp [x]at z⊢;exact z
variable{I:(Nat→Bool)→World→Prop}{R:Nat→World→World→Prop}{F:Nat→Value→World→Prop}{mk:(Nat→Value)→Act}
def zc(P:Program)(md:Region.Mode)(ops:Array Oper)(Q:Exit→Act→World→Prop)(n:Nat)(I:(Nat→Bool)→World→Prop)(R:Nat→World→World→Prop)(F:Nat→Value→World→Prop)(mk:(Nat→Value)→Act)(i:Nat):Prop:=∀k,i≤k→k<n→∀(y:Nat→Value) (L:Nat→Bool) (w:World),L k=false→I L w→(∀j,j<n→Region.beforeB md ops n k j=true→F j (y j) w)→wpOp P ops Q k (fun a' w'=>∃v,a'=mk (upd y k v)∧R k w w'∧F k v w') (mk y) w
theorem zc.nil:zc P md ops Q n I R F mk n:=fun _ i j=>absurd i (by omega)
theorem zc.cons{i:Nat}{o:Oper}{l:List Oper}(ps:List Nat)(E:ops.toList.drop i=o::l)(t:(ps.all fun j=>decide (j<n)&&Region.beforeB md ops n i j)=true)
  (h:∀(y:Nat→Value) (L:Nat→Bool) (w:World),L i=false→I L w→(∀j∈ps,F j (y j) w)→∀K:Act→World→Prop,Shut (∀v w',R i w w'→F i v w'→K (mk (upd y i v)) w')→if Region.wanted o (yielded ops (mk y).tmps)=true then Oper.wp P o (mk y) w K Q else K ((mk y).put o.dst undef) w)
  (D:zc P md ops Q n I R F mk (i+1)):zc P md ops Q n I R F mk i:=fun k H z y L w p C B=>by
 by_cases x:k=i
 ·subst x;refine wpOp_step (zgf E) fun K G=>h y L w p C (fun j hj=>?_) K (fun v w' h1 h2=>G _ _ ⟨v,rfl,h1,h2⟩);have:=List.all_eq_true.1 t j hj;simp only [Bool.and_eq_true,decide_eq_true_eq]at this;exact B j this.1 this.2
 ·exact D k (by omega) z y L w p C B
theorem zjO(U:Region.backB md ops=true)(hn:n≤ops.size)(S:n<ops.size→Region.sinkB md ops n=true∧Region.chainB md ops n=true) (hI:∀k L w w',k<n→L k=false→I L w→R k w w'→I (fun j=>if j=k then true else L j) w') (hF:∀i k v w w',i<n→k<n→i≠k→F i v w→R k w w'→F i v w') (ai:zc P md ops Q n I R F mk 0) (Y:∀(y:Nat→Value) (w:World) (L:Nat→Bool) (p:Array Bool),p=(List.replicate n true++List.replicate (ops.size - n) false).toArray→(∀j,j<n→L j=true)→I L w→(∀j,j<n→F j (y j) w)→wpAny P md ops Q (ops.size - n) p (mk y) w):∀(m:Nat) (l:List Nat) (p:Array Bool) (y:Nat→Value) (w:World),l.length≤m→HeadInv md ops n p→(∀j,j<n→p.getD j true=false→j∈l)→I (fun j=>p.getD j false) w→(∀j,j<n→p.getD j false=true→F j (y j) w)→wpAny P md ops Q (m+(ops.size - n)) p (mk y) w:=by
 have N:∀(p:Array Bool) (y:Nat→Value) (w:World),HeadInv md ops n p→(∀j,j<n→p.getD j true=true)→I (fun j=>p.getD j false) w→(∀j,j<n→p.getD j false=true→F j (y j) w)→wpAny P md ops Q (ops.size - n) p (mk y) w:=by
  intro p y w t B H C;have J:∀j,j<n→p.getD j false=true:=fun j x=>by
   have:=B j x;have D:j<p.size:=by rw [t.size];omega
   simp [D]at this⊢;exact this
  refine Y y w _ p ?_ J H fun j x=>C j x (J j x)
  ·apply Array.ext
   ·simp [t.size];omega
   ·intro j h1 h2;by_cases x:j<n
    ·have:=B j x;simp only [List.getElem_toArray];rw [List.getElem_append_left (by simpa using x)];simpa [h1]using this
    ·have:=t.tail j (by omega) (by rw [←t.size];exact h1);simp only [List.getElem_toArray];rw [List.getElem_append_right (by simpa using x)];simpa [h1]using this
 intro m
 induction m with
 |zero=>
  intro l p y w hl t K H C;rw [Nat.zero_add];refine N p y w t (fun j x=>?_) H C
  cases h:p.getD j true with
  |true=>rfl
  |false=>
   have:=K j x h;rw [List.length_eq_zero_iff.1 (Nat.le_zero.1 hl)]at this
   cases this
 |succ m ih=>
  intro l p y w hl t K H C;by_cases B:∀j,j<n→p.getD j true=true
  ·exact zeE (N p y w t B H C) (m+1)
  ·have af:∃j,j<n∧p.getD j true=false:=by
    refine Classical.byContradiction fun ae=>B fun j x=>?_
    cases h:p.getD j true with
    |true=>rfl
    |false=>exact absurd ⟨j,x,h⟩ ae
   obtain⟨j0,ak,X⟩:=af;rw [show m+1+(ops.size - n)=(m+(ops.size - n))+1 by omega];refine⟨fun h0=>?_,fun i hi=>?_⟩
   ·obtain⟨k,hk⟩:=zhB U t.size j0 (by omega) X;rw [h0]at hk
    cases hk
   ·have E:i<n:=by
     rcases Nat.lt_or_ge i n with h|h
     ·exact h
     ·have D:i<ops.size:=by
       obtain⟨_,o,Z,_⟩:=mem_ready.1 hi;exact(Array.getElem?_eq_some_iff.1 Z).1
      obtain⟨hs,hc⟩:=S (by omega);exact absurd hi (tail_waits hs hc (by omega) t _ j0 rfl ak X i h)
    obtain⟨G,o,Z,O⟩:=mem_ready.1 hi;refine wpOp_mono ?_ (ai i (Nat.zero_le _) E y _ w (getD_both G) H fun j x hb=>C j x (zdj t n i j o Z O hb));rintro a' w' ⟨v,rfl,W,ah⟩;have T:(fun j=>(p.setIfInBounds i true).getD j false)=fun j=>if j=i then true else p.getD j false:=by
     funext j
     by_cases z:j=i
     ·subst z;have D:j<p.size:=by rw [t.size];omega
      simp [D]
     ·rw [getD_set_ne false (Ne.symm z),if_neg z]
    refine ih (l.erase i) _ _ w' ?_ (t.set hi E) ?_ (by rw [T];exact hI i _ _ _ E (getD_both G) H W) ?_
    ·rw [List.length_erase_of_mem (K i E G)];omega
    ·intro j x M;have z:j≠i:=by
      rintro rfl;have D:j<p.size:=by rw [t.size];omega
      simp [D]at M
     rw [getD_set_ne true (Ne.symm z)]at M;exact(List.mem_erase_of_ne z).2 (K j x M)
    ·intro j x V;by_cases z:j=i
     ·subst z;rw [zby];exact ah
     ·rw [zcg z];rw [getD_set_ne false (Ne.symm z)]at V;exact hF j i _ _ _ x E z (C j x V) W
theorem zdr{id:Nat}{w:World}(n:Nat)(I:(Nat→Bool)→World→Prop)(R:Nat→World→World→Prop)(F:Nat→Value→World→Prop)(mk:(Nat→Value)→Act)(G:Nat→Value)(l:List Oper) (T:P.follows .mixedOrders=true) (D:(Region.backB .any ops&&Region.sinkB .any ops n&&Region.chainB .any ops n&&decide (n<ops.size)&&Region.seqB .any ops (ops.size - n) n (List.replicate n true++List.replicate (ops.size - n) false).toArray)=true) (p:ops.toList.drop n=l) (J:I (fun _=>false) w.drew) (W:∀k L u u',k<n→L k=false→I L u→R k u u'→I (fun j=>if j=k then true else L j) u') (U:∀i k v u u',i<n→k<n→i≠k→F i v u→R k u u'→F i v u') (H:zc P .any ops Q n I R F mk 0) (B:∀(y:Nat→Value) (w':World) (L:Nat→Bool),(∀j,j<n→L j=true)→I L w'→(∀j,j<n→F j (y j) w')→wpList P ops Q l (mk y) w'):(Code.region id ops true).wp P Q (mk G) w:=by
 simp only [Bool.and_eq_true,decide_eq_true_eq]at D;obtain⟨⟨⟨⟨z,O⟩,K⟩,N⟩,M⟩:=D;refine wp_region_any T ?_;have C:HeadInv .any ops n (Array.replicate ops.size false):=⟨by simp,fun j X _ p=>(by rw [getD_replicate_false]at p;cases p),fun t _ ht=>getD_in (by simpa using ht) (getD_replicate_false _ _)⟩
 have:=zjO z (Nat.le_of_lt N) (fun _=>⟨O,K⟩) W U H (fun y w' L listed hlisted hL' hR' hF'=>by
  subst hlisted;have x:l.length=ops.size - n:=by subst p;simp
  have E:=zb4 (P:=P) (Q:=Q) (md:= .any) (S:=fun _=>True) (n:=n) l n _ (mk y) w' (Nat.le_refl _) (fun j=>by subst p;simp [List.getElem?_drop]) (by rw [x];exact M) (B y w' L hL' hR' hF');rw [x]at E;exact zdY _ _ _ _ E) n (List.range n) _ G w.drew (by simp) C (fun j V _=>List.mem_range.2 V) (by rw [show(fun j=>(Array.replicate ops.size false).getD j false)=fun _=>false from funext fun j=>getD_replicate_false _ _];exact J) (fun j _ h=>by rw [getD_replicate_false]at h;cases h)
 rw [show n+(ops.size - n)=ops.size by omega]at this;exact this
def zcQ:List (Option Tmp)→Nat→(Nat→Value)→Act→Act
 | [],_,_,a=>a
 |d::ds,i,y,a=>zcQ ds (i+1) y (a.put d (y i))
theorem zpw(a:Act)(d:Option Tmp)(v:Value)(h:∀t,d=some t→v=a.tmps.getD t undef):a.put d v=a:=by
 cases d with
 |none=>rfl
 |some t=>
  have e:=h t rfl;subst e;unfold Act.put;simp only;have:a.tmps.setIfInBounds t (a.tmps.getD t undef)=a.tmps:=by
   apply Array.ext_getElem?;intro i;by_cases k:t=i
   ·subst k;rw [Array.getElem?_setIfInBounds_self];split
    ·rename_i j;simp [j]
    ·rename_i j;simp [j]
   ·rw [Array.getElem?_setIfInBounds_ne k]
  rw [this]
theorem zhN(a:Act)(y:Nat→Value):∀(k:List (Option Tmp)) (i:Nat),(∀j t,k[j]?=some (some t)→y (i+j)=a.tmps.getD t undef)→zcQ k i y a=a
 | [],_,_=>rfl
 |d::k,i,h=>by unfold zcQ;rw [zpw a d (y i) (fun t p=>by subst p;simpa using h 0 t rfl)];exact zhN a y k (i+1) fun j t v=>by have:=h (j+1) t (by simpa using v);rwa [show i+1+j=i+(j+1) by omega]
def y0L(ds:List (Option Tmp))(a:Act):Nat→Value:=fun i=>match ds[i]? with
 |some (some t)=>a.tmps.getD t undef
 |_=>undef
theorem zf8(i:List (Option Tmp))(a:Act):zcQ i 0 (y0L i a) a=a:=zhN a _ i 0 fun j t k=>by simp [y0L,k]
section
variable{id:Nat}{w:World}{a:Act}
theorem zav{x:Oper}(n:Nat)(I:(Nat→Bool)→World→Prop)(R:Nat→World→World→Prop)(F:Nat→Value→World→Prop)(p:List (Option Tmp))(H:P.follows .mixedOrders=true) (C:(Region.backB .any ops&&Region.sinkB .any ops n&&Region.chainB .any ops n&&decide (n<ops.size)&&Region.seqB .any ops (ops.size - n) n (List.replicate n true++List.replicate (ops.size - n) false).toArray)=true) (D:ops.toList.drop n=x::[]) (B:I (fun _=>false) w.drew) (G:∀k L u u',k<n→L k=false→I L u→R k u u'→I (fun j=>if j=k then true else L j) u') (E:∀i k v u u',i<n→k<n→i≠k→F i v u→R k u u'→F i v u') (z:zc P .any ops Q n I R F (fun y=>zcQ p 0 y a) 0) (t:∀(y:Nat→Value) (w':World) (L:Nat→Bool),(∀j,j<n→L j=true)→I L w'→(∀j,j<n→F j (y j) w')→wpList P ops Q [x] (zcQ p 0 y a) w'):(Code.region id ops true).wp P Q a w:=by have h:=zdr (id:=id) n I R F (fun y=>zcQ p 0 y a) (y0L p a) _ H C D B G E z t;rwa [zf8]at h
theorem zw{x z:Oper}(n:Nat)(I:(Nat→Bool)→World→Prop)(R:Nat→World→World→Prop)(F:Nat→Value→World→Prop)(p:List (Option Tmp))(G:P.follows .mixedOrders=true) (D:(Region.backB .any ops&&Region.sinkB .any ops n&&Region.chainB .any ops n&&decide (n<ops.size)&&Region.seqB .any ops (ops.size - n) n (List.replicate n true++List.replicate (ops.size - n) false).toArray)=true) (E:ops.toList.drop n=x::z::[]) (C:I (fun _=>false) w.drew) (J:∀k L u u',k<n→L k=false→I L u→R k u u'→I (fun j=>if j=k then true else L j) u') (H:∀i k v u u',i<n→k<n→i≠k→F i v u→R k u u'→F i v u') (B:zc P .any ops Q n I R F (fun y=>zcQ p 0 y a) 0) (t:∀(y:Nat→Value) (w':World) (L:Nat→Bool),(∀j,j<n→L j=true)→I L w'→(∀j,j<n→F j (y j) w')→wpList P ops Q [x,z] (zcQ p 0 y a) w'):(Code.region id ops true).wp P Q a w:=by have h:=zdr (id:=id) n I R F (fun y=>zcQ p 0 y a) (y0L p a) _ G D E C J H B t;rwa [zf8]at h
end
end
theorem zi4:((0:Nat)=1)=False:=by simp
theorem zjX:((1:Nat)=0)=False:=by simp
theorem PU:(∀i y a,zcQ [] i y a=a)∧(∀d ds i y a,zcQ (d::ds) i y a=zcQ ds (i+1) y (a.put d (y i)))∧(∀y i v j,upd y i v j=if j=i then v else y j)∧(∀(a:Act) v,a.put none v=a)∧(∀(a:Act) t v,a.put (some t) v={a with tmps:=a.tmps.setIfInBounds t v})∧(∀(l:List Value) i v,l.toArray.setIfInBounds i v=(l.set i v).toArray)∧(∀(x:Value) l v,(x::l).set 0 v=v::l)∧(∀(x:Value) l i v,(x::l).set (i+1) v=x::l.set i v)∧(∀n:Nat,(n+1=0)=False)∧((0:Nat)=1)=False∧((1:Nat)=0)=False:=⟨fun _ _ _=>rfl,fun _ _ _ _ _=>rfl,fun _ _ _ _=>rfl,fun _ _=>rfl,fun _ _ _=>rfl,fun _ _ _=>List.setIfInBounds_toArray ..,fun _ _ _=>rfl,fun _ _ _ _=>rfl,fun _=>by simp,zi4,zjX⟩
theorem zb1{W:World}{b:Nat}{t:TypeId}{y z x:Value}(k:Blk W b t #[y,z,x])(v j p:Value):Blk (((W.setCell ⟨b,0,none⟩ v).setCell ⟨b,1,none⟩ j).setCell ⟨b,2,none⟩ p) b t #[v,j,p]∧Fr (fun i=>i=b) W (((W.setCell ⟨b,0,none⟩ v).setCell ⟨b,1,none⟩ j).setCell ⟨b,2,none⟩ p):=⟨((k.set_ 0 v).set_ 1 j).set_ 2 p,((Fr.one W _ 0 _).trans (Fr.one _ _ 1 _)).trans (Fr.one _ _ 2 _)⟩
theorem zas{W:World}{b:Nat}{t:TypeId}{v x:Value}(k:Blk W b t #[v,x])(p j:Value):Blk ((W.setCell ⟨b,0,none⟩ p).setCell ⟨b,1,none⟩ j) b t #[p,j]∧Fr (fun i=>i=b) W ((W.setCell ⟨b,0,none⟩ p).setCell ⟨b,1,none⟩ j):=⟨(k.set_ 0 p).set_ 1 j,(Fr.one W _ 0 _).trans (Fr.one _ _ 1 _)⟩
theorem zh{w:World}{b:Nat}{e j:TypeId}{i:Array Value}(p:Blk w b e i)(k:e≠j):∀g,g=b→∃t i fz,w.heap[g]?=some (.cells i t fz)∧t≠j:=fun g hg=>by subst hg;exact⟨_,_,_,p,k⟩
section
variable{P:Program}{w:World}{ops:Array Oper}{rest:List Oper}{o:Oper}{a:Act}{Q:Exit→Act→World→Prop}
theorem zjb{t e T:TypeId}{z:Value}{k p:Nat}(E:zcE P t e z k p)(N:o.guard=none)(s x:Operand) (V:o.op= .call {callee:= .builtin .append,args:=#[s,x],argTypes:=#[t,t]}) {base n c q:Nat} {A:Option Addr} {D:List Value} (y:Array Value) (J:y.size=k) (Y:∀u∈y.toList,u.oneCell'=true) (Z:a.eval s= .slice A n c) (U:a.eval x= .slice (some ⟨q,0,none⟩) 1 1) (W:Blk w q T y) (C:w.ownsRow base e k (.slice A n c) n D) (H:n+1≤maxLen) (v:(n+1)*p≤140737488355328) (B:base≤w.heap.size) (h:∀g K w',w'.ownsRow base e k (.slice (some ⟨g,0,none⟩) (n+1) K) (n+1) (D++y.toList)→w.grownBy w' (Value.slice A n c).ownBlock→((Value.slice A n c).ownBlock=some g∨g=w.heap.size)→wpList P ops Q rest (a.put o.dst (.slice (some ⟨g,0,none⟩) (n+1) K)) w'):wpList P ops Q (o::rest) a w:=by
 obtain⟨i,hi,hz,L,M⟩:=info_parts E.info;refine wpList_append_lies _ N s x t V base e i z k p E.under hi hz L M E.zs E.pos _ _ _ Z C ⟨q,0,none⟩ 1 1 y.toList U (by simp [J]) (fun j u hu=>?_) Y (by omega) H v B w.heap.size rfl ?_
 ·rw [zdM,W.cell];simpa using hu
 ·intro g O w' G S X _;exact h g O w' G S X
end
end
end Go.Proofs.YtckfnbckoclhpaaGreatDoor

/- A region that draws its order, met once for each operatio. -/
import Derived.Test.YtckfnbckoclhpaaGreatDoorCS
import Derived.Test.YtckfnbckoclhpaaGreatDoorC02
namespace Go.Proofs.YtckfnbckoclhpaaGreatDoor
set_option linter.unusedVariables false
set_option linter.unusedSimpArgs false
section
open Go.RowKit
section
variable{P:Program}{ops:Array Oper}{Q:Exit→Act→World→Prop}{md:Region.Mode}{n:Nat}
variable{J:(Nat→Bool)→(Nat→Value)→World→Prop}{mk:(Nat→Value)→Act}
def zeg(L:Nat→Bool)(k:Nat):Nat→Bool:=fun j=>if j=k then true else L j
theorem zhc(L:Nat→Bool)(k:Nat):zeg L k k=true:=if_pos rfl
theorem zV{L:Nat→Bool}{k j:Nat}(h:j≠k):zeg L k j=L j:=if_neg h
def ze(P:Program)(md:Region.Mode)(ops:Array Oper)(Q:Exit→Act→World→Prop)(n:Nat)(J:(Nat→Bool)→(Nat→Value)→World→Prop)(mk:(Nat→Value)→Act)(i:Nat):Prop:=∀k,i≤k→k<n→∀(y:Nat→Value) (L:Nat→Bool) (w:World),L k=false→(∀j,j<n→Region.beforeB md ops n k j=true→L j=true)→J L y w→wpOp P ops Q k (fun a' w'=>∃v,a'=mk (upd y k v)∧J (zeg L k) (upd y k v) w') (mk y) w
theorem ze.nil:ze P md ops Q n J mk n:=fun _ i j=>absurd i (by omega)
theorem ze.cons{i:Nat}{o:Oper}{l:List Oper}(ps:List Nat)(F:ops.toList.drop i=o::l)(x:(ps.all fun j=>decide (j<n)&&Region.beforeB md ops n i j)=true)
  (h:∀(y:Nat→Value) (L:Nat→Bool) (w:World),L i=false→(∀j∈ps,L j=true)→J L y w→∀K:Act→World→Prop,Shut (∀v w',J (zeg L i) (upd y i v) w'→K (mk (upd y i v)) w')→if Region.wanted o (yielded ops (mk y).tmps)=true then Oper.wp P o (mk y) w K Q else K ((mk y).put o.dst undef) w)
  (E:ze P md ops Q n J mk (i+1)):ze P md ops Q n J mk i:=fun k H B y L w t C D=>by
 by_cases z:k=i
 ·subst z;refine wpOp_step (zgf F) fun K G=>h y L w t (fun j hj=>?_) D K (fun v w' h1=>G _ _ ⟨v,rfl,h1⟩);have:=List.all_eq_true.1 x j hj;simp only [Bool.and_eq_true,decide_eq_true_eq]at this;exact C j this.1 this.2
 ·exact E k (by omega) B y L w t C D
theorem znX(S:Region.backB md ops=true)(hn:n≤ops.size)(O:n<ops.size→Region.sinkB md ops n=true∧Region.chainB md ops n=true) (ad:ze P md ops Q n J mk 0) (U:∀(y:Nat→Value) (w:World) (L:Nat→Bool) (t:Array Bool),t=(List.replicate n true++List.replicate (ops.size - n) false).toArray→(∀j,j<n→L j=true)→J L y w→wpAny P md ops Q (ops.size - n) t (mk y) w):∀(m:Nat) (l:List Nat) (t:Array Bool) (y:Nat→Value) (w:World),l.length≤m→HeadInv md ops n t→(∀j,j<n→t.getD j true=false→j∈l)→J (fun j=>t.getD j false) y w→wpAny P md ops Q (m+(ops.size - n)) t (mk y) w:=by
 have I:∀(t:Array Bool) (y:Nat→Value) (w:World),HeadInv md ops n t→(∀j,j<n→t.getD j true=true)→J (fun j=>t.getD j false) y w→wpAny P md ops Q (ops.size - n) t (mk y) w:=by
  intro t y w x B F;have N:∀j,j<n→t.getD j false=true:=fun j z=>by
   have:=B j z;have D:j<t.size:=by rw [x.size];omega
   simp [D]at this⊢;exact this
  refine U y w _ t ?_ N F
  ·apply Array.ext
   ·simp [x.size];omega
   ·intro j X h2;by_cases z:j<n
    ·have:=B j z;simp only [List.getElem_toArray];rw [List.getElem_append_left (by simpa using z)];simpa [X]using this
    ·have:=x.tail j (by omega) (by rw [←x.size];exact X);simp only [List.getElem_toArray];rw [List.getElem_append_right (by simpa using z)];simpa [X]using this
 intro m
 induction m with
 |zero=>
  intro l t y w hl x E F;rw [Nat.zero_add];refine I t y w x (fun j z=>?_) F
  cases h:t.getD j true with
  |true=>rfl
  |false=>
   have:=E j z h;rw [List.length_eq_zero_iff.1 (Nat.le_zero.1 hl)]at this
   cases this
 |succ m ih=>
  intro l t y w hl x E F;by_cases B:∀j,j<n→t.getD j true=true
  ·exact zeE (I t y w x B F) (m+1)
  ·have Z:∃j,j<n∧t.getD j true=false:=by
    refine Classical.byContradiction fun ag=>B fun j z=>?_
    cases h:t.getD j true with
    |true=>rfl
    |false=>exact absurd ⟨j,z,h⟩ ag
   obtain⟨Y,af,T⟩:=Z;rw [show m+1+(ops.size - n)=(m+(ops.size - n))+1 by omega];refine⟨fun h0=>?_,fun i hi=>?_⟩
   ·obtain⟨k,hk⟩:=zhB S x.size Y (by omega) T;rw [h0]at hk
    cases hk
   ·have G:i<n:=by
     rcases Nat.lt_or_ge i n with h|h
     ·exact h
     ·have D:i<ops.size:=by
       obtain⟨_,o,W,_⟩:=mem_ready.1 hi;exact(Array.getElem?_eq_some_iff.1 W).1
      obtain⟨hs,hc⟩:=O (by omega);exact absurd hi (tail_waits hs hc (by omega) x _ Y rfl af T i h)
    obtain⟨K,o,W,M⟩:=mem_ready.1 hi;refine wpOp_mono ?_ (ad i (Nat.zero_le _) G y _ w (getD_both K) (fun j z hb=>zdj x n i j o W M hb) F);rintro a' w' ⟨v,rfl,hJ⟩;have R:(fun j=>(t.setIfInBounds i true).getD j false)=zeg (fun j=>t.getD j false) i:=by
     funext j
     by_cases C:j=i
     ·subst C;have D:j<t.size:=by rw [x.size];omega
      rw [zhc];simp [D]
     ·rw [getD_set_ne false (Ne.symm C),zV C]
    refine ih (l.erase i) _ _ w' ?_ (x.set hi G) ?_ (by rw [R];exact hJ)
    ·rw [List.length_erase_of_mem (E i G K)];omega
    ·intro j z H;have C:j≠i:=by
      rintro rfl;have D:j<t.size:=by rw [x.size];omega
      simp [D]at H
     rw [getD_set_ne true (Ne.symm C)]at H;exact(List.mem_erase_of_ne C).2 (E j z H)
theorem ze6{id:Nat}{w:World}{a:Act}(n:Nat)(J:(Nat→Bool)→(Nat→Value)→World→Prop)(i:List (Option Tmp))(l:List Oper) (M:P.follows .mixedOrders=true) (C:(Region.backB .any ops&&Region.sinkB .any ops n&&Region.chainB .any ops n&&decide (n<ops.size)&&Region.seqB .any ops (ops.size - n) n (List.replicate n true++List.replicate (ops.size - n) false).toArray)=true) (k:ops.toList.drop n=l) (F:∀y,J (fun _=>false) y w.drew) (E:ze P .any ops Q n J (fun y=>zcQ i 0 y a) 0) (z:∀(y:Nat→Value) (w':World) (L:Nat→Bool),(∀j,j<n→L j=true)→J L y w'→wpList P ops Q l (zcQ i 0 y a) w'):(Code.region id ops true).wp P Q a w:=by
 simp only [Bool.and_eq_true,decide_eq_true_eq]at C;obtain⟨⟨⟨⟨x,K⟩,G⟩,I⟩,H⟩:=C;rw [←zf8 i a];refine wp_region_any M ?_;have B:HeadInv .any ops n (Array.replicate ops.size false):=⟨by simp,fun j O _ k=>(by rw [getD_replicate_false]at k;cases k),fun t _ ht=>getD_in (by simpa using ht) (getD_replicate_false _ _)⟩
 have:=znX x (Nat.le_of_lt I) (fun _=>⟨K,G⟩) E (fun y w' L listed hlisted hL' hJ'=>by
  subst hlisted;have o:l.length=ops.size - n:=by subst k;simp
  have D:=zb4 (P:=P) (Q:=Q) (md:= .any) (S:=fun _=>True) (n:=n) l n _ (zcQ i 0 y a) w' (Nat.le_refl _) (fun j=>by subst k;simp [List.getElem?_drop]) (by rw [o];exact H) (z y w' L hL' hJ');rw [o]at D;exact zdY _ _ _ _ D) n (List.range n) _ (y0L i a) w.drew (by simp) B (fun j N _=>List.mem_range.2 N) (by rw [show(fun j=>(Array.replicate ops.size false).getD j false)=fun _=>false from funext fun j=>getD_replicate_false _ _];exact F _)
 rw [show n+(ops.size - n)=ops.size by omega]at this;rw [zf8]at this⊢;exact this
theorem zhg{id:Nat}{w:World}{a:Act}{t o:Oper}(n:Nat)(J:(Nat→Bool)→(Nat→Value)→World→Prop)(i:List (Option Tmp))(D:P.follows .mixedOrders=true) (B:(Region.backB .any ops&&Region.sinkB .any ops n&&Region.chainB .any ops n&&decide (n<ops.size)&&Region.seqB .any ops (ops.size - n) n (List.replicate n true++List.replicate (ops.size - n) false).toArray)=true) (C:ops.toList.drop n=t::o::[]) (z:∀y,J (fun _=>false) y w.drew) (x:ze P .any ops Q n J (fun y=>zcQ i 0 y a) 0) (k:∀(y:Nat→Value) (w':World) (L:Nat→Bool),(∀j,j<n→L j=true)→J L y w'→wpList P ops Q [t,o] (zcQ i 0 y a) w'):(Code.region id ops true).wp P Q a w:=ze6 n J i _ D B C z x k
theorem zag{id:Nat}{w:World}{a:Act}{o:Oper}(n:Nat)(J:(Nat→Bool)→(Nat→Value)→World→Prop)(i:List (Option Tmp))(C:P.follows .mixedOrders=true) (z:(Region.backB .any ops&&Region.sinkB .any ops n&&Region.chainB .any ops n&&decide (n<ops.size)&&Region.seqB .any ops (ops.size - n) n (List.replicate n true++List.replicate (ops.size - n) false).toArray)=true) (B:ops.toList.drop n=o::[]) (x:∀y,J (fun _=>false) y w.drew) (t:ze P .any ops Q n J (fun y=>zcQ i 0 y a) 0) (k:∀(y:Nat→Value) (w':World) (L:Nat→Bool),(∀j,j<n→L j=true)→J L y w'→wpList P ops Q [o] (zcQ i 0 y a) w'):(Code.region id ops true).wp P Q a w:=ze6 n J i _ C z B x t k
end
def HZ(w:World)(b:Nat):Prop:=∃g A n c,Blk w b 30 #[.bool g,.slice A n c]
theorem HZ.pu{w w':World}{b:Nat}(h:HZ w b)(p:Pu w w'):HZ w' b:=by obtain⟨g,A,n,c,h⟩:=h;exact⟨g,A,n,c,h.pu p⟩
theorem HZ.lt{w:World}{b:Nat}(h:HZ w b):b<w.heap.size:=by obtain⟨g,A,n,c,h⟩:=h;exact h.lt
def NS(V u u':World):Prop:=Fr (fun b=>V.heap.size≤b∧HZ u b) u u'
theorem Pu.ns{V u u':World}(h:Pu u u'):NS V u u':=h.fr
theorem NS.typed{V u u':World}:∀g,(V.heap.size≤g∧HZ u g)→∃t cs fz,u.heap[g]?=some (.cells cs t fz)∧t≠169:=fun g hg=>by obtain⟨_,x,A,n,c,h⟩:=hg;exact⟨_,_,_,h,by decide⟩
theorem ZR.ns{V u u':World}{v:Value}{z:Int}(h:ZR u v z)(k:NS V u u'):ZR u' v z:=h.frT k (NS.typed (u':=u'))
abbrev zdD(b:Nat):Value:= .pointer (some ⟨b,0,none⟩)
structure DJ(V:World)(p:Nat)(Fp:Nat→Value→World→Prop)(q:Int)(L:Nat→Bool)(y:Nat→Value)(w:World):Prop where
 pu:Pu V w
 pre:∀j,j<p→L j=true→Fp j (y j) w
 d:L p=true→∃g A n c g' A' n' c',y p= .tuple #[.agg #[.bool g,.slice A n c],.agg #[.bool g',.slice A' n' c'],.int .i64 0]∧ZR w (.agg #[.bool g,.slice A n c]) q
 m:L (p+1)=true→L p=true∧y (p+1)=y p
 e0:L (p+2)=true→L p=true∧∃x x' x'',y p= .tuple #[x,x',x'']∧y (p+2)=x
 e1:L (p+3)=true→L p=true∧∃x x' x'',y p= .tuple #[x,x',x'']∧y (p+3)=x'
 e2:L (p+4)=true→L p=true∧y (p+4)= .int .i64 0
 a:L (p+5)=true→∃b,y (p+5)=zdD b∧V.heap.size≤b∧HZ w b
 b:L (p+6)=true→∃b,y (p+6)=zdD b∧V.heap.size≤b∧HZ w b
 ab:L (p+5)=true→L (p+6)=true→y (p+5)≠y (p+6)
 s:L (p+7)=true→L (p+2)=true∧L (p+5)=true∧∃b g A n c,y (p+5)=zdD b∧y (p+2)= .agg #[.bool g,.slice A n c]∧Blk w b 30 #[.bool g,.slice A n c]
section
variable{V w w':World}{p:Nat}{Fp:Nat→Value→World→Prop}{q:Int}{L:Nat→Bool}{y:Nat→Value}{v:Value}
theorem DJ.start(h:Pu V w):DJ V p Fp q (fun _=>false) y w:=by
 constructor
 ·exact h
 ·intro j _ h
  cases h
 all_goals
  intro h
  cases h
theorem DJ.keep(h:DJ V p Fp q L y w)(hF:∀j x u u',j<p→Fp j x u→NS V u u'→Fp j x u')(k:Nat)(hk:L k=false)(I:Pu w w') (f1:k<p→Fp k v w') (f2:k=p→∃g A n c O M N G,v= .tuple #[.agg #[.bool g,.slice A n c],.agg #[.bool O,.slice M N G],.int .i64 0]∧ZR w' (.agg #[.bool g,.slice A n c]) q) (f3:k=p+1→L p=true∧v=y p) (f4:k=p+2→L p=true∧∃x S K,y p= .tuple #[x,S,K]∧v=x) (Y:k=p+3→L p=true∧∃x S K,y p= .tuple #[x,S,K]∧v=S) (f6:k=p+4→L p=true∧v= .int .i64 0) (R:k=p+5∨k=p+6→v=zdD w.heap.size∧HZ w' w.heap.size) (f8:k≠p+7):DJ V p Fp q (zeg L k) (upd y k v) w':=by
 have t:∀j,j≠k→upd y k v j=y j:=fun j D=>zcg D;have C:upd y k v k=v:=zby y k v;have z:∀j,j≠k→zeg L k j=true→L j=true:=fun j D h=>by rwa [zV D]at h
 have up:∀j,L j=true→zeg L k j=true∧j≠k:=fun j D=>by
  have T:j≠k:=fun e=>by rw [e,hk]at D;cases D
  exact⟨by rw [zV T];exact D,T⟩
 constructor
 ·exact h.pu.trans I
 ·intro j D B;by_cases e:j=k
  ·subst e;rw [C];exact f1 D
  ·rw [t j e];exact hF j _ _ _ D (h.pre j D (z j e B)) I.ns
 ·intro B;by_cases e:p=k
  ·obtain⟨g,A,n,c,O,M,N,G,i,o⟩:=f2 e.symm;exact⟨g,A,n,c,O,M,N,G,by rw [e,C];exact i,o⟩
  ·obtain⟨g,A,n,c,O,M,N,G,i,o⟩:=h.d (z p e B);exact⟨g,A,n,c,O,M,N,G,by rw [t p e];exact i,o.pu I⟩
 ·intro B;by_cases e:p+1=k
  ·obtain⟨i,o⟩:=f3 e.symm;obtain⟨u1,u2⟩:=up p i;exact⟨u1,by rw [t p u2,e,C];exact o⟩
  ·obtain⟨i,o⟩:=h.m (z _ e B);obtain⟨u1,u2⟩:=up p i;exact⟨u1,by rw [t p u2,t _ e];exact o⟩
 ·intro B;by_cases e:p+2=k
  ·obtain⟨i,o⟩:=f4 e.symm;obtain⟨u1,u2⟩:=up p i;exact⟨u1,by rw [t p u2,e,C];exact o⟩
  ·obtain⟨i,o⟩:=h.e0 (z _ e B);obtain⟨u1,u2⟩:=up p i;exact⟨u1,by rw [t p u2,t _ e];exact o⟩
 ·intro B;by_cases e:p+3=k
  ·obtain⟨i,o⟩:=Y e.symm;obtain⟨u1,u2⟩:=up p i;exact⟨u1,by rw [t p u2,e,C];exact o⟩
  ·obtain⟨i,o⟩:=h.e1 (z _ e B);obtain⟨u1,u2⟩:=up p i;exact⟨u1,by rw [t p u2,t _ e];exact o⟩
 ·intro B;by_cases e:p+4=k
  ·obtain⟨i,o⟩:=f6 e.symm;obtain⟨u1,u2⟩:=up p i;exact⟨u1,by rw [e,C];exact o⟩
  ·obtain⟨i,o⟩:=h.e2 (z _ e B);obtain⟨u1,u2⟩:=up p i;exact⟨u1,by rw [t _ e];exact o⟩
 ·intro B;by_cases e:p+5=k
  ·obtain⟨i,o⟩:=R (.inl e.symm);exact⟨_,by rw [e,C];exact i,h.pu.size,o⟩
  ·obtain⟨b,i,o,E⟩:=h.a (z _ e B);exact⟨b,by rw [t _ e];exact i,o,E.pu I⟩
 ·intro B;by_cases e:p+6=k
  ·obtain⟨i,o⟩:=R (.inr e.symm);exact⟨_,by rw [e,C];exact i,h.pu.size,o⟩
  ·obtain⟨b,i,o,E⟩:=h.b (z _ e B);exact⟨b,by rw [t _ e];exact i,o,E.pu I⟩
 ·intro U W;by_cases H:p+5=k
  ·have F:p+6≠k:=by omega
   obtain⟨i,_⟩:=R (.inl H.symm);obtain⟨b,o,_,E⟩:=h.b (z _ F W);have:=E.lt;rw [H,C,t _ F,i,o];intro e;injection e with e;injection e with e;injection e with e;omega
  ·by_cases F:p+6=k
   ·obtain⟨i,_⟩:=R (.inr F.symm);obtain⟨b,o,_,E⟩:=h.a (z _ H U);have:=E.lt;rw [F,C,t _ H,i,o];intro e;injection e with e;injection e with e;injection e with e;omega
   ·rw [t _ H,t _ F];exact h.ab (z _ H U) (z _ F W)
 ·intro B;have c:p+7≠k:=f8.symm;obtain⟨i,o,b,g,A,n,G,E,Z,X⟩:=h.s (z _ c B);obtain⟨u1,u2⟩:=up _ i;obtain⟨u3,u4⟩:=up _ o;exact⟨u1,u3,b,g,A,n,G,by rw [t _ u4];exact E,by rw [t _ u2];exact Z,X.pu I⟩
theorem DJ.store(h:DJ V p Fp q L y w)(hF:∀j x u u',j<p→Fp j x u→NS V u u'→Fp j x u')(k:Nat)(hk:L k=false)(ah:k=p+7∨k=p+8){b:Nat}{g:Bool}{A:Option Addr}{n c:Nat} (hb:HZ w b) (M:V.heap.size≤b) (I:Fr (fun j=>j=b) w w') (O:Blk w' b 30 #[.bool g,.slice A n c]) (T:k=p+7→L (p+2)=true∧L (p+5)=true∧y (p+5)=zdD b∧y (p+2)= .agg #[.bool g,.slice A n c]) (f8:k=p+8→L (p+6)=true∧y (p+6)=zdD b) (v:Value):DJ V p Fp q (zeg L k) (upd y k v) w':=by
 have i:∀j,j≠k→upd y k v j=y j:=fun j C=>zcg C;have t:∀j,j≠k→zeg L k j=true→L j=true:=fun j C h=>by rwa [zV C]at h
 have up:∀j,L j=true→zeg L k j=true:=fun j C=>by
  have R:j≠k:=fun e=>by rw [e,hk]at C;cases C
  rw [zV R];exact C
 have K:NS V w w':=I.mono fun j _ e=>by rw [e];exact⟨M,hb⟩
 have S:∀j,HZ w j→HZ w' j:=fun j C=>by
  by_cases e:j=b
  ·rw [e];exact⟨g,A,n,c,O⟩
  ·obtain⟨H,E,G,F,C⟩:=C;exact⟨H,E,G,F,C.fr I e⟩
 constructor
 ·exact h.pu.step I fun j e=>by rw [e];exact M
 ·intro j C z;have e:j≠k:=by omega
  rw [i j e];exact hF j _ _ _ C (h.pre j C (t j e z)) K
 ·intro z;have e:p≠k:=by omega
  obtain⟨g,A,n,c,H,E,G,F,B,o⟩:=h.d (t p e z);exact⟨g,A,n,c,H,E,G,F,by rw [i p e];exact B,o.ns K⟩
 ·intro z;obtain⟨B,o⟩:=h.m (t (p+1) (by omega) z);exact⟨up _ B,by rw [i p (by omega),i _ (show p+1≠k by omega)];exact o⟩
 ·intro z;obtain⟨B,o⟩:=h.e0 (t (p+2) (by omega) z);exact⟨up _ B,by rw [i p (by omega),i _ (show p+2≠k by omega)];exact o⟩
 ·intro z;obtain⟨B,o⟩:=h.e1 (t (p+3) (by omega) z);exact⟨up _ B,by rw [i p (by omega),i _ (show p+3≠k by omega)];exact o⟩
 ·intro z;obtain⟨B,o⟩:=h.e2 (t (p+4) (by omega) z);exact⟨up _ B,by rw [i _ (show p+4≠k by omega)];exact o⟩
 ·intro z;obtain⟨b',B,o,D⟩:=h.a (t (p+5) (by omega) z);exact⟨b',by rw [i _ (show p+5≠k by omega)];exact B,o,S _ D⟩
 ·intro z;obtain⟨b',B,o,D⟩:=h.b (t (p+6) (by omega) z);exact⟨b',by rw [i _ (show p+6≠k by omega)];exact B,o,S _ D⟩
 ·intro Z h2;rw [i _ (show p+5≠k by omega),i _ (show p+6≠k by omega)];exact h.ab (t (p+5) (by omega) Z) (t (p+6) (by omega) h2)
 ·intro z;by_cases e:p+7=k
  ·obtain⟨B,o,D,N⟩:=T e.symm;exact⟨up _ B,up _ o,b,g,A,n,c,by rw [i _ (show p+5≠k by omega)];exact D,by rw [i _ (show p+2≠k by omega)];exact N,O⟩
  ·obtain⟨B,o,b',H,E,G,F,D,N,U⟩:=h.s (t (p+7) e z);obtain⟨W,Y⟩:=f8 (by omega);refine⟨up _ B,up _ o,b',H,E,G,F,by rw [i _ (show p+5≠k by omega)];exact D,by rw [i _ (show p+2≠k by omega)];exact N,U.fr I fun X=>?_⟩;exact h.ab o W (by rw [D,Y,X])
theorem DJ.num(h:DJ V p Fp q L y w)(M:L (p+2)=true):∃g A n c,y (p+2)= .agg #[.bool g,.slice A n c]:=by
 obtain⟨E,x,K,k,I,G⟩:=h.e0 M;obtain⟨o,z,B,t,F,D,C,H,i,N⟩:=h.d E;rw [I]at i;injection i with i;have j: [x,K,k]= [Value.agg #[.bool o,.slice z B t],.agg #[.bool F,.slice D C H],.int .i64 0]:=by injection i
 injection j with j;exact⟨o,z,B,t,by rw [G,j]⟩
theorem DJ.num1(h:DJ V p Fp q L y w)(I:L (p+3)=true):∃g A n c,y (p+3)= .agg #[.bool g,.slice A n c]:=by
 obtain⟨C,x,G,o,E,D⟩:=h.e1 I;obtain⟨F,K,M,H,t,k,j,z,i,N⟩:=h.d C;rw [E]at i;injection i with i;have B: [x,G,o]= [Value.agg #[.bool F,.slice K M H],.agg #[.bool t,.slice k j z],.int .i64 0]:=by injection i
 injection B with B f4;injection f4 with f4;exact⟨t,k,j,z,by rw [D,f4]⟩
theorem DJ.last(h:DJ V p Fp q L y w)(W:L (p+7)=true):∃b g A n c,y (p+5)=zdD b∧V.heap.size≤b∧Blk w b 30 #[.bool g,.slice A n c]∧ZR w (.agg #[.bool g,.slice A n c]) q:=by
 obtain⟨S,X,b,g,A,n,c,i,t,E⟩:=h.s W;obtain⟨F,x,O,o,K,H⟩:=h.e0 S;obtain⟨b',B,z,_⟩:=h.a X;obtain⟨M,T,U,R,G,D,C,I,j,N⟩:=h.d F;rw [B]at i;injection i with i;injection i with i;injection i with i;rw [K]at j;injection j with j;have k: [x,O,o]= [Value.agg #[.bool M,.slice T U R],.agg #[.bool G,.slice D C I],.int .i64 0]:=by injection j
 injection k with k;rw [H,k]at t;refine⟨b,g,A,n,c,by rw [B,i],by rw [←i];exact z,E,?_⟩;rw [←t];exact N
end
structure AJ(V:World)(F:Nat→Value→World→Prop)(i1 i2:Nat)(L:Nat→Bool)(y:Nat→Value)(w:World):Prop where
 pu:Pu V w
 f:∀j,L j=true→F j (y j) w
 a1:L i1=true→∃b,y i1=zdD b∧b<w.heap.size
 a2:L i2=true→∃b,y i2=zdD b∧b<w.heap.size
 ne:L i1=true→L i2=true→y i1≠y i2
theorem AJ.start{V w:World}{F:Nat→Value→World→Prop}{i k:Nat}{y:Nat→Value}(h:Pu V w):AJ V F i k (fun _=>false) y w:=by
 constructor
 ·exact h
 ·intro j h
  cases h
 all_goals
  intro h
  cases h
theorem znn{a b:Nat}(h:a≠b):zdD a≠zdD b:=fun e=>by injection e with e;injection e with e;injection e with e;exact h e
theorem AJ.keep{V w w':World}{F:Nat→Value→World→Prop}{G D:Nat}{L:Nat→Bool}{y:Nat→Value}{v:Value}(h:AJ V F G D L y w)(T:∀j x u u',F j x u→Pu u u'→F j x u')(N:G≠D)(k:Nat)(W:L k=false)(K:Pu w w')(S:F k v w') (I:k=G∨k=D→v=zdD w.heap.size∧w.heap.size<w'.heap.size):AJ V F G D (zeg L k) (upd y k v) w':=by
 have i:∀j,j≠k→upd y k v j=y j:=fun j hj=>zcg hj;have C:upd y k v k=v:=zby y k v;have o:∀j,j≠k→zeg L k j=true→L j=true:=fun j hj h=>by rwa [zV hj]at h
 have U:=K.size;constructor
 ·exact h.pu.trans K
 ·intro j H;by_cases e:j=k
  ·rw [e,C];exact S
  ·rw [i j e];exact T j _ _ _ (h.f j (o j e H)) K
 ·intro H;by_cases e:G=k
  ·obtain⟨t,B⟩:=I (.inl e.symm);exact⟨_,by rw [e,C];exact t,B⟩
  ·obtain⟨b,t,B⟩:=h.a1 (o _ e H);exact⟨b,by rw [i _ e];exact t,by omega⟩
 ·intro H;by_cases e:D=k
  ·obtain⟨t,B⟩:=I (.inr e.symm);exact⟨_,by rw [e,C];exact t,B⟩
  ·obtain⟨b,t,B⟩:=h.a2 (o _ e H);exact⟨b,by rw [i _ e];exact t,by omega⟩
 ·intro M O;by_cases E:G=k
  ·have z:D≠k:=fun z=>N (E.trans z.symm);obtain⟨t,_⟩:=I (.inl E.symm);obtain⟨b,B,R⟩:=h.a2 (o _ z O);rw [E,C,i _ z,t,B];exact znn (by omega)
  ·by_cases z:D=k
   ·obtain⟨t,_⟩:=I (.inr z.symm);obtain⟨b,B,R⟩:=h.a1 (o _ E M);rw [z,C,i _ E,t,B];exact znn (by omega)
   ·rw [i _ E,i _ z];exact h.ne (o _ E M) (o _ z O)
end
end Go.Proofs.YtckfnbckoclhpaaGreatDoor

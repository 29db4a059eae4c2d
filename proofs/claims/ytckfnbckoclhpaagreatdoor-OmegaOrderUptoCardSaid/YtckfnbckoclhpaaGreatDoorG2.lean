/- What stands in a region 'a, n. -/
import Derived.Test.YtckfnbckoclhpaaGreatDoorF9
import Derived.Test.YtckfnbckoclhpaaGreatDoorCT
import Derived.Test.YtckfnbckoclhpaaGreatDoorF3
import Derived.Test.YtckfnbckoclhpaaGreatDoorE28
import Derived.Test.YtckfnbckoclhpaaGreatDoorE08
namespace Go.Proofs.YtckfnbckoclhpaaGreatDoor
set_option linter.unusedVariables false
set_option linter.unusedSimpArgs false
set_option maxRecDepth 100000
set_option maxHeartbeats 8000000
section
open Go.RowKit
def HA(w:World)(b:Nat):Prop:=∃(k:Int) (A:Option Addr) (n c:Nat),Blk w b 77 #[.int .i64 k,.slice A n c]
theorem HA.pu{w w':World}{b:Nat}(h:HA w b)(p:Pu w w'):HA w' b:=by obtain⟨k,A,n,c,h⟩:=h;exact⟨k,A,n,c,h.pu p⟩
theorem HA.lt{w:World}{b:Nat}(h:HA w b):b<w.heap.size:=by obtain⟨k,A,n,c,h⟩:=h;exact h.lt
def NA(V u u':World):Prop:=Fr (fun b=>V.heap.size≤b∧HA u b) u u'
theorem Pu.na{V u u':World}(h:Pu u u'):NA V u u':=h.fr
theorem NA.typed{V u u':World}:∀g,(V.heap.size≤g∧HA u g)→∃t cs fz,u.heap[g]?=some (.cells cs t fz)∧t≠169:=fun g hg=>by obtain⟨_,x,A,n,c,h⟩:=hg;exact⟨_,_,_,h,by decide⟩
structure EJ(V:World)(p:Nat)(Fp:Nat→Value→World→Prop)(Z:Int→Option Addr→Nat→Nat→Int→World→Prop)(L:Nat→Bool)(y:Nat→Value)(w:World):Prop where
 pu:Pu V w
 pre:L p=false→∀j,j<p→L j=true→Fp j (y j) w
 all:L p=true→∀j,j<p→L j=true
 d:L p=true→∃k A n c u,y p= .tuple #[.agg #[.int .i64 k,.slice A n c],.int .i64 u]∧Z k A n c u w
 m:L (p+1)=true→L p=true∧y (p+1)=y p
 e0:L (p+2)=true→L p=true∧∃x x',y p= .tuple #[x,x']∧y (p+2)=x
 e1:L (p+3)=true→L p=true∧∃x x',y p= .tuple #[x,x']∧y (p+3)=x'
 a:L (p+4)=true→∃b,y (p+4)=zdD b∧V.heap.size≤b∧HA w b
 s:L (p+5)=true→L (p+2)=true∧L (p+4)=true∧∃b k A n c,y (p+4)=zdD b∧y (p+2)= .agg #[.int .i64 k,.slice A n c]∧Blk w b 77 #[.int .i64 k,.slice A n c]
section
variable{V w w':World}{p:Nat}{Fp:Nat→Value→World→Prop}{Z:Int→Option Addr→Nat→Nat→Int→World→Prop}{L:Nat→Bool}{y:Nat→Value}{v:Value}
theorem EJ.start(h:Pu V w):EJ V p Fp Z (fun _=>false) y w:=by
 constructor
 ·exact h
 ·intro _ j _ h
  cases h
 all_goals
  intro h
  cases h
theorem EJ.none(h:EJ V p Fp Z L y w){k:Nat}(i:k<p)(j:L k=false):L p=false:=by
 cases e:L p with
 |false=>rfl
 |true=>
  have:=h.all e k i;rw [j]at this
  cases this
theorem EJ.keep(h:EJ V p Fp Z L y w)(Y:∀j x u u',j<p→Fp j x u→Pu u u'→Fp j x u')(X:∀k A n c u w w',Z k A n c u w→NA V w w'→Z k A n c u w')(k:Nat)(W:L k=false)(F:Pu w w') (U:k<p→Fp k v w') (M:k=p→(∀j,j<p→L j=true)∧∃k A n c u,v= .tuple #[.agg #[.int .i64 k,.slice A n c],.int .i64 u]∧Z k A n c u w') (T:k=p+1→L p=true∧v=y p) (f4:k=p+2→L p=true∧∃x G,y p= .tuple #[x,G]∧v=x) (P:k=p+3→L p=true∧∃x G,y p= .tuple #[x,G]∧v=G) (R:k=p+4→v=zdD w.heap.size∧HA w' w.heap.size) (N:k≠p+5):EJ V p Fp Z (zeg L k) (upd y k v) w':=by
 have i:∀j,j≠k→upd y k v j=y j:=fun j B=>zcg B;have D:upd y k v k=v:=zby y k v;have C:∀j,j≠k→zeg L k j=true→L j=true:=fun j B h=>by rwa [zV B]at h
 have up:∀j,L j=true→zeg L k j=true∧j≠k:=fun j B=>by
  have I:j≠k:=fun e=>by rw [e,W]at B;cases B
  exact⟨by rw [zV I];exact B,I⟩
 constructor
 ·exact h.pu.trans F
 ·intro H j B z;have K:L p=false:=by
   cases e:L p with
   |false=>rfl
   |true=>rw [(up p e).1]at H;cases H
  by_cases e:j=k
  ·subst e;rw [D];exact U B
  ·rw [i j e];exact Y j _ _ _ B (h.pre K j B (C j e z)) F
 ·intro z j B;by_cases e:p=k
  ·exact(up j ((M e.symm).1 j B)).1
  ·exact(up j (h.all (C p e z) j B)).1
 ·intro z;by_cases e:p=k
  ·obtain⟨_,E,A,n,c,u,o,t⟩:=M e.symm;exact⟨E,A,n,c,u,by rw [e,D];exact o,t⟩
  ·obtain⟨E,A,n,c,u,o,t⟩:=h.d (C p e z);exact⟨E,A,n,c,u,by rw [i p e];exact o,X _ _ _ _ _ _ _ t F.na⟩
 ·intro z;by_cases e:p+1=k
  ·obtain⟨o,t⟩:=T e.symm;obtain⟨u1,u2⟩:=up p o;exact⟨u1,by rw [i p u2,e,D];exact t⟩
  ·obtain⟨o,t⟩:=h.m (C _ e z);obtain⟨u1,u2⟩:=up p o;exact⟨u1,by rw [i p u2,i _ e];exact t⟩
 ·intro z;by_cases e:p+2=k
  ·obtain⟨o,t⟩:=f4 e.symm;obtain⟨u1,u2⟩:=up p o;exact⟨u1,by rw [i p u2,e,D];exact t⟩
  ·obtain⟨o,t⟩:=h.e0 (C _ e z);obtain⟨u1,u2⟩:=up p o;exact⟨u1,by rw [i p u2,i _ e];exact t⟩
 ·intro z;by_cases e:p+3=k
  ·obtain⟨o,t⟩:=P e.symm;obtain⟨u1,u2⟩:=up p o;exact⟨u1,by rw [i p u2,e,D];exact t⟩
  ·obtain⟨o,t⟩:=h.e1 (C _ e z);obtain⟨u1,u2⟩:=up p o;exact⟨u1,by rw [i p u2,i _ e];exact t⟩
 ·intro z;by_cases e:p+4=k
  ·obtain⟨o,t⟩:=R e.symm;exact⟨_,by rw [e,D];exact o,h.pu.size,t⟩
  ·obtain⟨b,o,t,J⟩:=h.a (C _ e z);exact⟨b,by rw [i _ e];exact o,t,J.pu F⟩
 ·intro z;have c:p+5≠k:=N.symm;obtain⟨o,t,b,E,A,n,S,J,Q,O⟩:=h.s (C _ c z);obtain⟨u1,u2⟩:=up _ o;obtain⟨u3,u4⟩:=up _ t;exact⟨u1,u3,b,E,A,n,S,by rw [i _ u4];exact J,by rw [i _ u2];exact Q,O.pu F⟩
theorem EJ.kp(h:EJ V p Fp Z L y w)(o:∀j x u u',j<p→Fp j x u→Pu u u'→Fp j x u')(i:∀k A n c u w w',Z k A n c u w→NA V w w'→Z k A n c u w')(k:Nat)(z:L k=false)(t:Pu w w')
  (C:(k<p∧Fp k v w')∨(k=p∧(∀j,j<p→L j=true)∧∃k A n c u,v= .tuple #[.agg #[.int .i64 k,.slice A n c],.int .i64 u]∧Z k A n c u w')∨(k=p+1∧L p=true∧v=y p)∨(k=p+2∧L p=true∧∃x B,y p= .tuple #[x,B]∧v=x)∨(k=p+3∧L p=true∧∃x B,y p= .tuple #[x,B]∧v=B)∨(k=p+4∧v=zdD w.heap.size∧HA w' w.heap.size)):EJ V p Fp Z (zeg L k) (upd y k v) w':=by
 rcases C with⟨e,x⟩|⟨e,x⟩|⟨e,x⟩|⟨e,x⟩|⟨e,x⟩|⟨e,x⟩
 ·exact h.keep o i k z t (fun _=>x) (fun e=>by omega) (fun e=>by omega) (fun e=>by omega) (fun e=>by omega) (fun e=>by omega) (by omega)
 ·exact h.keep o i k z t (fun e=>by omega) (fun _=>x) (fun e=>by omega) (fun e=>by omega) (fun e=>by omega) (fun e=>by omega) (by omega)
 ·exact h.keep o i k z t (fun e=>by omega) (fun e=>by omega) (fun _=>x) (fun e=>by omega) (fun e=>by omega) (fun e=>by omega) (by omega)
 ·exact h.keep o i k z t (fun e=>by omega) (fun e=>by omega) (fun e=>by omega) (fun _=>x) (fun e=>by omega) (fun e=>by omega) (by omega)
 ·exact h.keep o i k z t (fun e=>by omega) (fun e=>by omega) (fun e=>by omega) (fun e=>by omega) (fun _=>x) (fun e=>by omega) (by omega)
 ·exact h.keep o i k z t (fun e=>by omega) (fun e=>by omega) (fun e=>by omega) (fun e=>by omega) (fun e=>by omega) (fun _=>x) (by omega)
theorem EJ.store(h:EJ V p Fp Z L y w)(T:∀k A n c u w w',Z k A n c u w→NA V w w'→Z k A n c u w')(S:L (p+5)=false){b:Nat}{k:Int}{A:Option Addr}{n c:Nat} (U:HA w b) (D:V.heap.size≤b) (E:Fr (fun j=>j=b) w w') (K:Blk w' b 77 #[.int .i64 k,.slice A n c]) (N:L (p+2)=true) (R:L (p+4)=true) (P:y (p+4)=zdD b) (t:y (p+2)= .agg #[.int .i64 k,.slice A n c]) (v:Value):EJ V p Fp Z (zeg L (p+5)) (upd y (p+5) v) w':=by
 have i:∀j,j≠p+5→upd y (p+5) v j=y j:=fun j o=>zcg o;have B:∀j,j≠p+5→zeg L (p+5) j=true→L j=true:=fun j o h=>by rwa [zV o]at h
 have up:∀j,L j=true→zeg L (p+5) j=true:=fun j o=>by
  have O:j≠p+5:=fun e=>by rw [e,S]at o;cases o
  rw [zV O];exact o
 have J:NA V w w':=E.mono fun j _ e=>by rw [e];exact⟨D,U⟩
 have W:∀j,HA w j→HA w' j:=fun j o=>by
  by_cases e:j=b
  ·rw [e];exact⟨k,A,n,c,K⟩
  ·obtain⟨H,F,I,G,o⟩:=o;exact⟨H,F,I,G,o.fr E e⟩
 have C:L p=true:=(h.e0 N).1;constructor
 ·exact h.pu.step E fun j e=>by rw [e];exact D
 ·intro M;rw [up p C]at M
  cases M
 ·intro _ j o;exact up j (h.all C j o)
 ·intro _;obtain⟨H,F,I,G,u,x,t⟩:=h.d C;exact⟨H,F,I,G,u,by rw [i p (by omega)];exact x,T _ _ _ _ _ _ _ t J⟩
 ·intro z;obtain⟨x,t⟩:=h.m (B (p+1) (by omega) z);exact⟨up _ x,by rw [i p (by omega),i _ (show p+1≠p+5 by omega)];exact t⟩
 ·intro z;obtain⟨x,t⟩:=h.e0 (B (p+2) (by omega) z);exact⟨up _ x,by rw [i p (by omega),i _ (show p+2≠p+5 by omega)];exact t⟩
 ·intro z;obtain⟨x,t⟩:=h.e1 (B (p+3) (by omega) z);exact⟨up _ x,by rw [i p (by omega),i _ (show p+3≠p+5 by omega)];exact t⟩
 ·intro z;obtain⟨b',x,t,Q⟩:=h.a (B (p+4) (by omega) z);exact⟨b',by rw [i _ (show p+4≠p+5 by omega)];exact x,t,W _ Q⟩
 ·intro _;exact⟨up _ N,up _ R,b,k,A,n,c,by rw [i _ (show p+4≠p+5 by omega)];exact P,by rw [i _ (show p+2≠p+5 by omega)];exact t,K⟩
theorem EJ.last(h:EJ V p Fp Z L y w)(F:L p=true)(M:L (p+3)=true)(E:L (p+5)=true):∃b k A n c u,y (p+4)=zdD b∧V.heap.size≤b∧Blk w b 77 #[.int .i64 k,.slice A n c]∧y (p+3)= .int .i64 u∧Z k A n c u w:=by
 obtain⟨k,A,n,c,u,N,Q⟩:=h.d F;obtain⟨I,G,b,W,S,X,T,o,R,H⟩:=h.s E;obtain⟨_,x,U,q1,q2⟩:=h.e0 I;obtain⟨_,z,J,j,P⟩:=h.e1 M;obtain⟨b',i,t,_⟩:=h.a G;rw [N]at q1 j;injection q1 with q1;injection j with j;have O:x= .agg #[.int .i64 k,.slice A n c]:=by have:=congrArg (fun a:Array Value=>a[0]?) q1;simpa using this.symm
 have K:J= .int .i64 u:=by have:=congrArg (fun a:Array Value=>a[1]?) j;simpa using this.symm
 rw [O,R]at q2;injection q2 with q2;have C:=congrArg (fun a:Array Value=>a[0]?) q2;have B:=congrArg (fun a:Array Value=>a[1]?) q2;simp at C B;obtain⟨rfl,rfl,rfl⟩:=B;subst C;rw [o]at i;have D:b=b':=by injection i with i;injection i with i;injection i with i
 subst D;exact⟨b,_,_,_,_,u,o,t,H,by rw [P,K],Q⟩
end
end
section
open Go.RowKit
theorem ziX{z:Int}(h:z.natAbs≤1000):z.natAbs<4294967296^E3:=zC (n:=z.natAbs) (a:=1) (b:=E3) (Nat.lt_of_le_of_lt h (by decide)) (by decide)
theorem zfQ(i j:Value)(r1 n:Int)(fs:List (Key×Int))(r:Int)(gs:List (Key×Int))(w:World)(B:TM w i r1 fs)(D:ZR w j n) (C:∀g∈fs,(g.2*n).natAbs≤100) (E:fs.length<300) (x:n.natAbs≤1000) (t:∀g∈fs,g.2.natAbs≤1000) (k:r1.natAbs≤1000) (z:r1*n=r) (F:zG [] fs n=gs):Calls Tryz.prog 29 #[i,j] w fun e w'=>∃v,e= .returned v∧TM w' v r gs∧Pu w w':=by refine(zaW i j r1 n fs 100 w B D C E (zC (n:=1100000*100) (a:=1) (b:=E3) (by decide) (by decide)) (ziX x) (fun g o=>ziX (t g o)) (ziX k)).mono ?_;rintro e w' ⟨v,rfl,h,p⟩;subst z F;exact⟨v,rfl,h.tm,p⟩
theorem zcv(i j:Value)(r1 r2:Int)(fs gs:List (Key×Int))(r:Int)(k:List (Key×Int))(w:World)(z:TM w i r1 fs)(D:TM w j r2 gs) (C:zad 100 fs) (B:zad 100 gs) (E:fs.length+gs.length<300) (o:r1.natAbs≤1000) (t:r2.natAbs≤1000) (x:r1+r2*(-1)=r) (F:zG fs gs (-1)=k):Calls Tryz.prog 55 #[i,j] w fun e w'=>∃v,e= .returned v∧TM w' v r k∧Pu w w':=by refine(zcN i j r1 r2 fs gs 100 100 w z D C B E (zC (n:=100+1100000*100) (a:=1) (b:=E3) (by decide) (by decide)) (ziX o) (ziX t)).mono ?_;rintro e w' ⟨v,rfl,h,p⟩;subst x F;exact⟨v,rfl,h.tm,p⟩
theorem ziE(k:Int)(K: -9223372036854775808≤k)(N:k≤9223372036854775807)(w:World):Calls Tryz.prog 54 #[.int .i64 k] w fun e w'=>∃v,e= .returned v∧TM w' v k []∧Pu w w':=by
 obtain⟨W,hWe⟩:∃W,W=w.alloc (.cells #[.bool false,.slice none 0 0,.pointer none] 33):=⟨_,rfl⟩
 have J:Pu w W:=by rw [hWe];exact(Pu.refl w).alloc _
 have I:Blk W w.heap.size 33 #[.bool false,.slice none 0 0,.pointer none]:=by rw [hWe];exact Blk.new w _ _
 have D:=Qh (zaG k W K N);have B:=Qh hWe;rw [hWe]at D;clear hWe;go_enter Tryz.func54,Tryz.ntmps54;go_wp2_with fail;refine D.out.mono ?_;rintro e X ⟨v,rfl,H,t⟩;rw [←B.out]at t;go_wp2_with fail;refine(zbd _ k X H).mono ?_;rintro e P ⟨v,rfl,x,F⟩;obtain⟨g,A,n,c,m,rfl⟩:=x.shape;have p:=t.trans F;have i:=I.pu p;obtain⟨S,U,R⟩:=i.c3_;obtain⟨Y,T,Q⟩:=i.z3_;obtain⟨C,z⟩:=zb1 i (.bool g) (.slice A n c) (.pointer m);obtain⟨M,r1,r2⟩:=C.c3_;have o:=x.frB i (by decide) (by decide) (by simp) z;have G:=(J.trans p).step z (fun j hj=>by have O:j=w.heap.size:=hj;omega);have E:=Qh (AI o G);clear o G z C i x p t F H;go_wp2;exact bodyPost_ret (v:= .agg #[.bool g,.slice A n c,.pointer m]) (by simp [results,Tryz.results54,go_sem,M,r1,r2]) rfl ⟨_,rfl,E.out.1,E.out.2⟩
def zoy:List Key:=[[120],[121]]
theorem znl:zfo zoy:=⟨by decide,by decide,by decide⟩
theorem zp6{l:List RowM}(t:l.length≤6)(j:∀r∈l,zx r.fs∧NZ r.fs)(o:∀r∈l,∀f∈r.fs,f.1∈zoy∧f.2.natAbs≤10)(x:∀r∈l,r.rest.natAbs≤10):Fit zoy 100 l:=
 zgE (X:=l) ⟨fun r h=>(j r h).1,fun r h=>(j r h).2,fun r h c hc=>by
  by_cases k:∃f∈r.fs,f.1=c
  ·obtain⟨f,i,rfl⟩:=k;exact(o r h f i).1
  ·exact absurd (zI (j r h).1 fun f i e=>k ⟨f,i,e⟩) hc⟩ (fun r h=>h) t (fun r h c=>Nat.le_trans ((show zad 10 r.fs from fun f i=>(o r h f i).2).factor c) (by decide)) (fun r h=>Nat.le_trans (x r h) (by decide)) (by omega) (by decide)
theorem zrb:Fit zoy 100 omA:=zp6 (by decide) (by unfold zx NZ;decide) (by decide) (by decide)
theorem zrk:Fit zoy 100 [ziI,zj0]:=zp6 (by decide) (by unfold zx NZ;decide) (by decide) (by decide)
theorem zo1:¬za4 omA:=fun⟨v,h⟩=>by have i: -1+(2*v [120]+(-2*v [121]+0))=0:=(h _ (List.mem_cons_self ..)).1 rfl;omega
def OmB(base:Nat)(k:Int)(A:Option Addr)(n c:Nat)(u:Int)(w:World):Prop:=k=1∧n=1∧0<u∧∃ms L,w.ownsRow base 82 3 (.slice A n c) n (kps vcZ L)∧zH w L (zjs ms [[120]])∧factor ms [120]=2
theorem OmB.na{V w w':World}{base:Nat}{k:Int}{A:Option Addr}{n c:Nat}{u:Int}(h:OmB base k A n c u w)(i:NA V w w'):OmB base k A n c u w':=by obtain⟨B,E,C,z,L,j,t,D⟩:=h;exact⟨B,E,C,z,L,zc4 j i (fun g o=>by obtain⟨_,x,A,n,c,h⟩:=o;exact⟨_,_,_,h,by decide⟩),t.frT i (NA.typed (u':=w')),D⟩
theorem zly{w w':World}{e:Ending}{base:Nat}(h:zd0 zoy [ziI,zj0] 100 w e w')(C:base≤w.heap.size):∃A n c u,e= .returned (.tuple #[.agg #[.int .i64 1,.slice A n c],.int .i64 u])∧OmB base 1 A n c u w'∧Pu w w':=by
 obtain⟨F,D,o,h⟩:=h;rcases h with⟨A,n,c,x,L,rfl,E,B,j,z,i⟩|⟨rfl,k⟩|⟨rfl,t⟩
 ·rw [zoe]at j i;exact⟨A,n,c,_,rfl,⟨rfl,j,by omega,x,L,zbK z C,i,zqT B.says⟩,o⟩
 ·exact absurd zoL k
 ·exact absurd zpi t
theorem zlu{w w':World}{e:Ending}(h:zd0 zoy omA 100 w e w'):∃A n c u,e= .returned (.tuple #[.agg #[.int .i64 2,.slice A n c],.int .i64 u])∧Pu w w':=by
 obtain⟨x,o,i,h⟩:=h;rcases h with⟨A,n,c,z,L,rfl,t,j,_⟩|⟨rfl,_⟩|⟨rfl,k⟩
 ·exact absurd ⟨_,j.says⟩ zo1
 ·exact⟨_,_,_,_,rfl,i⟩
 ·exact absurd zoZ k
theorem t_2:za7 2= [50]:=by have:zeK 2= [2]:=zoN (by decide) (by decide);simp [za7,this]
def zr5(k:Int)(A:Option Addr)(n c:Nat)(u:Int)(w:World):Prop:=k=2
theorem zfM(w0:World):Calls Tryz.prog 22 #[] w0 fun e w'=>e= .returned (.bool true)∧Pu w0 w':=by
 have Hn:=Qh (zcJ [120] w0);have bF:=Qh (zcJ [121]);go_enter Tryz.func22,Tryz.ntmps22;go_wp2_with fail;refine Hn.out.mono ?_;rintro e w1 ⟨v,rfl,hx,I⟩;obtain⟨gx,Ax,nx,cx,mx,rfl⟩:=hx.shape;go_wp2_with fail;refine(bF.out _).mono ?_;rintro e w2 ⟨v,rfl,hy,p2⟩;obtain⟨gy,Ay,ny,cy,my,rfl⟩:=hy.shape;obtain⟨V0,hVe⟩:∃V0,V0=(w2.alloc (.cells #[.bool gx,.slice Ax nx cx,.pointer mx] 33)).alloc (.cells #[.bool gy,.slice Ay ny cy,.pointer my] 33):=⟨_,rfl⟩
 have pV:Pu w2 V0:=by rw [hVe];exact((Pu.refl w2).alloc _).alloc _
 have k1:Blk V0 w2.heap.size 33 #[.bool gx,.slice Ax nx cx,.pointer mx]:=by rw [hVe];exact(Blk.new w2 _ _).alloc _
 have k2:Blk V0 (w2.heap.size+1) 33 #[.bool gy,.slice Ay ny cy,.pointer my]:=by rw [hVe];exact Blk.at_new _ _ _ (by simp)
 have PV:=(I.trans p2).trans pV;replace hx:=hx.pu (p2.trans pV);replace hy:=hy.pu pV;have dg:=Qh hVe;clear hVe pV I p2 Hn bF;go_wp2_with fail
 try rw [←dg.out]
 have pd:Pu V0 V0.drew:=(Pu.refl V0).drew;refine zav 4 (fun _ w=>Pu V0 w) (fun _=>Pu) (fun S=>match S with|0=>fun vv_ _=>vv_= .agg #[.bool gx,.slice Ax nx cx,.pointer mx]|1=>fZ (2)|2=>fT (0) ([([120],2)])|3=>fun v w=>∃b,v= .pointer (some ⟨b,0,none⟩)∧V0.heap.size≤b∧Blk w b 33 #[.bool false,.slice none 0 0,.pointer none]|_=>fun _ _=>True) [some 13,some 14,some 15,some 4] (by kernel_rfl) (by kernel_rfl) rfl pd ?_ ?_ ?_ ?_
 ·intro ko a4 u u' hk o hI hR;exact hI.trans hR
 ·intro S ko v u u' hi hk bB h cH;have hR:=cH
  match S,hi,bB,h with
  |0,_,_,h=>exact h
  |1,_,_,h=>exact fZ.pu h hR
  |2,_,_,h=>exact fT.pu h hR
  |3,_,bB,h=>replace h:∃b,v= .pointer (some ⟨b,0,none⟩)∧V0.heap.size≤b∧Blk u b 33 #[.bool false,.slice none 0 0,.pointer none]:=h;obtain⟨b,e,h,h'⟩:=h;exact⟨b,e,h,h'.pu hR⟩
  |_+4,hi,_,_=>exact absurd hi (by omega)
 ·refine zc.cons [] rfl (by kernel_rfl) (fun y a4 V o z t K k=>?_) ?_
  ·simp only [PU,Nat.reduceEqDiff,Nat.reduceAdd,reduceIte]at k⊢;clear t;obtain⟨x0,x1,x2⟩:=((k1).pu z).c3_;go_simp;exact k.out _ _ (Pu.refl _) rfl
  refine zc.cons [] rfl (by kernel_rfl) (fun y a4 V o z t K k=>?_) ?_
  ·simp only [PU,Nat.reduceEqDiff,Nat.reduceAdd,reduceIte]at k⊢;clear t;go_simp;go_at_call 30;refine(zaG 2 V (by decide) (by decide)).mono ?_;rintro e u1 ⟨v,rfl,H,I⟩;obtain⟨g,A,n,c,rfl⟩:=H.shape2;go_wp2_with fail;exact k.out _ _ I ⟨g,A,n,c,rfl,H⟩
  refine zc.cons [0,1] rfl (by kernel_rfl) (fun y a4 V o z t K k=>?_) ?_
  ·simp only [PU,Nat.reduceEqDiff,Nat.reduceAdd,reduceIte]at k⊢;have e0:=t 0 (by simp);have e1:=t 1 (by simp);clear t;generalize y 0=z0 at k e0⊢;generalize y 1=z1 at k e1⊢;obtain rfl:=e0;obtain⟨g1,A1,n1,c1,rfl,dt⟩:=e1;go_simp;go_at_call 29;refine(zfQ _ _ 0 2 [([120],1)] 0 [([120],2)] V (hx.pu z) dt (by decide) (by decide) (by decide) (by decide) (by decide) (by decide) (by decide)).mono ?_;rintro e u1 ⟨v,rfl,H,I⟩;obtain⟨g,A,n,c,m,rfl⟩:=H.shape;go_wp2_with fail;exact k.out _ _ I ⟨g,A,n,c,m,rfl,H⟩
  refine zc.cons [] rfl (by kernel_rfl) (fun y a4 V o z t K k=>?_) ?_
  ·simp only [PU,Nat.reduceEqDiff,Nat.reduceAdd,reduceIte]at k⊢;clear t;go_simp;exact k.out _ _ ((Pu.refl _).alloc _) ⟨_,rfl,z.size,Blk.new _ _ _⟩
  exact zc.nil
 ·intro y V a4 hL z t;have f0:=t 0 (by decide);have f1:=t 1 (by decide);have f2:=t 2 (by decide);have f3:=t 3 (by decide);clear t;simp only [PU,Nat.reduceEqDiff,Nat.reduceAdd,reduceIte];generalize y 0=z0 at f0⊢;generalize y 1=z1 at f1⊢;generalize y 2=z2 at f2⊢;generalize y 3=z3 at f3⊢;obtain rfl:=f0;clear f1;obtain⟨gt,At,nt,ct,mt,rfl,ht⟩:=f2;obtain⟨b4,rfl,ed,av⟩:=f3;obtain⟨x0,x1,x2⟩:=av.c3_;obtain⟨g0,g1,g2⟩:=av.z3_;obtain⟨k4,e4⟩:=zb1 av (.bool gt) (.slice At nt ct) (.pointer mt);obtain⟨V2,hV2⟩:∃V2,V2=((V.setCell ⟨b4,0,none⟩ (.bool gt)).setCell ⟨b4,1,none⟩ (.slice At nt ct)).setCell ⟨b4,2,none⟩ (.pointer mt):=⟨_,rfl⟩
  rw [←hV2]at k4 e4;have ao:=ht.frB av (by decide) (by decide) (by simp) e4;have aN:=z.step e4 (fun j hj=>by have e':j=b4:=hj;omega);have ky:=k2.pu aN;have bH:=hy.pu aN;have P2:=PV.trans aN;have dc:=Qh hV2;clear hV2 e4 av hx k1 k2 hy ht z PV;go_wp2_with fail;rw [←dc.out];clear x0 x1 x2 g0 g1 g2;have k2:=ky;have hy:=bH;have ht:=ao;clear ky bH ao;have d4:Pu V2 V2.drew:=(Pu.refl V2).drew;have B:∀j x u u',j<10→(fun S=>match S with|0=>fun v _=>v= .agg #[.bool gt,.slice At nt ct,.pointer mt]|1=>fun v _=>v= .agg #[.bool gy,.slice Ay ny cy,.pointer my]|2=>fZ (2)|3=>fT (0) ([([121],2)])|4=>fT (0) ([([120],2),([121],-2)])|5=>fun v _=>v= .func (.func 54) #[] #[]|6=>fT (1) ([])|7=>fT ((-1)) ([([120],2),([121],-2)])|8=>fun v w=>∃g A n c m,v= .agg #[.bool g,.slice A n c,.pointer m,.bool true]∧TM w (.agg #[.bool g,.slice A n c,.pointer m]) (-1) ([([120],2),([121],-2)])|9=>fun v w=>∃q g A n c m,v= .slice (some ⟨q,0,none⟩) 1 1∧Blk w q 35 #[.bool g,.slice A n c,.pointer m,.bool true]∧TM w (.agg #[.bool g,.slice A n c,.pointer m]) (-1) [([120],2),([121],-2)]|_=>fun _ _=>True:Nat→Value→World→Prop) j x u→Pu u u'→(fun S=>match S with|0=>fun v _=>v= .agg #[.bool gt,.slice At nt ct,.pointer mt]|1=>fun v _=>v= .agg #[.bool gy,.slice Ay ny cy,.pointer my]|2=>fZ (2)|3=>fT (0) ([([121],2)])|4=>fT (0) ([([120],2),([121],-2)])|5=>fun v _=>v= .func (.func 54) #[] #[]|6=>fT (1) ([])|7=>fT ((-1)) ([([120],2),([121],-2)])|8=>fun v w=>∃g A n c m,v= .agg #[.bool g,.slice A n c,.pointer m,.bool true]∧TM w (.agg #[.bool g,.slice A n c,.pointer m]) (-1) ([([120],2),([121],-2)])|9=>fun v w=>∃q g A n c m,v= .slice (some ⟨q,0,none⟩) 1 1∧Blk w q 35 #[.bool g,.slice A n c,.pointer m,.bool true]∧TM w (.agg #[.bool g,.slice A n c,.pointer m]) (-1) [([120],2),([121],-2)]|_=>fun _ _=>True:Nat→Value→World→Prop) j x u':=by
   intro j x u u' hj h P
   match j,hj,h with
   |0,_,h=>exact h
   |1,_,h=>exact h
   |2,_,h=>exact fZ.pu h P
   |3,_,h=>exact fT.pu h P
   |4,_,h=>exact fT.pu h P
   |5,_,h=>exact h
   |6,_,h=>exact fT.pu h P
   |7,_,h=>exact fT.pu h P
   |8,_,h=>replace h:∃g A n c m,x= .agg #[.bool g,.slice A n c,.pointer m,.bool true]∧TM u (.agg #[.bool g,.slice A n c,.pointer m]) (-1) ([([120],2),([121],-2)]):=h;obtain⟨g,A,n,c,m,e,h⟩:=h;exact⟨g,A,n,c,m,e,h.pu P⟩
   |9,_,h=>replace h:∃q g A n c m,x= .slice (some ⟨q,0,none⟩) 1 1∧Blk u q 35 #[.bool g,.slice A n c,.pointer m,.bool true]∧TM u (.agg #[.bool g,.slice A n c,.pointer m]) (-1) [([120],2),([121],-2)]:=h;obtain⟨q,g,A,n,c,m,e,h,h'⟩:=h;exact⟨q,g,A,n,c,m,e,h.pu P,h'.pu P⟩
   |_+10,hj,_=>exact absurd hj (by omega)
  refine zag 16 (EJ V2 10 (fun S=>match S with|0=>fun v _=>v= .agg #[.bool gt,.slice At nt ct,.pointer mt]|1=>fun v _=>v= .agg #[.bool gy,.slice Ay ny cy,.pointer my]|2=>fZ (2)|3=>fT (0) ([([121],2)])|4=>fT (0) ([([120],2),([121],-2)])|5=>fun v _=>v= .func (.func 54) #[] #[]|6=>fT (1) ([])|7=>fT ((-1)) ([([120],2),([121],-2)])|8=>fun v w=>∃g A n c m,v= .agg #[.bool g,.slice A n c,.pointer m,.bool true]∧TM w (.agg #[.bool g,.slice A n c,.pointer m]) (-1) ([([120],2),([121],-2)])|9=>fun v w=>∃q g A n c m,v= .slice (some ⟨q,0,none⟩) 1 1∧Blk w q 35 #[.bool g,.slice A n c,.pointer m,.bool true]∧TM w (.agg #[.bool g,.slice A n c,.pointer m]) (-1) [([120],2),([121],-2)]|_=>fun _ _=>True) (zr5)) [some 17,some 18,some 19,some 20,some 21,some 22,some 23,some 24,some 25,some 26,some 27,some 16,some 28,some 29,some 5,none] (by kernel_rfl) (by kernel_rfl) rfl (fun _=>EJ.start d4) ?_ ?_
  ·refine ze.cons [] rfl (by kernel_rfl) (fun y D V o t i K k=>?_) ?_
   ·simp only [PU,Nat.reduceEqDiff,Nat.reduceAdd,reduceIte]at k⊢;have z:=i.pu;obtain⟨x0,x1,x2⟩:=((k4).pu z).c3_;go_simp;exact k.out _ _ (i.kp B (fun _ _ _ _ _ _ _ h _=>h) 0 o (Pu.refl _) (.inl ⟨by decide,rfl⟩))
   refine ze.cons [] rfl (by kernel_rfl) (fun y D V o t i K k=>?_) ?_
   ·simp only [PU,Nat.reduceEqDiff,Nat.reduceAdd,reduceIte]at k⊢;have z:=i.pu;obtain⟨x0,x1,x2⟩:=((k2).pu z).c3_;go_simp;exact k.out _ _ (i.kp B (fun _ _ _ _ _ _ _ h _=>h) 1 o (Pu.refl _) (.inl ⟨by decide,rfl⟩))
   refine ze.cons [] rfl (by kernel_rfl) (fun y D V o t i K k=>?_) ?_
   ·simp only [PU,Nat.reduceEqDiff,Nat.reduceAdd,reduceIte]at k⊢;have z:=i.pu;go_simp;go_at_call 30;refine(zaG 2 V (by decide) (by decide)).mono ?_;rintro e u1 ⟨v,rfl,H,I⟩;obtain⟨g,A,n,c,rfl⟩:=H.shape2;go_wp2_with fail;exact k.out _ _ (i.kp B (fun _ _ _ _ _ _ _ h _=>h) 2 o I (.inl ⟨by decide,⟨g,A,n,c,rfl,H⟩⟩))
   refine ze.cons [1,2] rfl (by kernel_rfl) (fun y D V o t i K k=>?_) ?_
   ·simp only [PU,Nat.reduceEqDiff,Nat.reduceAdd,reduceIte]at k⊢;have z:=i.pu;have C:=i.none (by decide) o;have v1:y 1=_:=i.pre C 1 (by decide) (t 1 (by simp));obtain⟨g2,A2,n2,c2,v2,cU⟩:=i.pre C 2 (by decide) (t 2 (by simp));simp only [v1,v2]at k⊢;go_simp;go_at_call 29;refine(zfQ _ _ 0 2 [([121],1)] 0 [([121],2)] V (hy.pu z) cU (by decide) (by decide) (by decide) (by decide) (by decide) (by decide) (by decide)).mono ?_;rintro e u1 ⟨v,rfl,H,I⟩;obtain⟨g,A,n,c,m,rfl⟩:=H.shape;go_wp2_with fail;exact k.out _ _ (i.kp B (fun _ _ _ _ _ _ _ h _=>h) 3 o I (.inl ⟨by decide,⟨g,A,n,c,m,rfl,H⟩⟩))
   refine ze.cons [0,3] rfl (by kernel_rfl) (fun y D V o t i K k=>?_) ?_
   ·simp only [PU,Nat.reduceEqDiff,Nat.reduceAdd,reduceIte]at k⊢;have z:=i.pu;have C:=i.none (by decide) o;have v0:y 0=_:=i.pre C 0 (by decide) (t 0 (by simp));obtain⟨g3,A3,n3,c3,m3,v3,aO⟩:=i.pre C 3 (by decide) (t 3 (by simp));simp only [v0,v3]at k⊢;go_simp;go_at_call 55;refine(zcv _ _ 0 0 [([120],2)] [([121],2)] 0 [([120],2),([121],-2)] V (ht.pu z) aO (by unfold zad;decide) (by unfold zad;decide) (by decide) (by decide) (by decide) (by decide) (by decide)).mono ?_;rintro e u1 ⟨v,rfl,H,I⟩;obtain⟨g,A,n,c,m,rfl⟩:=H.shape;go_wp2_with fail;exact k.out _ _ (i.kp B (fun _ _ _ _ _ _ _ h _=>h) 4 o I (.inl ⟨by decide,⟨g,A,n,c,m,rfl,H⟩⟩))
   refine ze.cons [] rfl (by kernel_rfl) (fun y D V o t i K k=>?_) ?_
   ·simp only [PU,Nat.reduceEqDiff,Nat.reduceAdd,reduceIte]at k⊢;have z:=i.pu;go_simp;exact k.out _ _ (i.kp B (fun _ _ _ _ _ _ _ h _=>h) 5 o (Pu.refl _) (.inl ⟨by decide,rfl⟩))
   refine ze.cons [5] rfl (by kernel_rfl) (fun y D V o t i K k=>?_) ?_
   ·simp only [PU,Nat.reduceEqDiff,Nat.reduceAdd,reduceIte]at k⊢;have z:=i.pu;have C:=i.none (by decide) o;have v5:y 5=_:=i.pre C 5 (by decide) (t 5 (by simp));simp only [v5]at k⊢;go_simp;go_at_call 54;refine(ziE 1 (by decide) (by decide) V).mono ?_;rintro e u1 ⟨v,rfl,H,I⟩;obtain⟨g,A,n,c,m,rfl⟩:=H.shape;go_wp2_with fail;exact k.out _ _ (i.kp B (fun _ _ _ _ _ _ _ h _=>h) 6 o I (.inl ⟨by decide,⟨g,A,n,c,m,rfl,H⟩⟩))
   refine ze.cons [4,6] rfl (by kernel_rfl) (fun y D V o t i K k=>?_) ?_
   ·simp only [PU,Nat.reduceEqDiff,Nat.reduceAdd,reduceIte]at k⊢;have z:=i.pu;have C:=i.none (by decide) o;obtain⟨g4,A4,n4,c4,m4,v4,ao⟩:=i.pre C 4 (by decide) (t 4 (by simp));obtain⟨g6,A6,n6,c6,m6,v6,cQ⟩:=i.pre C 6 (by decide) (t 6 (by simp));simp only [v4,v6]at k⊢;go_simp;go_at_call 55;refine(zcv _ _ 0 1 [([120],2),([121],-2)] [] (-1) [([120],2),([121],-2)] V ao cQ (by unfold zad;decide) (by unfold zad;decide) (by decide) (by decide) (by decide) (by decide) (by decide)).mono ?_;rintro e u1 ⟨v,rfl,H,I⟩;obtain⟨g,A,n,c,m,rfl⟩:=H.shape;go_wp2_with fail;exact k.out _ _ (i.kp B (fun _ _ _ _ _ _ _ h _=>h) 7 o I (.inl ⟨by decide,⟨g,A,n,c,m,rfl,H⟩⟩))
   refine ze.cons [7] rfl (by kernel_rfl) (fun y D V o t i K k=>?_) ?_
   ·simp only [PU,Nat.reduceEqDiff,Nat.reduceAdd,reduceIte]at k⊢;have z:=i.pu;have C:=i.none (by decide) o;obtain⟨g7,A7,n7,c7,m7,v7,aR⟩:=i.pre C 7 (by decide) (t 7 (by simp));simp only [v7]at k⊢;go_simp;exact k.out _ _ (i.kp B (fun _ _ _ _ _ _ _ h _=>h) 8 o (Pu.refl _) (.inl ⟨by decide,⟨g7,A7,n7,c7,m7,rfl,aR⟩⟩))
   refine ze.cons [8] rfl (by kernel_rfl) (fun y D V o t i K k=>?_) ?_
   ·simp only [PU,Nat.reduceEqDiff,Nat.reduceAdd,reduceIte]at k⊢;have z:=i.pu;have C:=i.none (by decide) o;obtain⟨g8,A8,n8,c8,m8,v8,aI⟩:=i.pre C 8 (by decide) (t 8 (by simp));simp only [v8]at k⊢;have v8:y 8= .agg #[.bool g8,.slice A8 n8 c8,.pointer m8,.bool true]:=v8;go_simp;exact k.out _ _ (i.kp B (fun _ _ _ _ _ _ _ h _=>h) 9 o ((Pu.refl _).alloc _) (.inl ⟨by decide,⟨_,g8,A8,n8,c8,m8,rfl,Blk.new _ _ _,aI.pu ((Pu.refl _).alloc _)⟩⟩))
   refine ze.cons [0,1,2,3,4,5,6,7,8,9] rfl (by kernel_rfl) (fun y D V o t i K k=>?_) ?_
   ·simp only [PU,Nat.reduceEqDiff,Nat.reduceAdd,reduceIte]at k⊢;have z:=i.pu;have a6:∀j,j<10→D j=true:=fun j hj=>t j (by simp;omega);obtain⟨q9,g9,A9,n9,c9,m9,v9,dn,aH⟩:=i.pre o 9 (by decide) (t 9 (by simp));simp only [v9]at k⊢;go_simp;go_at_call 27;have hS:=(Sl.of_blk dn 4 1 1 rfl (by decide):SlR V (some ⟨q9,0,none⟩) 1 1 [⟨g9,A9,n9,c9,m9,true⟩])
    have Hc:=zb9 zoy omA _ 1 1 _ 100 V znl zrb (by decide) hS (zF.one (q:=⟨g9,A9,n9,c9,m9,true⟩) (r:=⟨-1,[([120],2),([121],-2)],true⟩) ⟨rfl,aH⟩);refine Hc.mono ?_;intro e u1 hE;obtain⟨Ak,nk,ck,uk,rfl,I⟩:=zlu hE;clear hE;go_wp2_with fail;exact k.out _ _ (i.kp B (fun _ _ _ _ _ _ _ h _=>h) 10 o I (.inr (.inl ⟨rfl,⟨a6,⟨2,Ak,nk,ck,uk,rfl,rfl⟩⟩⟩)))
   refine ze.cons [10] rfl (by kernel_rfl) (fun y D V o t i K k=>?_) ?_
   ·simp only [PU,Nat.reduceEqDiff,Nat.reduceAdd,reduceIte]at k⊢;have z:=i.pu;have G:=t 10 (by simp);obtain⟨Y,M,N,J,u',E,O⟩:=i.d G;clear O;simp only [E]at k⊢;go_simp;exact k.out _ _ (i.kp B (fun _ _ _ _ _ _ _ h _=>h) 11 o (Pu.refl _) (.inr (.inr (.inl ⟨rfl,⟨G,E.symm⟩⟩))))
   refine ze.cons [11] rfl (by kernel_rfl) (fun y D V o t i K k=>?_) ?_
   ·simp only [PU,Nat.reduceEqDiff,Nat.reduceAdd,reduceIte]at k⊢;have z:=i.pu;obtain⟨G,em⟩:=i.m (t 11 (by simp));obtain⟨Y,M,N,J,u',E,O⟩:=i.d G;clear O;have Q:=em.trans E
    try dsimp only at Q
    simp only [Q,E]at k⊢;go_simp;exact k.out _ _ (i.kp B (fun _ _ _ _ _ _ _ h _=>h) 12 o (Pu.refl _) (.inr (.inr (.inr (.inl ⟨rfl,⟨G,_,_,E,rfl⟩⟩)))))
   refine ze.cons [11] rfl (by kernel_rfl) (fun y D V o t i K k=>?_) ?_
   ·simp only [PU,Nat.reduceEqDiff,Nat.reduceAdd,reduceIte]at k⊢;have z:=i.pu;obtain⟨G,em⟩:=i.m (t 11 (by simp));obtain⟨Y,M,N,J,u',E,O⟩:=i.d G;clear O;have Q:=em.trans E
    try dsimp only at Q
    simp only [Q,E]at k⊢;go_simp;exact k.out _ _ (i.kp B (fun _ _ _ _ _ _ _ h _=>h) 13 o (Pu.refl _) (.inr (.inr (.inr (.inr (.inl ⟨rfl,⟨G,_,_,E,rfl⟩⟩))))))
   refine ze.cons [] rfl (by kernel_rfl) (fun y D V o t i K k=>?_) ?_
   ·simp only [PU,Nat.reduceEqDiff,Nat.reduceAdd,reduceIte]at k⊢;have z:=i.pu;go_simp;exact k.out _ _ (i.kp B (fun _ _ _ _ _ _ _ h _=>h) 14 o ((Pu.refl _).alloc _) (.inr (.inr (.inr (.inr (.inr (⟨rfl,⟨rfl,⟨_,_,_,_,Blk.new _ _ _⟩⟩⟩)))))))
   refine ze.cons [12,14] rfl (by kernel_rfl) (fun y D V o t i K k=>?_) ?_
   ·simp only [PU,Nat.reduceEqDiff,Nat.reduceAdd,reduceIte]at k⊢;have z:=i.pu;have au:=t 12 (by simp);have az:=t 14 (by simp);obtain⟨G,ba,cV,E,ex⟩:=i.e0 au;obtain⟨Y,M,N,J,u',a0,O⟩:=i.d G;clear O;rw [a0]at E;clear a0;injection E with E;have a1:=congrArg (fun a:Array Value=>a[0]?) E;have ag:=ex.trans (show ba= .agg #[.int .i64 Y,.slice M N J] by simpa using a1.symm);clear ex E a1;obtain⟨b,R,a5,k2,A2,n2,c2,kb⟩:=i.a az
    try dsimp only [zdD]at R ag
    obtain⟨x0,x1⟩:=kb.c2_;obtain⟨f0,f1⟩:=kb.z2_;obtain⟨kR,eR⟩:=zas kb (.int .i64 Y) (.slice M N J);simp only [ag,R]at k⊢;go_simp;exact k.out undef _ (i.store (fun _ _ _ _ _ _ _ h _=>h) o ⟨_,_,_,_,kb⟩ a5 eR kR au az R ag undef)
   exact ze.nil
  ·intro y U6 D hL i;obtain⟨bA,kA,AA,nA,cA,uA,R,a5,hB,eu,hQ⟩:=i.last (hL 10 (by decide)) (hL 13 (by decide)) (hL 15 (by decide));have z:=i.pu;clear i B
   try dsimp only [zdD]at R eu
   simp only [PU,Nat.reduceEqDiff,Nat.reduceAdd,reduceIte];simp only [R,eu];generalize y 0=y0;generalize y 1=y1;generalize y 2=y2;generalize y 3=y3;generalize y 4=y4;generalize y 5=y5;generalize y 6=y6;generalize y 7=y7;generalize y 8=y8;generalize y 9=y9;generalize y 10=cF;generalize y 11=cz;generalize y 12=cT;have cZ:kA=2:=hQ;subst cZ;clear hQ;have bL:=hB;replace k4:=k4.pu z;replace ht:=ht.pu z;have bE:=P2.trans z;clear R eu hB k2 hy z P2;go_wp2_with fail;have cB:Pu U6 U6.drew:=(Pu.refl U6).drew;have B:∀j x u u',j<11→(fun S=>match S with|0=>fun v _=>v= .func (.func 54) #[] #[]|1=>fT (3) ([])|2=>fun v _=>v= .agg #[.bool gt,.slice At nt ct,.pointer mt]|3=>fT (3) ([([120],-2)])|4=>fun v w=>∃g A n c m,v= .agg #[.bool g,.slice A n c,.pointer m,.bool false]∧TM w (.agg #[.bool g,.slice A n c,.pointer m]) (3) ([([120],-2)])|5=>fun v _=>v= .agg #[.bool gt,.slice At nt ct,.pointer mt]|6=>fun v _=>v= .func (.func 54) #[] #[]|7=>fT (5) ([])|8=>fT ((-5)) ([([120],2)])|9=>fun v w=>∃g A n c m,v= .agg #[.bool g,.slice A n c,.pointer m,.bool false]∧TM w (.agg #[.bool g,.slice A n c,.pointer m]) (-5) ([([120],2)])|10=>fun v w=>∃q g A n c m U M N J T,v= .slice (some ⟨q,0,none⟩) 2 2∧Blk w q 35 #[.bool g,.slice A n c,.pointer m,.bool false,.bool U,.slice M N J,.pointer T,.bool false]∧TM w (.agg #[.bool g,.slice A n c,.pointer m]) 3 [([120],-2)]∧TM w (.agg #[.bool U,.slice M N J,.pointer T]) (-5) [([120],2)]|_=>fun _ _=>True:Nat→Value→World→Prop) j x u→Pu u u'→(fun S=>match S with|0=>fun v _=>v= .func (.func 54) #[] #[]|1=>fT (3) ([])|2=>fun v _=>v= .agg #[.bool gt,.slice At nt ct,.pointer mt]|3=>fT (3) ([([120],-2)])|4=>fun v w=>∃g A n c m,v= .agg #[.bool g,.slice A n c,.pointer m,.bool false]∧TM w (.agg #[.bool g,.slice A n c,.pointer m]) (3) ([([120],-2)])|5=>fun v _=>v= .agg #[.bool gt,.slice At nt ct,.pointer mt]|6=>fun v _=>v= .func (.func 54) #[] #[]|7=>fT (5) ([])|8=>fT ((-5)) ([([120],2)])|9=>fun v w=>∃g A n c m,v= .agg #[.bool g,.slice A n c,.pointer m,.bool false]∧TM w (.agg #[.bool g,.slice A n c,.pointer m]) (-5) ([([120],2)])|10=>fun v w=>∃q g A n c m U M N J T,v= .slice (some ⟨q,0,none⟩) 2 2∧Blk w q 35 #[.bool g,.slice A n c,.pointer m,.bool false,.bool U,.slice M N J,.pointer T,.bool false]∧TM w (.agg #[.bool g,.slice A n c,.pointer m]) 3 [([120],-2)]∧TM w (.agg #[.bool U,.slice M N J,.pointer T]) (-5) [([120],2)]|_=>fun _ _=>True:Nat→Value→World→Prop) j x u':=by
    intro j x u u' hj h P
    match j,hj,h with
    |0,_,h=>exact h
    |1,_,h=>exact fT.pu h P
    |2,_,h=>exact h
    |3,_,h=>exact fT.pu h P
    |4,_,h=>replace h:∃g A n c m,x= .agg #[.bool g,.slice A n c,.pointer m,.bool false]∧TM u (.agg #[.bool g,.slice A n c,.pointer m]) (3) ([([120],-2)]):=h;obtain⟨g,A,n,c,m,e,h⟩:=h;exact⟨g,A,n,c,m,e,h.pu P⟩
    |5,_,h=>exact h
    |6,_,h=>exact h
    |7,_,h=>exact fT.pu h P
    |8,_,h=>exact fT.pu h P
    |9,_,h=>replace h:∃g A n c m,x= .agg #[.bool g,.slice A n c,.pointer m,.bool false]∧TM u (.agg #[.bool g,.slice A n c,.pointer m]) (-5) ([([120],2)]):=h;obtain⟨g,A,n,c,m,e,h⟩:=h;exact⟨g,A,n,c,m,e,h.pu P⟩
    |10,_,h=>replace h:∃q g A n c m U M N J T,x= .slice (some ⟨q,0,none⟩) 2 2∧Blk u q 35 #[.bool g,.slice A n c,.pointer m,.bool false,.bool U,.slice M N J,.pointer T,.bool false]∧TM u (.agg #[.bool g,.slice A n c,.pointer m]) 3 [([120],-2)]∧TM u (.agg #[.bool U,.slice M N J,.pointer T]) (-5) [([120],2)]:=h;obtain⟨q,g,A,n,c,m,U,M,N,J,T,e,h1,h2,h3⟩:=h;exact⟨q,g,A,n,c,m,U,M,N,J,T,e,h1.pu P,h2.pu P,h3.pu P⟩
    |_+11,hj,_=>exact absurd hj (by omega)
   refine zag 17 (EJ U6 11 (fun S=>match S with|0=>fun v _=>v= .func (.func 54) #[] #[]|1=>fT (3) ([])|2=>fun v _=>v= .agg #[.bool gt,.slice At nt ct,.pointer mt]|3=>fT (3) ([([120],-2)])|4=>fun v w=>∃g A n c m,v= .agg #[.bool g,.slice A n c,.pointer m,.bool false]∧TM w (.agg #[.bool g,.slice A n c,.pointer m]) (3) ([([120],-2)])|5=>fun v _=>v= .agg #[.bool gt,.slice At nt ct,.pointer mt]|6=>fun v _=>v= .func (.func 54) #[] #[]|7=>fT (5) ([])|8=>fT ((-5)) ([([120],2)])|9=>fun v w=>∃g A n c m,v= .agg #[.bool g,.slice A n c,.pointer m,.bool false]∧TM w (.agg #[.bool g,.slice A n c,.pointer m]) (-5) ([([120],2)])|10=>fun v w=>∃q g A n c m U M N J T,v= .slice (some ⟨q,0,none⟩) 2 2∧Blk w q 35 #[.bool g,.slice A n c,.pointer m,.bool false,.bool U,.slice M N J,.pointer T,.bool false]∧TM w (.agg #[.bool g,.slice A n c,.pointer m]) 3 [([120],-2)]∧TM w (.agg #[.bool U,.slice M N J,.pointer T]) (-5) [([120],2)]|_=>fun _ _=>True) (OmB U6.heap.size)) [some 31,some 32,some 33,some 34,some 35,some 36,some 37,some 38,some 39,some 40,some 41,some 42,some 30,some 43,some 44,some 7,none] (by kernel_rfl) (by kernel_rfl) rfl (fun _=>EJ.start cB) ?_ ?_
   ·refine ze.cons [] rfl (by kernel_rfl) (fun y D V o t i K k=>?_) ?_
    ·simp only [PU,Nat.reduceEqDiff,Nat.reduceAdd,reduceIte]at k⊢;have z:=i.pu;go_simp;exact k.out _ _ (i.kp B (fun _ _ _ _ _ _ _ h F=>h.na F) 0 o (Pu.refl _) (.inl ⟨by decide,rfl⟩))
    refine ze.cons [0] rfl (by kernel_rfl) (fun y D V o t i K k=>?_) ?_
    ·simp only [PU,Nat.reduceEqDiff,Nat.reduceAdd,reduceIte]at k⊢;have z:=i.pu;have C:=i.none (by decide) o;have v0:y 0=_:=i.pre C 0 (by decide) (t 0 (by simp));simp only [v0]at k⊢;go_simp;go_at_call 54;refine(ziE 3 (by decide) (by decide) V).mono ?_;rintro e u1 ⟨v,rfl,H,I⟩;obtain⟨g,A,n,c,m,rfl⟩:=H.shape;go_wp2_with fail;exact k.out _ _ (i.kp B (fun _ _ _ _ _ _ _ h F=>h.na F) 1 o I (.inl ⟨by decide,⟨g,A,n,c,m,rfl,H⟩⟩))
    refine ze.cons [] rfl (by kernel_rfl) (fun y D V o t i K k=>?_) ?_
    ·simp only [PU,Nat.reduceEqDiff,Nat.reduceAdd,reduceIte]at k⊢;have z:=i.pu;obtain⟨x0,x1,x2⟩:=((k4).pu z).c3_;go_simp;exact k.out _ _ (i.kp B (fun _ _ _ _ _ _ _ h F=>h.na F) 2 o (Pu.refl _) (.inl ⟨by decide,rfl⟩))
    refine ze.cons [1,2] rfl (by kernel_rfl) (fun y D V o t i K k=>?_) ?_
    ·simp only [PU,Nat.reduceEqDiff,Nat.reduceAdd,reduceIte]at k⊢;have z:=i.pu;have C:=i.none (by decide) o;obtain⟨g1,A1,n1,c1,m1,v1,du⟩:=i.pre C 1 (by decide) (t 1 (by simp));have v2:y 2=_:=i.pre C 2 (by decide) (t 2 (by simp));simp only [v1,v2]at k⊢;go_simp;go_at_call 55;refine(zcv _ _ 3 0 [] [([120],2)] 3 [([120],-2)] V du (ht.pu z) (by unfold zad;decide) (by unfold zad;decide) (by decide) (by decide) (by decide) (by decide) (by decide)).mono ?_;rintro e u1 ⟨v,rfl,H,I⟩;obtain⟨g,A,n,c,m,rfl⟩:=H.shape;go_wp2_with fail;exact k.out _ _ (i.kp B (fun _ _ _ _ _ _ _ h F=>h.na F) 3 o I (.inl ⟨by decide,⟨g,A,n,c,m,rfl,H⟩⟩))
    refine ze.cons [3] rfl (by kernel_rfl) (fun y D V o t i K k=>?_) ?_
    ·simp only [PU,Nat.reduceEqDiff,Nat.reduceAdd,reduceIte]at k⊢;have z:=i.pu;have C:=i.none (by decide) o;obtain⟨g3,A3,n3,c3,m3,v3,aO⟩:=i.pre C 3 (by decide) (t 3 (by simp));simp only [v3]at k⊢;go_simp;exact k.out _ _ (i.kp B (fun _ _ _ _ _ _ _ h F=>h.na F) 4 o (Pu.refl _) (.inl ⟨by decide,⟨g3,A3,n3,c3,m3,rfl,aO⟩⟩))
    refine ze.cons [] rfl (by kernel_rfl) (fun y D V o t i K k=>?_) ?_
    ·simp only [PU,Nat.reduceEqDiff,Nat.reduceAdd,reduceIte]at k⊢;have z:=i.pu;obtain⟨x0,x1,x2⟩:=((k4).pu z).c3_;go_simp;exact k.out _ _ (i.kp B (fun _ _ _ _ _ _ _ h F=>h.na F) 5 o (Pu.refl _) (.inl ⟨by decide,rfl⟩))
    refine ze.cons [] rfl (by kernel_rfl) (fun y D V o t i K k=>?_) ?_
    ·simp only [PU,Nat.reduceEqDiff,Nat.reduceAdd,reduceIte]at k⊢;have z:=i.pu;go_simp;exact k.out _ _ (i.kp B (fun _ _ _ _ _ _ _ h F=>h.na F) 6 o (Pu.refl _) (.inl ⟨by decide,rfl⟩))
    refine ze.cons [6] rfl (by kernel_rfl) (fun y D V o t i K k=>?_) ?_
    ·simp only [PU,Nat.reduceEqDiff,Nat.reduceAdd,reduceIte]at k⊢;have z:=i.pu;have C:=i.none (by decide) o;have v6:y 6=_:=i.pre C 6 (by decide) (t 6 (by simp));simp only [v6]at k⊢;go_simp;go_at_call 54;refine(ziE 5 (by decide) (by decide) V).mono ?_;rintro e u1 ⟨v,rfl,H,I⟩;obtain⟨g,A,n,c,m,rfl⟩:=H.shape;go_wp2_with fail;exact k.out _ _ (i.kp B (fun _ _ _ _ _ _ _ h F=>h.na F) 7 o I (.inl ⟨by decide,⟨g,A,n,c,m,rfl,H⟩⟩))
    refine ze.cons [5,7] rfl (by kernel_rfl) (fun y D V o t i K k=>?_) ?_
    ·simp only [PU,Nat.reduceEqDiff,Nat.reduceAdd,reduceIte]at k⊢;have z:=i.pu;have C:=i.none (by decide) o;have v5:y 5=_:=i.pre C 5 (by decide) (t 5 (by simp));obtain⟨g7,A7,n7,c7,m7,v7,aR⟩:=i.pre C 7 (by decide) (t 7 (by simp));simp only [v5,v7]at k⊢;go_simp;go_at_call 55;refine(zcv _ _ 0 5 [([120],2)] [] (-5) [([120],2)] V (ht.pu z) aR (by unfold zad;decide) (by unfold zad;decide) (by decide) (by decide) (by decide) (by decide) (by decide)).mono ?_;rintro e u1 ⟨v,rfl,H,I⟩;obtain⟨g,A,n,c,m,rfl⟩:=H.shape;go_wp2_with fail;exact k.out _ _ (i.kp B (fun _ _ _ _ _ _ _ h F=>h.na F) 8 o I (.inl ⟨by decide,⟨g,A,n,c,m,rfl,H⟩⟩))
    refine ze.cons [8] rfl (by kernel_rfl) (fun y D V o t i K k=>?_) ?_
    ·simp only [PU,Nat.reduceEqDiff,Nat.reduceAdd,reduceIte]at k⊢;have z:=i.pu;have C:=i.none (by decide) o;obtain⟨g8,A8,n8,c8,m8,v8,aI⟩:=i.pre C 8 (by decide) (t 8 (by simp));simp only [v8]at k⊢;go_simp;exact k.out _ _ (i.kp B (fun _ _ _ _ _ _ _ h F=>h.na F) 9 o (Pu.refl _) (.inl ⟨by decide,⟨g8,A8,n8,c8,m8,rfl,aI⟩⟩))
    refine ze.cons [4,9] rfl (by kernel_rfl) (fun y D V o t i K k=>?_) ?_
    ·simp only [PU,Nat.reduceEqDiff,Nat.reduceAdd,reduceIte]at k⊢;have z:=i.pu;have C:=i.none (by decide) o;obtain⟨g4,A4,n4,c4,m4,v4,ao⟩:=i.pre C 4 (by decide) (t 4 (by simp));obtain⟨g9,A9,n9,c9,m9,v9,aH⟩:=i.pre C 9 (by decide) (t 9 (by simp));simp only [v4,v9]at k⊢;go_simp;exact k.out _ _ (i.kp B (fun _ _ _ _ _ _ _ h F=>h.na F) 10 o ((Pu.refl _).alloc _) (.inl ⟨by decide,⟨_,g4,A4,n4,c4,m4,g9,A9,n9,c9,m9,rfl,Blk.new _ _ _,ao.pu ((Pu.refl _).alloc _),aH.pu ((Pu.refl _).alloc _)⟩⟩))
    refine ze.cons [0,1,2,3,4,5,6,7,8,9,10] rfl (by kernel_rfl) (fun y D V o t i K k=>?_) ?_
    ·simp only [PU,Nat.reduceEqDiff,Nat.reduceAdd,reduceIte]at k⊢;have z:=i.pu;have a6:∀j,j<11→D j=true:=fun j hj=>t j (by simp;omega);obtain⟨cY,ga,Aa,na,ca,ma,gb,Ab,nb,cb,mb,cD,cp,d0,dz⟩:=i.pre o 10 (by decide) (t 10 (by simp));simp only [cD]at k⊢;go_simp;go_at_call 27;have hS:=(Sl.of_blk cp 4 2 2 rfl (by decide):SlR V (some ⟨cY,0,none⟩) 2 2 [⟨ga,Aa,na,ca,ma,false⟩,⟨gb,Ab,nb,cb,mb,false⟩])
     have Hc:=zb9 zoy [ziI,zj0] _ 2 2 _ 100 V znl zrk (by decide) hS (zli (q1:=⟨ga,Aa,na,ca,ma,false⟩) (q2:=⟨gb,Ab,nb,cb,mb,false⟩) (r1:=ziI) (r2:=zj0) ⟨rfl,d0⟩ ⟨rfl,dz⟩);refine Hc.mono ?_;intro e u1 hE;obtain⟨Ak,nk,ck,uk,rfl,cN,I⟩:=zly (base:=U6.heap.size) hE z.size;clear hE;go_wp2_with fail;exact k.out _ _ (i.kp B (fun _ _ _ _ _ _ _ h F=>h.na F) 11 o I (.inr (.inl ⟨rfl,⟨a6,⟨1,Ak,nk,ck,uk,rfl,cN⟩⟩⟩)))
    refine ze.cons [11] rfl (by kernel_rfl) (fun y D V o t i K k=>?_) ?_
    ·simp only [PU,Nat.reduceEqDiff,Nat.reduceAdd,reduceIte]at k⊢;have z:=i.pu;have G:=t 11 (by simp);obtain⟨Y,M,N,J,u',E,O⟩:=i.d G;clear O;simp only [E]at k⊢;go_simp;exact k.out _ _ (i.kp B (fun _ _ _ _ _ _ _ h F=>h.na F) 12 o (Pu.refl _) (.inr (.inr (.inl ⟨rfl,⟨G,E.symm⟩⟩))))
    refine ze.cons [12] rfl (by kernel_rfl) (fun y D V o t i K k=>?_) ?_
    ·simp only [PU,Nat.reduceEqDiff,Nat.reduceAdd,reduceIte]at k⊢;have z:=i.pu;obtain⟨G,em⟩:=i.m (t 12 (by simp));obtain⟨Y,M,N,J,u',E,O⟩:=i.d G;clear O;have Q:=em.trans E
     try dsimp only at Q
     simp only [Q,E]at k⊢;go_simp;exact k.out _ _ (i.kp B (fun _ _ _ _ _ _ _ h F=>h.na F) 13 o (Pu.refl _) (.inr (.inr (.inr (.inl ⟨rfl,⟨G,_,_,E,rfl⟩⟩)))))
    refine ze.cons [12] rfl (by kernel_rfl) (fun y D V o t i K k=>?_) ?_
    ·simp only [PU,Nat.reduceEqDiff,Nat.reduceAdd,reduceIte]at k⊢;have z:=i.pu;obtain⟨G,em⟩:=i.m (t 12 (by simp));obtain⟨Y,M,N,J,u',E,O⟩:=i.d G;clear O;have Q:=em.trans E
     try dsimp only at Q
     simp only [Q,E]at k⊢;go_simp;exact k.out _ _ (i.kp B (fun _ _ _ _ _ _ _ h F=>h.na F) 14 o (Pu.refl _) (.inr (.inr (.inr (.inr (.inl ⟨rfl,⟨G,_,_,E,rfl⟩⟩))))))
    refine ze.cons [] rfl (by kernel_rfl) (fun y D V o t i K k=>?_) ?_
    ·simp only [PU,Nat.reduceEqDiff,Nat.reduceAdd,reduceIte]at k⊢;have z:=i.pu;go_simp;exact k.out _ _ (i.kp B (fun _ _ _ _ _ _ _ h F=>h.na F) 15 o ((Pu.refl _).alloc _) (.inr (.inr (.inr (.inr (.inr (⟨rfl,⟨rfl,⟨_,_,_,_,Blk.new _ _ _⟩⟩⟩)))))))
    refine ze.cons [13,15] rfl (by kernel_rfl) (fun y D V o t i K k=>?_) ?_
    ·simp only [PU,Nat.reduceEqDiff,Nat.reduceAdd,reduceIte]at k⊢;have z:=i.pu;have au:=t 13 (by simp);have az:=t 15 (by simp);obtain⟨G,ba,cV,E,ex⟩:=i.e0 au;obtain⟨Y,M,N,J,u',a0,O⟩:=i.d G;clear O;rw [a0]at E;clear a0;injection E with E;have a1:=congrArg (fun a:Array Value=>a[0]?) E;have ag:=ex.trans (show ba= .agg #[.int .i64 Y,.slice M N J] by simpa using a1.symm);clear ex E a1;obtain⟨b,R,a5,k2,A2,n2,c2,kb⟩:=i.a az
     try dsimp only [zdD]at R ag
     obtain⟨x0,x1⟩:=kb.c2_;obtain⟨f0,f1⟩:=kb.z2_;obtain⟨kR,eR⟩:=zas kb (.int .i64 Y) (.slice M N J);simp only [ag,R]at k⊢;go_simp;exact k.out undef _ (i.store (fun _ _ _ _ _ _ _ h F=>h.na F) o ⟨_,_,_,_,kb⟩ a5 eR kR au az R ag undef)
    exact ze.nil
   ·intro y U7 D hL i;obtain⟨bA,kA,AA,nA,cA,uA,R,a5,hB,eu,hQ⟩:=i.last (hL 11 (by decide)) (hL 14 (by decide)) (hL 16 (by decide));have z:=i.pu;clear i B
    try dsimp only [zdD]at R eu
    simp only [PU,Nat.reduceEqDiff,Nat.reduceAdd,reduceIte];simp only [R,eu];generalize y 0=y0;generalize y 1=y1;generalize y 2=y2;generalize y 3=y3;generalize y 4=y4;generalize y 5=y5;generalize y 6=y6;generalize y 7=y7;generalize y 8=y8;generalize y 9=y9;generalize y 10=cF;generalize y 11=cz;generalize y 12=cT;generalize y 13=ej;have k5:=bL.pu z;have b7:=bE.trans z;clear R eu bL k4 ht bE z;obtain⟨rfl,rfl,dk,ms,Lv,b8,aQ,bM⟩:=hQ;go_wp2_with fail;refine(zhy none 0 0 (-1) _ (by decide)).mono ?_;rintro e W5 ⟨rfl,p5⟩;obtain⟨W,hW⟩:∃W,W=W5.alloc (.cells #[.int .i64 3,.slice none 0 0] 77):=⟨_,rfl⟩
    have pW:Pu U7 W:=by rw [hW];exact p5.alloc _
    have k9:Blk W W5.heap.size 77 #[.int .i64 3,.slice none 0 0]:=by rw [hW];exact Blk.new _ _ _
    have bD:=k5.pu pW;have bJ:=hB.pu pW;have bI:=aQ.pu pW;have bC:=(Sl.of_own b8).pu pW;obtain⟨p,t⟩:∃p,Lv[0]?=some p:=⟨_,List.getElem?_eq_getElem (by rw [aQ.1];exact(show 0<1 by decide))⟩
    obtain⟨-,hz⟩:=bI.2 0 p ([120],factor ms [120]) t rfl;obtain⟨pk,qg,qA,qn,qc⟩:=p;dsimp only at hz;rw [bM]at hz;obtain⟨bv,ov,rfl,ei,y0,y1,y2⟩:=atZ bC t;dsimp only at y0 y1 y2;rw [Nat.zero_mul,Nat.add_zero]at y0 y1 y2;have b9:=Qh (zfJ _ 2 W hz (zC (n:=2) (a:=1) (b:=E4) (by decide) (by decide)));have PW:=b7.trans pW;obtain⟨x0,x1⟩:=bD.c2_;obtain⟨u0,u1⟩:=bJ.c2_;obtain⟨v0,v1⟩:=k9.c2_;have hd:decide (0<uA)=true:=decide_eq_true dk;rw [hW]at x0 x1 u0 u1 v0 v1 y0 y1 y2 b9;have HW:=Qh hW;clear hW bD bJ bI bC t hz b8 aQ bM p5 pW k5 hB b7;go_wp2_with fail;refine b9.out.mono ?_;rintro e X ⟨rfl,p6⟩;rw [t_2];rw [←HW.out]at p6;have vX:=(k9.pu p6).cell 0;clear k9;have HP:=Qh (PW.trans p6);clear p6 PW;go_wp2;go_ret;exact⟨rfl,HP.out⟩
end
end Go.Proofs.YtckfnbckoclhpaaGreatDoor

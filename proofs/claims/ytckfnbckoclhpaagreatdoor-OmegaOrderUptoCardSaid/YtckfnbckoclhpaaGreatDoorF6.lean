/- The solver. -/
import Derived.Test.YtckfnbckoclhpaaGreatDoorF5
import Derived.Test.YtckfnbckoclhpaaGreatDoorF2
namespace Go.Proofs.YtckfnbckoclhpaaGreatDoor
set_option linter.unusedVariables false
set_option linter.unusedSimpArgs false
set_option maxRecDepth 100000
set_option maxHeartbeats 16000000
section
open Go.RowKit
structure CJ(V:World)(p:Nat)(Fp:Nat→Value→World→Prop)(Z:Value→World→Prop)(L:Nat→Bool)(y:Nat→Value)(w:World):Prop where
 pu:L p=false→Pu V w
 pre:L p=false→∀j,j<p→L j=true→Fp j (y j) w
 all:L p=true→∀j,j<p→L j=true
 d:L p=true→Z (y p) w∧∃x x',y p= .tuple #[x,x']
 e0:L (p+1)=true→L p=true∧∃x x',y p= .tuple #[x,x']∧y (p+1)=x
 e1:L (p+2)=true→L p=true∧∃x x',y p= .tuple #[x,x']∧y (p+2)=x'
 a:L (p+3)=true→L (p+1)=true∧y (p+3)=y (p+1)
section
variable{V w w':World}{p:Nat}{Fp:Nat→Value→World→Prop}{Z:Value→World→Prop}{L:Nat→Bool}{y:Nat→Value}{v:Value}
theorem CJ.start(h:Pu V w):CJ V p Fp Z (fun _=>false) y w:=by
 constructor
 ·exact fun _=>h
 ·intro _ j _ h
  cases h
 all_goals
  intro h
  cases h
theorem CJ.none(h:CJ V p Fp Z L y w){k:Nat}(i:k<p)(j:L k=false):L p=false:=by
 cases e:L p with
 |false=>rfl
 |true=>
  have:=h.all e k i;rw [j]at this
  cases this
theorem CJ.step(h:CJ V p Fp Z L y w)(E:∀j x u u',j<p→Fp j x u→Pu u u'→Fp j x u')(k:Nat)(C:k<p)(G:L k=false)(D:Pu w w')(F:Fp k v w'):CJ V p Fp Z (zeg L k) (upd y k v) w':=by
 have i:=h.none C G;have z:zeg L k p=false:=by rw [zV (by omega)];exact i
 have o:¬L p=true:=by rw [i];decide
 constructor
 ·exact fun _=>(h.pu i).trans D
 ·intro _ j B t;by_cases e:j=k
  ·subst e;rw [zby];exact F
  ·rw [zV e]at t;rw [zcg e];exact E j _ _ _ B (h.pre i j B t) D
 ·intro e;rw [z]at e
  cases e
 ·intro e;rw [z]at e
  cases e
 ·intro e;rw [zV (by omega)]at e;exact absurd (h.e0 e).1 o
 ·intro e;rw [zV (by omega)]at e;exact absurd (h.e1 e).1 o
 ·intro e;rw [zV (by omega)]at e;exact absurd (h.e0 (h.a e).1).1 o
theorem CJ.call(h:CJ V p Fp Z L y w)(i:∀j,j<p→L j=true)(B:L p=false)(z:Z v w')(o:∃x x',v= .tuple #[x,x']):CJ V p Fp Z (zeg L p) (upd y p v) w':=by
 have k:¬L p=true:=by rw [B];decide
 constructor
 ·intro e;rw [zhc]at e
  cases e
 ·intro e;rw [zhc]at e
  cases e
 ·intro _ j t;rw [zV (by omega)];exact i j t
 ·intro _;rw [zby];exact⟨z,o⟩
 ·intro e;rw [zV (by omega)]at e;exact absurd (h.e0 e).1 k
 ·intro e;rw [zV (by omega)]at e;exact absurd (h.e1 e).1 k
 ·intro e;rw [zV (by omega)]at e;exact absurd (h.e0 (h.a e).1).1 k
theorem CJ.ext(h:CJ V p Fp Z L y w)(D:L p=true)(k:Nat)(J:p<k)(K:k≤p+3)(H:L k=false)(G:k=p+1→∃x o,y p= .tuple #[x,o]∧v=x)(E:k=p+2→∃x o,y p= .tuple #[x,o]∧v=o)(F:k=p+3→L (p+1)=true∧v=y (p+1)):CJ V p Fp Z (zeg L k) (upd y k v) w:=by
 have B:zeg L k p=true:=by rw [zV (by omega)];exact D
 have C:upd y k v p=y p:=zcg (by omega);constructor
 ·intro e;rw [B]at e
  cases e
 ·intro e;rw [B]at e
  cases e
 ·intro _ j I;rw [zV (by omega)];exact h.all D j I
 ·intro _;rw [C];exact h.d D
 ·intro e;rw [C];refine⟨B,?_⟩;by_cases c:p+1=k
  ·obtain⟨x,o,i,z⟩:=G c.symm;exact⟨x,o,i,by rw [c,zby];exact z⟩
  ·rw [zV c]at e;rw [zcg c];exact(h.e0 e).2
 ·intro e;rw [C];refine⟨B,?_⟩;by_cases c:p+2=k
  ·obtain⟨x,o,i,z⟩:=E c.symm;exact⟨x,o,i,by rw [c,zby];exact z⟩
  ·rw [zV c]at e;rw [zcg c];exact(h.e1 e).2
 ·intro e;by_cases c:p+3=k
  ·obtain⟨i,z⟩:=F c.symm;have t:p+1≠k:=by omega
   exact⟨by rw [zV t];exact i,by rw [zcg t,c,zby];exact z⟩
  ·rw [zV c]at e;obtain⟨i,z⟩:=h.a e;have t:p+1≠k:=by
    intro t;rw [t,H]at i
    cases i
   exact⟨by rw [zV t];exact i,by rw [zcg c,zcg t];exact z⟩
theorem CJ.last(h:CJ V p Fp Z L y w)(E:L p=true)(F:L (p+1)=true)(I:L (p+2)=true)(H:L (p+3)=true):∃x j,Z (.tuple #[x,j]) w∧y (p+1)=x∧y (p+2)=j∧y (p+3)=x:=by
 obtain⟨J,x,j,e⟩:=h.d E;obtain⟨_,O,K,i,t⟩:=h.e0 F;obtain⟨_,N,M,C,B⟩:=h.e1 I;obtain⟨_,D⟩:=h.a H;have k:∀{a b c d:Value},Value.tuple #[a,b]= .tuple #[c,d]→a=c∧b=d:=fun {a b c d} e=>by
  injection e with e;have z: [a,b]= [c,d]:=by injection e
  injection z with e1 i;injection i with i;exact⟨e1,i⟩
 have o:=k (i.symm.trans e);have G:=k (C.symm.trans e);exact⟨x,j,by rw [←e];exact J,by rw [t,o.1],by rw [B,G.2],by rw [D,t,o.1]⟩
end
theorem zat.shape{NM:List Key}{f:Nat}{l:List RowM}{E:Prop}{sb F U:Nat}{w w':World}{e:Ending}(h:zat NM f l E sb F U w e w'):∃x i,e= .returned (.tuple #[x,i]):=by
 obtain⟨o,_,_,_,_,h|h|h⟩:=h
 ·obtain⟨k,r,L,j,h,_⟩:=h;exact⟨_,_,h⟩
 ·obtain⟨p,h,_⟩:=h;exact⟨_,_,h⟩
 ·obtain⟨p,h,_⟩:=h;exact⟨_,_,h⟩
theorem zat.pre{NM:List Key}{f z:Nat}{l:List RowM}{E:Prop}{sb F U t:Nat}{w u w':World}{e:Ending}(h:zat NM f l E sb F U u e w')(o:Fr (fun k=>k=sb) w u)(N:t≤U)(x:f≤z):zat NM z l False sb F t w e w':=by
 have I:=o.size;obtain⟨M,O,K,J,C,h⟩:=h;refine⟨M,by omega,K,J,o.trans C,?_⟩;rcases h with⟨H,r,L,D,i,j,B,G,P⟩|⟨p,i,j,B⟩|⟨p,i,j⟩
 ·exact .inl ⟨H,r,L,D,i,j.base_ I,B,G.le x,by omega⟩
 ·exact .inr (.inl ⟨p,i,j,by omega⟩)
 ·exact .inr (.inr ⟨p,i,id⟩)
theorem ze3.sv{w w':World}{l:List RowM}{k:Key}{z G t:Option Addr}{E C H D o B sb F U:Nat}{x:Bool}(h:ze3 w l k z E C G H D t o B x)(j:zgS w sb F U)(i:Fr (fun k=>k=sb) w w'):ze3 w' l k z E C G H D t o B x:=by obtain⟨⟨P,R,K⟩,⟨J,Q,O⟩,⟨I,N,M⟩,e⟩:=h;exact⟨⟨P,R.sv j i,K.sv j i⟩,⟨J,Q.sv j i,O.sv j i⟩,⟨I,N.sv j i,M.sv j i⟩,e⟩
theorem zrZ:zq7 (2^BB) (2^RR):=by
 have j:=zbc (c:=4000000) (m:=22) (BB+BB) (by decide);have o:=zaB (n:=22+(BB+BB)) (by unfold BB;omega);have k:=zbc (c:=4) (m:=2) (RR+BB) (by decide);have i:=zaB (n:=2+(RR+BB)) (by unfold BB RR;omega);refine⟨zf0 _,?_,?_⟩
 ·rw [zcx];exact Nat.lt_of_le_of_lt j o
 ·rw [zcx];exact Nat.lt_of_le_of_lt k i
theorem Fit.pair{NM:List Key}{f:Nat}{l:List RowM}(h:Fit NM f l)(j:zfo NM){r:RowM}(i:r∈l):zha (2^BB) (2^RR) r:=⟨h.sys.rise r i,h.sys.nz r i,h.up i,h.few j i,h.rest.entry i⟩
theorem zhC{d:Nat}(hS:zer d)(NM:List Key)(l:List RowM)(k:Key)(t:RowM)(T:Option Addr)(H R:Nat)(A1:Option Addr)(I S:Nat)(N:Option Addr)(J M:Nat)(x dark:Bool)(sb F U:Nat)(w:World) (hN:zfo NM) (hF:Fit NM (F - U+1) l) (hU:U≤F) (a9:F≤2000) (hd:F - U<d) (hs:zgS w sb F U) (hc:ze3 w l k T H R A1 I S N J M x) (he:∀r∈l,r.eq=false) (ht:t∈l) (hf:factor t.fs k≠0):Calls Tryz.prog 144 #[.pointer (some ⟨sb,0,none⟩),.agg #[.string ⟨k.toArray⟩,.slice T H R,.slice A1 I S,.slice N J M,.bool x],.bool dark] w (zat NM (F - U) (zhh k dark l) False sb F U w):=by
 have aL:=hF.cnt;have a8:=hc.few;have B:=zaZ k 0 l;have aj:=zaZ k 1 l;have av:=zaZ k 2 l;have ai:H≤2200:=by omega
 have aw:I≤2200:=by omega
 have aB:J≤2200:=by omega
 have aG:IntKind.i64.wrap ((H:Int)*(I:Int))=((H*I:Nat):Int):=by rw [zkG (by omega) (by omega),Int.natCast_mul]
 have bb:=Nat.mul_le_mul ai aw;obtain⟨X,hXe⟩:∃X,X=w.alloc (.cells #[.string ⟨k.toArray⟩,.slice T H R,.slice A1 I S,.slice N J M,.bool x] 222):=⟨_,rfl⟩
 have pX:Pu w X:=by rw [hXe];exact(Pu.refl w).alloc _
 have kx:Blk X w.heap.size 222 #[.string ⟨k.toArray⟩,.slice T H R,.slice A1 I S,.slice N J M,.bool x]:=by rw [hXe];exact Blk.new _ _ _
 have sX:=hs.pu pX;have bn:¬w.heap.size=sb:=fun e=>by have:=hs.lt;omega
 have bi:=Qh (ziS sb F U (H*I) X sX hU a9 (by omega));have Hc:=Qh (hc.pu pX);have aU:=Qh hXe;have bH:=Qh aG;have O:=Qh (AI hF (AI hN (AI he (AI ht hf))));have Hn:=Qh (AI ai (AI aw (AI aB (AI a8 hd))));have Q:=kx.cell 1;have x2:=kx.cell 2;clear hXe hc aL B aj av hF he ht hf a8 hd bb ai aw aB;go_enter Tryz.func144,Tryz.ntmps144;go_wp2_with fail;rw [←aU.out];go_wp2_with fail;rw [show((H:Int)*(I:Int))=((H*I:Nat):Int)from(Int.natCast_mul _ _).symm];refine bi.out.mono ?_;rintro e Y (⟨cr,rfl,sY,fY⟩|⟨cn,rfl,sY,fY⟩)
 ·go_wp2_with fail;go_ret2;exact⟨F,by omega,Nat.le_refl _,sY,(pX.fr).trans fY,.inr (.inr ⟨none,rfl,id⟩)⟩
 ·have bz:=Hc.out.sv sX fY;have kY:=kx.fr fY bn;obtain⟨⟨L0,a0,b0⟩,⟨L1,a1,b1⟩,⟨L2,a2,b2⟩,ex⟩:=bz;obtain⟨W,hV0⟩:∃W,W=Y:=⟨_,rfl⟩
  rw [←hV0]at kY sY fY a0 b0 a1 b1 a2 b2;have fW:Fr (fun k=>k=sb) w W:=(pX.fr).trans fY;have bp:=Qh hV0;clear hV0 kx Q x2 fY sX hs pX;have pd:Pu W W.drew:=(Pu.refl W).drew;go_wp2_with fail;rw [←bp.out];have E:∀j x u u',j<13→(fun io=>match io with|0=>fun v _=>v= .pointer (some ⟨sb,0,none⟩)|1=>fun v _=>v= .pointer (some ⟨w.heap.size,3,none⟩)|2=>fun v _=>v= .slice N J M|3=>fun v _=>v= .pointer (some ⟨w.heap.size,1,none⟩)|4=>fun v _=>v= .slice T H R|5=>fun v _=>v= .pointer (some ⟨w.heap.size,2,none⟩)|6=>fun v _=>v= .slice A1 I S|7=>fun v _=>v= .pointer (some ⟨w.heap.size,0,none⟩)|8=>fun v _=>v= .string ⟨k.toArray⟩|9=>fun v _=>v= .bool dark|10=>fun v w=>∃A n c L,v= .slice A n c∧SlR w A n c L∧zF w L (za1 k dark (zm k 0 l) (zm k 1 l))∧n≤2200|11=>fun v w=>∃q A n c L,v= .slice (some ⟨q,0,none⟩) 2 2∧Blk w q 24 #[.slice N J M,.slice A n c]∧SlR w A n c L∧zF w L (za1 k dark (zm k 0 l) (zm k 1 l))∧n≤2200|12=>fun v w=>∃A n c L,v= .slice A n c∧SlR w A n c L∧zF w L (zhh k dark l)|_=>fun _ _=>True:Nat→Value→World→Prop) j x u→Pu u u'→(fun io=>match io with|0=>fun v _=>v= .pointer (some ⟨sb,0,none⟩)|1=>fun v _=>v= .pointer (some ⟨w.heap.size,3,none⟩)|2=>fun v _=>v= .slice N J M|3=>fun v _=>v= .pointer (some ⟨w.heap.size,1,none⟩)|4=>fun v _=>v= .slice T H R|5=>fun v _=>v= .pointer (some ⟨w.heap.size,2,none⟩)|6=>fun v _=>v= .slice A1 I S|7=>fun v _=>v= .pointer (some ⟨w.heap.size,0,none⟩)|8=>fun v _=>v= .string ⟨k.toArray⟩|9=>fun v _=>v= .bool dark|10=>fun v w=>∃A n c L,v= .slice A n c∧SlR w A n c L∧zF w L (za1 k dark (zm k 0 l) (zm k 1 l))∧n≤2200|11=>fun v w=>∃q A n c L,v= .slice (some ⟨q,0,none⟩) 2 2∧Blk w q 24 #[.slice N J M,.slice A n c]∧SlR w A n c L∧zF w L (za1 k dark (zm k 0 l) (zm k 1 l))∧n≤2200|12=>fun v w=>∃A n c L,v= .slice A n c∧SlR w A n c L∧zF w L (zhh k dark l)|_=>fun _ _=>True:Nat→Value→World→Prop) j x u':=by
   intro j x u u' hj h hP
   match j,hj,h with
   |0,_,h=>exact h
   |1,_,h=>exact h
   |2,_,h=>exact h
   |3,_,h=>exact h
   |4,_,h=>exact h
   |5,_,h=>exact h
   |6,_,h=>exact h
   |7,_,h=>exact h
   |8,_,h=>exact h
   |9,_,h=>exact h
   |10,_,h=>replace h:∃A n c L,x= .slice A n c∧SlR u A n c L∧zF u L (za1 k dark (zm k 0 l) (zm k 1 l))∧n≤2200:=h;obtain⟨A,n,c,L,e,h1,h2,h3⟩:=h;exact⟨A,n,c,L,e,Sl.pu h1 hP,h2.pu hP,h3⟩
   |11,_,h=>replace h:∃q A n c L,x= .slice (some ⟨q,0,none⟩) 2 2∧Blk u q 24 #[.slice N J M,.slice A n c]∧SlR u A n c L∧zF u L (za1 k dark (zm k 0 l) (zm k 1 l))∧n≤2200:=h;obtain⟨q,A,n,c,L,e,h0,h1,h2,h3⟩:=h;exact⟨q,A,n,c,L,e,h0.pu hP,Sl.pu h1 hP,h2.pu hP,h3⟩
   |12,_,h=>replace h:∃A n c L,x= .slice A n c∧SlR u A n c L∧zF u L (zhh k dark l):=h;obtain⟨A,n,c,L,e,h1,h2⟩:=h;exact⟨A,n,c,L,e,Sl.pu h1 hP,h2.pu hP⟩
   |_+13,hj,_=>exact absurd hj (by omega)
  refine zag 17 (CJ W 13 (fun io=>match io with|0=>fun v _=>v= .pointer (some ⟨sb,0,none⟩)|1=>fun v _=>v= .pointer (some ⟨w.heap.size,3,none⟩)|2=>fun v _=>v= .slice N J M|3=>fun v _=>v= .pointer (some ⟨w.heap.size,1,none⟩)|4=>fun v _=>v= .slice T H R|5=>fun v _=>v= .pointer (some ⟨w.heap.size,2,none⟩)|6=>fun v _=>v= .slice A1 I S|7=>fun v _=>v= .pointer (some ⟨w.heap.size,0,none⟩)|8=>fun v _=>v= .string ⟨k.toArray⟩|9=>fun v _=>v= .bool dark|10=>fun v w=>∃A n c L,v= .slice A n c∧SlR w A n c L∧zF w L (za1 k dark (zm k 0 l) (zm k 1 l))∧n≤2200|11=>fun v w=>∃q A n c L,v= .slice (some ⟨q,0,none⟩) 2 2∧Blk w q 24 #[.slice N J M,.slice A n c]∧SlR w A n c L∧zF w L (za1 k dark (zm k 0 l) (zm k 1 l))∧n≤2200|12=>fun v w=>∃A n c L,v= .slice A n c∧SlR w A n c L∧zF w L (zhh k dark l)|_=>fun _ _=>True) (fun v w'=>zat NM (F - U) (zhh k dark l) False sb F U w (.returned v) w')) [some 18,some 19,some 20,some 21,some 22,some 23,some 24,some 25,some 26,some 27,some 28,some 29,some 30,some 31,some 32,some 33,some 6] (by kernel_rfl) (by kernel_rfl) rfl (fun _=>CJ.start pd) ?_ ?_
  ·refine ze.cons [] rfl (by kernel_rfl) (fun y G V o C i K z=>?_) ?_
   ·simp only [PU,Nat.reduceEqDiff,Nat.reduceAdd,reduceIte]at z⊢;have B:=i.none (by decide) o;have D:=i.pu B;go_simp;exact z.out _ _ (i.step E 0 (by decide) o (Pu.refl _) (rfl))
   refine ze.cons [] rfl (by kernel_rfl) (fun y G V o C i K z=>?_) ?_
   ·simp only [PU,Nat.reduceEqDiff,Nat.reduceAdd,reduceIte]at z⊢;have B:=i.none (by decide) o;have D:=i.pu B;go_simp;exact z.out _ _ (i.step E 1 (by decide) o (Pu.refl _) (rfl))
   refine ze.cons [1] rfl (by kernel_rfl) (fun y G V o C i K z=>?_) ?_
   ·simp only [PU,Nat.reduceEqDiff,Nat.reduceAdd,reduceIte]at z⊢;have B:=i.none (by decide) o;have D:=i.pu B;have v1:y 1=_:=i.pre B 1 (by decide) (C 1 (by simp));simp only [v1]at z⊢;obtain⟨x0,Q,x2,x3,x4⟩:=((kY).pu D).c5_;go_simp;exact z.out _ _ (i.step E 2 (by decide) o (Pu.refl _) (rfl))
   refine ze.cons [] rfl (by kernel_rfl) (fun y G V o C i K z=>?_) ?_
   ·simp only [PU,Nat.reduceEqDiff,Nat.reduceAdd,reduceIte]at z⊢;have B:=i.none (by decide) o;have D:=i.pu B;go_simp;exact z.out _ _ (i.step E 3 (by decide) o (Pu.refl _) (rfl))
   refine ze.cons [3] rfl (by kernel_rfl) (fun y G V o C i K z=>?_) ?_
   ·simp only [PU,Nat.reduceEqDiff,Nat.reduceAdd,reduceIte]at z⊢;have B:=i.none (by decide) o;have D:=i.pu B;have v3:y 3=_:=i.pre B 3 (by decide) (C 3 (by simp));simp only [v3]at z⊢;obtain⟨x0,Q,x2,x3,x4⟩:=((kY).pu D).c5_;go_simp;exact z.out _ _ (i.step E 4 (by decide) o (Pu.refl _) (rfl))
   refine ze.cons [] rfl (by kernel_rfl) (fun y G V o C i K z=>?_) ?_
   ·simp only [PU,Nat.reduceEqDiff,Nat.reduceAdd,reduceIte]at z⊢;have B:=i.none (by decide) o;have D:=i.pu B;go_simp;exact z.out _ _ (i.step E 5 (by decide) o (Pu.refl _) (rfl))
   refine ze.cons [5] rfl (by kernel_rfl) (fun y G V o C i K z=>?_) ?_
   ·simp only [PU,Nat.reduceEqDiff,Nat.reduceAdd,reduceIte]at z⊢;have B:=i.none (by decide) o;have D:=i.pu B;have v5:y 5=_:=i.pre B 5 (by decide) (C 5 (by simp));simp only [v5]at z⊢;obtain⟨x0,Q,x2,x3,x4⟩:=((kY).pu D).c5_;go_simp;exact z.out _ _ (i.step E 6 (by decide) o (Pu.refl _) (rfl))
   refine ze.cons [] rfl (by kernel_rfl) (fun y G V o C i K z=>?_) ?_
   ·simp only [PU,Nat.reduceEqDiff,Nat.reduceAdd,reduceIte]at z⊢;have B:=i.none (by decide) o;have D:=i.pu B;go_simp;exact z.out _ _ (i.step E 7 (by decide) o (Pu.refl _) (rfl))
   refine ze.cons [7] rfl (by kernel_rfl) (fun y G V o C i K z=>?_) ?_
   ·simp only [PU,Nat.reduceEqDiff,Nat.reduceAdd,reduceIte]at z⊢;have B:=i.none (by decide) o;have D:=i.pu B;have v7:y 7=_:=i.pre B 7 (by decide) (C 7 (by simp));simp only [v7]at z⊢;obtain⟨x0,Q,x2,x3,x4⟩:=((kY).pu D).c5_;go_simp;exact z.out _ _ (i.step E 8 (by decide) o (Pu.refl _) (rfl))
   refine ze.cons [] rfl (by kernel_rfl) (fun y G V o C i K z=>?_) ?_
   ·simp only [PU,Nat.reduceEqDiff,Nat.reduceAdd,reduceIte]at z⊢;have B:=i.none (by decide) o;have D:=i.pu B;go_simp;exact z.out _ _ (i.step E 9 (by decide) o (Pu.refl _) (rfl))
   refine ze.cons [4,6,8,9] rfl (by kernel_rfl) (fun y G V o C i K z=>?_) ?_
   ·simp only [PU,Nat.reduceEqDiff,Nat.reduceAdd,reduceIte]at z⊢;have B:=i.none (by decide) o;have D:=i.pu B;have v4:y 4=_:=i.pre B 4 (by decide) (C 4 (by simp));have v6:y 6=_:=i.pre B 6 (by decide) (C 6 (by simp));have v8:y 8=_:=i.pre B 8 (by decide) (C 8 (by simp));have v9:y 9=_:=i.pre B 9 (by decide) (C 9 (by simp));simp only [v4,v6,v8,v9]at z⊢;go_simp;go_at_call 171;refine(zol T H R L0 (zm k 0 l) A1 I S L1 (zm k 1 l) k dark (2^BB) (2^RR) V (Sl.pu a0 D) (b0.pu D) (Sl.pu a1 D) (b1.pu D) zrZ (fun r hr=>⟨O.out.1.pair O.out.2.1 (zJ.1 hr).1,by have:=(zbY O.out.1.sys.rise r hr).2.2;omega⟩) (fun r hr=>⟨O.out.1.pair O.out.2.1 (zJ.1 hr).1,by have:=(zbX O.out.1.sys.rise r hr).2.2;omega⟩) (by omega) Hn.out.1 Hn.out.2.1).mono ?_;rintro e u1 ⟨A',n',c',L',rfl,q1,q2,q3,p1⟩;go_wp2_with fail;exact z.out _ _ (i.step E 10 (by decide) o p1 (⟨A',n',c',L',rfl,q1,q2,q3⟩))
   refine ze.cons [2,10] rfl (by kernel_rfl) (fun y G V o C i K z=>?_) ?_
   ·simp only [PU,Nat.reduceEqDiff,Nat.reduceAdd,reduceIte]at z⊢;have B:=i.none (by decide) o;have D:=i.pu B;have v2:y 2=_:=i.pre B 2 (by decide) (C 2 (by simp));obtain⟨Ap,np,cp,Lp,ba,aj,av,bc⟩:=i.pre B 10 (by decide) (C 10 (by simp));simp only [v2,ba]at z⊢;go_simp;exact z.out _ _ (i.step E 11 (by decide) o ((Pu.refl _).alloc _) (⟨_,Ap,np,cp,Lp,rfl,Blk.new _ _ _,Sl.pu aj ((Pu.refl _).alloc _),av.pu ((Pu.refl _).alloc _),bc⟩))
   refine ze.cons [11] rfl (by kernel_rfl) (fun y G V o C i K z=>?_) ?_
   ·simp only [PU,Nat.reduceEqDiff,Nat.reduceAdd,reduceIte]at z⊢;have B:=i.none (by decide) o;have D:=i.pu B;obtain⟨qb,Ab,nb,cb,bj,bh,aW,aY,bw,cm⟩:=i.pre B 11 (by decide) (C 11 (by simp));simp only [bh]at z⊢;go_simp;go_at_call 170;refine(zg1 N Ab J M nb cb L2 bj qb V (Sl.pu a2 D) aY (by have:=Hn.out.2.2.1;omega) (by omega) aW).mono ?_;rintro e u1 ⟨A',c',rfl,q1,p1⟩;go_wp2_with fail;exact z.out _ _ (i.step E 12 (by decide) o p1 (⟨A',_,c',_,rfl,q1,((b2.pu D).append bw).pu p1⟩))
   refine ze.cons [0,1,2,3,4,5,6,7,8,9,10,11,12] rfl (by kernel_rfl) (fun y G V o C i K z=>?_) ?_
   ·simp only [PU,Nat.reduceEqDiff,Nat.reduceAdd,reduceIte]at z⊢;have D:=i.pu o;have aF:∀j,j<13→G j=true:=fun j hj=>C j (by simp;omega);have v0:y 0=_:=i.pre o 0 (by decide) (C 0 (by simp));obtain⟨Ao,no,co,Lo,aV,bf,aR⟩:=i.pre o 12 (by decide) (C 12 (by simp));simp only [v0,aV]at z⊢;go_simp;go_at_call 61;have fV:Fr (fun k=>k=sb) W V:=D.fr;refine(hS NM (zhh k dark l) Ao no co Lo sb F (U+H*I) V O.out.2.1 (O.out.1.out O.out.2.1 O.out.2.2.1 O.out.2.2.2.1 O.out.2.2.2.2 (by rw [←Hn.out.2.2.2.1.1,←Hn.out.2.2.2.1.2.1];omega)) (by omega) a9 (by have:=Hn.out.2.2.2.2;omega) (sY.pu D) bf aR).mono ?_;intro e u1 hE;have bq:=hE.pre (fW.trans fV) (show U≤U+H*I by omega) (show F - (U+H*I)≤F - U by omega);obtain⟨x0,Q,rfl⟩:=hE.shape;go_wp2_with fail;exact z.out _ _ (i.call aF o bq ⟨_,_,rfl⟩)
   refine ze.cons [13] rfl (by kernel_rfl) (fun y G V o C i K z=>?_) ?_
   ·simp only [PU,Nat.reduceEqDiff,Nat.reduceAdd,reduceIte]at z⊢;have P:=C 13 (by simp);obtain⟨_,x0,Q,ev⟩:=i.d P
    try dsimp only at ev
    simp only [ev]at z⊢;go_simp;exact z.out _ _ (i.ext P 14 (by decide) (by decide) o (fun _=>⟨_,_,ev,rfl⟩) (fun e=>absurd e (by decide)) (fun e=>absurd e (by decide)))
   refine ze.cons [13] rfl (by kernel_rfl) (fun y G V o C i K z=>?_) ?_
   ·simp only [PU,Nat.reduceEqDiff,Nat.reduceAdd,reduceIte]at z⊢;have P:=C 13 (by simp);obtain⟨_,x0,Q,ev⟩:=i.d P
    try dsimp only at ev
    simp only [ev]at z⊢;go_simp;exact z.out _ _ (i.ext P 15 (by decide) (by decide) o (fun e=>absurd e (by decide)) (fun _=>⟨_,_,ev,rfl⟩) (fun e=>absurd e (by decide)))
   refine ze.cons [14] rfl (by kernel_rfl) (fun y G V o C i K z=>?_) ?_
   ·simp only [PU,Nat.reduceEqDiff,Nat.reduceAdd,reduceIte]at z⊢;have aD:=C 14 (by simp);obtain⟨P,_⟩:=i.e0 aD;go_simp;exact z.out _ _ (i.ext P 16 (by decide) (by decide) o (fun e=>absurd e (by decide)) (fun e=>absurd e (by decide)) (fun _=>⟨aD,rfl⟩))
   exact ze.nil
  ·intro y U G hL i;obtain⟨x0,Q,hz,aE,aC,aA⟩:=i.last (hL 13 (by decide)) (hL 14 (by decide)) (hL 15 (by decide)) (hL 16 (by decide));clear i E
   try dsimp only at aE aC aA
   simp only [PU,Nat.reduceEqDiff,Nat.reduceAdd,reduceIte];simp only [aE,aC,aA];generalize y 0=y0;generalize y 1=y1;generalize y 2=y2;generalize y 3=y3;generalize y 4=y4;generalize y 5=y5;generalize y 6=y6;generalize y 7=y7;generalize y 8=y8;generalize y 9=y9;generalize y 10=cl;generalize y 11=ck;generalize y 12=cq;generalize y 13=cs;go_wp2_with fail;go_ret2;exact hz
end
end Go.Proofs.YtckfnbckoclhpaaGreatDoor

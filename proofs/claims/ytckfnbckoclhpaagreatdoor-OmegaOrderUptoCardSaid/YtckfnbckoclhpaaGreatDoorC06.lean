/- zed. -/
import Derived.Test.YtckfnbckoclhpaaGreatDoorC04
import Derived.Test.YtckfnbckoclhpaaGreatDoorC05
import Derived.Deep.RegionHeld3
namespace Go.Proofs.YtckfnbckoclhpaaGreatDoor
set_option linter.unusedVariables false
set_option linter.unusedSimpArgs false
set_option maxRecDepth 100000
set_option maxHeartbeats 4000000
section
open Go.RowKit
theorem zfp{w:World}{b:Nat}{u v:Value}{p:Addr}{x:Value}(i:p.block≠b)(h:w.cell? p=some x):((w.setCell ⟨b,0,none⟩ u).setCell ⟨b,1,none⟩ v).cell? p=some x:=((Fr.one w b 0 u).trans (Fr.one _ b 1 v)).cellv h i
theorem zmN(n:Nat)(h:0<n):1<(4294967296:Nat)^n:=Nat.one_lt_pow (by omega) (by decide)
theorem zi0{W:World}{a b:Nat}{S N:Bool}{P M:Option Addr}{O I Q K:Nat}(G:Blk W a 30 #[.bool S,.slice P O Q])(R:Blk W b 30 #[.bool N,.slice M I K])(U:a≠b)(o k:Bool)(j y:Option Addr)(nq w t x:Nat)(i:World) (E:i=((((W.setCell ⟨a,0,none⟩ (.bool o)).setCell ⟨a,1,none⟩ (.slice j nq w)).setCell ⟨b,0,none⟩ (.bool k)).setCell ⟨b,1,none⟩ (.slice y t x)).drew):i.cell? ⟨a,0,none⟩=some (.bool o)∧i.cell? ⟨a,1,none⟩=some (.slice j nq w)∧i.cell? ⟨b,0,none⟩=some (.bool k)∧i.cell? ⟨b,1,none⟩=some (.slice y t x)∧(∀v z,ZR W v z→ZR i v z)∧(∀w0,Pu w0 W→w0.heap.size≤a→w0.heap.size≤b→Pu w0 i):=by subst E;obtain⟨_,_,J,H⟩:=zA G o j nq w;have C:=(R.far (p:=⟨a,0,none⟩) (by dsimp;omega) (.bool o)).far (p:=⟨a,1,none⟩) (by dsimp;omega) (.slice j nq w);have F:=(G.set_ 0 (.bool o)).set_ 1 (.slice j nq w);obtain⟨_,_,L,T⟩:=zA C k y t x;have B:=((C.set_ 0 (.bool k)).set_ 1 (.slice y t x)).drew;have D:=((F.far (p:=⟨b,0,none⟩) (by dsimp;omega) (.bool k)).far (p:=⟨b,1,none⟩) (by dsimp;omega) (.slice y t x)).drew;exact⟨D.cell 0,D.cell 1,B.cell 0,B.cell 1,fun v z h=>(L _ _ (J _ _ h)).pu ((Pu.refl _).drew),fun w0 h ha hb=>(T _ (H _ h ha) hb).drew⟩
theorem ZR.len{w:World}{g:Bool}{A:Option Addr}{n c:Nat}{z:Int}(h:ZR w (.agg #[.bool g,.slice A n c]) z):n=0↔z=0:=by
 obtain⟨B,p,y,t,l,e,x,F,o,C,⟨D,E⟩,rfl⟩:=h;injection e with e;have k: [Value.bool g,.slice A n c]= [Value.bool B,.slice p y t]:=by injection e
 injection k with k e2;injection e2 with e2 _;injection e2 with _ en _;subst en;have j:=x.wlen;constructor
 ·intro i;have:l= []:=List.eq_nil_of_length_eq_zero (by omega);rw [this,show zd 4294967296 []=0 from rfl,zc2]
 ·intro i;have v:zd 4294967296 l=0:=by
   have:=congrArg Int.natAbs i;rwa [zaA]at this
  have:=zjD o (by omega) v;rw [this]at j;exact j.symm
theorem zqd{a b q r:Int}(i:b≠0)(h:b*q+r=a)(j:0≤r)(o:r<b.natAbs):a/b=q∧a%b=r:=by
 rcases Int.lt_or_gt_of_ne i with i|i
 ·obtain⟨c,rfl⟩:∃c,b= -c:=⟨-b,by omega⟩
  rw [Int.ediv_neg,Int.emod_neg];have k:=(Int.ediv_emod_unique (a:=a) (b:=c) (q:= -q) (r:=r) (by omega)).2 ⟨by rw [Int.mul_neg,←h,Int.neg_mul];omega,j,by omega⟩;rw [k.1,k.2];exact⟨by omega,rfl⟩
 ·exact(Int.ediv_emod_unique (by omega)).2 ⟨by rw [←h];omega,j,by omega⟩
theorem zp5{g:Bool}{Y:Nat}(h:0<Y):sgn g Y≠0:=by intro e;have:=congrArg Int.natAbs e;rw [zaA]at this;simp at this;omega
theorem zqG(i j:Bool)(X Y:Nat)(o:0<Y)(h:i=false∨X%Y=0):sgn i X/sgn j Y=sgn (i != j) (X/Y)∧sgn i X%sgn j Y=((X%Y:Nat):Int):=by
 have t:=Nat.div_add_mod X Y;have p:=Nat.mod_lt X o;refine zqd (zp5 o) ?_ (by omega) (by rw [zaA];omega);rw [zj7];have e:(j !=(i != j))=i:=by cases i<;>cases j<;>rfl
 rw [e];generalize X%Y=r at*
 generalize Y*(X/Y)=k at*
 rcases h with rfl|rfl
 ·show(k:Int)+(r:Int)=(X:Int)
  omega
 ·cases i<;>simp [sgn]<;>omega
theorem zoW(i:Bool)(X Y:Nat)(j:0<Y)(h:X%Y≠0):sgn true X/sgn i Y=sgn (true != i) (X/Y)+ -(sgn i Y).sign∧sgn true X%sgn i Y=(Y:Int) - ((X%Y:Nat):Int):=by
 have p:=Nat.div_add_mod X Y;have o:=Nat.mod_lt X j;refine zqd (zp5 j) ?_ (by omega) (by rw [zaA];omega);have e:(i !=(true != i))=true:=by cases i<;>rfl
 rw [Int.mul_add,zj7,e,Int.mul_neg,Int.mul_sign_self,zaA];generalize X%Y=r at*
 generalize Y*(X/Y)=k at*
 show -(k:Int)+ -(Y:Int)+_= -(X:Int)
 omega
theorem zbB(v1 v2:Value)(z1 z2:Int)(w:World)(h1:ZR w v1 z1)(h2:ZR w v2 z2)(b1:z1.natAbs<4294967296^E4)(b2:z2.natAbs<4294967296^E4)(hz:z2≠0)(hd:zp0 z1.natAbs z2.natAbs):Calls Tryz.prog 154 #[v1,v2] w fun e w'=>∃v3 v4,e= .returned (.tuple #[v3,v4,.int .i64 0])∧ZR w' v3 (z1/z2)∧ZR w' v4 (z1%z2)∧Pu w w':=by
 obtain⟨I,A1,n1,c1,l1,rfl,bt,bQ,b9,cJ,⟨cK,dG⟩,rfl⟩:=h1;obtain⟨j,F,x,D,l2,rfl,aZ,bF,aP,cg,⟨cj,cR⟩,rfl⟩:=h2;rw [zaA]at b1 b2;rw [zaA,zaA]at hd;have dn:=zaC (k:=E4) b9 b1;rw [show E4=4000000000 from rfl]at dn;have cH:=zaC (k:=E4) aP b2;rw [show E4=4000000000 from rfl]at cH;have dK:=bt.wlen;have dM:=aZ.wlen;have b4:l2≠[]:=fun e=>by rw [e]at hz;exact hz (by rw [show zd 4294967296 []=0 from rfl,zc2])
 have dD:x≠0:=fun e=>b4 (List.eq_nil_of_length_eq_zero (by omega));have e0:((x:Int)==0)=false:=by simp;omega
 obtain⟨W,hWe⟩:∃W,W=(((w.alloc (.cells #[.bool I,.slice A1 n1 c1] 30)).alloc (.cells #[.bool j,.slice F x D] 30)).alloc (.cells #[.bool false,.slice none 0 0] 30)).alloc (.cells #[.bool false,.slice none 0 0] 30):=⟨_,rfl⟩
 have hW:Pu w W:=by rw [hWe];exact((((Pu.refl w).alloc _).alloc _).alloc _).alloc _
 have k1:Blk W w.heap.size 30 #[.bool I,.slice A1 n1 c1]:=by rw [hWe];exact(((Blk.new w _ _).alloc _).alloc _).alloc _
 have k2:Blk W (w.heap.size+1) 30 #[.bool j,.slice F x D]:=by rw [hWe];exact((Blk.at_new _ _ _ (by simp)).alloc _).alloc _
 have Z:Blk W (w.heap.size+2) 30 #[.bool false,.slice none 0 0]:=by rw [hWe];exact(Blk.at_new _ _ _ (by simp)).alloc _
 have k4:Blk W (w.heap.size+3) 30 #[.bool false,.slice none 0 0]:=by rw [hWe];exact Blk.at_new _ _ _ (by simp)
 have cw:=hd A1 F n1 c1 x D l1 l2 W (bt.pu hW) (aZ.pu hW) bQ bF b9 aP (by omega) (by omega) cK cj rfl rfl;rw [hWe]at cw;have cT:=Qh hWe;clear hWe hd;go_enter Tryz.func154,Tryz.ntmps154;go_wp2_with fail;refine cw.mono ?_;rintro e w1 ⟨U,H,c3,q,G,n4,M,r,rfl,cp,aY,dL,dI,dJ,dh,bU,bO,hq,hr,p1⟩;rw [←cT.out]at p1;have cI:=hW.trans p1;replace k1:=k1.pu p1;replace k2:=k2.pu p1;replace Z:=Z.pu p1;replace k4:=k4.pu p1;have Hq:=Qh hq;have Hr:=Qh hr;clear hq hr;have bz:w1.cell? ⟨w.heap.size,0,none⟩=some (.bool I):=k1.cell 0;have bb:w1.cell? ⟨w.heap.size+1,0,none⟩=some (.bool j):=k2.cell 0;go_wp2_with fail;have i:Pu w1 w1.drew:=(Pu.refl w1).drew;have dH:=zbE r;have dE:=aY.wlen;go_region_held3 (fun u=>u.cell? ⟨w.heap.size,0,none⟩=some (.bool I)∧u.cell? ⟨w.heap.size+1,0,none⟩=some (.bool j))
  (first|exact⟨(k1.pu i).cell 0,(k2.pu i).cell 0⟩|exact⟨zfp (by dsimp;omega) ((k1.pu i).cell 0),zfp (by dsimp;omega) ((k2.pu i).cell 0)⟩|exact⟨zfp (by dsimp;omega) (zfp (by dsimp;omega) ((k1.pu i).cell 0)),zfp (by dsimp;omega) (zfp (by dsimp;omega) ((k2.pu i).cell 0))⟩|go_keep)
  (first
  | (go_at_call_of 82 U;refine(zey U H c3 q _ (cp.pu i) (by omega)).mono ?_;rintro e u1 ⟨A5,c5,rfl,R,p5⟩;replace i:=i.trans p5;(try replace O:=zaw O p5);(try replace am:=am.pu p5))
  | (go_at_call_of 63 A5;refine(zbJ _ A5 H c5 q _ (Sl.of_own R) (by omega) (zci R).2 bU (W32.of_own R)).mono ?_;rintro e u2 ⟨vq,rfl,ah,p6⟩;replace i:=i.trans p6;have hzq2:=ah;obtain⟨gq,Aq,nq,cq,lq,rfl,_⟩:=hzq2;have N:_=some (Value.bool false):=(Z.pu i).cell 0;have a7:=(Z.pu i).frozen 0;have L:_=some (Value.slice none 0 0):=(Z.pu i).cell 1;have a4:=(Z.pu i).frozen 1;have aq:_=some (Value.bool false):=(k4.pu i).cell 0;have a0:=(k4.pu i).frozen 0;have ao:_=some (Value.slice none 0 0):=(k4.pu i).cell 1;have a5:=(k4.pu i).frozen 1;(try replace O:=zaw O p6);(try replace am:=am.pu p6))
  | (go_at_call 100;refine(zdk G n4 M r _ (aY.pu i) (by omega) dh).mono ?_;rintro e u3 ⟨rfl,rfl⟩)
  | (go_at_call_of 82 G;refine(zey G _ M (zB r) _ ((zch aY).pu i) (by omega)).mono ?_;rintro e u4 ⟨A7,c7,rfl,O,p7⟩;replace i:=i.trans p7;(try replace R:=zaw R p7);(try replace ah:=ah.pu p7))
  | (go_at_call_of 63 A7;refine(zbJ _ A7 _ c7 (zB r) _ (Sl.of_own O) (by omega) (zci O).2 (zaq bO) (W32.of_own O)).mono ?_;rintro e u5 ⟨vr,rfl,am,p8⟩;replace i:=i.trans p8;have hzr2:=am;obtain⟨gr,Ar,o,cr,lr,rfl,_⟩:=hzr2;have N:_=some (Value.bool false):=(Z.pu i).cell 0;have a7:=(Z.pu i).frozen 0;have L:_=some (Value.slice none 0 0):=(Z.pu i).cell 1;have a4:=(Z.pu i).frozen 1;have aq:_=some (Value.bool false):=(k4.pu i).cell 0;have a0:=(k4.pu i).frozen 0;have ao:_=some (Value.slice none 0 0):=(k4.pu i).cell 1;have a5:=(k4.pu i).frozen 1;(try replace R:=zaw R p8);(try replace ah:=ah.pu p8)))
 have cl:=cI.trans i;have bu:=Z.pu i;have cb:=k4.pu i;have cm:=k1.pu i;have cc:=k2.pu i;obtain⟨cW,cZ,bC,bP⟩:=zA bu gq Aq nq cq;have bo:Blk ((u5.setCell ⟨w.heap.size+2,0,none⟩ (.bool gq)).setCell ⟨w.heap.size+2,1,none⟩ (.slice Aq nq cq)) (w.heap.size+3) 30 #[.bool false,.slice none 0 0]:=(cb.far (by dsimp;omega) _).far (by dsimp;omega) _;have ck:Blk ((u5.setCell ⟨w.heap.size+2,0,none⟩ (.bool gq)).setCell ⟨w.heap.size+2,1,none⟩ (.slice Aq nq cq)) (w.heap.size+2) 30 #[.bool gq,.slice Aq nq cq]:=(bu.set_ 0 _).set_ 1 _;obtain⟨da,cP,bp,cd⟩:=zA bo gr Ar o cr;have aI:=bp _ _ (bC _ _ ah);have az:=bp _ _ (bC _ _ am);have aB:=cd _ (bP _ cl (by omega)) (by omega);have ak:=(ck.far (p:=⟨w.heap.size+3,0,none⟩) (by dsimp;omega) (.bool gr)).far (p:=⟨w.heap.size+3,1,none⟩) (by dsimp;omega) (.slice Ar o cr);have t:Blk _ (w.heap.size+3) 30 #[.bool gr,.slice Ar o cr]:=(bo.set_ 0 (.bool gr)).set_ 1 (.slice Ar o cr);have b6:=((((cm.far (p:=⟨w.heap.size+2,0,none⟩) (by dsimp;omega) (.bool gq)).far (p:=⟨w.heap.size+2,1,none⟩) (by dsimp;omega) (.slice Aq nq cq)).far (p:=⟨w.heap.size+3,0,none⟩) (by dsimp;omega) (.bool gr)).far (p:=⟨w.heap.size+3,1,none⟩) (by dsimp;omega) (.slice Ar o cr))
 have aN:=((((cc.far (p:=⟨w.heap.size+2,0,none⟩) (by dsimp;omega) (.bool gq)).far (p:=⟨w.heap.size+2,1,none⟩) (by dsimp;omega) (.slice Aq nq cq)).far (p:=⟨w.heap.size+3,0,none⟩) (by dsimp;omega) (.bool gr)).far (p:=⟨w.heap.size+3,1,none⟩) (by dsimp;omega) (.slice Ar o cr))
 clear bu cb cm cc cW cZ bC bP bo ck da cP bp cd ah am cl i k1 k2 Z k4 N L aq ao a7 a4 a0 a5 bz bb R O;show Exit.then _ _ Exit.normal _ ((((u5.setCell ⟨w.heap.size+2,0,none⟩ (.bool gq)).setCell ⟨w.heap.size+2,1,none⟩ (.slice Aq nq cq)).setCell ⟨w.heap.size+3,0,none⟩ (.bool gr)).setCell ⟨w.heap.size+3,1,none⟩ (.slice Ar o cr));generalize ((((u5.setCell ⟨w.heap.size+2,0,none⟩ (.bool gq)).setCell ⟨w.heap.size+2,1,none⟩ (.slice Aq nq cq)).setCell ⟨w.heap.size+3,0,none⟩ (.bool gr)).setCell ⟨w.heap.size+3,1,none⟩ (.slice Ar o cr))=J at*
 have bz:J.cell? ⟨w.heap.size,0,none⟩=some (.bool I):=b6.cell 0;have bb:J.cell? ⟨w.heap.size+1,0,none⟩=some (.bool j):=aN.cell 0;have bT:J.cell? ⟨w.heap.size+1,1,none⟩=some (.slice F x D):=aN.cell 1;have N:J.cell? ⟨w.heap.size+2,0,none⟩=some (.bool gq):=ak.cell 0;have L:J.cell? ⟨w.heap.size+2,1,none⟩=some (.slice Aq nq cq):=ak.cell 1;have aq:J.cell? ⟨w.heap.size+3,0,none⟩=some (.bool gr):=t.cell 0;have ao:J.cell? ⟨w.heap.size+3,1,none⟩=some (.slice Ar o cr):=t.cell 1;obtain⟨a7,a4⟩:=ak.z2_;obtain⟨a0,a5⟩:=t.z2_;have aR:=az.len;have bB:=zdd aP b4;have bX:zd 4294967296 q=zd 4294967296 l1/zd 4294967296 l2:=Hq.out;have bY:zd 4294967296 (zB r)=zd 4294967296 l1%zd 4294967296 l2:=by rw [zar];exact Hr.out
 obtain⟨X,hX⟩:∃X,X=zd 4294967296 l1:=⟨_,rfl⟩
 obtain⟨Y,hY⟩:∃Y,Y=zd 4294967296 l2:=⟨_,rfl⟩
 rw [bX,←hX,←hY]at aI;rw [bY,←hX,←hY]at az aR;rw [←hY]at bB;rw [←hX]at b1;rw [←hY]at b2;have b8:=Qh aR;have bc:ZR J (.agg #[.bool j,.slice F x D]) (sgn j Y):=ZR.pu ⟨j,F,x,D,l2,rfl,aZ,bF,aP,cg,⟨cj,cR⟩,by rw [hY]⟩ aB;have HX:=Qh hX;have HY:=Qh hY;clear hX hY;clear aR bX bY Hq Hr bt aZ bQ bF b9 aP cp aY bU bO b4 cJ cg;by_cases aS:I=true∧o≠0
 ·obtain⟨rfl,dv⟩:=aS;have d0:decide ((o:Int)>0)=true:=by simp;omega
  have d1:decide ((0:Int)<(o:Int))=true:=by simp;omega
  have i:Pu J J.drew:=(Pu.refl J).drew;have up:=znq (show E4≤E9 by decide);have cG:X%Y≠0:=fun e=>dv (b8.out.2 (by rw [e];exact zc2 _));obtain⟨m1,m2⟩:=zoW j X Y bB cG;have ce:(sgn false (X%Y)).natAbs<4294967296^E4:=by rw [zaA];exact Nat.lt_of_le_of_lt (Nat.mod_le X Y) b1
  have co:(sgn (!true==j) (X/Y)).natAbs<4294967296^E9:=by rw [zaA];exact Nat.lt_of_lt_of_le (Nat.lt_of_le_of_lt (Nat.div_le_self X Y) b1) up
  have b7:(sgn j Y).natAbs<4294967296^E4:=by rw [zaA];exact b2
  have cv:(((sgn j Y).natAbs:Nat):Int).natAbs<4294967296^E4:=by rw [zaA,Int.natAbs_natCast];exact b2
  obtain⟨σ,hσ⟩:∃σ,σ=(sgn j Y).sign:=⟨_,rfl⟩
  have dC:σ=1∨σ= -1:=by
   rw [hσ]
   cases j
   ·exact .inl (Int.sign_eq_one_of_pos (by show(0:Int)<(Y:Int);omega))
   ·exact .inr (Int.sign_eq_neg_one_of_neg (by show -(Y:Int)<0;omega))
  have bR:(-σ).natAbs<4294967296^E9:=by
   have h1:(-σ).natAbs=1:=by omega
   rw [h1];exact zmN E9 (by decide)
  have dF:IntKind.i64.wrap (-σ)= -σ:=IntWalk.i64_in _ (by omega);rw [←hσ]at m1;have bs:=fun W (h:ZR W (.agg #[.bool j,.slice F x D]) (sgn j Y))=>zaN _ (sgn j Y) W h b7;rw [←hσ]at bs;have cC:=Qh bs;have M1:=Qh m1;have M2:=Qh m2;have BB:=Qh (AI ce (AI co (AI b7 (AI cv bR))));have ba:=fun W=>zaG (-σ) W (by omega) (by omega);have bH:=Qh ba;have Hσ:=Qh hσ;clear ce co b7 cv bR bs m1 m2 up ba hσ b1 b2;go_wp2_with fail;rename_i QQ r1 hh K1 dr h0 K hK;have aU:∀(a8 a6 ax aw aA a9 aE aQ aG aF aK aC aO aH:Value) (gt gs:Bool) (At z:Option Addr) (nt ct y B:Nat) (V:World),Blk V (w.heap.size+2) 30 #[.bool gt,.slice At nt ct]→Blk V (w.heap.size+3) 30 #[.bool gs,.slice z y B]→ZR V (.agg #[.bool gt,.slice At nt ct]) (sgn true X/sgn j Y)→ZR V (.agg #[.bool gs,.slice z y B]) (sgn true X%sgn j Y)→Pu w V→Exit.then K1 QQ Exit.normal {tmps:=#[Value.agg #[Value.bool true,Value.slice A1 n1 c1],Value.agg #[Value.bool j,Value.slice F x D],Value.pointer (some {block:=w.heap.size,off:=0}),Value.pointer (some {block:=w.heap.size+1,off:=0}),Value.pointer (some {block:=w.heap.size+1+1,off:=0}),Value.pointer (some {block:=w.heap.size+1+1+1,off:=0}),Value.int IntKind.i64 0,Value.slice U H c3,Value.slice G n4 M,Value.pointer (some {block:=w.heap.size+1,off:=1}),Value.slice F x D,Value.int IntKind.i64 x,Value.bool false,a8,a6,Value.tuple #[Value.slice U H c3,Value.slice G n4 M],Value.pointer (some {block:=w.heap.size,off:=1}),Value.slice A1 n1 c1,Value.pointer (some {block:=w.heap.size+1,off:=1}),Value.slice F x D,Value.tuple #[Value.slice U H c3,Value.slice G n4 M],Value.slice U H c3,Value.slice G n4 M,Value.pointer (some {block:=w.heap.size,off:=0}),Value.bool true,Value.pointer (some {block:=w.heap.size+1,off:=0}),Value.bool j,Value.bool !j,Value.slice U H c3,Value.slice A5 H c5,Value.agg #[Value.bool gq,Value.slice Aq nq cq],Value.slice G n4 M,Value.slice G (zB r).length M,Value.slice A7 (zB r).length c7,Value.agg #[Value.bool gr,Value.slice Ar o cr],Value.pointer (some {block:=w.heap.size,off:=0}),Value.bool true,Value.bool true,Value.pointer (some {block:=w.heap.size+1+1+1,off:=1}),Value.slice Ar o cr,Value.int IntKind.i64 o,Value.bool true,Value.bool true,ax,aw,aA,a9,aE,aQ,aG,aF,aK,aC,aO,aH],defers:=[]} V:=by
   intro a8 a6 ax aw aA a9 aE aQ aG aF aK aC aO aH gt gs At z nt ct y B V kt ks aX aj cS;have N:V.cell? ⟨w.heap.size+2,0,none⟩=some (.bool gt):=kt.cell 0;have L:V.cell? ⟨w.heap.size+2,1,none⟩=some (.slice At nt ct):=kt.cell 1;have aq:V.cell? ⟨w.heap.size+3,0,none⟩=some (.bool gs):=ks.cell 0;have ao:V.cell? ⟨w.heap.size+3,1,none⟩=some (.slice z y B):=ks.cell 1;obtain⟨a7,a4⟩:=kt.z2_;obtain⟨a0,a5⟩:=ks.z2_;clear b6 aN ak t aI az bc aB;go_wp2_with fail;go_region
   all_goals
    obtain⟨T,S,P,Q,tz,tp⟩:=zi0 kt ks (by omega) gt gs At z nt ct y B _ rfl;have tq:=tz _ _ aX;have tr:=tz _ _ aj;have tP:=tp _ cS (by omega) (by omega);clear tz tp;generalize ((((V.setCell ⟨w.heap.size+2,0,none⟩ (.bool gt)).setCell ⟨w.heap.size+2,1,none⟩ (.slice At nt ct)).setCell ⟨w.heap.size+3,0,none⟩ (.bool gs)).setCell ⟨w.heap.size+3,1,none⟩ (.slice z y B)).drew=W5 at T S P Q tq tr tP⊢;go_wp2;refine bodyPost_ret (v:= .tuple #[.agg #[.bool gt,.slice At nt ct],.agg #[.bool gs,.slice z y B],.int .i64 0]) (by simp [results,Tryz.results154,go_sem,T,S,P,Q]) rfl ⟨_,_,rfl,by rw [←HX.out,←HY.out];exact tq,by rw [←HX.out,←HY.out];exact tr,tP⟩
  clear dr;have bw:∀(a8 a6 ax aw aA a9 aE aQ aG aF aK aC aO aH:Value) (gs:Bool) (z:Option Addr) (y B:Nat) (E:World),Blk E (w.heap.size+1) 30 #[.bool j,.slice F x D]→Blk E (w.heap.size+2) 30 #[.bool gq,.slice Aq nq cq]→Blk E (w.heap.size+3) 30 #[.bool gs,.slice z y B]→ZR E (.agg #[.bool j,.slice F x D]) (sgn j Y)→ZR E (.agg #[.bool gq,.slice Aq nq cq]) (sgn (!true==j) (X/Y))→ZR E (.agg #[.bool gs,.slice z y B]) (sgn true X%sgn j Y)→Pu w E→Exit.then K (Exit.then K1 QQ) Exit.normal {tmps:=#[Value.agg #[Value.bool true,Value.slice A1 n1 c1],Value.agg #[Value.bool j,Value.slice F x D],Value.pointer (some {block:=w.heap.size,off:=0}),Value.pointer (some {block:=w.heap.size+1,off:=0}),Value.pointer (some {block:=w.heap.size+1+1,off:=0}),Value.pointer (some {block:=w.heap.size+1+1+1,off:=0}),Value.int IntKind.i64 0,Value.slice U H c3,Value.slice G n4 M,Value.pointer (some {block:=w.heap.size+1,off:=1}),Value.slice F x D,Value.int IntKind.i64 x,Value.bool false,a8,a6,Value.tuple #[Value.slice U H c3,Value.slice G n4 M],Value.pointer (some {block:=w.heap.size,off:=1}),Value.slice A1 n1 c1,Value.pointer (some {block:=w.heap.size+1,off:=1}),Value.slice F x D,Value.tuple #[Value.slice U H c3,Value.slice G n4 M],Value.slice U H c3,Value.slice G n4 M,Value.pointer (some {block:=w.heap.size,off:=0}),Value.bool true,Value.pointer (some {block:=w.heap.size+1,off:=0}),Value.bool j,Value.bool !j,Value.slice U H c3,Value.slice A5 H c5,Value.agg #[Value.bool gq,Value.slice Aq nq cq],Value.slice G n4 M,Value.slice G (zB r).length M,Value.slice A7 (zB r).length c7,Value.agg #[Value.bool gr,Value.slice Ar o cr],Value.pointer (some {block:=w.heap.size,off:=0}),Value.bool true,Value.bool true,Value.pointer (some {block:=w.heap.size+1+1+1,off:=1}),Value.slice Ar o cr,Value.int IntKind.i64 o,Value.bool true,Value.bool true,ax,aw,aA,a9,aE,aQ,aG,aF,aK,aC,aO,aH],defers:=[]} E:=by
   intro a8 a6 ax aw aA a9 aE aQ aG aF aK aC aO aH gs z y B E cn C cF cV df aj ds;clear N L aq ao a7 a4 a0 a5 bz bb bT b6 aN ak t aI az bc aB;have bb:E.cell? ⟨w.heap.size+1,0,none⟩=some (.bool j):=cn.cell 0;have bT:E.cell? ⟨w.heap.size+1,1,none⟩=some (.slice F x D):=cn.cell 1;have N:E.cell? ⟨w.heap.size+2,0,none⟩=some (.bool gq):=C.cell 0;have L:E.cell? ⟨w.heap.size+2,1,none⟩=some (.slice Aq nq cq):=C.cell 1;have i:Pu E E.drew:=(Pu.refl E).drew;have cB:=Qh aU;clear aU;go_wp2_with fail;go_region_with (first
    | (go_at_call 15;refine(cC.out _ (cV.pu i)).mono ?_;rintro e u8 ⟨rfl,p8⟩;replace i:=i.trans p8;replace N:=(C.pu i).cell 0;replace L:=(C.pu i).cell 1)
    | (go_at_call 30;refine(bH.out _).mono ?_;rintro e u9 ⟨vf,rfl,bZ,p9⟩;replace i:=i.trans p9;have hzf2:=bZ;obtain⟨gf,Af,nf,cf,lf,rfl,_⟩:=hzf2;replace N:=(C.pu i).cell 0;replace L:=(C.pu i).cell 1)
    | (go_at_call 83;refine(zkn _ _ _ _ _ (df.pu i) bZ BB.out.2.1 BB.out.2.2.2.2).mono ?_;rintro e u10 ⟨vt,rfl,aX,dk⟩;replace i:=i.trans dk;have hzt2:=aX;obtain⟨gt,At,nt,ct,lt,rfl,_⟩:=hzt2;replace N:=(C.pu i).cell 0;replace L:=(C.pu i).cell 1;replace a7:=(C.pu i).frozen 0;replace a4:=(C.pu i).frozen 1))
   all_goals
    have bS:=C.pu i;have dq:=cF.pu i;obtain⟨_,_,ci,cL⟩:=zA bS gt At nt ct;refine cB.out a8 a6 ax aw aA a9 _ _ _ _ _ _ _ _ gt gs At z nt ct y B _ ((bS.set_ 0 (.bool gt)).set_ 1 (.slice At nt ct)) ((dq.far (p:=⟨w.heap.size+2,0,none⟩) (by dsimp;omega) (.bool gt)).far (p:=⟨w.heap.size+2,1,none⟩) (by dsimp;omega) (.slice At nt ct)) (by rw [M1.out];exact ci _ _ aX) (ci _ _ (aj.pu i)) (cL _ (ds.trans i) (by omega))
  have c8:=Qh bw;clear bw aU hK;go_region_with (first
   | (go_at_call 141;refine(zdn _ (sgn j Y) _ (bc.pu i) BB.out.2.2.1).mono ?_;rintro e u6 ⟨va,rfl,cu,p6⟩;replace i:=i.trans p6;have hza2:=cu;obtain⟨ga,Aa,na,ca,la,rfl,_⟩:=hza2;replace aq:=(t.pu i).cell 0;replace ao:=(t.pu i).cell 1)
   | (go_at_call 174;refine(zgq _ _ _ _ _ cu (az.pu i) BB.out.2.2.2.1 BB.out.1).mono ?_;rintro e u7 ⟨vs,rfl,aj,p7⟩;replace i:=i.trans p7;have hzs2:=aj;obtain⟨gs,z,y,B,ls,rfl,_⟩:=hzs2;replace aq:=(t.pu i).cell 0;replace ao:=(t.pu i).cell 1;replace a0:=(t.pu i).frozen 0;replace a5:=(t.pu i).frozen 1))
  all_goals
   have bV:=t.pu i;have cO:=ak.pu i;have dd:=aN.pu i;obtain⟨_,_,b5,cX⟩:=zA bV gs z y B;rw [zaA]at aj;refine c8.out _ _ _ _ _ _ _ _ _ _ _ _ _ _ gs z y B _ ((dd.far (p:=⟨w.heap.size+3,0,none⟩) (by dsimp;omega) (.bool gs)).far (p:=⟨w.heap.size+3,1,none⟩) (by dsimp;omega) (.slice z y B)) ((cO.far (p:=⟨w.heap.size+3,0,none⟩) (by dsimp;omega) (.bool gs)).far (p:=⟨w.heap.size+3,1,none⟩) (by dsimp;omega) (.slice z y B)) ((bV.set_ 0 (.bool gs)).set_ 1 (.slice z y B)) (b5 _ _ (bc.pu i)) (b5 _ _ (aI.pu i)) (by rw [M2.out];exact b5 _ _ aj) (cX _ (aB.trans i) (by omega))
 ·have bW:∀W',W'=((((J.setCell ⟨w.heap.size+2,0,none⟩ (.bool gq)).setCell ⟨w.heap.size+2,1,none⟩ (.slice Aq nq cq)).setCell ⟨w.heap.size+3,0,none⟩ (.bool gr)).setCell ⟨w.heap.size+3,1,none⟩ (.slice Ar o cr)).drew→W'.cell? ⟨w.heap.size+2,0,none⟩=some (.bool gq)∧W'.cell? ⟨w.heap.size+2,1,none⟩=some (.slice Aq nq cq)∧W'.cell? ⟨w.heap.size+3,0,none⟩=some (.bool gr)∧W'.cell? ⟨w.heap.size+3,1,none⟩=some (.slice Ar o cr)∧ZR W' (.agg #[.bool gq,.slice Aq nq cq]) (sgn I X/sgn j Y)∧ZR W' (.agg #[.bool gr,.slice Ar o cr]) (sgn I X%sgn j Y)∧Pu w W':=by
   intro W' cQ;obtain⟨t1,t2,t3,t4,tz,tp⟩:=zi0 ak t (by omega) gq gr Aq Ar nq cq o cr W' cQ;have hc:I=false∨X%Y=0:=by
    rcases Decidable.em (I=true)with e|e
    ·refine .inr ?_;have h0:o=0:=by
      rcases Decidable.em (o=0)with h|h
      ·exact h
      ·exact absurd ⟨e,h⟩ aS
     have:=b8.out.1 h0;simp [sgn]at this;omega
    ·exact .inl (by simpa using e)
   obtain⟨d1,d2⟩:=zqG I j X Y bB hc;rw [d1,d2];exact⟨t1,t2,t3,t4,tz _ _ aI,tz _ _ az,tp _ aB (by omega) (by omega)⟩
  have Fin:=Qh bW;clear bW;have hg:I=false∨I=true:=by cases I<;>simp
  rcases hg with rfl|rfl
  ·go_wp2_with fail;go_region
   all_goals
    obtain⟨T,S,P,Q,tq,tr,tp⟩:=Fin.out _ rfl;generalize ((((J.setCell ⟨w.heap.size+2,0,none⟩ (.bool gq)).setCell ⟨w.heap.size+2,1,none⟩ (.slice Aq nq cq)).setCell ⟨w.heap.size+3,0,none⟩ (.bool gr)).setCell ⟨w.heap.size+3,1,none⟩ (.slice Ar o cr)).drew=W5 at T S P Q tq tr tp⊢;go_wp2;refine bodyPost_ret (v:= .tuple #[.agg #[.bool gq,.slice Aq nq cq],.agg #[.bool gr,.slice Ar o cr],.int .i64 0]) (by simp [results,Tryz.results154,go_sem,T,S,P,Q]) rfl ⟨_,_,rfl,by rw [←HX.out,←HY.out];exact tq,by rw [←HX.out,←HY.out];exact tr,tp⟩
  ·obtain rfl:o=0:=by
    rcases Decidable.em (o=0)with h|h
    ·exact h
    ·exact absurd ⟨rfl,h⟩ aS
   go_wp2_with fail;go_region
   all_goals
    obtain⟨T,S,P,Q,tq,tr,tp⟩:=Fin.out _ rfl;generalize ((((J.setCell ⟨w.heap.size+2,0,none⟩ (.bool gq)).setCell ⟨w.heap.size+2,1,none⟩ (.slice Aq nq cq)).setCell ⟨w.heap.size+3,0,none⟩ (.bool gr)).setCell ⟨w.heap.size+3,1,none⟩ (.slice Ar 0 cr)).drew=W5 at T S P Q tq tr tp⊢;go_wp2;refine bodyPost_ret (v:= .tuple #[.agg #[.bool gq,.slice Aq nq cq],.agg #[.bool gr,.slice Ar 0 cr],.int .i64 0]) (by simp [results,Tryz.results154,go_sem,T,S,P,Q]) rfl ⟨_,_,rfl,by rw [←HX.out,←HY.out];exact tq,by rw [←HX.out,←HY.out];exact tr,tp⟩
end
end Go.Proofs.YtckfnbckoclhpaaGreatDoor

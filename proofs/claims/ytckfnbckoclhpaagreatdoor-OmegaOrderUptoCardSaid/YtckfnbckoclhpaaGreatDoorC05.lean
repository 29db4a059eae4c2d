/- zed. -/
import Derived.Test.YtckfnbckoclhpaaGreatDoorC04
import Derived.Test.YtckfnbckoclhpaaGreatDoorC02
namespace Go.Proofs.YtckfnbckoclhpaaGreatDoor
set_option linter.unusedVariables false
set_option linter.unusedSimpArgs false
set_option maxRecDepth 100000
set_option maxHeartbeats 8000000
section
open Go.RowKit
theorem zp4(i y:Bool)(x o:Option Addr)(k t j p:Nat)(z B:List Nat)(w:World)(S:i=y)(R:Sl w 1 x k t (wds z))(K:Sl w 1 o j p (wds B))(P:zg 4294967296 z)(Q:zg 4294967296 B)(ae:zdl z)(af:zdl B)(ai:k≤9000000000)(ag:j≤9000000000):Calls Tryz.prog 83 #[.agg #[.bool i,.slice x k t],.agg #[.bool y,.slice o j p]] w fun e w'=>∃H,e= .returned H∧ZR w' H (sgn i (zd 4294967296 z+zd 4294967296 B))∧Pu w w':=by
 have X:Pu w (((w.alloc (.cells #[.bool i,.slice x k t] 30)).alloc (.cells #[.bool y,.slice o j p] 30)).alloc (.cells #[.bool false,.slice none 0 0] 30)):=(((Pu.refl w).alloc _).alloc _).alloc _;have hR:Blk (((w.alloc (.cells #[.bool i,.slice x k t] 30)).alloc (.cells #[.bool y,.slice o j p] 30)).alloc (.cells #[.bool false,.slice none 0 0] 30)) (w.heap.size+2) 30 #[.bool false,.slice none 0 0]:=Blk.at_new _ _ _ (by simp);have N:Blk (((w.alloc (.cells #[.bool i,.slice x k t] 30)).alloc (.cells #[.bool y,.slice o j p] 30)).alloc (.cells #[.bool false,.slice none 0 0] 30)) w.heap.size 30 #[.bool i,.slice x k t]:=((Blk.new w _ _).alloc _).alloc _;have ah:Blk (((w.alloc (.cells #[.bool i,.slice x k t] 30)).alloc (.cells #[.bool y,.slice o j p] 30)).alloc (.cells #[.bool false,.slice none 0 0] 30)) (w.heap.size+1) 30 #[.bool y,.slice o j p]:=(Blk.at_new _ _ _ (by simp)).alloc _;subst S;have eg:(i==i)=true:=by simp
 have C:=X.drew;have J:=hR.drew;have W:=N.drew;go_enter Tryz.func83,Tryz.ntmps83;go_wp2_with fail;go_region_with (first
  | (go_at_call 125;refine(zpj x o k t j p z B _ (R.pu C) (K.pu C) (by omega) (by omega) P Q).mono ?_;rintro e u1 ⟨T,n3,U,Y,rfl,aj,I,G,F,M,O,E⟩;have j0:u1.cell? ⟨w.heap.size,0,none⟩=some (.bool i):=(W.pu E).cell 0;have pw:=C.trans E)
  | (go_at_call 63;refine(zbJ i T _ U Y _ G (by omega) I F O).mono ?_;rintro e u2 ⟨H,rfl,D,L⟩;have hz2:=D;obtain⟨g',A',n',c',l',rfl,_⟩:=hz2;have hR2:=(J.pu E).pu L;have q0:u2.cell? ⟨w.heap.size+2,0,none⟩=some (.bool false):=hR2.cell 0;have q1:u2.cell? ⟨w.heap.size+2,1,none⟩=some (.slice none 0 0):=hR2.cell 1;have f0:u2.frozen? ⟨w.heap.size+2,0,none⟩=false:=hR2.frozen 0;have f1:u2.frozen? ⟨w.heap.size+2,1,none⟩=false:=hR2.frozen 1;clear E G F))
 all_goals
  obtain⟨Z,r1,V,rp⟩:=zA hR2 g' A' n' c';rw [M]at D;go_wp2;refine bodyPost_ret (v:= .agg #[.bool g',.slice A' n' c']) (by simp [results,Tryz.results83,go_sem,Z,r1]) rfl ⟨_,rfl,V _ _ D,rp _ (pw.trans L) (by omega)⟩
theorem zrt(i y:Bool)(x o:Option Addr)(k t j p:Nat)(z B:List Nat)(w:World)(S:y=!i)(L:Sl w 1 x k t (wds z))(G:Sl w 1 o j p (wds B))(J:zg 4294967296 z)(K:zg 4294967296 B)(U:zdl z)(H:zdl B)(av:k≤9000000000)(ap:j≤9000000000)(X:zd 4294967296 B≤zd 4294967296 z):Calls Tryz.prog 83 #[.agg #[.bool i,.slice x k t],.agg #[.bool y,.slice o j p]] w fun e w'=>∃O,e= .returned O∧ZR w' O (sgn i (zd 4294967296 z - zd 4294967296 B))∧Pu w w':=by
 have Q:Pu w (((w.alloc (.cells #[.bool i,.slice x k t] 30)).alloc (.cells #[.bool y,.slice o j p] 30)).alloc (.cells #[.bool false,.slice none 0 0] 30)):=(((Pu.refl w).alloc _).alloc _).alloc _;have hR:Blk (((w.alloc (.cells #[.bool i,.slice x k t] 30)).alloc (.cells #[.bool y,.slice o j p] 30)).alloc (.cells #[.bool false,.slice none 0 0] 30)) (w.heap.size+2) 30 #[.bool false,.slice none 0 0]:=Blk.at_new _ _ _ (by simp);have Z:Blk (((w.alloc (.cells #[.bool i,.slice x k t] 30)).alloc (.cells #[.bool y,.slice o j p] 30)).alloc (.cells #[.bool false,.slice none 0 0] 30)) w.heap.size 30 #[.bool i,.slice x k t]:=((Blk.new w _ _).alloc _).alloc _;have aa:Blk (((w.alloc (.cells #[.bool i,.slice x k t] 30)).alloc (.cells #[.bool y,.slice o j p] 30)).alloc (.cells #[.bool false,.slice none 0 0] 30)) (w.heap.size+1) 30 #[.bool y,.slice o j p]:=(Blk.at_new _ _ _ (by simp)).alloc _;have eg:(i==y)=false:=by rw [S];cases i<;>rfl
 have N:=zbh x o k t j p z B _ (L.pu Q) (G.pu Q) (by omega) (by omega) J K U H;have ec:decide (zfY (zd 4294967296 z) (zd 4294967296 B)≥0)=true:=by unfold zfY;rw [if_neg (by omega)];split<;>simp
 have ao:decide (0≤zfY (zd 4294967296 z) (zd 4294967296 B))=true:=by simpa using ec
 clear S;go_enter Tryz.func83,Tryz.ntmps83;go_wp2_with fail;refine N.mono ?_;rintro e u0 ⟨rfl,F⟩;have P:=Z.pu F;have R:=aa.pu F;have V:=(hR.pu F).drew;have C:=(Q.trans F).drew;have aw:u0.cell? ⟨w.heap.size,0,none⟩=some (.bool i):=P.cell 0;have au:u0.cell? ⟨w.heap.size,1,none⟩=some (.slice x k t):=P.cell 1;have aq:u0.cell? ⟨w.heap.size+1,0,none⟩=some (.bool y):=R.cell 0;have ax:u0.cell? ⟨w.heap.size+1,1,none⟩=some (.slice o j p):=R.cell 1;go_wp2_with fail;go_region_with (first
  | (go_at_call 127;refine(zjv x o k t j p z B _ (L.pu C) (G.pu C) (by omega) (by omega) J K H X).mono ?_;rintro e u1 ⟨A3,_,c3,l3,rfl,rfl,T,M,I,Y,ad,E⟩;have j0:u1.cell? ⟨w.heap.size,0,none⟩=some (.bool i):=(P.drew.pu E).cell 0;have pw:=C.trans E)
  | (go_at_call 63;refine(zbJ i A3 _ c3 l3 _ M (by omega) T I ad).mono ?_;rintro e u2 ⟨O,rfl,D,W⟩;have hz2:=D;obtain⟨g',A',n',c',l',rfl,_⟩:=hz2;have hR2:=(V.pu E).pu W;have q0:u2.cell? ⟨w.heap.size+2,0,none⟩=some (.bool false):=hR2.cell 0;have q1:u2.cell? ⟨w.heap.size+2,1,none⟩=some (.slice none 0 0):=hR2.cell 1;have f0:u2.frozen? ⟨w.heap.size+2,0,none⟩=false:=hR2.frozen 0;have f1:u2.frozen? ⟨w.heap.size+2,1,none⟩=false:=hR2.frozen 1;clear E M I))
 all_goals
  obtain⟨r0,r1,rz,rp⟩:=zA hR2 g' A' n' c';rw [Y]at D;go_wp2;refine bodyPost_ret (v:= .agg #[.bool g',.slice A' n' c']) (by simp [results,Tryz.results83,go_sem,r0,r1]) rfl ⟨_,rfl,rz _ _ D,rp _ (pw.trans W) (by omega)⟩
theorem zrG(t i:Bool)(y o:Option Addr)(k x j p:Nat)(z B:List Nat)(w:World)(R:i=!t)(L:Sl w 1 y k x (wds z))(H:Sl w 1 o j p (wds B))(J:zg 4294967296 z)(K:zg 4294967296 B)(G:zdl z)(W:zdl B)(av:k≤9000000000)(ap:j≤9000000000)(V:zd 4294967296 z<zd 4294967296 B):Calls Tryz.prog 83 #[.agg #[.bool t,.slice y k x],.agg #[.bool i,.slice o j p]] w fun e w'=>∃P,e= .returned P∧ZR w' P (sgn i (zd 4294967296 B - zd 4294967296 z))∧Pu w w':=by
 have Q:Pu w (((w.alloc (.cells #[.bool t,.slice y k x] 30)).alloc (.cells #[.bool i,.slice o j p] 30)).alloc (.cells #[.bool false,.slice none 0 0] 30)):=(((Pu.refl w).alloc _).alloc _).alloc _;have hR:Blk (((w.alloc (.cells #[.bool t,.slice y k x] 30)).alloc (.cells #[.bool i,.slice o j p] 30)).alloc (.cells #[.bool false,.slice none 0 0] 30)) (w.heap.size+2) 30 #[.bool false,.slice none 0 0]:=Blk.at_new _ _ _ (by simp);have Z:Blk (((w.alloc (.cells #[.bool t,.slice y k x] 30)).alloc (.cells #[.bool i,.slice o j p] 30)).alloc (.cells #[.bool false,.slice none 0 0] 30)) w.heap.size 30 #[.bool t,.slice y k x]:=((Blk.new w _ _).alloc _).alloc _;have aa:Blk (((w.alloc (.cells #[.bool t,.slice y k x] 30)).alloc (.cells #[.bool i,.slice o j p] 30)).alloc (.cells #[.bool false,.slice none 0 0] 30)) (w.heap.size+1) 30 #[.bool i,.slice o j p]:=(Blk.at_new _ _ _ (by simp)).alloc _;have eg:(t==i)=false:=by rw [R];cases t<;>rfl
 have O:=zbh y o k x j p z B _ (L.pu Q) (H.pu Q) (by omega) (by omega) J K G W;have ec:decide (zfY (zd 4294967296 z) (zd 4294967296 B)≥0)=false:=by unfold zfY;rw [if_pos V];rfl
 have ao:decide (0≤zfY (zd 4294967296 z) (zd 4294967296 B))=false:=by simpa using ec
 clear R;go_enter Tryz.func83,Tryz.ntmps83;go_wp2_with fail;refine O.mono ?_;rintro e u0 ⟨rfl,F⟩;have Y:=Z.pu F;have N:=aa.pu F;have T:=(hR.pu F).drew;have C:=(Q.trans F).drew;have aw:u0.cell? ⟨w.heap.size,0,none⟩=some (.bool t):=Y.cell 0;have au:u0.cell? ⟨w.heap.size,1,none⟩=some (.slice y k x):=Y.cell 1;have aq:u0.cell? ⟨w.heap.size+1,0,none⟩=some (.bool i):=N.cell 0;have ax:u0.cell? ⟨w.heap.size+1,1,none⟩=some (.slice o j p):=N.cell 1;go_wp2_with fail;go_region_with (first
  | (go_at_call 127;refine(zjv o y j p k x B z _ (H.pu C) (L.pu C) (by omega) (by omega) K J G (by omega)).mono ?_;rintro e u1 ⟨A3,_,c3,l3,rfl,rfl,S,M,I,X,ad,E⟩;have j0:u1.cell? ⟨w.heap.size+1,0,none⟩=some (.bool i):=(N.drew.pu E).cell 0;have pw:=C.trans E)
  | (go_at_call 63;refine(zbJ i A3 _ c3 l3 _ M (by omega) S I ad).mono ?_;rintro e u2 ⟨P,rfl,D,U⟩;have hz2:=D;obtain⟨g',A',n',c',l',rfl,_⟩:=hz2;have hR2:=(T.pu E).pu U;have q0:u2.cell? ⟨w.heap.size+2,0,none⟩=some (.bool false):=hR2.cell 0;have q1:u2.cell? ⟨w.heap.size+2,1,none⟩=some (.slice none 0 0):=hR2.cell 1;have f0:u2.frozen? ⟨w.heap.size+2,0,none⟩=false:=hR2.frozen 0;have f1:u2.frozen? ⟨w.heap.size+2,1,none⟩=false:=hR2.frozen 1;clear E M I))
 all_goals
  obtain⟨r0,r1,rz,rp⟩:=zA hR2 g' A' n' c';rw [X]at D;go_wp2;refine bodyPost_ret (v:= .agg #[.bool g',.slice A' n' c']) (by simp [results,Tryz.results83,go_sem,r0,r1]) rfl ⟨_,rfl,rz _ _ D,rp _ (pw.trans U) (by omega)⟩
theorem znq{a b:Nat}(h:a≤b):(4294967296:Nat)^a≤4294967296^b:=Nat.pow_le_pow_right (by decide) h
theorem zkn(N S:Value)(H J:Int)(w:World)(T:ZR w N H)(U:ZR w S J)(R:H.natAbs<4294967296^E9)(Q:J.natAbs<4294967296^E9):Calls Tryz.prog 83 #[N,S] w fun e w'=>∃v',e= .returned v'∧ZR w' v' (H+J)∧Pu w w':=by
 obtain⟨i,L,M,K,o,rfl,y,C,t,Z,⟨ad,V⟩,rfl⟩:=T;obtain⟨j,G,E,I,p,rfl,v,D,x,X,⟨Y,W⟩,rfl⟩:=U;rw [zaA]at R Q;have P:=zaC (k:=E9) t R;rw [show E9=9000000000 from rfl]at P;have O:=zaC (k:=E9) x Q;rw [show E9=9000000000 from rfl]at O;have aa:=y.wlen;have ae:=v.wlen;by_cases F:i=j
 ·have B:sgn i (zd 4294967296 o)+sgn j (zd 4294967296 p)=sgn i (zd 4294967296 o+zd 4294967296 p):=by
   subst F
   cases i<;>simp [sgn]<;>omega
  rw [B];exact zp4 i j L G M K E I o p w F y v C D t x (by omega) (by omega)
 ·have z:j=!i:=by revert F;cases i<;>cases j<;>simp
  rcases Nat.lt_or_ge (zd 4294967296 o) (zd 4294967296 p)with hlt|hge
  ·have B:sgn i (zd 4294967296 o)+sgn j (zd 4294967296 p)=sgn j (zd 4294967296 p - zd 4294967296 o):=by
    subst z
    cases i<;>simp [sgn]<;>omega
   rw [B];exact zrG i j L G M K E I o p w z y v C D t x (by omega) (by omega) hlt
  ·have B:sgn i (zd 4294967296 o)+sgn j (zd 4294967296 p)=sgn i (zd 4294967296 o - zd 4294967296 p):=by
    subst z
    cases i<;>simp [sgn]<;>omega
   rw [B];exact zrt i j L G M K E I o p w z y v C D t x (by omega) (by omega) hge
theorem zgq(D E:Value)(o i:Int)(w:World)(T:ZR w D o)(X:ZR w E i)(b1:o.natAbs<4294967296^E4)(S:i.natAbs<4294967296^E4):Calls Tryz.prog 174 #[D,E] w fun e w'=>∃j,e= .returned j∧ZR w' j (o - i)∧Pu w w':=by
 have up:=znq (show E4≤E9 by decide);have k:=fun W (N:ZR W E i)=>zdp E i W N S;have z:=fun j W (Y:ZR W D o) (N:ZR W j (-i))=>zkn D j o (-i) W Y N (Nat.lt_of_lt_of_le b1 up) (by rw [Int.natAbs_neg];exact Nat.lt_of_lt_of_le S up);have U:=T;have P:=X;obtain⟨t,B,C,y,l1,rfl,V,aq,ah,am,ap,_⟩:=T;obtain⟨K,J,I,L,l2,rfl,Q,au,ai,aj,ao,_⟩:=X;have hW:Pu w (((w.alloc (.cells #[.bool t,.slice B C y] 30)).alloc (.cells #[.bool K,.slice J I L] 30)).alloc (.cells #[.bool false,.slice none 0 0] 30)):=(((Pu.refl w).alloc _).alloc _).alloc _;have hR:Blk (((w.alloc (.cells #[.bool t,.slice B C y] 30)).alloc (.cells #[.bool K,.slice J I L] 30)).alloc (.cells #[.bool false,.slice none 0 0] 30)) (w.heap.size+2) 30 #[.bool false,.slice none 0 0]:=Blk.at_new _ _ _ (by simp);have G:Blk (((w.alloc (.cells #[.bool t,.slice B C y] 30)).alloc (.cells #[.bool K,.slice J I L] 30)).alloc (.cells #[.bool false,.slice none 0 0] 30)) w.heap.size 30 #[.bool t,.slice B C y]:=((Blk.new w _ _).alloc _).alloc _;have x:=hW.drew;have O:=Qh k;have M:=Qh z;clear k z V Q;go_enter Tryz.func174,Tryz.ntmps174;go_wp2_with fail;go_region_with (first
  | (go_at_call 84;refine(O.out _ (P.pu x)).mono ?_;rintro e u1 ⟨j,rfl,H,p⟩;have hz2:=H;obtain⟨g',A',n',c',l',rfl,_⟩:=hz2;have j0:u1.cell? ⟨w.heap.size,0,none⟩=some (.bool t):=(G.drew.pu p).cell 0;have j1:u1.cell? ⟨w.heap.size,1,none⟩=some (.slice B C y):=(G.drew.pu p).cell 1)
  | (go_at_call 83;refine(M.out _ _ ((U.pu x).pu p) H).mono ?_;rintro e u2 ⟨ak,rfl,F,R⟩;have hy2:=F;obtain⟨g6,A6,n6,c6,l6,rfl,_⟩:=hy2;have hR2:=(hR.drew.pu p).pu R;have q0:u2.cell? ⟨w.heap.size+2,0,none⟩=some (.bool false):=hR2.cell 0;have q1:u2.cell? ⟨w.heap.size+2,1,none⟩=some (.slice none 0 0):=hR2.cell 1;have f0:u2.frozen? ⟨w.heap.size+2,0,none⟩=false:=hR2.frozen 0;have f1:u2.frozen? ⟨w.heap.size+2,1,none⟩=false:=hR2.frozen 1))
 all_goals
  obtain⟨r0,r1,Z,rp⟩:=zA hR2 g6 A6 n6 c6;go_wp2;refine bodyPost_ret (v:= .agg #[.bool g6,.slice A6 n6 c6]) (by simp [results,Tryz.results174,go_sem,r0,r1]) rfl ⟨_,rfl,Z _ _ F,rp _ ((x.trans p).trans R) (by omega)⟩
end
section
open Go.RowKit
theorem zcB (v1 v2 : Value) (U Y : Int) (q : Nat) (w : World) (h1 : ZR w v1 U) (h2 : ZR w v2 Y) (b1 : U.natAbs < 4294967296 ^ E9) (b2 : Y.natAbs < 4294967296 ^ E9) (hq : Blk w q 30 v2.cells) :
    Calls Tryz.prog 49 #[v1, .slice (some ⟨q, 0, none⟩) 1 1] w fun e w' => ∃ v', e = .returned v' ∧ ZR w' v' (U + Y) ∧ Pu w w' := by
  have af := fun v W (H1 : ZR W v U) (H2 : ZR W v2 Y) => zkn v v2 U Y W H1 H2 b1 b2
  have bo := h1
  have aO := h2
  obtain ⟨i, M, p, I, Q, rfl, Z, aE, av, aJ, ⟨bs, bt⟩, rfl⟩ := h1
  obtain ⟨z, J, L, H, l2, rfl, bu, b9, b5, bz, ⟨b0, bw⟩, rfl⟩ := h2
  rw [zaA] at b1 b2
  have aU := zaC (k := E9) av b1
  rw [show E9 = 9000000000 from rfl] at aU
  have b6 := Z.wlen
  have au : Blk w q 30 #[.bool z, .slice J L H] := hq
  have hW : Pu w ((w.alloc (.cells #[.bool i, .slice M p I] 30)).alloc (.cells #[.bool false, .slice none 0 0] 30)) := ((Pu.refl w).alloc _).alloc _
  have hR : Blk ((w.alloc (.cells #[.bool i, .slice M p I] 30)).alloc (.cells #[.bool false, .slice none 0 0] 30)) (w.heap.size + 1) 30 #[.bool false, .slice none 0 0] := Blk.at_new _ _ _ (by simp)
  have aw : Blk ((w.alloc (.cells #[.bool i, .slice M p I] 30)).alloc (.cells #[.bool false, .slice none 0 0] 30)) w.heap.size 30 #[.bool i, .slice M p I] := (Blk.new w _ _).alloc _
  have b7 := hW.drew
  go_enter Tryz.func49, Tryz.ntmps49
  go_wp2_with fail
  have aB := hR.alloc (.cells #[.bool false, .slice none 0 0] 30)
  have aA := aw.alloc (.cells #[.bool false, .slice none 0 0] 30)
  have ap := hW.alloc (.cells #[.bool false, .slice none 0 0] 30)
  have hO : Blk ((((w.alloc (.cells #[.bool i, .slice M p I] 30)).alloc (.cells #[.bool false, .slice none 0 0] 30)).alloc (.cells #[.bool false, .slice none 0 0] 30))) (w.heap.size + 1 + 1) 30 #[.bool false, .slice none 0 0] := Blk.at_new _ _ _ (by simp)
  have b8 := au.lt
  have a6 := Qh af
  clear af
  rename_i K HK
  have am : ∀ (o : Nat) (t : Option Addr) (x : Nat) (W : World), Blk W o 30 #[.bool i, .slice t p x] → ZR W (.agg #[.bool i, .slice t p x]) (sgn i (zd 4294967296 Q)) → ZR W (.agg #[.bool z, .slice J L H]) (sgn z (zd 4294967296 l2)) → Blk W (w.heap.size + 1) 30 #[.bool false, .slice none 0 0] → Blk W q 30 #[.bool z, .slice J L H] → Pu w W → w.heap.size + 1 < o → q < w.heap.size →
      K { tmps := #[.agg #[.bool i, .slice M p I], .slice (some ⟨q, 0, none⟩) 1 1, .pointer (some ⟨w.heap.size, 0, none⟩), undef, .pointer (some ⟨w.heap.size + 1, 0, none⟩), .pointer (some ⟨o, 0, none⟩), undef, undef, .pointer (some ⟨w.heap.size, 0, none⟩), .bool i, .pointer (some ⟨w.heap.size, 1, none⟩), .slice M p I, .slice t p x, .agg #[.bool i, .slice t p x], undef, undef, undef, undef, undef, undef, undef, undef, undef, undef, undef], defers := [] } W := by
    intro o t x W xO x1 x2 xR xQ xP bp b4
    apply HK
    go_wp2_with fail
    go_loopw [16] (fun v S => ∃ (j : Nat) (C : Bool) (E : Option Addr) (D F : Nat), j ≤ 1 ∧ v = .int .i64 j ∧ Blk S o 30 #[.bool C, .slice E D F] ∧ ZR S (.agg #[.bool C, .slice E D F]) (if j = 0 then sgn i (zd 4294967296 Q) else sgn i (zd 4294967296 Q) + sgn z (zd 4294967296 l2)) ∧ ZR S (.agg #[.bool z, .slice J L H]) (sgn z (zd 4294967296 l2)) ∧ Blk S (w.heap.size + 1) 30 #[.bool false, .slice none 0 0] ∧ Blk S q 30 #[.bool z, .slice J L H] ∧ Pu w S) (fun v _ => 1 - (intOf v).toNat)
    case atStart => exact ⟨0, i, t, p, x, by omega, rfl, xO, x1, x2, xR, xQ, xP⟩
    case round =>
      clear xO x1 x2 xR xQ xP
      obtain ⟨j, C, E, D, F, hj, rfl, N, y1, y2, P, yQ, yP⟩ := hrel
      rcases (show j = 0 ∨ j = 1 by omega) with rfl | rfl
      · have r0 : wr.cell? ⟨q, 0, none⟩ = some (.bool z) := yQ.cell 0
        have r1 : wr.cell? ⟨q, 1, none⟩ = some (.slice J L H) := yQ.cell 1
        have r2 : wr.cell? ⟨o, 0, none⟩ = some (.bool C) := N.cell 0
        have r3 : wr.cell? ⟨o, 1, none⟩ = some (.slice E D F) := N.cell 1
        have bq := N.lt
        have aa : Pu wr (wr.alloc (.cells #[.bool z, .slice J L H] 30)) := (Pu.refl wr).alloc _
        have ao : ZR (wr.alloc (.cells #[.bool z, .slice J L H] 30)) (.agg #[.bool C, .slice E D F]) (sgn i (zd 4294967296 Q)) := y1.pu aa
        go_wp2_with fail
        refine (a6.out _ _ ao (y2.pu aa)).mono ?_
        rintro e G ⟨va, rfl, yz, yp⟩
        have aH := yz
        obtain ⟨g7, V, T, c7, l7, rfl, _⟩ := aH
        have B := aa.trans yp
        have y := N.pu B
        have q0 : G.cell? ⟨o, 0, none⟩ = some (.bool C) := y.cell 0
        have q1 : G.cell? ⟨o, 1, none⟩ = some (.slice E D F) := y.cell 1
        have f0 : G.frozen? ⟨o, 0, none⟩ = false := y.frozen 0
        have f1 : G.frozen? ⟨o, 1, none⟩ = false := y.frozen 1
        have R : Fr (fun k => k = o) G ((G.setCell ⟨o, 0, none⟩ (.bool g7)).setCell ⟨o, 1, none⟩ (.slice V T c7)) := (Fr.one G _ 0 _).trans (Fr.one _ _ 1 _)
        have a9 : Blk ((G.setCell ⟨o, 0, none⟩ (.bool g7)).setCell ⟨o, 1, none⟩ (.slice V T c7)) o 30 #[.bool g7, .slice V T c7] := by have := (y.set_ 0 (.bool g7)).set_ 1 (.slice V T c7); simpa using this
        have e1 := yz.frBlk y (by simp) R
        have e2 := (y2.pu B).frBlk y (by simp) R
        have e3 := (P.pu B).fr R (by omega)
        have e4 := (yQ.pu B).fr R (by omega)
        have e5 := (yP.trans B).step R (fun k e => by omega)
        clear N y y1 ao y2 P yQ yP yz yp B R
        go_wp2
        go_roundw
        case rel => exact ⟨1, g7, V, T, c7, by omega, rfl, a9, e1, e2, e3, e4, e5⟩
        case measure => simp [intOf]
      · have r2 : wr.cell? ⟨o, 0, none⟩ = some (.bool C) := N.cell 0
        have r3 : wr.cell? ⟨o, 1, none⟩ = some (.slice E D F) := N.cell 1
        have q0 : wr.cell? ⟨w.heap.size + 1, 0, none⟩ = some (.bool false) := P.cell 0
        have q1 : wr.cell? ⟨w.heap.size + 1, 1, none⟩ = some (.slice none 0 0) := P.cell 1
        have f0 : wr.frozen? ⟨w.heap.size + 1, 0, none⟩ = false := P.frozen 0
        have f1 : wr.frozen? ⟨w.heap.size + 1, 1, none⟩ = false := P.frozen 1
        obtain ⟨s0, s1, sz, sp⟩ := zA P C E D F
        go_wp2
        refine bodyPost_ret (v := .agg #[.bool C, .slice E D F]) (by simp [results, Tryz.results49, go_sem, s0, s1]) rfl ⟨_, rfl, sz _ _ y1, sp _ yP (by omega)⟩
  have Key := Qh am
  clear am
  go_region_with (first
    | (go_at_call 82; refine (zey M p I Q _ (by first | exact Z.pu hW.drew | exact Z.pu ap.drew) (by omega)).mono ?_; rintro e u1 ⟨t, x, rfl, ae, O⟩; have pw : Pu w u1 := (by first | exact hW.drew.trans O | exact ap.drew.trans O); have j0 : u1.cell? ⟨w.heap.size, 0, none⟩ = some (.bool i) := (by first | exact (aw.drew.pu O).cell 0 | exact (aA.drew.pu O).cell 0); have kR : Blk u1 (w.heap.size + 1) 30 #[.bool false, .slice none 0 0] := (by first | exact hR.drew.pu O | exact aB.drew.pu O); have hx1 : w.heap.size + 1 < u1.heap.size := kR.lt; have hx0 : w.heap.size < u1.heap.size := (by omega); first | (have kO := hO.drew.pu O; have q0 : u1.cell? ⟨w.heap.size + 1 + 1, 0, none⟩ = some (.bool false) := kO.cell 0; have q1 : u1.cell? ⟨w.heap.size + 1 + 1, 1, none⟩ = some (.slice none 0 0) := kO.cell 1; have f0 : u1.frozen? ⟨w.heap.size + 1 + 1, 0, none⟩ = false := kO.frozen 0; have f1 : u1.frozen? ⟨w.heap.size + 1 + 1, 1, none⟩ = false := kO.frozen 1) | skip))
  all_goals
    have aq : ZR u1 (.agg #[.bool i, .slice t p x]) (sgn i (zd 4294967296 Q)) := ⟨i, t, p, x, Q, rfl, Sl.of_own ae, aE, av, aJ, ⟨(zci ae).2, W32.of_own ae⟩, rfl⟩
    have ax := aO.pu pw
    have kQ := au.pu pw
  all_goals first
    | exact Key.out u1.heap.size t x _ (Blk.new _ _ _) (aq.pu ((Pu.refl _).alloc _)) (ax.pu ((Pu.refl _).alloc _)) (kR.alloc _) (kQ.alloc _) (pw.alloc _) (by omega) (by omega)
    | (have xO : Blk ((u1.setCell ⟨w.heap.size + 1 + 1, 0, none⟩ (.bool i)).setCell ⟨w.heap.size + 1 + 1, 1, none⟩ (.slice t p x)) (w.heap.size + 1 + 1) 30 #[.bool i, .slice t p x] := by have := (kO.set_ 0 (.bool i)).set_ 1 (.slice t p x); simpa using this
       have X : Fr (fun k => k = w.heap.size + 1 + 1) u1 ((u1.setCell ⟨w.heap.size + 1 + 1, 0, none⟩ (.bool i)).setCell ⟨w.heap.size + 1 + 1, 1, none⟩ (.slice t p x)) := (Fr.one u1 _ 0 _).trans (Fr.one _ _ 1 _)
       exact Key.out (w.heap.size + 1 + 1) t x _ xO (aq.frBlk kO (by simp) X) (ax.frBlk kO (by simp) X) (kR.fr X (by omega)) (kQ.fr X (by omega)) (pw.step X (fun k e => by omega)) (by omega) (by omega))
end
end Go.Proofs.YtckfnbckoclhpaaGreatDoor

/- The solver. -/
import Derived.Test.YtckfnbckoclhpaaGreatDoorF6
import Derived.Test.YtckfnbckoclhpaaGreatDoorF2
import Derived.Test.YtckfnbckoclhpaaGreatDoorF1
import Derived.Test.YtckfnbckoclhpaaGreatDoorE29
namespace Go.Proofs.YtckfnbckoclhpaaGreatDoor
set_option linter.unusedVariables false
set_option linter.unusedSimpArgs false
set_option maxRecDepth 100000
set_option maxHeartbeats 16000000
section
open Go.RowKit
theorem zii{f:Nat}(i:f≤2100){rest:Int}{fs j:List (Key×Int)}(v:rest.natAbs≤2^RR)(o:zad (2^(BB+1)) fs)(p:zad (2^VB f) j):zjd (2^RR) (2^(BB+1)) (2^VB f) rest fs j:=by
 have w:VB f≤VB 2100:=zqI i;have e:VB 2100=44700021000:=by decide
 have z:RR≤VB f:=by unfold VB;omega
 refine⟨v,o,p,?_,zaB (by unfold BB;omega),zrE i⟩;have B:=zbc (c:=1100000) (m:=21) (VB f+(BB+1)) (by decide);have y:=ziM RR (21+(VB f+(BB+1))) (22+(VB f+(BB+1))) (by omega) (by omega);have x:=zaB (n:=22+(VB f+(BB+1))) (by unfold BB;omega);rw [zcx];omega
section
variable{NM:List Key}{f:Nat}{l:List RowM}{t:RowM}{k:Key}
theorem zlT(h:Fit NM f l)(j:t∈l)(z:Int):zad (2^BB) (zc0 k z [] t.fs):=fun p o=>by
 have i:=zl (zdS t.fs [] List.Pairwise.nil (k:=k) (f:=z)) o;rw [zbR t.fs [] (h.sys.rise t j) List.Pairwise.nil,zcb,Int.zero_add]at i;rw [←i];split
 ·exact Nat.zero_le _
 ·exact Nat.le_trans (zbx _ _) (h.min.entry j p.1)
theorem zok(h:Fit NM f l)(w:zfo NM)(j:t∈l)(z:Int):(zc0 k z [] t.fs).length≤60:=by have o:=zdS t.fs [] List.Pairwise.nil (k:=k) (f:=z);have x:=zlq t.fs [] List.Pairwise.nil NZ.nil (k:=k) (f:=z);refine Nat.le_trans (zc7 NM _ o fun p v=>h.sys.nm t j p.1 fun e=>?_) w.few;have i:=zde o x v;rw [zbR t.fs [] (h.sys.rise t j) List.Pairwise.nil,zcb,Int.zero_add,e,Int.zero_ediv]at i;split at i<;>exact i rfl
structure EqB(NM:List Key)(t:RowM)(k:Key):Prop where
 fc:(factor t.fs k).natAbs≤2^BB
 fc3:(factor t.fs k).natAbs<4294967296^E3
 rest:t.rest.natAbs<4294967296^E3
 up:zad (2^BB) t.fs
 few:t.fs.length≤60
 k1:zad (2^BB) [(k,(1:Int))]
 q:zoa (2^BB) t.rest (factor t.fs k) t.fs
 qr:(t.rest/factor t.fs k).natAbs<4294967296^E3
 qu:zad (2^BB) (zc0 k (factor t.fs k) [] t.fs)
 qn:(zc0 k (factor t.fs k) [] t.fs).length≤60
 ou:zad (2^BB) (zG [] [(k,1)] (factor t.fs k))
 ol:(zG [] [(k,1)] (factor t.fs k)).length≤1
 big:2^BB+1100000*2^BB<4294967296^E3
 m1:∀g∈[(k,(1:Int))],(g.2*factor t.fs k).natAbs≤2^BB
 s3:∀g∈[(k,(1:Int))],g.2.natAbs<4294967296^E3
 big1:1100000*2^BB<4294967296^E3
 d3:∀g∈zG t.fs (zG [] [(k,1)] (factor t.fs k)) (-1),g.2.natAbs<4294967296^E3
 dm:∀g∈zG t.fs (zG [] [(k,1)] (factor t.fs k)) (-1),(g.2* -(factor t.fs k)).natAbs≤2^BB*2^BB
 dl:(zG t.fs (zG [] [(k,1)] (factor t.fs k)) (-1)).length<300
 bm:1100000*(2^BB*2^BB)<4294967296^E3
 n3:(-(factor t.fs k)).natAbs<4294967296^E3
theorem Fit.eqB(h:Fit NM f l)(F:zfo NM)(j:t∈l)(J:factor t.fs k≠0):EqB NM t k:=by
 have I:=h.sys.rise t j;have y:(2:Nat)^BB<4294967296^E3:=zaB (by unfold BB;omega);have v:=h.min.entry j k;have w:=Nat.lt_of_le_of_lt v y;have z:2^BB+1100000*2^BB<4294967296^E3:=zlh;have x:60*2^BB+1100000*2^BB<4294967296^E3:=by have H:=zbc (c:=1100060) (m:=21) BB (by decide);have E:=zaB (n:=21+BB) (by unfold BB;omega);omega
 have B:=zf0 BB;have o:∀g∈[(k,(1:Int))],g.2=1:=fun g i=>by rw [List.mem_singleton.1 i]
 have G:∀g∈zG t.fs (zG [] [(k,1)] (factor t.fs k)) (-1),g.2.natAbs≤2^BB:=fun g i=>by
  have C:=zl (zac _ _ I) i;rw [zak _ _ I (zeU ..),zcP]at C;rw [←C];split
  ·rename_i e;rw [e];have:factor t.fs k+factor t.fs k* -1=0:=by omega
   rw [this];exact Nat.zero_le _
  ·rw [Int.zero_mul,Int.add_zero];exact h.min.entry j g.1
 have K:=zcA (n:= -1) (zG [] [(k,1)] (factor t.fs k)) t.fs;have D:=zkp k (factor t.fs k);have p:=h.few F j;refine⟨v,w,h.rest3 j,h.up j,p,fun g i=>by rw [o g i];exact B,⟨J,h.rest3 j,w,h.up j,p,x⟩,Nat.lt_of_le_of_lt (zbx _ _) (h.rest3 j),zlT h j _,zok h F j _,ziA v,D,z,fun g i=>by rw [o g i,Int.one_mul];exact v,fun g i=>by rw [o g i];exact Nat.lt_of_le_of_lt B y,by omega,fun g i=>Nat.lt_of_le_of_lt (G g i) y,fun g i=>by rw [Int.natAbs_mul,Int.natAbs_neg];exact Nat.mul_le_mul (G g i) v,by omega,?_,by rw [Int.natAbs_neg];exact w⟩;have H:=zbc (c:=1100000) (m:=21) (BB+BB) (by decide);have E:=zaB (n:=21+(BB+BB)) (by unfold BB;omega);rw [zcx];exact Nat.lt_of_le_of_lt H E
end
theorem zlX{d:Nat}(hS:zer d)(NM:List Key)(l:List RowM)(t:RowM)(v:Value)(A:Option Addr)(n c:Nat)(L:List RawR)(sb F U:Nat)(w:World) (J:zfo NM) (hF:Fit NM (F - U+1) l) (hU:U≤F) (cz:F≤2000) (hd:F - U<d) (hs:zgS w sb F U) (hl:SlR w A n c L) (hh:zF w L l) (ht:t∈l) (he:t.eq=true) (cA:t.fs≠[]) (hT:TM w v t.rest t.fs):Calls Tryz.prog 96 #[.pointer (some ⟨sb,0,none⟩),.slice A n c,v] w (zat NM (F - U+1) l (∀k,factor t.fs k≠0→zjM (F - U) (l.map (zeR k (zaR k t) (zai k t)))) sb F U w):=by
 obtain⟨tg,tA,tn,tc,tm,rfl⟩:=hT.shape;have cU:=hF.cnt;have cF:L.length=n:=hl.len;have hn:n<1100000:=by have:=hh.1;omega
 have cy:∀f∈t.fs,f.2.natAbs<4294967296^E4:=fun f hf=>up4 (Nat.lt_of_le_of_lt (hF.up ht f hf) (zaB (by unfold BB;omega)));have P:=hs.lt;obtain⟨X,hXe⟩:∃X,X=w.alloc (.cells #[.bool tg,.slice tA tn tc,.pointer tm] 33):=⟨_,rfl⟩
 have pX:Pu w X:=by rw [hXe];exact(Pu.refl w).alloc _
 have kx:Blk X w.heap.size 33 #[.bool tg,.slice tA tn tc,.pointer tm]:=by rw [hXe];exact Blk.new _ _ _
 have Hl:=Qh (zne _ t.rest t.fs X (hT.pu pX) cA cy);obtain⟨x0,x1,x2⟩:=kx.c3_;have dr:=Qh hXe;have B:=Qh (AI hF (AI J (AI ht he)));have Hn:=Qh (AI hn (AI hd P));rw [hXe]at x0 x1 x2 Hl;clear hXe hF ht he cA cU cF hn cy hd P;go_enter Tryz.func96,Tryz.ntmps96;go_wp2_with fail;refine Hl.out.mono ?_;rintro e W0 ⟨⟨k,z⟩,o,rfl,p0⟩;rw [←dr.out]at p0;have hk:factor t.fs k≠0:=zde (B.out.1.sys.rise t B.out.2.2.1) (B.out.1.sys.nz t B.out.2.2.1) o;have H:=Qh (B.out.1.eqB B.out.2.1 B.out.2.2.1 hk);have Hk:=Qh hk;have k0:=kx.pu p0;have q0:=pX.trans p0;obtain⟨z0,z1,z2⟩:=k0.c3_;clear o hk kx p0 pX x0 x1 x2 Hl;dsimp only;go_wp2_with fail;refine(zY _ t.rest k t.fs W0 (hT.pu q0)).mono ?_;rintro e W1 ⟨v9,rfl,h9,O⟩;obtain⟨g9,A9,n9,c9,rfl⟩:=h9.shape2;obtain⟨V0,hV0⟩:∃V0,V0=W1.alloc (.cells #[.bool g9,.slice A9 n9 c9] 30):=⟨_,rfl⟩
 have pV:Pu W0 V0:=by rw [hV0];exact O.alloc _
 have k9:Blk V0 W1.heap.size 30 #[.bool g9,.slice A9 n9 c9]:=by rw [hV0];exact Blk.new _ _ _
 have z9:ZR V0 (.agg #[.bool g9,.slice A9 n9 c9]) (factor t.fs k):=by rw [hV0];exact h9.pu ((Pu.refl _).alloc _)
 obtain⟨b9,hb9⟩:∃b9,b9=W1.heap.size:=⟨_,rfl⟩
 rw [←hb9]at k9;have ba:=k0.pu pV;have PV:=q0.trans pV;have dF:=Qh hV0;have du:=Qh hb9;have bU:=hT.pu PV;clear hV0 hb9 k0 z0 z1 z2 h9 O q0 pV hT;go_wp2_with fail;rw [←dF.out,←du.out];have pd:Pu V0 V0.drew:=(Pu.refl V0).drew;refine zav 8 (fun _ w=>Pu V0 w) (fun _=>Pu) (fun io=>match io with|0=>fun vv_ _=>vv_= .string ⟨k.toArray⟩|1=>fT (0) ([(k,1)])|2=>fun vv_ _=>vv_= .agg #[.bool tg,.slice tA tn tc,.pointer tm]|3=>fun vv_ _=>vv_= .string ⟨k.toArray⟩|4=>fun vv_ _=>vv_= .agg #[.bool g9,.slice A9 n9 c9]|5=>fT (t.rest/(factor t.fs k)) (zc0 k (factor t.fs k) [] t.fs)|6=>fT (0+t.rest/(factor t.fs k)* -1) (zG [(k,1)] (zc0 k (factor t.fs k) [] t.fs) (-1))|7=>fun v w=>∃b,v= .pointer (some ⟨b,0,none⟩)∧V0.heap.size≤b∧Blk w b 33 #[.bool false,.slice none 0 0,.pointer none]|_=>fun _ _=>True) [some 18,some 19,some 20,some 21,some 22,some 23,some 24,some 10] (by kernel_rfl) (by kernel_rfl) rfl pd ?_ ?_ ?_ ?_
 ·intro ko E u u' hk G hI hR;exact hI.trans hR
 ·intro io ko v u u' I hk aY h bF;have hR:=bF
  match io,I,aY,h with
  |0,_,_,h=>exact h
  |1,_,_,h=>exact fT.pu h hR
  |2,_,_,h=>exact h
  |3,_,_,h=>exact h
  |4,_,_,h=>exact h
  |5,_,_,h=>exact fT.pu h hR
  |6,_,_,h=>exact fT.pu h hR
  |7,_,aY,h=>replace h:∃b,v= .pointer (some ⟨b,0,none⟩)∧V0.heap.size≤b∧Blk u b 33 #[.bool false,.slice none 0 0,.pointer none]:=h;obtain⟨b,e,h,h'⟩:=h;exact⟨b,e,h,h'.pu hR⟩
  |_+8,I,_,_=>exact absurd I (by omega)
 ·refine zc.cons [] rfl (by kernel_rfl) (fun y E V G C o K x=>?_) ?_
  ·simp only [PU,Nat.reduceEqDiff,Nat.reduceAdd,reduceIte]at x⊢;clear o;go_simp;exact x.out _ _ (Pu.refl _) rfl
  refine zc.cons [0] rfl (by kernel_rfl) (fun y E V G C o K x=>?_) ?_
  ·simp only [PU,Nat.reduceEqDiff,Nat.reduceAdd,reduceIte]at x⊢;have e0:=o 0 (by simp);clear o;generalize y 0=z0 at x e0⊢;obtain rfl:=e0;go_simp;go_at_call 139;refine(zfc k V).mono ?_;rintro e u1 ⟨v,rfl,J,O⟩;obtain⟨g,A,n,c,m,rfl⟩:=J.shape;go_wp2_with fail;exact x.out _ _ O ⟨g,A,n,c,m,rfl,J⟩
  refine zc.cons [] rfl (by kernel_rfl) (fun y E V G C o K x=>?_) ?_
  ·simp only [PU,Nat.reduceEqDiff,Nat.reduceAdd,reduceIte]at x⊢;clear o;obtain⟨x0,x1,x2⟩:=((ba).pu C).c3_;go_simp;exact x.out _ _ (Pu.refl _) rfl
  refine zc.cons [] rfl (by kernel_rfl) (fun y E V G C o K x=>?_) ?_
  ·simp only [PU,Nat.reduceEqDiff,Nat.reduceAdd,reduceIte]at x⊢;clear o;go_simp;exact x.out _ _ (Pu.refl _) rfl
  refine zc.cons [] rfl (by kernel_rfl) (fun y E V G C o K x=>?_) ?_
  ·simp only [PU,Nat.reduceEqDiff,Nat.reduceAdd,reduceIte]at x⊢;clear o;obtain⟨x0,x1⟩:=((k9).pu C).c2_;go_simp;exact x.out _ _ (Pu.refl _) rfl
  refine zc.cons [2,3,4] rfl (by kernel_rfl) (fun y E V G C o K x=>?_) ?_
  ·simp only [PU,Nat.reduceEqDiff,Nat.reduceAdd,reduceIte]at x⊢;have e2:=o 2 (by simp);have e3:=o 3 (by simp);have e4:=o 4 (by simp);clear o;generalize y 2=z2 at x e2⊢;generalize y 3=z3 at x e3⊢;generalize y 4=z4 at x e4⊢;obtain rfl:=e2;obtain rfl:=e3;obtain rfl:=e4;go_simp;go_at_call 140;refine(zpI _ t.rest k _ (factor t.fs k) t.fs (2^BB) V (bU.pu C) (z9.pu C) H.out.q).mono ?_;rintro e u1 ⟨v,rfl,J,O⟩;obtain⟨g,A,n,c,m,rfl⟩:=J.shape;go_wp2_with fail;exact x.out _ _ O ⟨g,A,n,c,m,rfl,J⟩
  refine zc.cons [1,5] rfl (by kernel_rfl) (fun y E V G C o K x=>?_) ?_
  ·simp only [PU,Nat.reduceEqDiff,Nat.reduceAdd,reduceIte]at x⊢;have e1:=o 1 (by simp);have e5:=o 5 (by simp);clear o;generalize y 1=z1 at x e1⊢;generalize y 5=z5 at x e5⊢;obtain⟨g1,A1,n1,c1,m1,rfl,dI⟩:=e1;obtain⟨g5,A5,n5,c5,m5,rfl,d9⟩:=e5;go_simp;go_at_call 55;refine(zcN _ _ 0 (t.rest/(factor t.fs k)) [(k,1)] (zc0 k (factor t.fs k) [] t.fs) (2^BB) (2^BB) V dI d9 H.out.k1 H.out.qu (by have:=H.out.qn;simp;omega) H.out.big zan H.out.qr).mono ?_;rintro e u1 ⟨v,rfl,J,O⟩;obtain⟨g,A,n,c,m,rfl⟩:=J.tm.shape;go_wp2_with fail;exact x.out _ _ O ⟨g,A,n,c,m,rfl,J.tm⟩
  refine zc.cons [] rfl (by kernel_rfl) (fun y E V G C o K x=>?_) ?_
  ·simp only [PU,Nat.reduceEqDiff,Nat.reduceAdd,reduceIte]at x⊢;clear o;go_simp;exact x.out _ _ ((Pu.refl _).alloc _) ⟨_,rfl,C.size,Blk.new _ _ _⟩
  exact zc.nil
 ·intro y V E hL C o;have f0:=o 0 (by decide);have f1:=o 1 (by decide);have f2:=o 2 (by decide);have f3:=o 3 (by decide);have f4:=o 4 (by decide);have f5:=o 5 (by decide);have f6:=o 6 (by decide);have f7:=o 7 (by decide);clear o;simp only [PU,Nat.reduceEqDiff,Nat.reduceAdd,reduceIte];generalize y 0=z0 at f0⊢;generalize y 1=z1 at f1⊢;generalize y 2=z2 at f2⊢;generalize y 3=z3 at f3⊢;generalize y 4=z4 at f4⊢;generalize y 5=z5 at f5⊢;generalize y 6=z6 at f6⊢;generalize y 7=z7 at f7⊢;obtain rfl:=f0;obtain rfl:=f2;obtain rfl:=f3;obtain rfl:=f4;clear f1 f5;obtain⟨g1,A1,n1,c1,m1,rfl,h1⟩:=f6;obtain⟨bt,rfl,dA,kt⟩:=f7;obtain⟨x0,x1,x2⟩:=kt.c3_;obtain⟨bu,bl,b5⟩:=kt.z3_;obtain⟨bo,et⟩:=zb1 kt (.bool g1) (.slice A1 n1 c1) (.pointer m1);have h2:=h1.frB kt (by decide) (by decide) (by simp) et;have bO:¬b9=bt:=fun e=>by have:=k9.lt;omega
  have bS:¬w.heap.size=bt:=fun e=>by have:=ba.lt;omega
  have bc:=C.step et (fun j hj=>by have e':j=bt:=hj;omega);have aW:=(k9.pu C).fr et bO;have cg:=(ba.pu C).fr et bS;have bf:=z9.pu bc;have bA:=bU.pu bc;have PT:=PV.trans bc;obtain⟨T,hTe⟩:∃T,T=((V.setCell ⟨bt,0,none⟩ (.bool g1)).setCell ⟨bt,1,none⟩ (.slice A1 n1 c1)).setCell ⟨bt,2,none⟩ (.pointer m1):=⟨_,rfl⟩
  rw [←hTe]at bo h2 aW cg bf bA PT;obtain⟨y0,y1⟩:=aW.c2_;rw [hTe]at y0 y1;have d1:=Qh hTe;have ec:w.heap.size≤bt:=by have:=PV.size;omega
  clear hTe kt h1 et k9 ba z9 bU C bc PV bO bS dA;go_wp2_with fail;rw [←d1.out];clear x0 x1 x2 bu bl b5;refine(zdn _ _ T bf (up4 H.out.fc3)).mono ?_;rintro e w3 ⟨v3,rfl,c3,p3⟩;go_wp2_with fail;refine(zaG 1 _ (by decide) (by decide)).mono ?_;rintro e w4 ⟨v4,rfl,c0,p4⟩;go_wp2_with fail;refine(zbF _ _ _ _ _ (c3.pu p4) c0 (by rw [Int.natAbs_natCast];exact up4 H.out.fc3) (up4 (zds (z:=1) (by decide)))).mono ?_;rintro e D ⟨rfl,p5⟩;have pD:=(p3.trans p4).trans p5;have PD:=PT.trans pD;have kD:=bo.pu pD;have hD:=h2.pu pD;have bb:=aW.pu pD;have bE:=cg.pu pD;have aX:=bf.pu pD;have ck:=bA.pu pD;clear p3 p4 p5 pD c3 c0 y0 y1 aW cg bf bA bo h2 PT;by_cases h1:(factor t.fs k).natAbs=1
  ·have aH:zee ((factor t.fs k).natAbs:Int) 1=0:=by rw [h1];rfl
   rw [aH];have er:zaR k t=t.rest* -(factor t.fs k):=by unfold zaR;rw [if_pos h1]
   have aA:zai k t=zG [] (zG t.fs (zG [] [(k,1)] (factor t.fs k)) (-1)) (-(factor t.fs k)):=by unfold zai;rw [if_pos h1]
   have c6:=Qh (AI er aA);have dN:Pu D D.drew:=(Pu.refl D).drew;have ea:bt<D.heap.size:=kD.lt;clear h1 aH er aA;go_wp2_with fail;refine zw 8 (fun _ w=>Pu D w) (fun _=>Pu) (fun io=>match io with|0=>fun vv_ _=>vv_= .agg #[.bool tg,.slice tA tn tc,.pointer tm]|1=>fun vv_ _=>vv_= .string ⟨k.toArray⟩|2=>fT (0) ([(k,1)])|3=>fun vv_ _=>vv_= .agg #[.bool g9,.slice A9 n9 c9]|4=>fT (0*(factor t.fs k)) (zG [] [(k,1)] (factor t.fs k))|5=>fT (t.rest+0*(factor t.fs k)* -1) (zG t.fs (zG [] [(k,1)] (factor t.fs k)) (-1))|6=>fun vv_ _=>vv_= .agg #[.bool g9,.slice A9 n9 c9]|7=>fZ (-(factor t.fs k))|_=>fun _ _=>True) [some 30,some 31,some 32,some 33,some 34,some 35,some 36,some 37] (by kernel_rfl) (by kernel_rfl) rfl dN ?_ ?_ ?_ ?_
   ·intro ko E u u' hk G hI hR;exact hI.trans hR
   ·intro io ko v u u' I hk aY h bF;have hR:=bF
    match io,I,aY,h with
    |0,_,_,h=>exact h
    |1,_,_,h=>exact h
    |2,_,_,h=>exact fT.pu h hR
    |3,_,_,h=>exact h
    |4,_,_,h=>exact fT.pu h hR
    |5,_,_,h=>exact fT.pu h hR
    |6,_,_,h=>exact h
    |7,_,_,h=>exact fZ.pu h hR
    |_+8,I,_,_=>exact absurd I (by omega)
   ·refine zc.cons [] rfl (by kernel_rfl) (fun y E V G C o K x=>?_) ?_
    ·simp only [PU,Nat.reduceEqDiff,Nat.reduceAdd,reduceIte]at x⊢;clear o;obtain⟨x0,x1,x2⟩:=((bE).pu C).c3_;go_simp;exact x.out _ _ (Pu.refl _) rfl
    refine zc.cons [] rfl (by kernel_rfl) (fun y E V G C o K x=>?_) ?_
    ·simp only [PU,Nat.reduceEqDiff,Nat.reduceAdd,reduceIte]at x⊢;clear o;go_simp;exact x.out _ _ (Pu.refl _) rfl
    refine zc.cons [1] rfl (by kernel_rfl) (fun y E V G C o K x=>?_) ?_
    ·simp only [PU,Nat.reduceEqDiff,Nat.reduceAdd,reduceIte]at x⊢;have e1:=o 1 (by simp);clear o;generalize y 1=z1 at x e1⊢;obtain rfl:=e1;go_simp;go_at_call 139;refine(zfc k V).mono ?_;rintro e u1 ⟨v,rfl,J,O⟩;obtain⟨g,A,n,c,m,rfl⟩:=J.shape;go_wp2_with fail;exact x.out _ _ O ⟨g,A,n,c,m,rfl,J⟩
    refine zc.cons [] rfl (by kernel_rfl) (fun y E V G C o K x=>?_) ?_
    ·simp only [PU,Nat.reduceEqDiff,Nat.reduceAdd,reduceIte]at x⊢;clear o;obtain⟨x0,x1⟩:=((bb).pu C).c2_;go_simp;exact x.out _ _ (Pu.refl _) rfl
    refine zc.cons [2,3] rfl (by kernel_rfl) (fun y E V G C o K x=>?_) ?_
    ·simp only [PU,Nat.reduceEqDiff,Nat.reduceAdd,reduceIte]at x⊢;have e2:=o 2 (by simp);have e3:=o 3 (by simp);clear o;generalize y 2=z2 at x e2⊢;generalize y 3=z3 at x e3⊢;obtain⟨g2,A2,n2,c2,m2,rfl,dM⟩:=e2;obtain rfl:=e3;go_simp;go_at_call 29;refine(zaW _ _ 0 (factor t.fs k) [(k,1)] (2^BB) V dM (aX.pu C) H.out.m1 (by simp) H.out.big1 H.out.fc3 H.out.s3 zan).mono ?_;rintro e u1 ⟨v,rfl,J,O⟩;obtain⟨g,A,n,c,m,rfl⟩:=J.tm.shape;go_wp2_with fail;exact x.out _ _ O ⟨g,A,n,c,m,rfl,J.tm⟩
    refine zc.cons [0,4] rfl (by kernel_rfl) (fun y E V G C o K x=>?_) ?_
    ·simp only [PU,Nat.reduceEqDiff,Nat.reduceAdd,reduceIte]at x⊢;have e0:=o 0 (by simp);have e4:=o 4 (by simp);clear o;generalize y 0=z0 at x e0⊢;generalize y 4=z4 at x e4⊢;obtain rfl:=e0;obtain⟨g4,A4,n4,c4,m4,rfl,dD⟩:=e4;go_simp;go_at_call 55;refine(zcN _ _ t.rest (0*(factor t.fs k)) t.fs (zG [] [(k,1)] (factor t.fs k)) (2^BB) (2^BB) V (ck.pu C) dD H.out.up H.out.ou (by have:=H.out.few;have:=H.out.ol;omega) H.out.big H.out.rest (by rw [Int.zero_mul];exact zan)).mono ?_;rintro e u1 ⟨v,rfl,J,O⟩;obtain⟨g,A,n,c,m,rfl⟩:=J.tm.shape;go_wp2_with fail;exact x.out _ _ O ⟨g,A,n,c,m,rfl,J.tm⟩
    refine zc.cons [] rfl (by kernel_rfl) (fun y E V G C o K x=>?_) ?_
    ·simp only [PU,Nat.reduceEqDiff,Nat.reduceAdd,reduceIte]at x⊢;clear o;obtain⟨x0,x1⟩:=((bb).pu C).c2_;go_simp;exact x.out _ _ (Pu.refl _) rfl
    refine zc.cons [6] rfl (by kernel_rfl) (fun y E V G C o K x=>?_) ?_
    ·simp only [PU,Nat.reduceEqDiff,Nat.reduceAdd,reduceIte]at x⊢;have e6:=o 6 (by simp);clear o;generalize y 6=z6 at x e6⊢;obtain rfl:=e6;go_simp;go_at_call 84;refine(zdp _ (factor t.fs k) V (aX.pu C) (up4 H.out.fc3)).mono ?_;rintro e u1 ⟨v,rfl,J,O⟩;obtain⟨g,A,n,c,rfl⟩:=J.shape2;go_wp2_with fail;exact x.out _ _ O ⟨g,A,n,c,rfl,J⟩
    exact zc.nil
   ·intro y V E hL C o;have f0:=o 0 (by decide);have f1:=o 1 (by decide);have f2:=o 2 (by decide);have f3:=o 3 (by decide);have f4:=o 4 (by decide);have f5:=o 5 (by decide);have f6:=o 6 (by decide);have f7:=o 7 (by decide);clear o;simp only [PU,Nat.reduceEqDiff,Nat.reduceAdd,reduceIte];generalize y 0=z0 at f0⊢;generalize y 1=z1 at f1⊢;generalize y 2=z2 at f2⊢;generalize y 3=z3 at f3⊢;generalize y 4=z4 at f4⊢;generalize y 5=z5 at f5⊢;generalize y 6=z6 at f6⊢;generalize y 7=z7 at f7⊢;obtain rfl:=f0;obtain rfl:=f1;obtain rfl:=f3;obtain rfl:=f6;clear f2 f4;obtain⟨g5,A5,n5,c5,m5,rfl,h5⟩:=f5;obtain⟨g7,A7,n7,c7,rfl,h7⟩:=f7;go_wp2_with fail;refine(zaW _ _ (t.rest+0*(factor t.fs k)* -1) (-(factor t.fs k)) (zG t.fs (zG [] [(k,1)] (factor t.fs k)) (-1)) (2^BB*2^BB) V h5 h7 H.out.dm H.out.dl H.out.bm H.out.n3 H.out.d3 (by rw [Int.zero_mul,Int.zero_mul,Int.add_zero];exact H.out.rest)).mono ?_;rintro e u1 ⟨v8,rfl,h8,p8⟩;obtain⟨g8,A8,n8,c8,m8,rfl⟩:=h8.tm.shape;have kE:=kD.pu (C.trans p8);obtain⟨x0,x1,x2⟩:=kE.c3_;obtain⟨bu,bl,b5⟩:=kE.z3_;obtain⟨aZ,eE⟩:=zb1 kE (.bool g8) (.slice A8 n8 c8) (.pointer m8);have h9:=h8.tm.frB kE (by decide) (by decide) (by simp) eE;rw [Int.zero_mul,Int.zero_mul,Int.add_zero,←c6.out.1,←c6.out.2]at h9;have a4:Pu w _:=(PD.trans (C.trans p8)).step eE (fun j hj=>by have e':j=bt:=hj;omega);obtain⟨b0,hE9⟩:∃b0,b0=((u1.setCell ⟨bt,0,none⟩ (.bool g8)).setCell ⟨bt,1,none⟩ (.slice A8 n8 c8)).setCell ⟨bt,2,none⟩ (.pointer m8):=⟨_,rfl⟩
    rw [←hE9]at aZ h9 a4;obtain⟨v0,v1,v2⟩:=aZ.c3_;rw [hE9]at v0 v1 v2;have dy:=Qh hE9;clear hE9 kE eE h8 h5 h7 kD hD bb bE aX ck C p8 PD;go_wp2_with fail;rw [←dy.out];clear x0 x1 x2 bu bl b5 v0 v1 v2;have sY:=hs.pu a4;have lY:=Sl.pu hl a4;have hY:=hh.pu a4;refine(ziG A n c L l k _ (zaR k t) (zai k t) (2^BB) (2^(BB+1)) b0 lY hY h9 (B.out.1.putOk B.out.2.1 B.out.2.2.1 Hk.out) Hn.out.1).mono ?_;rintro e Z ⟨A',c',L',rfl,aB,W,pZ⟩;have sZ:=sY.pu pZ;have kZ:=aZ.pu pZ;have Q:=h9.pu pZ;have PZ:=a4.trans pZ;have lZ:=Sl.of_own aB;clear aZ h9 lY hY sY aB pZ a4;go_wp2_with fail;refine(hS NM (l.map (zeR k (zaR k t) (zai k t))) A' n c' L' sb F U Z B.out.2.1 (B.out.1.put B.out.2.1 B.out.2.2.1 Hk.out) hU cz Hn.out.2.1 sZ lZ W.hold).mono ?_;rintro e R ⟨U',ap,aq,sR,fR,h⟩;have M:Fr (fun j=>j=sb) w R:=PZ.fr' fR;rcases h with⟨mb,r,Lm,ms,rfl,hm,Y,hM,P⟩|⟨p,rfl,cl,P⟩|⟨p,rfl,hE⟩
    ·have kR:=kZ.fr fR (fun e=>by have:=Hn.out.2.2;omega);have aJ:=Q.sv sZ fR;have aI:=zii (f:=F - U) (by omega) (Nat.le_trans (zcY k t) (B.out.1.rest.entry B.out.2.2.1)) (B.out.1.eqUp B.out.2.2.1 (k:=k)) hM.up;obtain⟨u0,u1,u2⟩:=kR.c3_;have Hv:=Qh (zgp _ (zaR k t) (zai k t) ms mb (2^RR) (2^(BB+1)) (2^VB (F - U)) R aJ ⟨Lm,hm.mr,Y⟩ aI);have bn:=PZ.size;clear aI kZ Q sZ lZ W PZ fR aJ;go_wp2_with fail;refine Hv.out.mono ?_;rintro e S ⟨v',rfl,hz,pS⟩;obtain⟨gq,Aq,nq,cq,rfl⟩:=hz.shape2;have ak:=hm.pu pS;have ah:=ak.typed;have aS:=hM.few B.out.2.1;have aG:Lm.length<1100000:=by have:=Y.1;omega
     have aT:=Qh (zp7 Z.heap.size mb r Lm k (gq,Aq,nq,cq) S ak aG);have aC:=Y.pu pS;have sS:=sR.pu pS;have fS:=M.pu pS;have dB:=hm.lt;have aF:=hm.row;have b6:=Qh (hM.eq B.out.1 B.out.2.1 B.out.2.2.1 Hk.out);clear hm Y sR M u0 u1 u2 hM aS aG Hv kR;go_wp2_with fail;refine aT.out.mono ?_;rintro e T9 ⟨rfl,r',aE,d6,N⟩;have aM:=(aC.frT N ah).put (k:=k) (q:=(gq,Aq,nq,cq)) (hz.frT N ah);have fT:=fS.step N (fun i I=>by
      rcases I with rfl|I
      ·exact .inr (by omega)
      ·have:=(aF i I).1;exact .inr (by omega))
     have sT:=sS.fr N (fun I=>by
      have:=Hn.out.2.2;rcases I with rfl|I
      ·omega
      ·have:=(aF sb I).1;omega)
     have aa:=Qh (AI (aE.base_ bn) (AI aM (AI fT sT)));clear aE aM fT sT N hz aC sS fS ak ah;go_wp2;go_ret2;exact⟨U',ap,aq,aa.out.2.2.2,aa.out.2.2.1,.inl ⟨mb,r',_,_,rfl,aa.out.1,aa.out.2.1,b6.out,P⟩⟩
    ·have HR:=Qh (AI sR M);clear kZ Q sZ lZ W PZ fR sR M;go_wp2;go_ret2;exact⟨U',ap,aq,HR.out.1,HR.out.2,.inr (.inl ⟨none,rfl,fun h=>cl ((B.out.1.eqSome B.out.2.2.1 B.out.2.2.2 Hk.out).2 h),P⟩)⟩
    ·have HR:=Qh (AI sR M);clear kZ Q sZ lZ W PZ fR sR M;go_wp2;go_ret2;exact⟨U',ap,aq,HR.out.1,HR.out.2,.inr (.inr ⟨none,rfl,fun h=>hE (h k Hk.out)⟩)⟩
  ·obtain⟨s,aH,hcase⟩:∃s,zee ((factor t.fs k).natAbs:Int) 1=s∧(s= -1∨s=1):=by
    unfold zee;split
    ·exact⟨_,rfl,.inl rfl⟩
    ·rw [if_pos (by omega)];exact⟨_,rfl,.inr rfl⟩
   rw [aH];have er:0+t.rest/factor t.fs k* -1=zaR k t:=by unfold zaR;rw [if_neg h1];omega
   have aA:zG [(k,1)] (zc0 k (factor t.fs k) [] t.fs) (-1)=zai k t:=by unfold zai;rw [if_neg h1]
   rw [er,aA]at hD;have eb:(s==0)=false:=by rcases hcase with rfl|rfl<;>rfl
   obtain⟨v0,v1,v2⟩:=kD.c3_;clear aH h1 er aA hcase bb bE aX ck;go_wp2_with fail;clear v0 v1 v2;have sY:=hs.pu PD;have lY:=Sl.pu hl PD;have hY:=hh.pu PD;refine(ziG A n c L l k _ (zaR k t) (zai k t) (2^BB) (2^(BB+1)) D lY hY hD (B.out.1.putOk B.out.2.1 B.out.2.2.1 Hk.out) Hn.out.1).mono ?_;rintro e Z ⟨A',c',L',rfl,aB,W,pZ⟩;have sZ:=sY.pu pZ;have kZ:=kD.pu pZ;have Q:=hD.pu pZ;have PZ:=PD.trans pZ;have lZ:=Sl.of_own aB;clear kD hD lY hY sY aB pZ PD;go_wp2_with fail;refine(hS NM (l.map (zeR k (zaR k t) (zai k t))) A' n c' L' sb F U Z B.out.2.1 (B.out.1.put B.out.2.1 B.out.2.2.1 Hk.out) hU cz Hn.out.2.1 sZ lZ W.hold).mono ?_;rintro e R ⟨U',ap,aq,sR,fR,h⟩;have M:Fr (fun j=>j=sb) w R:=PZ.fr' fR;rcases h with⟨mb,r,Lm,ms,rfl,hm,Y,hM,P⟩|⟨p,rfl,cl,P⟩|⟨p,rfl,hE⟩
   ·have kR:=kZ.fr fR (fun e=>by have:=Hn.out.2.2;omega);have aJ:=Q.sv sZ fR;have aI:=zii (f:=F - U) (by omega) (Nat.le_trans (zcY k t) (B.out.1.rest.entry B.out.2.2.1)) (B.out.1.eqUp B.out.2.2.1 (k:=k)) hM.up;obtain⟨u0,u1,u2⟩:=kR.c3_;have Hv:=Qh (zgp _ (zaR k t) (zai k t) ms mb (2^RR) (2^(BB+1)) (2^VB (F - U)) R aJ ⟨Lm,hm.mr,Y⟩ aI);have bn:=PZ.size;clear aI kZ Q sZ lZ W PZ fR aJ;go_wp2_with fail;refine Hv.out.mono ?_;rintro e S ⟨v',rfl,hz,pS⟩;obtain⟨gq,Aq,nq,cq,rfl⟩:=hz.shape2;have ak:=hm.pu pS;have ah:=ak.typed;have aS:=hM.few B.out.2.1;have aG:Lm.length<1100000:=by have:=Y.1;omega
    have aT:=Qh (zp7 Z.heap.size mb r Lm k (gq,Aq,nq,cq) S ak aG);have aC:=Y.pu pS;have sS:=sR.pu pS;have fS:=M.pu pS;have dB:=hm.lt;have aF:=hm.row;have b6:=Qh (hM.eq B.out.1 B.out.2.1 B.out.2.2.1 Hk.out);clear hm Y sR M u0 u1 u2 hM aS aG Hv kR;go_wp2_with fail;refine aT.out.mono ?_;rintro e T9 ⟨rfl,r',aE,d6,N⟩;have aM:=(aC.frT N ah).put (k:=k) (q:=(gq,Aq,nq,cq)) (hz.frT N ah);have fT:=fS.step N (fun i I=>by
     rcases I with rfl|I
     ·exact .inr (by omega)
     ·have:=(aF i I).1;exact .inr (by omega))
    have sT:=sS.fr N (fun I=>by
     have:=Hn.out.2.2;rcases I with rfl|I
     ·omega
     ·have:=(aF sb I).1;omega)
    have aa:=Qh (AI (aE.base_ bn) (AI aM (AI fT sT)));clear aE aM fT sT N hz aC sS fS ak ah;go_wp2;go_ret2;exact⟨U',ap,aq,aa.out.2.2.2,aa.out.2.2.1,.inl ⟨mb,r',_,_,rfl,aa.out.1,aa.out.2.1,b6.out,P⟩⟩
   ·have HR:=Qh (AI sR M);clear kZ Q sZ lZ W PZ fR sR M;go_wp2;go_ret2;exact⟨U',ap,aq,HR.out.1,HR.out.2,.inr (.inl ⟨none,rfl,fun h=>cl ((B.out.1.eqSome B.out.2.2.1 B.out.2.2.2 Hk.out).2 h),P⟩)⟩
   ·have HR:=Qh (AI sR M);clear kZ Q sZ lZ W PZ fR sR M;go_wp2;go_ret2;exact⟨U',ap,aq,HR.out.1,HR.out.2,.inr (.inr ⟨none,rfl,fun h=>hE (h k Hk.out)⟩)⟩
end
end Go.Proofs.YtckfnbckoclhpaaGreatDoor

/- The solver's bound of a name. -/
import Derived.Test.YtckfnbckoclhpaaGreatDoorF3
import Derived.Test.YtckfnbckoclhpaaGreatDoorE31
namespace Go.Proofs.YtckfnbckoclhpaaGreatDoor
set_option linter.unusedVariables false
set_option linter.unusedSimpArgs false
set_option maxRecDepth 100000
set_option maxHeartbeats 16000000
section
open Go.RowKit
def zqZ(k:Key)(r:RowM):List (Key×Int):=zG r.fs (zG [] [(k,1)] (factor r.fs k)) (-1)
theorem zlZ{v:Key→Int}{k:Key}{r:RowM}(i:zx r.fs):r.rest+zk v (zqZ k r)=zfl v k r:=by unfold zqZ zfl zcu;rw [zbw v _ _ i,zbw v _ _ List.Pairwise.nil];simp only [zk];rw [Int.zero_add,Int.one_mul,Int.add_zero];omega
theorem znz{K:Nat}{k:Key}{r:RowM}(j:zx r.fs)(h:zad K r.fs):zad K (zqZ k r):=fun p o=>by
 have i:=zl (zac _ _ j) o;rw [zak _ _ j (zeU ..),zcP]at i;rw [←i];split
 ·rename_i e;rw [e];have:factor r.fs k+factor r.fs k* -1=0:=by omega
  rw [this];exact Nat.zero_le _
 ·rw [Int.zero_mul,Int.add_zero];exact h.factor _
structure zk1(K R0 G:Nat)(ms:List (Key×Int))(k:Key)(r:RowM):Prop where
 rise:zx r.fs
 up:zad K r.fs
 big:K+1100000*K<4294967296^E3
 few:r.fs.length≤60
 nz:factor r.fs k≠0
 rest:r.rest.natAbs<4294967296^E3
 ev:zjd R0 K G r.rest (zqZ k r) ms
 off:(zfl (factor ms) k r).natAbs<4294967296^E3
theorem zpF{K p G:Nat}{i:List (Key×Int)}{k:Key}{r:RowM}(h:zk1 K p G i k r):(zbg (factor i) k r).natAbs<4294967296^E3∧(-(zfl (factor i) k r)/((factor r.fs k).natAbs:Int)).natAbs<4294967296^E3:=by
 have o:=zbx (-(zfl (factor i) k r)) ((factor r.fs k).natAbs:Int);rw [Int.natAbs_neg]at o;have j:=Nat.lt_of_le_of_lt o h.off;refine⟨?_,j⟩;unfold zbg;dsimp only;split
 ·rw [Int.natAbs_neg];exact j
 ·exact j
def zq1(p:Option Int)(e f:Int):Int:=match p with|none=>e|some x=>if f<0 then(if x<e then e else x)else(if e<x then e else x)
theorem zhO{v:Key→Int}{k:Key}{l:List RowM}{i:Nat}{r:RowM}(h:l[i]?=some r):(l.take (i+1)).foldl (zdG v k) none=some (zq1 ((l.take i).foldl (zdG v k) none) (zbg v k r) (factor r.fs k)):=by
 rw [List.take_add_one,h,List.foldl_append];show zdG v k ((l.take i).foldl (zdG v k) none) r=_
 cases(l.take i).foldl (zdG v k) none<;>rfl
theorem zeX{e f:Int}{i:Nat}{o p q:Option Int}(v:o=p)(w:o=none↔i=0)(z:(o.getD 0).natAbs<4294967296^E3)(k:e.natAbs<4294967296^E3)(y:q=some (zq1 p e f)) (t:i=0∨(f<0∧o.getD 0<e)∨(¬f<0∧e<o.getD 0)):some e=q∧((some e:Option Int)=none↔i+1=0)∧(((some e:Option Int).getD 0).natAbs<4294967296^E3∧True):=by
 subst v;refine⟨?_,⟨fun h=>(by cases h),fun h=>(by omega)⟩,k,trivial⟩;rw [y]
 cases o with
 |none=>rfl
 |some x=>
  rcases t with h|⟨h,j⟩|⟨h,j⟩
  ·have:=w.2 h
   cases this
  ·show some e=some (if f<0 then(if x<e then e else x)else(if e<x then e else x));rw [if_pos h,if_pos (show x<e from j)]
  ·show some e=some (if f<0 then(if x<e then e else x)else(if e<x then e else x));rw [if_neg h,if_pos (show e<x from j)]
theorem zi2{e f:Int}{i:Nat}{o p q:Option Int}(v:o=p)(w:o=none↔i=0)(y:(o.getD 0).natAbs<4294967296^E3)(k:i≠0)(z:q=some (zq1 p e f)) (t:(f<0∧¬o.getD 0<e)∨(¬f<0∧¬e<o.getD 0)):o=q∧(o=none↔i+1=0)∧((o.getD 0).natAbs<4294967296^E3∧True):=by
 subst v
 cases o with
 |none=>exact absurd (w.1 rfl) k
 |some x=>
  refine⟨?_,⟨fun h=>(by cases h),fun h=>(by omega)⟩,y,trivial⟩;rw [z];rcases t with⟨h,j⟩|⟨h,j⟩
  ·show some x=some (if f<0 then(if x<e then e else x)else(if e<x then e else x));rw [if_pos h,if_neg (show¬x<e from j)]
  ·show some x=some (if f<0 then(if x<e then e else x)else(if e<x then e else x));rw [if_neg h,if_neg (show¬e<x from j)]
theorem zld(A:Option Addr)(n c:Nat)(L:List RawR)(l:List RowM)(k:Key)(mb:Nat)(J:List (Key×Int))(K R0 G:Nat)(w:World)(h:SlR w A n c L)(hh:zF w L l)(hv:VM w mb J)(ok:∀r∈l,zk1 K R0 G J k r)(hn:n<1100000):Calls Tryz.prog 172 #[.slice A n c,.string ⟨k.toArray⟩,.pointer (some ⟨mb,0,none⟩)] w fun e w'=>∃g' A' n' c',e= .returned (.tuple #[.agg #[.bool g',.slice A' n' c'],.bool (decide (0<n))])∧ZR w' (.agg #[.bool g',.slice A' n' c']) ((zeL (factor J) k l).getD 0)∧Pu w w':=by
 have HL:=Qh (show L.length=n∧L.length=l.length from⟨h.len,hh.1⟩);have OK:=Qh ok;have HV:=Qh hv;obtain⟨W,hWe⟩:∃W,W=(w.alloc (.cells #[.bool false,.slice none 0 0] 30)).alloc (.cells #[.bool false,.slice none 0 0] 30):=⟨_,rfl⟩
 have pW:Pu w W:=by rw [hWe];exact((Pu.refl w).alloc _).alloc _
 have k6:Blk W w.heap.size 30 #[.bool false,.slice none 0 0]:=by rw [hWe];exact(Blk.new w _ _).alloc _
 have k8:Blk W (w.heap.size+1) 30 #[.bool false,.slice none 0 0]:=by rw [hWe];exact Blk.at_new _ _ _ (by simp)
 have dE:=Qh (show W.heap.size=w.heap.size+2 by rw [hWe];simp);have ey:=Qh hWe;have h0:ZR W (.agg #[.bool false,.slice none 0 0]) 0:=⟨false,none,0,0,[],rfl,Sl.nil _ _ _ _,zg.nil _,zcz,(fun e=>by cases e),⟨by simp [maxLen],W32.none _ _⟩,rfl⟩
 have HE:=Qh (show∀z:Int,z.natAbs<4294967296^E3→z.natAbs<4294967296^E4 from fun z hz=>up4 hz);clear hWe ok hv;go_enter Tryz.func172,Tryz.ntmps172;go_wp2_with fail;rw [←ey.out]
 go_loopw [19] (fun iv wr=>∃(i:Nat) (go:Bool) (Ao:Option Addr) (no co:Nat) (o:Option Int),i≤n∧iv= .int .i64 (i:Int)∧Blk wr (w.heap.size+1) 30 #[.bool go,.slice Ao no co]∧ZR wr (.agg #[.bool go,.slice Ao no co]) (o.getD 0)∧Hid (o=(l.take i).foldl (zdG (factor J) k) none∧(o=none↔i=0)∧((o.getD 0).natAbs<4294967296^E3∧True))∧Fr (fun j=>j=w.heap.size+1) W wr) (fun iv _=>n - (intOf iv).toNat)
 case atStart=>exact⟨0,false,none,0,0,none,Nat.zero_le _,rfl,k8,h0,Qh ⟨rfl,⟨fun _=>rfl,fun _=>rfl⟩,zan,trivial⟩,Fr.refl _ _⟩
 case round=>
  obtain⟨i,go,Ao,no,co,o,hi,rfl,l8,bP,I,hF⟩:=hrel;have bM:Pu w wr:=pW.step hF (fun j hj=>by have e':j=w.heap.size+1:=hj;omega);have l6:=k6.fr hF (by omega);by_cases ej:i<n
  ·obtain⟨q,hq⟩:∃q,L[i]?=some q:=⟨_,List.getElem?_eq_getElem (by rw [HL.out.1];exact ej)⟩
   obtain⟨B,hr,dy⟩:=hh.at_ hq;obtain⟨b,off,rfl,ek,x0,x1,x2,x3⟩:=SlR.at_ (Sl.pu h bM) hq;obtain⟨X,hXe⟩:∃X,X=wr.alloc (.cells #[.bool q.g,.slice q.A q.n q.c,.pointer q.m,.bool q.eq] 35):=⟨_,rfl⟩
   have pX:Pu wr X:=by rw [hXe];exact(Pu.refl wr).alloc _
   have cA:Blk X wr.heap.size 35 #[.bool q.g,.slice q.A q.n q.c,.pointer q.m,.bool q.eq]:=by rw [hXe];exact Blk.new _ _ _
   have hT:=dy.2.pu (bM.trans pX);have Hf:=Qh (zY q.term B.rest k B.fs X hT);rw [hXe]at Hf;have HR:=Qh (OK.out B (List.mem_of_getElem? hr));have aK:=Qh (zhO (v:=factor J) (k:=k) hr);have dw:=Qh hXe;have fA:IntKind.i64.wrap ((i:Int)+1)=(i:Int)+1:=IntWalk.i64_in _ (by omega);have fo:=l8.lt;obtain⟨qg,qA,qn,qc,qm,qe⟩:=q;dsimp only at x0 x1 x2 x3 dw cA;dsimp only [RawR.term]at Hf hT;clear hXe hq hr dy ek;go_wp2_with fail;refine Hf.out.mono ?_;rintro e U1 ⟨v,rfl,cq,H⟩;rw [←dw.out]at H;obtain⟨gf,Af,nf,cf,rfl⟩:=cq.shape2;obtain⟨V0,hVe⟩:∃V0,V0=U1.alloc (.cells #[.bool gf,.slice Af nf cf] 30):=⟨_,rfl⟩
   have pV:Pu X V0:=by rw [hVe];exact H.alloc _
   have bk:Blk V0 U1.heap.size 30 #[.bool gf,.slice Af nf cf]:=by rw [hVe];exact Blk.new _ _ _
   have zf:ZR V0 (.agg #[.bool gf,.slice Af nf cf]) (factor B.fs k):=by rw [hVe];exact cq.pu ((Pu.refl _).alloc _)
   have ds:=cA.pu pV;have m8:=l8.pu (pX.trans pV);have m6:=l6.pu (pX.trans pV);have zo:=bP.pu (pX.trans pV);have tT:=hT.pu pV;have PV:=bM.trans (pX.trans pV);have d2:=HV.out.pu PV;have cB:=hF.trans (pX.trans pV).fr;have dR:=Qh hVe;have fy:=H.size;have fx:=pX.size;have bK:1100000*K<4294967296^E3:=Nat.lt_of_le_of_lt (Nat.le_add_left _ _) HR.out.big;have bE:=HR.out.up.factor k;have dj:(factor B.fs k).natAbs<4294967296^E3:=Nat.lt_of_le_of_lt (Nat.le_trans bE (Nat.le_mul_of_pos_left K (by decide:0<1100000))) bK;have dq:∀g∈[(k,(1:Int))],(g.2*factor B.fs k).natAbs≤K:=fun g hg=>by rw [List.mem_singleton.1 hg,Int.one_mul];exact bE
   have dz:∀g∈[(k,(1:Int))],g.2.natAbs<4294967296^E3:=fun g hg=>by rw [List.mem_singleton.1 hg];show(1:Int).natAbs<_;exact zds (by decide)
   have e8:=zkp k (factor B.fs k);have HB:=Qh (AI bK (AI dj (AI dq (AI dz (AI (ziA (k:=k) bE) (show B.fs.length+(zG [] [(k,1)] (factor B.fs k)).length<300 by have:=HR.out.few;omega))))));clear hVe H cq cA l8 l6 bP hT pX pV hF bK bE dj dq dz e8 Hf;go_wp2_with fail
   try rw [←dR.out]
   have pd:Pu V0 V0.drew:=(Pu.refl V0).drew;refine zav 10 (fun _ w=>Pu V0 w) (fun _=>Pu) (fun io=>match io with|0=>fun vv_ _=>vv_= .pointer (some ⟨wr.heap.size,0,none⟩)|1=>fun vv_ _=>vv_= .agg #[.bool qg,.slice qA qn qc,.pointer qm]|2=>fun vv_ _=>vv_= .string ⟨k.toArray⟩|3=>fT (0) ([(k,1)])|4=>fun vv_ _=>vv_= .agg #[.bool gf,.slice Af nf cf]|5=>fT (0*(factor B.fs k)) (zG [] [(k,1)] (factor B.fs k))|6=>fT (B.rest+0*(factor B.fs k)*(-1)) (zqZ k B)|7=>fun vv_ _=>vv_= .pointer (some ⟨mb,0,none⟩)|8=>fZ (B.rest+zk (factor J) (zqZ k B))|9=>fun v w=>∃b,v= .pointer (some ⟨b,0,none⟩)∧V0.heap.size≤b∧Blk w b 30 #[.bool false,.slice none 0 0]|_=>fun _ _=>True) [some 28,some 29,some 30,some 31,some 32,some 33,some 34,some 35,some 36,some 12] (by kernel_rfl) (by kernel_rfl) rfl pd ?_ ?_ ?_ ?_
   ·intro ko aa u u' hk E hI hR;exact hI.trans hR
   ·intro io ko v u u' hi hk dn h dM;have hR:=dM
    match io,hi,dn,h with
    |0,_,_,h=>exact h
    |1,_,_,h=>exact h
    |2,_,_,h=>exact h
    |3,_,_,h=>exact fT.pu h hR
    |4,_,_,h=>exact h
    |5,_,_,h=>exact fT.pu h hR
    |6,_,_,h=>exact fT.pu h hR
    |7,_,_,h=>exact h
    |8,_,_,h=>exact fZ.pu h hR
    |9,_,dn,h=>replace h:∃b,v= .pointer (some ⟨b,0,none⟩)∧V0.heap.size≤b∧Blk u b 30 #[.bool false,.slice none 0 0]:=h;obtain⟨b,e,h,h'⟩:=h;exact⟨b,e,h,h'.pu hR⟩
    |_+10,hi,_,_=>exact absurd hi (by omega)
   ·refine zc.cons [] rfl (by kernel_rfl) (fun y aa V E F C K t=>?_) ?_
    ·simp only [PU,Nat.reduceEqDiff,Nat.reduceAdd,reduceIte]at t⊢;clear C;go_simp;exact t.out _ _ (Pu.refl _) rfl
    refine zc.cons [0] rfl (by kernel_rfl) (fun y aa V E F C K t=>?_) ?_
    ·simp only [PU,Nat.reduceEqDiff,Nat.reduceAdd,reduceIte]at t⊢;have e0:=C 0 (by simp);clear C;generalize y 0=z0 at t e0⊢;obtain rfl:=e0;obtain⟨x0,x1,x2,x3⟩:=((ds).pu F).c4_;go_simp;exact t.out _ _ (Pu.refl _) rfl
    refine zc.cons [] rfl (by kernel_rfl) (fun y aa V E F C K t=>?_) ?_
    ·simp only [PU,Nat.reduceEqDiff,Nat.reduceAdd,reduceIte]at t⊢;clear C;go_simp;exact t.out _ _ (Pu.refl _) rfl
    refine zc.cons [2] rfl (by kernel_rfl) (fun y aa V E F C K t=>?_) ?_
    ·simp only [PU,Nat.reduceEqDiff,Nat.reduceAdd,reduceIte]at t⊢;have e2:=C 2 (by simp);clear C;generalize y 2=z2 at t e2⊢;obtain rfl:=e2;go_simp;go_at_call 139;refine(zfc k V).mono ?_;rintro e u1 ⟨v,rfl,Z,H⟩;obtain⟨g,A,n,c,m,rfl⟩:=Z.shape;go_wp2_with fail;exact t.out _ _ H ⟨g,A,n,c,m,rfl,Z⟩
    refine zc.cons [] rfl (by kernel_rfl) (fun y aa V E F C K t=>?_) ?_
    ·simp only [PU,Nat.reduceEqDiff,Nat.reduceAdd,reduceIte]at t⊢;clear C;obtain⟨x0,x1⟩:=((bk).pu F).c2_;go_simp;exact t.out _ _ (Pu.refl _) rfl
    refine zc.cons [3,4] rfl (by kernel_rfl) (fun y aa V E F C K t=>?_) ?_
    ·simp only [PU,Nat.reduceEqDiff,Nat.reduceAdd,reduceIte]at t⊢;have e3:=C 3 (by simp);have e4:=C 4 (by simp);clear C;generalize y 3=z3 at t e3⊢;generalize y 4=z4 at t e4⊢;obtain⟨g3,A3,n3,c3,m3,rfl,dN⟩:=e3;obtain rfl:=e4;go_simp;go_at_call 29;refine(zaW _ _ 0 (factor B.fs k) [(k,1)] _ V dN (zf.pu F) HB.out.2.2.1 (by simp) HB.out.1 HB.out.2.1 HB.out.2.2.2.1 zan).mono ?_;rintro e u1 ⟨v,rfl,Z,H⟩;obtain⟨g,A,n,c,m,rfl⟩:=Z.tm.shape;go_wp2_with fail;exact t.out _ _ H ⟨g,A,n,c,m,rfl,Z.tm⟩
    refine zc.cons [1,5] rfl (by kernel_rfl) (fun y aa V E F C K t=>?_) ?_
    ·simp only [PU,Nat.reduceEqDiff,Nat.reduceAdd,reduceIte]at t⊢;have e1:=C 1 (by simp);have e5:=C 5 (by simp);clear C;generalize y 1=z1 at t e1⊢;generalize y 5=z5 at t e5⊢;obtain rfl:=e1;obtain⟨g5,A5,n5,c5,m5,rfl,ew⟩:=e5;go_simp;go_at_call 55;refine(zcN _ _ B.rest (0*(factor B.fs k)) B.fs (zG [] [(k,1)] (factor B.fs k)) _ _ V (tT.pu F) ew HR.out.up HB.out.2.2.2.2.1 HB.out.2.2.2.2.2 HR.out.big HR.out.rest (by rw [Int.zero_mul];exact zan)).mono ?_;rintro e u1 ⟨v,rfl,Z,H⟩;obtain⟨g,A,n,c,m,rfl⟩:=Z.tm.shape;go_wp2_with fail;exact t.out _ _ H ⟨g,A,n,c,m,rfl,Z.tm⟩
    refine zc.cons [] rfl (by kernel_rfl) (fun y aa V E F C K t=>?_) ?_
    ·simp only [PU,Nat.reduceEqDiff,Nat.reduceAdd,reduceIte]at t⊢;clear C;go_simp;exact t.out _ _ (Pu.refl _) rfl
    refine zc.cons [6,7] rfl (by kernel_rfl) (fun y aa V E F C K t=>?_) ?_
    ·simp only [PU,Nat.reduceEqDiff,Nat.reduceAdd,reduceIte]at t⊢;have e6:=C 6 (by simp);have e7:=C 7 (by simp);clear C;generalize y 6=z6 at t e6⊢;generalize y 7=z7 at t e7⊢;obtain⟨g6,A6,n6,c6,m6,rfl,dg⟩:=e6;obtain rfl:=e7;go_simp;go_at_call 142;have e0:B.rest+0*(factor B.fs k)*(-1)=B.rest:=by rw [Int.zero_mul,Int.zero_mul,Int.add_zero]
     rw [e0]at dg;refine(zgp _ B.rest (zqZ k B) J mb _ _ _ V dg (d2.pu F) HR.out.ev).mono ?_;rintro e u1 ⟨v,rfl,Z,H⟩;obtain⟨g,A,n,c,rfl⟩:=Z.shape2;go_wp2_with fail;exact t.out _ _ H ⟨g,A,n,c,rfl,Z⟩
    refine zc.cons [] rfl (by kernel_rfl) (fun y aa V E F C K t=>?_) ?_
    ·simp only [PU,Nat.reduceEqDiff,Nat.reduceAdd,reduceIte]at t⊢;clear C;go_simp;exact t.out _ _ ((Pu.refl _).alloc _) ⟨_,rfl,F.size,Blk.new _ _ _⟩
    exact zc.nil
   ·intro y V aa hL F C;have f0:=C 0 (by decide);have f1:=C 1 (by decide);have f2:=C 2 (by decide);have f3:=C 3 (by decide);have f4:=C 4 (by decide);have f5:=C 5 (by decide);have f6:=C 6 (by decide);have f7:=C 7 (by decide);have f8:=C 8 (by decide);have f9:=C 9 (by decide);clear C;simp only [PU,Nat.reduceEqDiff,Nat.reduceAdd,reduceIte];generalize y 0=z0 at f0⊢;generalize y 1=z1 at f1⊢;generalize y 2=z2 at f2⊢;generalize y 3=z3 at f3⊢;generalize y 4=z4 at f4⊢;generalize y 5=z5 at f5⊢;generalize y 6=z6 at f6⊢;generalize y 7=z7 at f7⊢;generalize y 8=z8 at f8⊢;generalize y 9=z9 at f9⊢;obtain rfl:=f0;obtain rfl:=f1;obtain rfl:=f2;obtain rfl:=f4;obtain rfl:=f7;clear f3 f5 f6;obtain⟨gr,Ar,nr,cr,rfl,aY⟩:=f8;obtain⟨br,rfl,fq,au⟩:=f9;rw [zlZ HR.out.rise]at aY;obtain⟨x0,x1⟩:=au.c2_;obtain⟨fv,ft⟩:=au.z2_;obtain⟨V1,hV1⟩:∃V1,V1=(V.setCell ⟨br,0,none⟩ (.bool gr)).setCell ⟨br,1,none⟩ (.slice Ar nr cr):=⟨_,rfl⟩
    obtain⟨dr,ao⟩:=zas au (.bool gr) (.slice Ar nr cr);replace aY:=aY.frT ao (zh au (by decide));have ax:=bk.pu F;have aT:¬U1.heap.size=br:=by have:=bk.lt;omega
    replace ax:=ax.fr ao aT;have bJ:=(zf.pu F).frT ao (zh au (by decide));have b5:¬w.heap.size+1=br:=by have:=m8.lt;omega
    have bD:¬w.heap.size=br:=by have:=m6.lt;omega
    have n8:=(m8.pu F).fr ao b5;have n6:=(m6.pu F).fr ao bD;have cu:=(zo.pu F).frT ao (zh au (by decide));have bI:=(cB.trans F.fr).step ao (fun j hj=> .inr (by have e':j=br:=hj;have:=PV.size;have:=dE.out;have:=cB.size;omega));rw [←hV1]at dr ax bJ n8 n6 cu bI aY;have ef:=Qh hV1;have eC:=bk.lt;clear hV1 au ao m8 m6 zo bk zf tT ds d2 cB PV;go_wp2_with fail;rw [←ef.out];have dZ:Pu V1 V1.drew:=(Pu.refl V1).drew;have P:∀j x u u',j<4→(fun io=>match io with|0=>fun v _=>v= .agg #[.bool gr,.slice Ar nr cr]|1=>fZ (-(zfl (factor J) k B))|2=>fun v _=>v= .agg #[.bool gf,.slice Af nf cf]|3=>fZ (((factor B.fs k).natAbs:Int))|_=>fun _ _=>True:Nat→Value→World→Prop) j x u→NS V1 u u'→(fun io=>match io with|0=>fun v _=>v= .agg #[.bool gr,.slice Ar nr cr]|1=>fZ (-(zfl (factor J) k B))|2=>fun v _=>v= .agg #[.bool gf,.slice Af nf cf]|3=>fZ (((factor B.fs k).natAbs:Int))|_=>fun _ _=>True:Nat→Value→World→Prop) j x u':=by
     intro j x u u' hj h du
     match j,hj,h with
     |0,_,h=>exact h
     |1,_,h=>exact fZ.ns h du
     |2,_,h=>exact h
     |3,_,h=>exact fZ.ns h du
     |_+4,hj,_=>exact absurd hj (by omega)
    refine zag 13 (DJ V1 4 (fun io=>match io with|0=>fun v _=>v= .agg #[.bool gr,.slice Ar nr cr]|1=>fZ (-(zfl (factor J) k B))|2=>fun v _=>v= .agg #[.bool gf,.slice Af nf cf]|3=>fZ (((factor B.fs k).natAbs:Int))|_=>fun _ _=>True) (-(zfl (factor J) k B)/((factor B.fs k).natAbs:Int))) [some 38,some 39,some 40,some 41,some 42,some 37,some 43,some 44,some 45,some 13,some 14,none,none] (by kernel_rfl) (by kernel_rfl) rfl (fun _=>DJ.start dZ) ?_ ?_
    ·refine ze.cons [] rfl (by kernel_rfl) (fun y Lb V E C D K t=>?_) ?_
     ·simp only [PU,Nat.reduceEqDiff,Nat.reduceAdd,reduceIte]at t⊢;have F:=D.pu;obtain⟨x0,x1⟩:=((dr).pu F).c2_;go_simp;exact t.out _ _ (D.kp P 0 E (Pu.refl _) (.inl ⟨by decide,rfl⟩))
     refine ze.cons [0] rfl (by kernel_rfl) (fun y Lb V E C D K t=>?_) ?_
     ·simp only [PU,Nat.reduceEqDiff,Nat.reduceAdd,reduceIte]at t⊢;have F:=D.pu;have v0:y 0=_:=D.pre 0 (by decide) (C 0 (by simp));simp only [v0]at t⊢;go_simp;go_at_call 84;refine(zdp _ (zfl (factor J) k B) V (aY.pu F) (HE.out _ HR.out.off)).mono ?_;rintro e u1 ⟨v,rfl,Z,H⟩;obtain⟨g,A,n,c,rfl⟩:=Z.shape2;go_wp2_with fail;exact t.out _ _ (D.kp P 1 E H (.inl ⟨by decide,⟨g,A,n,c,rfl,Z⟩⟩))
     refine ze.cons [] rfl (by kernel_rfl) (fun y Lb V E C D K t=>?_) ?_
     ·simp only [PU,Nat.reduceEqDiff,Nat.reduceAdd,reduceIte]at t⊢;have F:=D.pu;obtain⟨x0,x1⟩:=((ax).pu F).c2_;go_simp;exact t.out _ _ (D.kp P 2 E (Pu.refl _) (.inl ⟨by decide,rfl⟩))
     refine ze.cons [2] rfl (by kernel_rfl) (fun y Lb V E C D K t=>?_) ?_
     ·simp only [PU,Nat.reduceEqDiff,Nat.reduceAdd,reduceIte]at t⊢;have F:=D.pu;have v2:y 2=_:=D.pre 2 (by decide) (C 2 (by simp));simp only [v2]at t⊢;go_simp;go_at_call 141;refine(zdn _ (factor B.fs k) V (bJ.pu F) (HE.out _ HB.out.2.1)).mono ?_;rintro e u1 ⟨v,rfl,Z,H⟩;obtain⟨g,A,n,c,rfl⟩:=Z.shape2;go_wp2_with fail;exact t.out _ _ (D.kp P 3 E H (.inl ⟨by decide,⟨g,A,n,c,rfl,Z⟩⟩))
     refine ze.cons [1,3] rfl (by kernel_rfl) (fun y Lb V E C D K t=>?_) ?_
     ·simp only [PU,Nat.reduceEqDiff,Nat.reduceAdd,reduceIte]at t⊢;have F:=D.pu;obtain⟨g1,A1,n1,c1,v1,ed⟩:=D.pre 1 (by decide) (C 1 (by simp));obtain⟨g3,A3,n3,c3,v3,et⟩:=D.pre 3 (by decide) (C 3 (by simp));simp only [v1,v3]at t⊢;go_simp;go_at_call 154;refine(zbB _ _ (-(zfl (factor J) k B)) ((factor B.fs k).natAbs:Int) V ed et (by rw [Int.natAbs_neg];exact HE.out _ HR.out.off) (by rw [Int.natAbs_natCast];exact HE.out _ HB.out.2.1) (by have:=HR.out.nz;omega) (zgN _ _ (by have:=HR.out.nz;omega))).mono ?_;rintro e u1 ⟨w3,w4,rfl,h3,h4,H⟩;obtain⟨g3,A3,n3,c3,rfl⟩:=h3.shape2;obtain⟨g4,A4,n4,c4,rfl⟩:=h4.shape2;go_wp2_with fail;exact t.out _ _ (D.kp P 4 E H (.inr (.inl ⟨rfl,⟨g3,A3,n3,c3,g4,A4,n4,c4,rfl,h3⟩⟩)))
     refine ze.cons [4] rfl (by kernel_rfl) (fun y Lb V E C D K t=>?_) ?_
     ·simp only [PU,Nat.reduceEqDiff,Nat.reduceAdd,reduceIte]at t⊢;have F:=D.pu;have U:=C 4 (by simp);obtain⟨g3,A3,n3,c3,g4,A4,n4,c4,ev,_⟩:=D.d U;simp only [ev]at t⊢;go_simp;exact t.out _ _ (D.kp P 5 E (Pu.refl _) (.inr (.inr (.inl ⟨rfl,⟨U,ev.symm⟩⟩))))
     refine ze.cons [5] rfl (by kernel_rfl) (fun y Lb V E C D K t=>?_) ?_
     ·simp only [PU,Nat.reduceEqDiff,Nat.reduceAdd,reduceIte]at t⊢;have F:=D.pu;obtain⟨U,em⟩:=D.m (C 5 (by simp));obtain⟨g3,A3,n3,c3,g4,A4,n4,c4,ev,_⟩:=D.d U;have ak:=em.trans ev
      try dsimp only at ak
      simp only [ak,ev]at t⊢;go_simp;exact t.out _ _ (D.kp P 6 E (Pu.refl _) (.inr (.inr (.inr (.inl ⟨rfl,⟨U,_,_,_,ev,rfl⟩⟩)))))
     refine ze.cons [5] rfl (by kernel_rfl) (fun y Lb V E C D K t=>?_) ?_
     ·simp only [PU,Nat.reduceEqDiff,Nat.reduceAdd,reduceIte]at t⊢;have F:=D.pu;obtain⟨U,em⟩:=D.m (C 5 (by simp));obtain⟨g3,A3,n3,c3,g4,A4,n4,c4,ev,_⟩:=D.d U;have ak:=em.trans ev
      try dsimp only at ak
      simp only [ak,ev]at t⊢;go_simp;exact t.out _ _ (D.kp P 7 E (Pu.refl _) (.inr (.inr (.inr (.inr (.inl ⟨rfl,⟨U,_,_,_,ev,rfl⟩⟩))))))
     refine ze.cons [5] rfl (by kernel_rfl) (fun y Lb V E C D K t=>?_) ?_
     ·simp only [PU,Nat.reduceEqDiff,Nat.reduceAdd,reduceIte]at t⊢;have F:=D.pu;obtain⟨U,em⟩:=D.m (C 5 (by simp));obtain⟨g3,A3,n3,c3,g4,A4,n4,c4,ev,_⟩:=D.d U;have ak:=em.trans ev
      try dsimp only at ak
      simp only [ak,ev]at t⊢;go_simp;exact t.out _ _ (D.kp P 8 E (Pu.refl _) (.inr (.inr (.inr (.inr (.inr (.inl ⟨rfl,⟨U,rfl⟩⟩)))))))
     refine ze.cons [] rfl (by kernel_rfl) (fun y Lb V E C D K t=>?_) ?_
     ·simp only [PU,Nat.reduceEqDiff,Nat.reduceAdd,reduceIte]at t⊢;have F:=D.pu;go_simp;exact t.out _ _ (D.kp P 9 E ((Pu.refl _).alloc _) (.inr (.inr (.inr (.inr (.inr (.inr (⟨.inl rfl,rfl,⟨_,_,_,_,Blk.new _ _ _⟩⟩))))))))
     refine ze.cons [] rfl (by kernel_rfl) (fun y Lb V E C D K t=>?_) ?_
     ·simp only [PU,Nat.reduceEqDiff,Nat.reduceAdd,reduceIte]at t⊢;have F:=D.pu;go_simp;exact t.out _ _ (D.kp P 10 E ((Pu.refl _).alloc _) (.inr (.inr (.inr (.inr (.inr (.inr (⟨.inr rfl,rfl,⟨_,_,_,_,Blk.new _ _ _⟩⟩))))))))
     refine ze.cons [6,9] rfl (by kernel_rfl) (fun y Lb V E C D K t=>?_) ?_
     ·simp only [PU,Nat.reduceEqDiff,Nat.reduceAdd,reduceIte]at t⊢;have F:=D.pu;have bF:=C 6 (by simp);have bb:=C 9 (by simp);obtain⟨g,A,n,c,en⟩:=D.num bF;obtain⟨b,eb,bL,hb⟩:=D.a bb;obtain⟨g',A',n',c',kb⟩:=hb
      try dsimp only [zdD]at en eb
      obtain⟨x0,x1⟩:=kb.c2_;obtain⟨f0,f1⟩:=kb.z2_;obtain⟨kR,eR⟩:=zas kb (.bool g) (.slice A n c);simp only [en,eb]at t⊢;go_simp;exact t.out undef _ (D.store P 11 E (.inl rfl) ⟨_,_,_,_,kb⟩ bL eR kR (fun _=>⟨bF,bb,eb,en⟩) (fun e=>absurd e (by decide)) undef)
     refine ze.cons [7,10] rfl (by kernel_rfl) (fun y Lb V E C D K t=>?_) ?_
     ·simp only [PU,Nat.reduceEqDiff,Nat.reduceAdd,reduceIte]at t⊢;have F:=D.pu;have bF:=C 7 (by simp);have bb:=C 10 (by simp);obtain⟨g,A,n,c,en⟩:=D.num1 bF;obtain⟨b,eb,bL,hb⟩:=D.b bb;obtain⟨g',A',n',c',kb⟩:=hb
      try dsimp only [zdD]at en eb
      obtain⟨x0,x1⟩:=kb.c2_;obtain⟨f0,f1⟩:=kb.z2_;obtain⟨kR,eR⟩:=zas kb (.bool g) (.slice A n c);simp only [en,eb]at t⊢;go_simp;exact t.out undef _ (D.store P 12 E (.inr rfl) ⟨_,_,_,_,kb⟩ bL eR kR (fun e=>absurd e (by decide)) (fun _=>⟨bb,eb⟩) undef)
     exact ze.nil
    ·intro y V2 Lb hL D;obtain⟨bQ,gQ,AQ,nQ,cQ,eb,bL,hB,hQ⟩:=D.last (hL 11 (by decide));have F:=D.pu;clear D
     try dsimp only [zdD]at eb
     simp only [PU,Nat.reduceEqDiff,Nat.reduceAdd,reduceIte];simp only [eb];generalize y 0=y0;generalize y 1=y1;generalize y 2=y2;generalize y 3=y3;generalize y 4=y4;generalize y 5=y5;generalize y 6=y6;generalize y 7=y7;generalize y 8=y8;generalize y 10=fw;clear P;have q8:=n8.pu F;have q6:=n6.pu F;have ba:=ax.pu F;have bN:=cu.pu F;have aM:=bJ.pu F;have bO:=bI.trans F.fr;have b5:¬w.heap.size+1=bQ:=by have:=n8.lt;omega
     have bD:¬w.heap.size=bQ:=by have:=n6.lt;omega
     have aT:¬U1.heap.size=bQ:=by have:=ax.lt;omega
     have fe:W.heap.size≤bQ:=by have:=bI.size;omega
     have di:=zpF HR.out;have aA:=Qh di;obtain⟨y0,y1⟩:=ba.c2_;have am:=Qh (fun T (p:ZR T (.agg #[.bool gf,.slice Af nf cf]) (factor B.fs k))=>zaN _ (factor B.fs k) T p (HE.out _ HB.out.2.1));clear F n8 n6 ax cu bJ bI di;rcases Int.lt_or_gt_of_ne HR.out.nz with hneg|hpos
     ·have bj:(factor B.fs k).sign= -1:=Int.sign_eq_neg_one_of_neg hneg;have aI:zbg (factor J) k B= -(-(zfl (factor J) k B)/((factor B.fs k).natAbs:Int)):=by
       unfold zbg;dsimp only;rw [if_pos hneg]
      have aL:=Qh (AI aI hneg);rw [bj]at am;clear aI bj hneg;go_wp2_with fail;refine(am.out _ aM).mono ?_;rintro e T1 ⟨rfl,H⟩;have dh:=aM.pu H;have dx:=ba.pu H;have r8:=q8.pu H;have r6:=q6.pu H;have rB:=hB.pu H;have rQ:=hQ.pu H;have de:=bN.pu H;have dv:=bO.trans H.fr;obtain⟨a0,a1⟩:=rB.c2_;obtain⟨g0,g1⟩:=rB.z2_;clear ba q8 q6 hB hQ bN bO aM y0 y1 H;go_wp2_with fail;refine(zdp _ _ _ rQ (HE.out _ aA.out.2)).mono ?_;rintro e T2 ⟨v,rfl,bR,p2⟩;obtain⟨gn,An,nn,cn,rfl⟩:=bR.shape2;rw [←aL.out.1]at bR;have sB:=rB.pu p2;obtain⟨b0,b1⟩:=sB.c2_;obtain⟨fz,fu⟩:=sB.z2_;obtain⟨kN,eN⟩:=zas sB (.bool gn) (.slice An nn cn);have aN:=(dx.pu p2).fr eN aT;have s8:=(r8.pu p2).fr eN b5;have s6:=(r6.pu p2).fr eN bD;have aJ:=(dh.pu p2).frT eN (zh sB (by decide));have ai:=(de.pu p2).frT eN (zh sB (by decide));have aj:=bR.frT eN (zh sB (by decide));have aH:=(dv.trans p2.fr).step eN (fun j hj=> .inr (by have e':j=bQ:=hj;omega));clear dx r8 r6 rB rQ de dv dh a0 a1 g0 g1 p2 sB eN bR;obtain⟨T3,hT3⟩:∃T3,T3=(T2.setCell ⟨bQ,0,none⟩ (.bool gn)).setCell ⟨bQ,1,none⟩ (.slice An nn cn):=⟨_,rfl⟩
      rw [←hT3]at kN aN s8 s6 aJ ai aj aH;have df:=Qh hT3;clear hT3;obtain⟨c0,c1⟩:=kN.c2_;obtain⟨d0,d1⟩:=s8.c2_;obtain⟨s,hs,cl,aW,bo⟩:=zfe (zbg (factor J) k B) (o.getD 0);have Hs:=Qh (AI aW bo);have hc:=Qh (zbF _ _ _ _ T3 aj ai (HE.out _ aA.out.1) (HE.out _ I.out.2.2.1));rw [hs]at hc;clear hs cl aW bo;rw [df.out]at c0 c1 d0 d1 hc;go_wp2_with fail;refine hc.out.mono ?_;rintro e T4 ⟨rfl,Q⟩;rw [←df.out]at Q;have u8:=s8.pu Q;have u11:=aN.pu Q;have uQ:=kN.pu Q;have S:=aj.pu Q;have cm:=ai.pu Q;have ad:=aJ.pu Q;have av:=aH.trans Q.fr;clear s8 aN s6 kN aj ai aJ aH Q c0 c1 d0 d1 hc;by_cases a5:i=0
      ·have hS:=Qh (zeX I.out.1 I.out.2.1 I.out.2.2.1 aA.out.1 aK.out (.inl a5));subst a5;clear ad u11;have N:=u8;have vQ:=uQ;obtain⟨a0,a1⟩:=vQ.c2_;obtain⟨d0,d1⟩:=N.c2_;obtain⟨g0,g1⟩:=N.z2_;obtain⟨kE,eE⟩:=zas N (.bool gn) (.slice An nn cn);have zE:=(S).frT eE (zh N (by decide));have Y:=(av).trans eE;have O:=Qh (AI kE (AI zE Y));clear kE zE Y eE N vQ uQ u8 S;go_wp2;go_roundw
       case rel=>exact⟨0+1,gn,An,nn,cn,some (zbg (factor J) k B),by omega,by go_num,O.out.1,O.out.2.1,hS,O.out.2.2⟩
       case measure=>simp [intOf];omega
      ·have dI:((i:Int)==0)=false:=by simp;omega
       obtain⟨f0,f1⟩:=u11.c2_;go_wp2_with fail;refine(am.out _ ad).mono ?_;rintro e T5 ⟨rfl,p5⟩;by_cases M:s>0
       ·have hd:decide (s>0)=true:=decide_eq_true M;have dk:decide (0<s)=true:=decide_eq_true M;have hS:=Qh (zeX I.out.1 I.out.2.1 I.out.2.2.1 aA.out.1 aK.out (.inr (.inl ⟨aL.out.2,Hs.out.2.1 M⟩)));clear ad u11 f0 f1 M;have N:=u8.pu p5;have vQ:=uQ.pu p5;obtain⟨a0,a1⟩:=vQ.c2_;obtain⟨d0,d1⟩:=N.c2_;obtain⟨g0,g1⟩:=N.z2_;obtain⟨kE,eE⟩:=zas N (.bool gn) (.slice An nn cn);have zE:=(S.pu p5).frT eE (zh N (by decide));have Y:=(av.trans p5.fr).trans eE;have O:=Qh (AI kE (AI zE Y));clear kE zE Y eE N vQ uQ u8 S;go_wp2;go_roundw
        case rel=>exact⟨i+1,gn,An,nn,cn,some (zbg (factor J) k B),by omega,by go_num,O.out.1,O.out.2.1,hS,O.out.2.2⟩
        case measure=>simp [intOf];omega
       ·have hd:decide (s>0)=false:=decide_eq_false M;have dk:decide (0<s)=false:=decide_eq_false M;have cp:=Qh (zi2 I.out.1 I.out.2.1 I.out.2.2.1 a5 aK.out (.inl ⟨aL.out.2,fun hh=>M (Hs.out.2.2 hh)⟩));have aX:=ad.pu p5;have aV:=u11.pu p5;obtain⟨f0,f1⟩:=aV.c2_;clear M;go_wp2_with fail;refine(am.out _ aX).mono ?_;rintro e T6 ⟨rfl,p6⟩;have R:=p5.trans p6;clear ad aX u11 aV f0 f1;have O:=Qh (AI (u8.pu R) (AI (cm.pu R) (av.trans R.fr)));clear uQ u8 S;go_wp2;go_roundw
        case rel=>exact⟨i+1,go,Ao,no,co,o,by omega,by go_num,O.out.1,O.out.2.1,cp,O.out.2.2⟩
        case measure=>simp [intOf];omega
     ·have bj:(factor B.fs k).sign=1:=Int.sign_eq_one_of_pos hpos;have aI:zbg (factor J) k B= -(zfl (factor J) k B)/((factor B.fs k).natAbs:Int):=by
       unfold zbg;dsimp only;rw [if_neg (by omega)]
      have aL:=Qh (AI aI hpos);rw [bj]at am;rw [←aI]at hQ;clear aI bj hpos;go_wp2_with fail;refine(am.out _ aM).mono ?_;rintro e T3 ⟨rfl,H⟩;have aJ:=aM.pu H;have aN:=ba.pu H;have s8:=q8.pu H;have s6:=q6.pu H;have kN:=hB.pu H;have aj:=hQ.pu H;have ai:=bN.pu H;have aH:=bO.trans H.fr;clear ba q8 q6 hB hQ bN bO aM y0 y1 H;obtain⟨c0,c1⟩:=kN.c2_;obtain⟨d0,d1⟩:=s8.c2_;obtain⟨s,hs,cl,aW,bo⟩:=zfe (zbg (factor J) k B) (o.getD 0);have Hs:=Qh (AI aW bo);have hc:=Qh (zbF _ _ _ _ T3 aj ai (HE.out _ aA.out.1) (HE.out _ I.out.2.2.1));rw [hs]at hc;clear hs cl aW bo;go_wp2_with fail;refine hc.out.mono ?_;rintro e T4 ⟨rfl,Q⟩;have u8:=s8.pu Q;have u11:=aN.pu Q;have uQ:=kN.pu Q;have S:=aj.pu Q;have cm:=ai.pu Q;have ad:=aJ.pu Q;have av:=aH.trans Q.fr;clear s8 aN s6 kN aj ai aJ aH Q c0 c1 d0 d1 hc;by_cases a5:i=0
      ·have hS:=Qh (zeX I.out.1 I.out.2.1 I.out.2.2.1 aA.out.1 aK.out (.inl a5));subst a5;clear ad u11;have N:=u8;have vQ:=uQ;obtain⟨a0,a1⟩:=vQ.c2_;obtain⟨d0,d1⟩:=N.c2_;obtain⟨g0,g1⟩:=N.z2_;obtain⟨kE,eE⟩:=zas N (.bool gQ) (.slice AQ nQ cQ);have zE:=(S).frT eE (zh N (by decide));have Y:=(av).trans eE;have O:=Qh (AI kE (AI zE Y));clear kE zE Y eE N vQ uQ u8 S;go_wp2;go_roundw
       case rel=>exact⟨0+1,gQ,AQ,nQ,cQ,some (zbg (factor J) k B),by omega,by go_num,O.out.1,O.out.2.1,hS,O.out.2.2⟩
       case measure=>simp [intOf];omega
      ·have dI:((i:Int)==0)=false:=by simp;omega
       obtain⟨f0,f1⟩:=u11.c2_;go_wp2_with fail;refine(am.out _ ad).mono ?_;rintro e T5 ⟨rfl,p5⟩;have aX:=ad.pu p5;have aV:=u11.pu p5;obtain⟨f0,f1⟩:=aV.c2_;go_wp2_with fail;refine(am.out _ aX).mono ?_;rintro e T6 ⟨rfl,p6⟩;have R:=p5.trans p6;clear ad aX u11 aV f0 f1;by_cases M:s<0
       ·have hd:decide (s<0)=true:=decide_eq_true M;have hS:=Qh (zeX I.out.1 I.out.2.1 I.out.2.2.1 aA.out.1 aK.out (.inr (.inr ⟨by have:=aL.out.2;omega,Hs.out.1.1 M⟩)));clear M;have N:=u8.pu R;have vQ:=uQ.pu R;obtain⟨a0,a1⟩:=vQ.c2_;obtain⟨d0,d1⟩:=N.c2_;obtain⟨g0,g1⟩:=N.z2_;obtain⟨kE,eE⟩:=zas N (.bool gQ) (.slice AQ nQ cQ);have zE:=(S.pu R).frT eE (zh N (by decide));have Y:=(av.trans R.fr).trans eE;have O:=Qh (AI kE (AI zE Y));clear kE zE Y eE N vQ uQ u8 S;go_wp2;go_roundw
        case rel=>exact⟨i+1,gQ,AQ,nQ,cQ,some (zbg (factor J) k B),by omega,by go_num,O.out.1,O.out.2.1,hS,O.out.2.2⟩
        case measure=>simp [intOf];omega
       ·have hd:decide (s<0)=false:=decide_eq_false M;have cp:=Qh (zi2 I.out.1 I.out.2.1 I.out.2.2.1 a5 aK.out (.inr ⟨by have:=aL.out.2;omega,fun hh=>M (Hs.out.1.2 hh)⟩));clear M;have O:=Qh (AI (u8.pu R) (AI (cm.pu R) (av.trans R.fr)));clear uQ u8 S;go_wp2;go_roundw
        case rel=>exact⟨i+1,go,Ao,no,co,o,by omega,by go_num,O.out.1,O.out.2.1,cp,O.out.2.2⟩
        case measure=>simp [intOf];omega
  ·obtain rfl:i=n:=by omega
   have dt:l.take i=l:=List.take_of_length_le (by rw [←HL.out.2,HL.out.1];exact Nat.le_refl _);have bH:(zeL (factor J) k l).getD 0=o.getD 0:=by rw [I.out.1,dt];rfl
   have cg:decide (0<(i:Int))=decide (0<i):=by simp
   obtain⟨a0,a1⟩:=l8.c2_;obtain⟨c0,c1⟩:=l6.c2_;obtain⟨d0,d1⟩:=l6.z2_;obtain⟨kR,eR⟩:=zas l6 (.bool go) (.slice Ao no co);obtain⟨r0,r1⟩:=kR.c2_;have d4:=bP.frT eR (zh l6 (by decide));have hP:=bM.step eR (fun j hj=>by have e':j=w.heap.size:=hj;omega);have HP:=Qh (AI bH (AI d4 (AI hP cg)));clear bH d4 hP eR kR l8 l6 bP I dt cg;rcases Nat.eq_zero_or_pos i with h0|h0
   ·subst h0;go_wp2;exact bodyPost_ret (v:= .tuple #[.agg #[.bool go,.slice Ao no co],.bool false]) (by simp [results,Tryz.results172,go_sem,r0,r1]) rfl ⟨go,Ao,no,co,rfl,by rw [HP.out.1];exact HP.out.2.1,HP.out.2.2.1⟩
   ·have hd:decide ((i:Int)>0)=true:=by simp;omega
    have dk:decide (0<(i:Int))=true:=by simp;omega
    have el:=Qh (show decide (0<i)=true by simp;omega);go_wp2;exact bodyPost_ret (v:= .tuple #[.agg #[.bool go,.slice Ao no co],.bool true]) (by simp [results,Tryz.results172,go_sem,r0,r1]) rfl ⟨go,Ao,no,co,by rw [el.out],by rw [HP.out.1];exact HP.out.2.1,HP.out.2.2.1⟩
end
end Go.Proofs.YtckfnbckoclhpaaGreatDoor

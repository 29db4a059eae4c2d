/- The solver. -/
import Derived.Test.YtckfnbckoclhpaaGreatDoorF7
import Derived.Test.YtckfnbckoclhpaaGreatDoorF3
import Derived.Test.YtckfnbckoclhpaaGreatDoorF4
import Derived.Test.YtckfnbckoclhpaaGreatDoorCT
namespace Go.Proofs.YtckfnbckoclhpaaGreatDoor
set_option linter.unusedVariables false
set_option linter.unusedSimpArgs false
set_option maxRecDepth 100000
set_option maxHeartbeats 16000000
section
open Go.RowKit
theorem zrz{W:World}{b:Nat}{t:TypeId}{x y w z:Value}(k:Blk W b t #[x,y,w,z])(v o p j:Value):Blk ((((W.setCell ⟨b,0,none⟩ v).setCell ⟨b,1,none⟩ o).setCell ⟨b,2,none⟩ p).setCell ⟨b,3,none⟩ j) b t #[v,o,p,j]∧Fr (fun i=>i=b) W ((((W.setCell ⟨b,0,none⟩ v).setCell ⟨b,1,none⟩ o).setCell ⟨b,2,none⟩ p).setCell ⟨b,3,none⟩ j):=⟨(((k.set_ 0 v).set_ 1 o).set_ 2 p).set_ 3 j,(((Fr.one W _ 0 _).trans (Fr.one _ _ 1 _)).trans (Fr.one _ _ 2 _)).trans (Fr.one _ _ 3 _)⟩
structure zso(k:Key)(m:Int)(a:RowM):Prop where
 x3:(factor a.fs k).natAbs<4294967296^E3
 m3:m.natAbs<4294967296^E3
 xm:(((factor a.fs k).natAbs:Int)*m).natAbs<4294967296^E3
 s1:(((factor a.fs k).natAbs:Int)*m - ((factor a.fs k).natAbs:Int)).natAbs<4294967296^E3
 s2:(((factor a.fs k).natAbs:Int)*m - ((factor a.fs k).natAbs:Int) - m).natAbs<4294967296^E3
 far:(zl0 k m a).natAbs<4294967296^E3
 m0:m≠0
 rest:a.rest.natAbs<4294967296^E3
 up:zad (2^BB) a.fs
 few:a.fs.length≤60
 big:2^BB+1100000*0<4294967296^E3
theorem Fit.spl{NM:List Key}{f:Nat}{l:List RowM}{k:Key}{m:Int}{a:RowM}(h:Fit NM f l)(v:zfo NM)(i:a∈l)(w:m≠0)(o:m.natAbs≤2^BB):zso k m a:=by
 have x:=h.min.entry i k;have B:(((factor a.fs k).natAbs:Int)*m).natAbs≤2^(BB+BB):=by rw [Int.natAbs_mul,Int.natAbs_natCast,←zcx];exact Nat.mul_le_mul x o
 have y:(2:Nat)^BB≤2^(BB+BB):=zbV (by omega);have C:=zbc (c:=4) (m:=2) (BB+BB) (by decide);have z:=zaB (n:=2+(BB+BB)) (by unfold BB;omega);have j:(((factor a.fs k).natAbs:Int)*m - ((factor a.fs k).natAbs:Int) - m).natAbs<4294967296^E3:=by omega
 have t:(((factor a.fs k).natAbs:Int)*m - ((factor a.fs k).natAbs:Int)).natAbs<4294967296^E3:=by omega
 have p:(2:Nat)^BB<4294967296^E3:=by omega
 refine⟨by omega,by omega,by omega,t,j,?_,w,h.rest3 i,h.up i,h.few v i,by rw [Nat.mul_zero,Nat.add_zero];exact p⟩;exact Nat.lt_of_le_of_lt (zbx _ _) j
theorem zkW{k:Key}{M:Nat}:∀(l:List RowM) (m:Int),m.natAbs≤M→(∀r∈l,(factor r.fs k).natAbs≤M)→(l.foldl (fun m r=>if m<factor r.fs k then factor r.fs k else m) m).natAbs≤M
 | [],m,h,_=>h
 |r::l,m,h,hl=>by
  rw [List.foldl_cons];refine zkW l _ ?_ fun q i=>hl q (List.mem_cons_of_mem _ i);split
  ·exact hl r (List.mem_cons_self ..)
  ·exact h
theorem Fit.most{NM:List Key}{f:Nat}{l:List RowM}{k:Key}(h:Fit NM f l)(i:zel k l=false):zgZ k (zm k 1 l)≠0∧0≤zgZ k (zm k 1 l)∧(zgZ k (zm k 1 l)).natAbs≤2^BB:=by
 have j:=zkB (k:=k) (zm k 1 l) 0;have p:∃b,b∈zm k 1 l:=by
  cases e:zm k 1 l with
  |nil=>unfold zel at i;rw [e]at i;simp at i
  |cons b _=>exact⟨b,List.mem_cons_self ..⟩
 obtain⟨b,o⟩:=p;have v:=j.2 b o;have w:=(zbX h.sys.rise b o).2.2;refine⟨?_,j.1,zkW _ _ (Nat.zero_le _) fun r t=>h.min.entry (zJ.1 t).1 k⟩;unfold zgZ;omega
theorem zqW(a b:Int):∃q:Int,zee a b=q∧decide (q≤0)=decide (a≤b):=by
 refine⟨_,rfl,?_⟩;unfold zee;split
 ·rw [decide_eq_true (by decide),decide_eq_true (by omega)]
 ·split
  ·rw [decide_eq_false (by decide),decide_eq_false (by omega)]
  ·rw [decide_eq_true (by decide),decide_eq_true (by omega)]
theorem zgS.used{w:World}{sb F U:Nat}(h:zgS w sb F U):(intOf ((w.cell? ⟨sb,1,none⟩).getD undef)).toNat=U:=by rw [show w.cell? ⟨sb,1,none⟩=some (.int .i64 (U:Int))from h.cell 1];simp [intOf]
theorem zh7{d:Nat}(hS:zer d)(NM:List Key)(l:List RowM)(k:Key)(A:Option Addr)(n c:Nat)(L:List RawR)(A0:Option Addr)(n0 c0:Nat)(A1:Option Addr)(n1 c1:Nat)(A2:Option Addr)(n2 c2:Nat)(x:Bool)(sb F U Ub:Nat)(w:World) (J:zfo NM) (hF:Fit NM (F - U+1) l) (hU:U≤F) (gd:F≤2000) (hd:F - U<d) (hs:zgS w sb F U) (hl:SlR w A n c L) (hh:zF w L l) (hc:ze3 w l k A0 n0 c0 A1 n1 c1 A2 n2 c2 x) (hx:zel k l=false) (he:∀r∈l,r.eq=false) (bM:¬za4 (zhh k true l)) (fC:Ub<U):Calls Tryz.prog 146 #[.pointer (some ⟨sb,0,none⟩),.slice A n c,.agg #[.string ⟨k.toArray⟩,.slice A0 n0 c0,.slice A1 n1 c1,.slice A2 n2 c2,.bool x]] w (zat NM (F - U) l False sb F Ub w):=by
 have eM:=hF.cnt;have gu:=hc.few;have fb:=zaZ k 0 l;have gc:=zaZ k 1 l;have ee:L.length=n:=hl.len;have hn:n≤2200:=by have:=hh.1;omega
 have cS:n0≤2200:=by omega
 have d9:n1<1100000:=by omega
 obtain⟨⟨L0,a0,b0⟩,⟨L1,a1,b1⟩,fx,fU⟩:=hc;clear fx fU;have bW:L0.length=n0:=a0.len;have bL:=b0.1;have bT:=hs.lt;have b4:∀r∈zm k 1 l,(factor r.fs k).natAbs<4294967296^E4:=fun r hr=>up4 (Nat.lt_of_le_of_lt (hF.min.entry (zJ.1 hr).1 k) (zaB (by unfold BB;omega)));obtain⟨X,hXe⟩:∃X,X=w.alloc (.cells #[.string ⟨k.toArray⟩,.slice A0 n0 c0,.slice A1 n1 c1,.slice A2 n2 c2,.bool x] 222):=⟨_,rfl⟩
 have pX:Pu w X:=by rw [hXe];exact(Pu.refl w).alloc _
 have kx:Blk X w.heap.size 222 #[.string ⟨k.toArray⟩,.slice A0 n0 c0,.slice A1 n1 c1,.slice A2 n2 c2,.bool x]:=by rw [hXe];exact Blk.new _ _ _
 have bV:=Qh (zoO A1 n1 c1 L1 (zm k 1 l) k X (Sl.pu a1 pX) (b1.pu pX) b4 d9);have I:=kx.cell 0;have x2:=kx.cell 2;have gv:=Qh hXe;have HM:=Qh (hF.most hx);obtain⟨m,hm⟩:∃m,m=zgZ k (zm k 1 l):=⟨_,rfl⟩
 rw [←hm]at bV HM;have HF:=Qh (AI hF (AI J (AI he bM)));have Hn:=Qh (AI hn (AI cS (AI bW (AI bL (AI bT (AI hd (AI fC hm)))))));rw [hXe]at I x2 bV;clear hXe hF he bM eM gu fb gc ee hn cS d9 bW bL bT b4 a1 b1 hd hm hx;go_enter Tryz.func146,Tryz.ntmps146;go_wp2_with fail;refine bV.out.mono ?_;rintro e W0 ⟨v8,rfl,h8,p0⟩;rw [←gv.out]at p0;obtain⟨g8,A8,n8,c8,rfl⟩:=h8.shape2;obtain⟨W,hW⟩:∃W,W=W0.alloc (.cells #[.bool g8,.slice A8 n8 c8] 30):=⟨_,rfl⟩
 have bO:Pu X W:=by rw [hW];exact p0.alloc _
 obtain⟨b8,hb8⟩:∃b8,b8=W0.heap.size:=⟨_,rfl⟩
 have k8:Blk W b8 30 #[.bool g8,.slice A8 n8 c8]:=by rw [hW,hb8];exact Blk.new _ _ _
 have z8:ZR W (.agg #[.bool g8,.slice A8 n8 c8]) m:=by rw [hW];exact h8.pu ((Pu.refl _).alloc _)
 have dN:=kx.pu bO;have pW:=pX.trans bO;have sW:=hs.pu pW;have fF:=Sl.pu a0 pW;have gA:=b0.pu pW;have lW:=Sl.pu hl pW;have fk:=hh.pu pW;have i1:=pX.size;have it:=bO.size;have ep:=p0.size;have hD:w.heap.size<X.heap.size:=kx.lt;have y1:=dN.cell 1;rw [hW]at y1;have HW:=Qh hW;have f8:=Qh hb8;have i3:X.heap.size≤b8:=by omega
 clear hW hb8 h8 kx p0 bO I x2 bV a0 b0 hl hh hs pX ep;go_wp2_with fail;rw [←HW.out,←f8.out];clear y1
 go_loopw [27] (fun iv wr=>∃(i U1:Nat),i≤n0∧iv= .int .i64 (i:Int)∧U≤U1∧U1≤F∧zgS wr sb F U1∧Fr (fun j=>j=sb) W wr∧Hid (∀a∈(zm k 0 l).take i,∀j:Nat,(j:Int)≤zl0 k m a→¬za4 (l++[zhi a j]))) (fun iv _=>n0 - (intOf iv).toNat)
 case atStart=>exact⟨0,U,Nat.zero_le _,rfl,Nat.le_refl _,hU,sW,Fr.refl _ _,Qh (by simp)⟩
 case round=>
  obtain⟨i,U1,hi,rfl,iL,cl,s1,Z,dB⟩:=hrel;by_cases bT:i<n0
  ·obtain⟨q,hq⟩:∃q,L0[i]?=some q:=⟨_,List.getElem?_eq_getElem (by rw [Hn.out.2.2.1];exact bT)⟩
   obtain⟨a,ha,ea⟩:=(gA.sv sW Z).at_ hq;obtain⟨bq,hP,rfl,eB,I,P,x2,x3⟩:=SlR.at_ (SlR.sv fF sW Z) hq;obtain⟨qg,qA,qn,qc,qm,qe⟩:=q;dsimp only at I P x2 x3;have cG:a∈l:=(zJ.1 (List.mem_of_getElem? ha)).1;have Q:=Qh (HF.out.1.spl (k:=k) HF.out.2.1 cG HM.out.1 HM.out.2.2);have gy:=Qh cG;have iH:=Z.size;have cO:=dN.fr Z (by have:=Hn.out.2.2.2.2.1;omega);have dC:=k8.fr Z (by have:=Hn.out.2.2.2.2.1;omega);have dH:=z8.sv sW Z;obtain⟨V,E⟩:∃V,V=wr.alloc (.cells #[.bool qg,.slice qA qn qc,.pointer qm,.bool qe] 35):=⟨_,rfl⟩
   have pV:Pu wr V:=by rw [E];exact(Pu.refl wr).alloc _
   obtain⟨aQ,hb10⟩:∃aQ,aQ=wr.heap.size:=⟨_,rfl⟩
   have cY:Blk V aQ 35 #[.bool qg,.slice qA qn qc,.pointer qm,.bool qe]:=by rw [E,hb10];exact Blk.new _ _ _
   have co:=ea.2;dsimp only [RawR.term]at co;have S:=co.pu pV;have Hf:=Qh (zY _ a.rest k a.fs V S);have y0:=(cO.pu pV).cell 0;obtain⟨w0,w1,w2⟩:=cY.c3_;rw [E]at y0 Hf;rw [E,hb10]at w0 w1 w2;have HV:=Qh E;have eu:=Qh hb10;have gU:W.heap.size≤aQ:=by omega
   have eL:=List.mem_of_getElem? ha;have fD:=Qh (show(zm k 0 l).take (i+1)=(zm k 0 l).take i++[a] by rw [List.take_add_one,ha];rfl);have gp:=cO.pu pV;have dQ:=dC.pu pV;have d8:=dH.pu pV;have s2:=s1.pu pV;have Fv:=Z.pu pV;clear E hb10 hq ha ea co cO dC dH s1 Z eB cG eL;go_wp2_with fail;refine Hf.out.mono ?_;rintro e V1 ⟨v,rfl,hf,M⟩;rw [←HV.out]at M;clear I P x2 x3 y0 w0 w1 w2 Hf;go_wp2_with fail;refine(zdn _ (factor a.fs k) V1 hf (up4 Q.out.x3)).mono ?_;rintro e V2 ⟨iI,rfl,db,p2⟩;obtain⟨ae,af,ag,ad,rfl⟩:=db.shape2;obtain⟨V0,hV0⟩:∃V0,V0=V2.alloc (.cells #[.bool ae,.slice af ag ad] 30):=⟨_,rfl⟩
   have a9:Pu V V0:=by rw [hV0];exact(M.trans p2).alloc _
   obtain⟨cA,hb11⟩:∃cA,cA=V2.heap.size:=⟨_,rfl⟩
   have cV:Blk V0 cA 30 #[.bool ae,.slice af ag ad]:=by rw [hV0,hb11];exact Blk.new _ _ _
   have cC:ZR V0 (.agg #[.bool ae,.slice af ag ad]) ((factor a.fs k).natAbs:Int):=by rw [hV0];exact db.pu ((Pu.refl _).alloc _)
   have bU:=dQ.pu a9;have bS:=d8.pu a9;have cx:=cY.pu a9;have sv:=s2.pu a9;have cH:=Fv.pu a9;have dF:=S.pu a9;have gn:=Qh hV0;have eX:=Qh hb11;clear hV0 hb11 dQ d8 cY s2 Fv S M p2 hf db gp;go_wp2_with fail;rw [←gn.out,←eX.out]
   try rw [←eu.out]
   have pd:Pu V0 V0.drew:=(Pu.refl V0).drew;have G:∀j x u u',j<8→(fun io=>match io with|0=>fun v _=>v= .agg #[.bool ae,.slice af ag ad]|1=>fun v _=>v= .agg #[.bool g8,.slice A8 n8 c8]|2=>fZ ((((factor a.fs k).natAbs:Int))*m)|3=>fun v _=>v= .agg #[.bool ae,.slice af ag ad]|4=>fZ ((((factor a.fs k).natAbs:Int))*m - (((factor a.fs k).natAbs:Int)))|5=>fun v _=>v= .agg #[.bool g8,.slice A8 n8 c8]|6=>fZ ((((factor a.fs k).natAbs:Int))*m - (((factor a.fs k).natAbs:Int)) - m)|7=>fun v _=>v= .agg #[.bool g8,.slice A8 n8 c8]|_=>fun _ _=>True:Nat→Value→World→Prop) j x u→NS V0 u u'→(fun io=>match io with|0=>fun v _=>v= .agg #[.bool ae,.slice af ag ad]|1=>fun v _=>v= .agg #[.bool g8,.slice A8 n8 c8]|2=>fZ ((((factor a.fs k).natAbs:Int))*m)|3=>fun v _=>v= .agg #[.bool ae,.slice af ag ad]|4=>fZ ((((factor a.fs k).natAbs:Int))*m - (((factor a.fs k).natAbs:Int)))|5=>fun v _=>v= .agg #[.bool g8,.slice A8 n8 c8]|6=>fZ ((((factor a.fs k).natAbs:Int))*m - (((factor a.fs k).natAbs:Int)) - m)|7=>fun v _=>v= .agg #[.bool g8,.slice A8 n8 c8]|_=>fun _ _=>True:Nat→Value→World→Prop) j x u':=by
    intro j x u u' hj h cI
    match j,hj,h with
    |0,_,h=>exact h
    |1,_,h=>exact h
    |2,_,h=>exact fZ.ns h cI
    |3,_,h=>exact h
    |4,_,h=>exact fZ.ns h cI
    |5,_,h=>exact h
    |6,_,h=>exact fZ.ns h cI
    |7,_,h=>exact h
    |_+8,hj,_=>exact absurd hj (by omega)
   refine zag 17 (DJ V0 8 (fun io=>match io with|0=>fun v _=>v= .agg #[.bool ae,.slice af ag ad]|1=>fun v _=>v= .agg #[.bool g8,.slice A8 n8 c8]|2=>fZ ((((factor a.fs k).natAbs:Int))*m)|3=>fun v _=>v= .agg #[.bool ae,.slice af ag ad]|4=>fZ ((((factor a.fs k).natAbs:Int))*m - (((factor a.fs k).natAbs:Int)))|5=>fun v _=>v= .agg #[.bool g8,.slice A8 n8 c8]|6=>fZ ((((factor a.fs k).natAbs:Int))*m - (((factor a.fs k).natAbs:Int)) - m)|7=>fun v _=>v= .agg #[.bool g8,.slice A8 n8 c8]|_=>fun _ _=>True) (zl0 k m a)) [some 38,some 39,some 40,some 41,some 42,some 43,some 44,some 45,some 46,some 37,some 47,some 48,some 49,some 12,some 13,none,none] (by kernel_rfl) (by kernel_rfl) rfl (fun _=>DJ.start pd) ?_ ?_
   ·refine ze.cons [] rfl (by kernel_rfl) (fun y O V C t B K o=>?_) ?_
    ·simp only [PU,Nat.reduceEqDiff,Nat.reduceAdd,reduceIte]at o⊢;have E:=B.pu;obtain⟨I,P⟩:=((cV).pu E).c2_;go_simp;exact o.out _ _ (B.kp G 0 C (Pu.refl _) (.inl ⟨by decide,rfl⟩))
    refine ze.cons [] rfl (by kernel_rfl) (fun y O V C t B K o=>?_) ?_
    ·simp only [PU,Nat.reduceEqDiff,Nat.reduceAdd,reduceIte]at o⊢;have E:=B.pu;obtain⟨I,P⟩:=((bU).pu E).c2_;go_simp;exact o.out _ _ (B.kp G 1 C (Pu.refl _) (.inl ⟨by decide,rfl⟩))
    refine ze.cons [0,1] rfl (by kernel_rfl) (fun y O V C t B K o=>?_) ?_
    ·simp only [PU,Nat.reduceEqDiff,Nat.reduceAdd,reduceIte]at o⊢;have E:=B.pu;have v0:y 0=_:=B.pre 0 (by decide) (t 0 (by simp));have v1:y 1=_:=B.pre 1 (by decide) (t 1 (by simp));simp only [v0,v1]at o⊢;go_simp;go_at_call 50;refine(zfK _ _ (((factor a.fs k).natAbs:Int)) m V (cC.pu E) (bS.pu E) (by rw [Int.natAbs_natCast];exact up9 Q.out.x3) (up9 Q.out.m3)).mono ?_;rintro e u1 ⟨v,rfl,J,M⟩;obtain⟨g,A,n,c,rfl⟩:=J.shape2;go_wp2_with fail;exact o.out _ _ (B.kp G 2 C M (.inl ⟨by decide,⟨g,A,n,c,rfl,J⟩⟩))
    refine ze.cons [] rfl (by kernel_rfl) (fun y O V C t B K o=>?_) ?_
    ·simp only [PU,Nat.reduceEqDiff,Nat.reduceAdd,reduceIte]at o⊢;have E:=B.pu;obtain⟨I,P⟩:=((cV).pu E).c2_;go_simp;exact o.out _ _ (B.kp G 3 C (Pu.refl _) (.inl ⟨by decide,rfl⟩))
    refine ze.cons [2,3] rfl (by kernel_rfl) (fun y O V C t B K o=>?_) ?_
    ·simp only [PU,Nat.reduceEqDiff,Nat.reduceAdd,reduceIte]at o⊢;have E:=B.pu;obtain⟨g2,A2,n2,c2,v2,bY⟩:=B.pre 2 (by decide) (t 2 (by simp));have v3:y 3=_:=B.pre 3 (by decide) (t 3 (by simp));simp only [v2,v3]at o⊢;go_simp;go_at_call 174;refine(zgq _ _ ((((factor a.fs k).natAbs:Int))*m) (((factor a.fs k).natAbs:Int)) V bY (cC.pu E) (up4 Q.out.xm) (by rw [Int.natAbs_natCast];exact up4 Q.out.x3)).mono ?_;rintro e u1 ⟨v,rfl,J,M⟩;obtain⟨g,A,n,c,rfl⟩:=J.shape2;go_wp2_with fail;exact o.out _ _ (B.kp G 4 C M (.inl ⟨by decide,⟨g,A,n,c,rfl,J⟩⟩))
    refine ze.cons [] rfl (by kernel_rfl) (fun y O V C t B K o=>?_) ?_
    ·simp only [PU,Nat.reduceEqDiff,Nat.reduceAdd,reduceIte]at o⊢;have E:=B.pu;obtain⟨I,P⟩:=((bU).pu E).c2_;go_simp;exact o.out _ _ (B.kp G 5 C (Pu.refl _) (.inl ⟨by decide,rfl⟩))
    refine ze.cons [4,5] rfl (by kernel_rfl) (fun y O V C t B K o=>?_) ?_
    ·simp only [PU,Nat.reduceEqDiff,Nat.reduceAdd,reduceIte]at o⊢;have E:=B.pu;obtain⟨g4,A4,n4,c4,v4,fE⟩:=B.pre 4 (by decide) (t 4 (by simp));have v5:y 5=_:=B.pre 5 (by decide) (t 5 (by simp));simp only [v4,v5]at o⊢;go_simp;go_at_call 174;refine(zgq _ _ ((((factor a.fs k).natAbs:Int))*m - (((factor a.fs k).natAbs:Int))) m V fE (bS.pu E) (up4 Q.out.s1) (up4 Q.out.m3)).mono ?_;rintro e u1 ⟨v,rfl,J,M⟩;obtain⟨g,A,n,c,rfl⟩:=J.shape2;go_wp2_with fail;exact o.out _ _ (B.kp G 6 C M (.inl ⟨by decide,⟨g,A,n,c,rfl,J⟩⟩))
    refine ze.cons [] rfl (by kernel_rfl) (fun y O V C t B K o=>?_) ?_
    ·simp only [PU,Nat.reduceEqDiff,Nat.reduceAdd,reduceIte]at o⊢;have E:=B.pu;obtain⟨I,P⟩:=((bU).pu E).c2_;go_simp;exact o.out _ _ (B.kp G 7 C (Pu.refl _) (.inl ⟨by decide,rfl⟩))
    refine ze.cons [6,7] rfl (by kernel_rfl) (fun y O V C t B K o=>?_) ?_
    ·simp only [PU,Nat.reduceEqDiff,Nat.reduceAdd,reduceIte]at o⊢;have E:=B.pu;obtain⟨g6,A6,n6,c6,v6,fw⟩:=B.pre 6 (by decide) (t 6 (by simp));have v7:y 7=_:=B.pre 7 (by decide) (t 7 (by simp));simp only [v6,v7]at o⊢;go_simp;go_at_call 154;refine(zbB _ _ ((((factor a.fs k).natAbs:Int))*m - (((factor a.fs k).natAbs:Int)) - m) m V fw (bS.pu E) (up4 Q.out.s2) (up4 Q.out.m3) Q.out.m0 (zgN _ _ (by have:=Q.out.m0;omega))).mono ?_;rintro e u1 ⟨w3,w4,rfl,h3,h4,M⟩;obtain⟨g3,A3,n3,c3,rfl⟩:=h3.shape2;obtain⟨g4,A4,n4,c4,rfl⟩:=h4.shape2;go_wp2_with fail;exact o.out _ _ (B.kp G 8 C M (.inr (.inl ⟨rfl,⟨g3,A3,n3,c3,g4,A4,n4,c4,rfl,h3⟩⟩)))
    refine ze.cons [8] rfl (by kernel_rfl) (fun y O V C t B K o=>?_) ?_
    ·simp only [PU,Nat.reduceEqDiff,Nat.reduceAdd,reduceIte]at o⊢;have E:=B.pu;have N:=t 8 (by simp);obtain⟨g3,A3,n3,c3,g4,A4,n4,c4,ev,_⟩:=B.d N;simp only [ev]at o⊢;go_simp;exact o.out _ _ (B.kp G 9 C (Pu.refl _) (.inr (.inr (.inl ⟨rfl,⟨N,ev.symm⟩⟩))))
    refine ze.cons [9] rfl (by kernel_rfl) (fun y O V C t B K o=>?_) ?_
    ·simp only [PU,Nat.reduceEqDiff,Nat.reduceAdd,reduceIte]at o⊢;have E:=B.pu;obtain⟨N,em⟩:=B.m (t 9 (by simp));obtain⟨g3,A3,n3,c3,g4,A4,n4,c4,ev,_⟩:=B.d N;have aj:=em.trans ev
     try dsimp only at aj
     simp only [aj,ev]at o⊢;go_simp;exact o.out _ _ (B.kp G 10 C (Pu.refl _) (.inr (.inr (.inr (.inl ⟨rfl,⟨N,_,_,_,ev,rfl⟩⟩)))))
    refine ze.cons [9] rfl (by kernel_rfl) (fun y O V C t B K o=>?_) ?_
    ·simp only [PU,Nat.reduceEqDiff,Nat.reduceAdd,reduceIte]at o⊢;have E:=B.pu;obtain⟨N,em⟩:=B.m (t 9 (by simp));obtain⟨g3,A3,n3,c3,g4,A4,n4,c4,ev,_⟩:=B.d N;have aj:=em.trans ev
     try dsimp only at aj
     simp only [aj,ev]at o⊢;go_simp;exact o.out _ _ (B.kp G 11 C (Pu.refl _) (.inr (.inr (.inr (.inr (.inl ⟨rfl,⟨N,_,_,_,ev,rfl⟩⟩))))))
    refine ze.cons [9] rfl (by kernel_rfl) (fun y O V C t B K o=>?_) ?_
    ·simp only [PU,Nat.reduceEqDiff,Nat.reduceAdd,reduceIte]at o⊢;have E:=B.pu;obtain⟨N,em⟩:=B.m (t 9 (by simp));obtain⟨g3,A3,n3,c3,g4,A4,n4,c4,ev,_⟩:=B.d N;have aj:=em.trans ev
     try dsimp only at aj
     simp only [aj,ev]at o⊢;go_simp;exact o.out _ _ (B.kp G 12 C (Pu.refl _) (.inr (.inr (.inr (.inr (.inr (.inl ⟨rfl,⟨N,rfl⟩⟩)))))))
    refine ze.cons [] rfl (by kernel_rfl) (fun y O V C t B K o=>?_) ?_
    ·simp only [PU,Nat.reduceEqDiff,Nat.reduceAdd,reduceIte]at o⊢;have E:=B.pu;go_simp;exact o.out _ _ (B.kp G 13 C ((Pu.refl _).alloc _) (.inr (.inr (.inr (.inr (.inr (.inr (⟨.inl rfl,rfl,⟨_,_,_,_,Blk.new _ _ _⟩⟩))))))))
    refine ze.cons [] rfl (by kernel_rfl) (fun y O V C t B K o=>?_) ?_
    ·simp only [PU,Nat.reduceEqDiff,Nat.reduceAdd,reduceIte]at o⊢;have E:=B.pu;go_simp;exact o.out _ _ (B.kp G 14 C ((Pu.refl _).alloc _) (.inr (.inr (.inr (.inr (.inr (.inr (⟨.inr rfl,rfl,⟨_,_,_,_,Blk.new _ _ _⟩⟩))))))))
    refine ze.cons [10,13] rfl (by kernel_rfl) (fun y O V C t B K o=>?_) ?_
    ·simp only [PU,Nat.reduceEqDiff,Nat.reduceAdd,reduceIte]at o⊢;have E:=B.pu;have bJ:=t 10 (by simp);have aN:=t 13 (by simp);obtain⟨g,A,n,c,en⟩:=B.num bJ;obtain⟨b,eb,bR,hb⟩:=B.a aN;obtain⟨g',A',n',c',kb⟩:=hb
     try dsimp only [zdD]at en eb
     obtain⟨I,P⟩:=kb.c2_;obtain⟨f0,f1⟩:=kb.z2_;obtain⟨kR,eR⟩:=zas kb (.bool g) (.slice A n c);simp only [en,eb]at o⊢;go_simp;exact o.out undef _ (B.store G 15 C (.inl rfl) ⟨_,_,_,_,kb⟩ bR eR kR (fun _=>⟨bJ,aN,eb,en⟩) (fun e=>absurd e (by decide)) undef)
    refine ze.cons [11,14] rfl (by kernel_rfl) (fun y O V C t B K o=>?_) ?_
    ·simp only [PU,Nat.reduceEqDiff,Nat.reduceAdd,reduceIte]at o⊢;have E:=B.pu;have bJ:=t 11 (by simp);have aN:=t 14 (by simp);obtain⟨g,A,n,c,en⟩:=B.num1 bJ;obtain⟨b,eb,bR,hb⟩:=B.b aN;obtain⟨g',A',n',c',kb⟩:=hb
     try dsimp only [zdD]at en eb
     obtain⟨I,P⟩:=kb.c2_;obtain⟨f0,f1⟩:=kb.z2_;obtain⟨kR,eR⟩:=zas kb (.bool g) (.slice A n c);simp only [en,eb]at o⊢;go_simp;exact o.out undef _ (B.store G 16 C (.inr rfl) ⟨_,_,_,_,kb⟩ bR eR kR (fun e=>absurd e (by decide)) (fun _=>⟨aN,eb⟩) undef)
    exact ze.nil
   ·intro y U6 O hL B;obtain⟨bQ,gQ,AQ,nQ,cQ,eb,bR,hB,hQ⟩:=B.last (hL 15 (by decide));have E:=B.pu;clear B
    try dsimp only [zdD]at eb
    simp only [PU,Nat.reduceEqDiff,Nat.reduceAdd,reduceIte];simp only [eb];generalize y 0=y0;generalize y 1=y1;generalize y 2=y2;generalize y 3=y3;generalize y 4=y4;generalize y 5=y5;generalize y 6=y6;generalize y 7=y7;generalize y 8=y8;generalize y 9=y9;generalize y 10=iJ;generalize y 11=iC;generalize y 12=iE;generalize y 14=iK;have da:=cx.pu E;have sU:=sv.pu E;have FU:=cH.pu E;have dT:=dF.pu E;replace hQ:ZR U6 _ (zl0 k m a):=hQ;have iD:W.heap.size≤bQ:=by have:=FU.size;have:=cH.size;omega
    clear G cV cC bU bS cx sv cH dF;go_wp2_with fail;refine(zaG 0 _ (by decide) (by decide)).mono ?_;rintro e Wq ⟨iF,rfl,cL,p7⟩;obtain⟨cw,cX,cZ,cE,rfl⟩:=cL.shape2;have ew:=da.pu p7;have su:=sU.pu p7;have Fu:=FU.pu p7;have gb:=dT.pu p7;have kQ:=hB.pu p7;have zQ:=hQ.pu p7;obtain⟨Y,hY⟩:∃Y,Y=Wq.alloc (.cells #[.bool cw,.slice cX cZ cE] 30):=⟨_,rfl⟩
    have pY:Pu Wq Y:=by rw [hY];exact(Pu.refl Wq).alloc _
    have fu:Blk Y Wq.heap.size 30 #[.bool cw,.slice cX cZ cE]:=by rw [hY];exact Blk.new _ _ _
    have fG:ZR Y (.agg #[.bool cw,.slice cX cZ cE]) 0:=by rw [hY];exact cL.pu ((Pu.refl _).alloc _)
    have HY:=Qh hY;have sY:=su.pu pY;clear hY da sU FU dT hB hQ cL p7 E;go_wp2_with fail;rw [←HY.out]
    go_loopw [15] (fun pv ws=>∃(j U2 bP:Nat) (gj:Bool) (Aj:Option Addr) (nj cj:Nat),pv= .pointer (some ⟨bP,0,none⟩)∧Blk ws bP 30 #[.bool gj,.slice Aj nj cj]∧ZR ws (.agg #[.bool gj,.slice Aj nj cj]) (j:Int)∧Wq.heap.size≤bP∧j+U1≤U2∧U2≤F∧zgS ws sb F U2∧Fr (fun j=>j=sb) Wq ws∧Hid (∀i':Nat,i'<j→¬za4 (l++[zhi a i']))) (fun _ ws=>F - (intOf ((ws.cell? ⟨sb,1,none⟩).getD undef)).toNat)
    case atStart=>exact⟨0,U1,_,_,_,_,_,rfl,fu,fG,Nat.le_refl _,by omega,cl,sY,pY.fr,Qh (fun i' h=>absurd h (by omega))⟩
    case round=>
     obtain⟨j,U2,bP,gj,Aj,nj,cj,rfl,kj,zj,ig,iN,cu,sj,Fj,cq⟩:=hrel;have dw:=Qh sj.used;have hz:=Fj.size;have gV:=Hn.out.2.2.2.2.1;have kq:=kQ.fr Fj (by omega);have cN:=ew.fr Fj (by omega);have zq:=zQ.sv su Fj;have dR:=gb.sv su Fj;obtain⟨c0,c1⟩:=kj.c2_;obtain⟨d0,d1⟩:=kq.c2_;have dM:(j:Int).natAbs<4294967296^E4:=by rw [Int.natAbs_natCast];have h3:=zaB (n:=11) (by omega);exact up4 (z:=(j:Int)) (by rw [Int.natAbs_natCast];omega)
     have dJ:(j:Int).natAbs<4294967296^E3:=by rw [Int.natAbs_natCast];have h3:=zaB (n:=11) (by omega);omega
     have Hj:=Qh (AI dM dJ);clear dM dJ;go_wp2_with fail;refine(zbF _ _ (j:Int) (zl0 k m a) wr zj zq Hj.out.1 (up4 Q.out.far)).mono ?_;rintro e D ⟨rfl,pD⟩;obtain⟨q,dV,dL⟩:=zqW (j:Int) (zl0 k m a);rw [dV];have bH:=kj.pu pD;have bN:=zj.pu pD;have aV:=cN.pu pD;have sD:=sj.pu pD;have FD:=Fj.pu pD;have cP:=dR.pu pD;have h0:=pD.size;clear kj zj kq cN zq dR c0 c1 d0 d1 sj Fj dV;by_cases cF:(j:Int)≤zl0 k m a
     ·rw [decide_eq_true cF]at dL;have fY:Pu D D.drew:=(Pu.refl D).drew;go_wp2_with fail;refine zav 8 (fun _ w=>Pu D w) (fun _=>Pu) (fun io=>match io with|0=>fun vv_ _=>vv_= .pointer (some ⟨aQ,0,none⟩)|1=>fun vv_ _=>vv_= .agg #[.bool qg,.slice qA qn qc,.pointer qm]|2=>fun vv_ _=>vv_= .agg #[.bool gj,.slice Aj nj cj]|3=>fT ((j:Int)) ([])|4=>fST ((j:Int)) ([])|5=>fT (a.rest+(j:Int)*1) (zG a.fs [] 1)|6=>fun v w=>∃g A n c m',v= .agg #[.bool g,.slice A n c,.pointer m',.bool true]∧TM w (.agg #[.bool g,.slice A n c,.pointer m']) (a.rest+(j:Int)*1) (zG a.fs [] 1)|7=>fun v w=>∃b,v= .pointer (some ⟨b,0,none⟩)∧D.heap.size≤b∧Blk w b 35 #[.bool false,.slice none 0 0,.pointer none,.bool false]|_=>fun _ _=>True) [some 59,some 60,some 61,some 62,some 63,some 64,some 65,some 16] (by kernel_rfl) (by kernel_rfl) rfl fY ?_ ?_ ?_ ?_
      ·intro ko H u u' hk C hI hR;exact hI.trans hR
      ·intro io ko v u u' hi hk aH h a5;have hR:=a5
       match io,hi,aH,h with
       |0,_,_,h=>exact h
       |1,_,_,h=>exact h
       |2,_,_,h=>exact h
       |3,_,_,h=>exact fT.pu h hR
       |4,_,_,h=>exact fST.pu h hR
       |5,_,_,h=>exact fT.pu h hR
       |6,_,aH,h=>replace h:∃g A n c m',v= .agg #[.bool g,.slice A n c,.pointer m',.bool true]∧TM u (.agg #[.bool g,.slice A n c,.pointer m']) (a.rest+(j:Int)*1) (zG a.fs [] 1):=h;obtain⟨g,A,n,c,m',e,h⟩:=h;exact⟨g,A,n,c,m',e,h.pu hR⟩
       |7,_,aH,h=>replace h:∃b,v= .pointer (some ⟨b,0,none⟩)∧D.heap.size≤b∧Blk u b 35 #[.bool false,.slice none 0 0,.pointer none,.bool false]:=h;obtain⟨b,e,h,h'⟩:=h;exact⟨b,e,h,h'.pu hR⟩
       |_+8,hi,_,_=>exact absurd hi (by omega)
      ·refine zc.cons [] rfl (by kernel_rfl) (fun y H V C E t K o=>?_) ?_
       ·simp only [PU,Nat.reduceEqDiff,Nat.reduceAdd,reduceIte]at o⊢;clear t;go_simp;exact o.out _ _ (Pu.refl _) rfl
       refine zc.cons [0] rfl (by kernel_rfl) (fun y H V C E t K o=>?_) ?_
       ·simp only [PU,Nat.reduceEqDiff,Nat.reduceAdd,reduceIte]at o⊢;have e0:=t 0 (by simp);clear t;generalize y 0=z0 at o e0⊢;obtain rfl:=e0;obtain⟨I,P,x2,x3⟩:=((aV).pu E).c4_;go_simp;exact o.out _ _ (Pu.refl _) rfl
       refine zc.cons [] rfl (by kernel_rfl) (fun y H V C E t K o=>?_) ?_
       ·simp only [PU,Nat.reduceEqDiff,Nat.reduceAdd,reduceIte]at o⊢;clear t;obtain⟨I,P⟩:=((bH).pu E).c2_;go_simp;exact o.out _ _ (Pu.refl _) rfl
       refine zc.cons [2] rfl (by kernel_rfl) (fun y H V C E t K o=>?_) ?_
       ·simp only [PU,Nat.reduceEqDiff,Nat.reduceAdd,reduceIte]at o⊢;have e2:=t 2 (by simp);clear t;generalize y 2=z2 at o e2⊢;obtain rfl:=e2;go_simp;go_at_call 32;refine(zbd _ (j:Int) V (bN.pu E)).mono ?_;rintro e u1 ⟨v,rfl,J,M⟩;obtain⟨g,A,n,c,m,rfl⟩:=J.shape;go_wp2_with fail;exact o.out _ _ M ⟨g,A,n,c,m,rfl,J⟩
       refine zc.cons [3] rfl (by kernel_rfl) (fun y H V C E t K o=>?_) ?_
       ·simp only [PU,Nat.reduceEqDiff,Nat.reduceAdd,reduceIte]at o⊢;have e3:=t 3 (by simp);clear t;generalize y 3=z3 at o e3⊢;obtain⟨g3,A3,n3,c3,m3,rfl,fi⟩:=e3;go_simp;exact o.out _ _ ((Pu.refl _).alloc _) ⟨_,g3,A3,n3,c3,m3,rfl,Blk.new _ _ _,fi.pu ((Pu.refl _).alloc _)⟩
       refine zc.cons [1,4] rfl (by kernel_rfl) (fun y H V C E t K o=>?_) ?_
       ·simp only [PU,Nat.reduceEqDiff,Nat.reduceAdd,reduceIte]at o⊢;have e1:=t 1 (by simp);have e4:=t 4 (by simp);clear t;generalize y 1=z1 at o e1⊢;generalize y 4=z4 at o e4⊢;obtain rfl:=e1;obtain⟨q4,g4,A4,n4,c4,m4,rfl,fa,fm⟩:=e4;go_simp;go_at_call 31;refine(zcd _ a.rest (j:Int) a.fs [] (2^BB) 0 V q4 g4 A4 n4 c4 m4 (cP.pu E) fa fm Q.out.up (zad.nil 0) (by have:=Q.out.few;simp only [List.length_nil];omega) Q.out.big Q.out.rest Hj.out.2).mono ?_;rintro e u1 ⟨v,rfl,J,M⟩;obtain⟨g,A,n,c,m,rfl⟩:=J.tm.shape;go_wp2_with fail;exact o.out _ _ M ⟨g,A,n,c,m,rfl,J.tm⟩
       refine zc.cons [5] rfl (by kernel_rfl) (fun y H V C E t K o=>?_) ?_
       ·simp only [PU,Nat.reduceEqDiff,Nat.reduceAdd,reduceIte]at o⊢;have e5:=t 5 (by simp);clear t;generalize y 5=z5 at o e5⊢;obtain⟨g5,A5,n5,c5,m5,rfl,gE⟩:=e5;go_simp;exact o.out _ _ (Pu.refl _) ⟨g5,A5,n5,c5,m5,rfl,gE⟩
       refine zc.cons [] rfl (by kernel_rfl) (fun y H V C E t K o=>?_) ?_
       ·simp only [PU,Nat.reduceEqDiff,Nat.reduceAdd,reduceIte]at o⊢;clear t;go_simp;exact o.out _ _ ((Pu.refl _).alloc _) ⟨_,rfl,E.size,Blk.new _ _ _⟩
       exact zc.nil
      ·intro y V H hL E t;have f0:=t 0 (by decide);have f1:=t 1 (by decide);have f2:=t 2 (by decide);have f3:=t 3 (by decide);have f4:=t 4 (by decide);have f5:=t 5 (by decide);have f6:=t 6 (by decide);have f7:=t 7 (by decide);clear t;simp only [PU,Nat.reduceEqDiff,Nat.reduceAdd,reduceIte];generalize y 0=z0 at f0⊢;generalize y 1=z1 at f1⊢;generalize y 2=z2 at f2⊢;generalize y 3=z3 at f3⊢;generalize y 4=z4 at f4⊢;generalize y 5=z5 at f5⊢;generalize y 6=z6 at f6⊢;generalize y 7=z7 at f7⊢;obtain rfl:=f0;obtain rfl:=f1;obtain rfl:=f2;clear f3 f4 f5;obtain⟨gt,At,nt,ct,mt,rfl,a5⟩:=f6;obtain⟨bt,rfl,fK,kt⟩:=f7;obtain⟨I,P,x2,x3⟩:=kt.c4_;obtain⟨dW,dD,f9,fM⟩:=kt.z4_;obtain⟨cT,et⟩:=zrz kt (.bool gt) (.slice At nt ct) (.pointer mt) (.bool true);have bF:=a5.frB kt (by decide) (by decide) (by simp) et;rw [Int.mul_one]at bF;have aO:Pu D _:=E.step et (fun j hj=>by
         have e':j=bt:=hj;omega)
       obtain⟨T,hTe⟩:∃T,T=(((V.setCell ⟨bt,0,none⟩ (.bool gt)).setCell ⟨bt,1,none⟩ (.slice At nt ct)).setCell ⟨bt,2,none⟩ (.pointer mt)).setCell ⟨bt,3,none⟩ (.bool true):=⟨_,rfl⟩
       rw [←hTe]at cT bF aO;obtain⟨T1,S⟩:∃T1,T1=T.alloc (.cells #[.bool gt,.slice At nt ct,.pointer mt,.bool true] 35):=⟨_,rfl⟩
       have aF:Pu T T1:=by rw [S];exact(Pu.refl T).alloc _
       have cs:T.heap.size=V.heap.size:=by rw [hTe];simp [World.setCell]
       have cJ:T1.heap.size=V.heap.size+1:=by rw [S,←cs];simp
       have kr:Blk T1 V.heap.size 35 #[.bool gt,.slice At nt ct,.pointer mt,.bool true]:=by rw [S,←cs];exact Blk.new _ _ _
       obtain⟨T2,hT2⟩:∃T2,T2=T1.alloc (.cells #[.slice A n c,.slice (some ⟨V.heap.size,0,none⟩) 1 1] 24):=⟨_,rfl⟩
       have a7:Pu T1 T2:=by rw [hT2];exact(Pu.refl T1).alloc _
       have dG:Blk T2 (V.heap.size+1) 24 #[.slice A n c,.slice (some ⟨V.heap.size,0,none⟩) 1 1]:=by rw [hT2,←cJ];exact Blk.new _ _ _
       have lT:=(SlR.sv lW sW (((Fu.trans FD).pu aO).pu aF)).pu a7;have dS:=(fk.sv sW (((Fu.trans FD).pu aO).pu aF)).pu a7;have lr:SlR T2 (some ⟨V.heap.size,0,none⟩) 1 1 [⟨gt,At,nt,ct,mt,true⟩]:=Sl.pu (Sl.of_blk kr 4 1 1 rfl (by decide)) a7;have hr:zF T2 [⟨gt,At,nt,ct,mt,true⟩] [zhi a j]:=zF.one ⟨rfl,(bF.pu aF).pu a7⟩;have cR:=Qh (zg1 A (some ⟨V.heap.size,0,none⟩) n c 1 1 L [⟨gt,At,nt,ct,mt,true⟩] (V.heap.size+1) T2 lT lr (by have:=Hn.out.1;omega) (by decide) dG);have a6:=(aO.trans aF).trans a7;have dA:=bH.pu a6;have dZ:=bN.pu a6;have d7:=sD.pu a6;have dX:=FD.pu a6;have d6:=dS.append hr;have gX:=a6.size;obtain⟨v0,v1,v2,v3⟩:=cT.c4_;rw [hTe]at v0 v1 v2 v3;rw [hT2,S,hTe]at cR;have eZ:=Qh hT2;have gf:=Qh S;have fA:=Qh hTe;clear cs cJ hT2 S hTe kt et kr dG lT lr dS hr a5 bF cT aF a7 aO a6 bH bN aV sD FD cP E fK;go_wp2_with fail;refine cR.out.mono ?_;rintro e T4 ⟨A4,c4,rfl,l4,p4⟩;rw [←fA.out,←gf.out,←eZ.out]at p4;have bX:=dA.pu p4;have bD:=dZ.pu p4;have s4:=d7.pu p4;have F4:=dX.pu p4;have bE:=d6.pu p4;have hv:=p4.size;clear I P x2 x3 dW dD f9 fM v0 v1 v2 v3 cR dA dZ d7 dX d6 p4;go_wp2_with fail;refine(hS NM (l++[zhi a j]) A4 (n+1) c4 _ sb F U2 T4 HF.out.2.1 (Fit.near (HF.out.1.le (show F - U2+1≤F - U+1 by omega)) gy.out HM.out.2.1 cF) cu gd (by have:=Hn.out.2.2.2.2.2.1;omega) s4 l4 bE).mono ?_;rintro e R ⟨U3,iG,bw,sR,fR,h⟩;have FW:Fr (fun j=>j=sb) w R:=((pW.fr).trans Fu).trans (F4.trans fR);have dy:w.heap.size≤T4.heap.size:=by have:=Fu.size;have:=F4.size;have:=pW.size;omega
       rcases h with⟨mb,r,Lm,ms,rfl,hm,dK,hM,eO⟩|⟨p,rfl,ej,eO⟩|⟨p,rfl,hE⟩
       ·have HR:=Qh (AI sR (AI FW (AI (hm.base_ dy) (AI dK ((hM.sub fun r hr=>List.mem_append.2 (.inl hr)).le (show F - U2≤F - U by omega))))));clear sR FW hm dK hM fR bX bD s4 F4 bE l4;go_wp2;go_ret2;exact⟨U3,by have:=Hn.out.2.2.2.2.2.2.1;omega,bw,HR.out.1,HR.out.2.1,.inl ⟨mb,r,Lm,ms,rfl,HR.out.2.2.1,HR.out.2.2.2.1,HR.out.2.2.2.2,by have:=Hn.out.2.2.2.2.2.2.1;omega⟩⟩
       ·have ec:=bX.fr fR (by have:=Fu.size;omega);have dE:=bD.sv s4 fR;have FR:=F4.trans fR;clear FW fR bX bD s4 F4 bE l4;obtain⟨I,P⟩:=ec.c2_;obtain⟨R2,hR2⟩:∃R2,R2=R.alloc (.cells #[.bool gj,.slice Aj nj cj] 30):=⟨_,rfl⟩
        have bI:Pu R R2:=by rw [hR2];exact(Pu.refl R).alloc _
        have kn:Blk R2 R.heap.size 30 #[.bool gj,.slice Aj nj cj]:=by rw [hR2];exact Blk.new _ _ _
        have zn:=dE.pu bI;have sn:=sR.pu bI;have Fn:=FR.pu bI;obtain⟨bn,hbn⟩:∃bn,bn=R.heap.size:=⟨_,rfl⟩
        rw [←hbn]at kn;have eJ:Wq.heap.size≤bn:=by have:=FR.size;omega
        have eP:¬sb=bn:=by have:=sR.lt;omega
        have fj:=Qh hR2;have gB:=Qh hbn;clear hR2 hbn ec dE sR FR bI;go_wp2_with fail;rw [←fj.out,←gB.out];clear I P;have gI:Pu R2 R2.drew:=(Pu.refl R2).drew;refine zw 3 (fun _ w=>Pu R2 w) (fun _=>Pu) (fun io=>match io with|0=>fun vv_ _=>vv_= .agg #[.bool gj,.slice Aj nj cj]|1=>fZ (1)|2=>fSZ (1)|_=>fun _ _=>True) [some 55,some 56,some 57] (by kernel_rfl) (by kernel_rfl) rfl gI ?_ ?_ ?_ ?_
        ·intro ko H u u' hk C hI hR;exact hI.trans hR
        ·intro io ko v u u' hi hk aH h a5;have hR:=a5
         match io,hi,aH,h with
         |0,_,_,h=>exact h
         |1,_,_,h=>exact fZ.pu h hR
         |2,_,_,h=>exact fSZ.pu h hR
         |_+3,hi,_,_=>exact absurd hi (by omega)
        ·refine zc.cons [] rfl (by kernel_rfl) (fun y H V C E t K o=>?_) ?_
         ·simp only [PU,Nat.reduceEqDiff,Nat.reduceAdd,reduceIte]at o⊢;clear t;obtain⟨I,P⟩:=((kn).pu E).c2_;go_simp;exact o.out _ _ (Pu.refl _) rfl
         refine zc.cons [] rfl (by kernel_rfl) (fun y H V C E t K o=>?_) ?_
         ·simp only [PU,Nat.reduceEqDiff,Nat.reduceAdd,reduceIte]at o⊢;clear t;go_simp;go_at_call 30;refine(zaG 1 _ (by decide) (by decide)).mono ?_;rintro e u1 ⟨v,rfl,J,M⟩;obtain⟨g,A,n,c,rfl⟩:=J.shape2;go_wp2_with fail;exact o.out _ _ M ⟨g,A,n,c,rfl,J⟩
         refine zc.cons [1] rfl (by kernel_rfl) (fun y H V C E t K o=>?_) ?_
         ·simp only [PU,Nat.reduceEqDiff,Nat.reduceAdd,reduceIte]at o⊢;have e1:=t 1 (by simp);clear t;generalize y 1=z1 at o e1⊢;obtain⟨g1,A1,n1,c1,rfl,fQ⟩:=e1;go_simp;exact o.out _ _ ((Pu.refl _).alloc _) ⟨_,g1,A1,n1,c1,rfl,Blk.new _ _ _,fQ.pu ((Pu.refl _).alloc _)⟩
         exact zc.nil
        ·intro y V H hL E t;have f0:=t 0 (by decide);have f1:=t 1 (by decide);have f2:=t 2 (by decide);clear t;simp only [PU,Nat.reduceEqDiff,Nat.reduceAdd,reduceIte];generalize y 0=z0 at f0⊢;generalize y 1=z1 at f1⊢;generalize y 2=z2 at f2⊢;obtain rfl:=f0;clear f1;obtain⟨q2,g2,fq,gr,fJ,rfl,dU,bY⟩:=f2;go_wp2_with fail;refine(zcB _ (.agg #[.bool g2,.slice fq gr fJ]) (j:Int) 1 q2 V (zn.pu E) bY (up9 Hj.out.2) (up9 (zds (z:=1) (by decide))) dU).mono ?_;rintro e u9 ⟨v9,rfl,h9,p9⟩;obtain⟨g9,A9,n9,c9,rfl⟩:=h9.shape2;have kE:=kn.pu (E.trans p9);obtain⟨I,P⟩:=kE.c2_;obtain⟨dW,dD⟩:=kE.z2_;obtain⟨dP,eE⟩:=zas kE (.bool g9) (.slice A9 n9 c9);have dI:=h9.frT eE (zh kE (by decide));have dd:=(sn.pu (E.trans p9)).fr eE eP;have dY:=(Fn.pu (E.trans p9)).step eE (fun j hj=> .inr (by have e':j=bn:=hj;omega));have HE:=Qh (AI dP (AI dI (AI dd dY)));have cz:=Qh (zgS.used (sb:=sb) (F:=F) (U:=U3) dd);clear kE dP eE h9 dI dd dY sn Fn zn kn dU bY E p9;go_wp2;go_roundw
         case rel=>exact⟨j+1,U3,bn,g9,A9,n9,c9,rfl,HE.out.1,by have:=HE.out.2.1;rwa [show((j:Int)+1)=((j+1:Nat):Int) by omega]at this,eJ,by omega,bw,HE.out.2.2.1,HE.out.2.2.2,Qh (fun i' h=>by
           rcases Nat.lt_or_ge i' j with h2|h2
           ·exact cq.out i' h2
           ·obtain rfl:i'=j:=by omega
            exact ej)⟩
         case measure=>rw [dw.out,cz.out];omega
       ·have HR:=Qh (AI sR FW);clear sR FW fR bX bD s4 F4 bE l4;go_wp2;go_ret2;exact⟨U3,by have:=Hn.out.2.2.2.2.2.2.1;omega,bw,HR.out.1,HR.out.2,.inr (.inr ⟨p,rfl,id⟩)⟩
     ·rw [decide_eq_false cF]at dL;have HD:=Qh (AI sD (Fu.trans FD));have cS:=Hn.out.2.1;clear bH bN aV sD FD cP;go_wp2;go_roundw
      case rel=>exact⟨i+1,U2,by omega,by go_num,by omega,cu,HD.out.1,HD.out.2,Qh (fun a' a8=>by
       rw [fD.out]at a8;rcases List.mem_append.1 a8 with a8|a8
       ·exact dB.out a' a8
       ·rw [List.mem_singleton.1 a8];exact fun j' iM=>cq.out j' (by omega))⟩
      case measure=>simp [intOf];omega
  ·obtain rfl:i=n0:=by omega
   have dO:(zm k 0 l).take i=zm k 0 l:=List.take_of_length_le (by rw [←Hn.out.2.2.2.1,Hn.out.2.2.1];exact Nat.le_refl _);have b6:=dB.out;rw [dO,Hn.out.2.2.2.2.2.2.2]at b6;have HR:=Qh (AI s1 (AI ((pW.fr).trans Z) (zil HF.out.1.sys.rise HF.out.2.2.1 HF.out.2.2.2 b6)));clear s1 Z dO b6;go_wp2;go_ret2;exact⟨U1,by have:=Hn.out.2.2.2.2.2.2.1;omega,cl,HR.out.1,HR.out.2.1,.inr (.inl ⟨none,rfl,HR.out.2.2,by have:=Hn.out.2.2.2.2.2.2.1;omega⟩)⟩
end
end Go.Proofs.YtckfnbckoclhpaaGreatDoor

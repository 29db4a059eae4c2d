/- A term in a name's place. -/
import Derived.Test.YtckfnbckoclhpaaGreatDoorE14
import Derived.Test.YtckfnbckoclhpaaGreatDoorE12
import Derived.Test.YtckfnbckoclhpaaGreatDoorCS
import Derived.Test.YtckfnbckoclhpaaGreatDoorE15
namespace Go.Proofs.YtckfnbckoclhpaaGreatDoor
set_option linter.unusedVariables false
set_option linter.unusedSimpArgs false
set_option maxRecDepth 100000
set_option maxHeartbeats 4000000
section
open Go.RowKit
def zot(fs:List (Key×Int))(k:Key)(gs:List (Key×Int)):List (Key×Int):=zG (zG fs [(k,1)] (-(factor fs k))) gs (factor fs k)
structure zo0(K G:Nat)(fs gs:List (Key×Int))(r1 r2:Int):Prop where
 up1:zad K fs
 up2:zad G gs
 len:fs.length+1+gs.length<300
 b1:K+1100000*K<4294967296^E3
 b2:K+K+1100000*(G*K)<4294967296^E3
 bG:G<4294967296^E3
 r1:r1.natAbs<4294967296^E3
 r2:r2.natAbs<4294967296^E3
theorem zbT(a b:Nat)(h:a≤b)(B:Nat)(i:b<B):a<B:=Nat.lt_of_le_of_lt h i
theorem zpP(v1 v2:Value)(r1 r2:Int)(fs gs:List (Key×Int))(k:Key)(K G:Nat)(w:World)(h1:TM w v1 r1 fs)(h2:TM w v2 r2 gs)(ok:zo0 K G fs gs r1 r2):Calls Tryz.prog 51 #[v1,.string ⟨k.toArray⟩,v2] w fun e w'=>∃v,e= .returned v∧TMO w' w.heap.size v (r1+r2*factor fs k) (zot fs k gs)∧Pu w w':=by
 obtain⟨Z,U,Y,X,T,rfl⟩:=h1.shape;obtain⟨gb,Ab,nb,cb,mb,rfl⟩:=h2.shape;obtain⟨W,hWe⟩:∃W,W=((w.alloc (.cells #[.bool Z,.slice U Y X,.pointer T] 33)).alloc (.cells #[.bool gb,.slice Ab nb cb,.pointer mb] 33)).alloc (.cells #[.bool false,.slice none 0 0,.pointer none] 33):=⟨_,rfl⟩
 have hW:Pu w W:=by rw [hWe];exact(((Pu.refl w).alloc _).alloc _).alloc _
 have k3:Blk W w.heap.size 33 #[.bool Z,.slice U Y X,.pointer T]:=by rw [hWe];exact((Blk.new w _ _).alloc _).alloc _
 have k5:Blk W (w.heap.size+1) 33 #[.bool gb,.slice Ab nb cb,.pointer mb]:=by rw [hWe];exact(Blk.at_new _ _ _ (by simp)).alloc _
 have k6:Blk W (w.heap.size+1+1) 33 #[.bool false,.slice none 0 0,.pointer none]:=by rw [hWe];exact Blk.at_new _ _ _ (by simp)
 have H1:=Qh (h1.pu hW);have H2:=Qh (h2.pu hW);have x:=Qh ok;have Hf:=Qh (fun V (p:Pu W V)=>zY _ r1 k fs V (H1.out.pu p));have az:=ok.up1.factor k;have H:=Qh az;have b0:w.heap.size+3≤W.heap.size:=by rw [hWe];simp
 have aR:=Qh hWe;have c0:W.cell? ⟨w.heap.size,0,none⟩=some (.bool Z):=k3.cell 0;have c1:W.cell? ⟨w.heap.size,1,none⟩=some (.slice U Y X):=k3.cell 1;have c2:W.cell? ⟨w.heap.size,2,none⟩=some (.pointer T):=k3.cell 2;clear hWe h1 h2 ok az;go_enter Tryz.func51,Tryz.ntmps51;go_wp2_with fail;rw [←aR.out];refine(Hf.out _ (Pu.refl W)).mono ?_;rintro e w2 ⟨v,rfl,hz,p2⟩;obtain⟨N,P,O,Q,rfl⟩:=hz.shape2;obtain⟨F,hVe⟩:∃F,F=w2.alloc (.cells #[.bool N,.slice P O Q] 30):=⟨_,rfl⟩
 have E:Pu W F:=by rw [hVe];exact p2.alloc _
 have k7:Blk F w2.heap.size 30 #[.bool N,.slice P O Q]:=by rw [hVe];exact Blk.new _ _ _
 have a0:ZR F (.agg #[.bool N,.slice P O Q]) (factor fs k):=by rw [hVe];exact hz.pu ((Pu.refl w2).alloc _)
 have bz:W.heap.size≤w2.heap.size:=p2.size;have aT:=Qh hVe;clear hVe hz c0 c1 c2;go_wp2_with fail
 try rw [←aT.out]
 have pd:Pu F F.drew:=(Pu.refl F).drew;have ak:=Qh (show∀V (o:Pu F V) (a b:Value),TM V a 0 [(k,1)]→ZR V b (-(factor fs k))→Calls Tryz.prog 62 #[.agg #[.bool Z,.slice U Y X,.pointer T],a,b] V fun e w'=>∃v,e= .returned v∧TMO w' V.heap.size v (r1+0* -(factor fs k)) (zG fs [(k,1)] (-(factor fs k)))∧Pu V w' from fun V o a b ha hb=>
  zeW _ _ _ r1 0 (-(factor fs k)) fs [(k,1)] K K V (H1.out.pu (E.trans o)) ha hb x.out.up1 (fun g L=>by
   rw [List.mem_singleton.1 L];rw [Int.one_mul,Int.natAbs_neg];exact H.out) (by have:=x.out.len;simp;omega) x.out.b1 (by
   rw [Int.natAbs_neg];exact zbT _ _ (Nat.le_trans H.out (Nat.le_add_right _ _)) _ x.out.b1) (fun g L=>by
   rw [List.mem_singleton.1 L];show(1:Int).natAbs<_;exact zds (by decide)) x.out.r1 zan)
 have aj:=Qh (show∀V (o:Pu F V) (a:Value),TM V a (r1+0* -(factor fs k)) (zG fs [(k,1)] (-(factor fs k)))→Calls Tryz.prog 62 #[a,.agg #[.bool gb,.slice Ab nb cb,.pointer mb],.agg #[.bool N,.slice P O Q]] V fun e w'=>∃v,e= .returned v∧TMO w' V.heap.size v (r1+0* -(factor fs k)+r2*factor fs k) (zot fs k gs)∧Pu V w' from fun V o a ha=>
  zeW _ _ _ (r1+0* -(factor fs k)) r2 (factor fs k) (zG fs [(k,1)] (-(factor fs k))) gs (K+K) (G*K) V ha (H2.out.pu (E.trans o)) (a0.pu o) (zbO x.out.up1 (by
   rw [Int.one_mul,Int.natAbs_neg];exact H.out)) (fun g L=>by
   rw [Int.natAbs_mul];exact Nat.mul_le_mul (x.out.up2 g L) H.out) (by
   have h1:=zcA (n:= -(factor fs k)) [(k,(1:Int))] fs;have h2:=x.out.len;have h3: [(k,(1:Int))].length=1:=rfl;omega) x.out.b2 (zbT _ _ (Nat.le_trans H.out (Nat.le_add_right _ _)) _ x.out.b1) (fun g L=>zbT _ _ (x.out.up2 g L) _ x.out.bG) (by rw [Int.zero_mul,Int.add_zero];exact x.out.r1) x.out.r2)
 refine zw 8 (fun _ w=>Pu F w) (fun _=>Pu) (fun io=>match io with|0=>fun vv_ _=>vv_= .agg #[.bool Z,.slice U Y X,.pointer T]|1=>fun vv_ _=>vv_= .string ⟨k.toArray⟩|2=>fun v w=>∃g A n c m,v= .agg #[.bool g,.slice A n c,.pointer m]∧TM w (.agg #[.bool g,.slice A n c,.pointer m]) 0 [(k,1)]|3=>fun vv_ _=>vv_= .agg #[.bool N,.slice P O Q]|4=>fun v w=>∃g A n c,v= .agg #[.bool g,.slice A n c]∧ZR w (.agg #[.bool g,.slice A n c]) (-(factor fs k))|5=>fun v w=>∃g A n c m,v= .agg #[.bool g,.slice A n c,.pointer m]∧TM w (.agg #[.bool g,.slice A n c,.pointer m]) (r1+0* -(factor fs k)) (zG fs [(k,1)] (-(factor fs k)))|6=>fun vv_ _=>vv_= .agg #[.bool gb,.slice Ab nb cb,.pointer mb]|7=>fun vv_ _=>vv_= .agg #[.bool N,.slice P O Q]|_=>fun _ _=>True) [some 11,some 12,some 13,some 14,some 15,some 16,some 17,some 18] (by kernel_rfl) (by kernel_rfl) rfl pd ?_ ?_ ?_ ?_
 ·intro ko z u u' hk B hI R;exact hI.trans R
 ·intro io ko v u u' hi hk M h aP;have R:=aP
  match io,hi,M,h with
  |0,_,_,h=>exact h
  |1,_,_,h=>exact h
  |2,_,M,h=>replace h:∃g A n c m,v= .agg #[.bool g,.slice A n c,.pointer m]∧TM u (.agg #[.bool g,.slice A n c,.pointer m]) 0 [(k,1)]:=h;obtain⟨g,A,n,c,m,e,h⟩:=h;exact⟨g,A,n,c,m,e,h.pu R⟩
  |3,_,_,h=>exact h
  |4,_,M,h=>replace h:∃g A n c,v= .agg #[.bool g,.slice A n c]∧ZR u (.agg #[.bool g,.slice A n c]) (-(factor fs k)):=h;obtain⟨g,A,n,c,e,h⟩:=h;exact⟨g,A,n,c,e,h.pu R⟩
  |5,_,M,h=>replace h:∃g A n c m,v= .agg #[.bool g,.slice A n c,.pointer m]∧TM u (.agg #[.bool g,.slice A n c,.pointer m]) (r1+0* -(factor fs k)) (zG fs [(k,1)] (-(factor fs k))):=h;obtain⟨g,A,n,c,m,e,h⟩:=h;exact⟨g,A,n,c,m,e,h.pu R⟩
  |6,_,_,h=>exact h
  |7,_,_,h=>exact h
  |_+8,hi,_,_=>exact absurd hi (by omega)
 ·refine zc.cons [] rfl (by kernel_rfl) (fun y z V B o t K i=>?_) ?_
  ·try dsimp only at i
   simp only [PU,Nat.reduceEqDiff,Nat.reduceAdd,reduceIte]at i⊢;clear t
   try dsimp only at o
   obtain⟨x0,x1,x2⟩:=(k3.pu (E.trans o)).c3_;go_simp;exact i.out _ _ (Pu.refl _) rfl
  refine zc.cons [] rfl (by kernel_rfl) (fun y z V B o t K i=>?_) ?_
  ·try dsimp only at i
   simp only [PU,Nat.reduceEqDiff,Nat.reduceAdd,reduceIte]at i⊢;clear t
   try dsimp only at o
   go_simp;exact i.out _ _ (Pu.refl _) rfl
  refine zc.cons [1] rfl (by kernel_rfl) (fun y z V B o t K i=>?_) ?_
  ·try dsimp only at i
   simp only [PU,Nat.reduceEqDiff,Nat.reduceAdd,reduceIte]at i⊢;have e1:=t 1 (by simp);clear t
   try dsimp only at o e1
   generalize y 1=z1 at i e1⊢;subst e1;go_simp;go_at_call 26;refine(zcJ k _).mono ?_;rintro e u1 ⟨v,rfl,D,J⟩;obtain⟨g,A,n,c,m,rfl⟩:=D.shape;go_wp2_with fail;exact i.out _ _ J ⟨g,A,n,c,m,rfl,D⟩
  refine zc.cons [] rfl (by kernel_rfl) (fun y z V B o t K i=>?_) ?_
  ·try dsimp only at i
   simp only [PU,Nat.reduceEqDiff,Nat.reduceAdd,reduceIte]at i⊢;clear t
   try dsimp only at o
   obtain⟨x0,x1⟩:=(k7.pu o).c2_;go_simp;exact i.out _ _ (Pu.refl _) rfl
  refine zc.cons [3] rfl (by kernel_rfl) (fun y z V B o t K i=>?_) ?_
  ·try dsimp only at i
   simp only [PU,Nat.reduceEqDiff,Nat.reduceAdd,reduceIte]at i⊢;have e3:=t 3 (by simp);clear t
   try dsimp only at o e3
   generalize y 3=z3 at i e3⊢;subst e3;go_simp;go_at_call 84;refine(zdp _ (factor fs k) _ (a0.pu o) (zC (n:=(factor fs k).natAbs) (a:=E3) (b:=E4) (zbT _ _ (Nat.le_trans H.out (Nat.le_add_right _ _)) _ x.out.b1) (by decide))).mono ?_;rintro e u1 ⟨v,rfl,C,J⟩;obtain⟨g,A,n,c,rfl⟩:=C.shape2;go_wp2_with fail;exact i.out _ _ J ⟨g,A,n,c,rfl,C⟩
  refine zc.cons [0,2,4] rfl (by kernel_rfl) (fun y z V B o t K i=>?_) ?_
  ·try dsimp only at i
   simp only [PU,Nat.reduceEqDiff,Nat.reduceAdd,reduceIte]at i⊢;have e0:=t 0 (by simp);have D:=t 2 (by simp);have C:=t 4 (by simp);clear t
   try dsimp only at o e0 D C
   generalize y 0=z0 at i e0⊢;generalize y 2=z2 at i D⊢;generalize y 4=z4 at i C⊢;subst e0;obtain⟨g1,A1,n1,c1,m1,rfl,D⟩:=D;obtain⟨g2,A2,n2,c2,rfl,C⟩:=C;go_simp;go_at_call 62;refine(ak.out _ o _ _ D C).mono ?_;rintro e u1 ⟨v,rfl,a5,J⟩;obtain⟨g,A,n,c,m,rfl⟩:=a5.tm.shape;go_wp2_with fail;exact i.out _ _ J ⟨g,A,n,c,m,rfl,a5.tm⟩
  refine zc.cons [] rfl (by kernel_rfl) (fun y z V B o t K i=>?_) ?_
  ·try dsimp only at i
   simp only [PU,Nat.reduceEqDiff,Nat.reduceAdd,reduceIte]at i⊢;clear t
   try dsimp only at o
   obtain⟨x0,x1,x2⟩:=(k5.pu (E.trans o)).c3_;go_simp;exact i.out _ _ (Pu.refl _) rfl
  refine zc.cons [] rfl (by kernel_rfl) (fun y z V B o t K i=>?_) ?_
  ·try dsimp only at i
   simp only [PU,Nat.reduceEqDiff,Nat.reduceAdd,reduceIte]at i⊢;clear t
   try dsimp only at o
   obtain⟨x0,x1⟩:=(k7.pu o).c2_;go_simp;exact i.out _ _ (Pu.refl _) rfl
  exact zc.nil
 ·intro y V z hL o t;have f0:=t 0 (by decide);have f1:=t 1 (by decide);have f2:=t 2 (by decide);have f3:=t 3 (by decide);have f4:=t 4 (by decide);have S:=t 5 (by decide);have f6:=t 6 (by decide);have f7:=t 7 (by decide);clear t
  try dsimp only at o f0 f1 f2 f3 f4 S f6 f7
  simp only [PU,Nat.reduceEqDiff,Nat.reduceAdd,reduceIte];generalize y 0=z0 at f0⊢;generalize y 1=z1 at f1⊢;generalize y 2=z2 at f2⊢;generalize y 3=z3 at f3⊢;generalize y 4=z4 at f4⊢;generalize y 5=z5 at S⊢;generalize y 6=z6 at f6⊢;generalize y 7=z7 at f7⊢;subst f0;subst f1;subst f3;subst f6;subst f7;obtain⟨g3,A3,n3,c3,m3,rfl,S⟩:=S;clear f2 f4;go_wp2_with fail;refine(aj.out _ o _ S).mono ?_;rintro e u1 ⟨v,rfl,hT,J⟩;obtain⟨g,A,n,c,m,rfl⟩:=hT.tm.shape;have hP:Pu W u1:=E.trans (o.trans J);have I:=k6.pu hP;have aw:w.heap.size≤V.heap.size:=Nat.le_trans hW.size (Nat.le_trans E.size o.size);have x0:=I.cell 0;have bu:=I.frozen 0;have x1:=I.cell 1;have bt:=I.frozen 1;have x2:=I.cell 2;have bw:=I.frozen 2;obtain⟨av,eR⟩:=zb1 I (.bool g) (.slice A n c) (.pointer m);obtain⟨r0,r1,r2⟩:=av.c3_;have ax:=hT.frT eR (fun j hj=>by have e':j=w.heap.size+1+1:=hj;have:=E.size;have:=o.size;omega) (zh I (by decide));have a4:=(hW.trans hP).step eR (fun j hj=>by have e':j=w.heap.size+1+1:=hj;omega);have HF:=Qh (AI (ax.base_ aw) a4);clear ax a4 av I eR hT aw;go_wp2;exact bodyPost_ret (v:= .agg #[.bool g,.slice A n c,.pointer m]) (by simp [results,Tryz.results51,go_sem,r0,r1,r2]) rfl ⟨_,rfl,(by have h:=HF.out.1;rw [Int.zero_mul,Int.add_zero]at h;exact h),HF.out.2⟩
end
section
open Go.RowKit
def VM(w:World)(b:Nat)(gs:List (Key×Int)):Prop:=∃L,MRZ w b L∧zH w L gs
theorem VM.pu{w w':World}{b:Nat}{gs:List (Key×Int)}(h:VM w b gs)(p:Pu w w'):VM w' b gs:=by obtain⟨L,i,j⟩:=h;exact⟨L,i.pu p,j.pu p⟩
structure zjd(R0 K G:Nat)(rest:Int)(fs gs:List (Key×Int)):Prop where
 r:rest.natAbs≤R0
 up1:zad K fs
 up2:zad G gs
 b:R0+1100000*(G*K)<4294967296^E3
 bK:K<4294967296^E3
 bG:G<4294967296^E3
theorem zi3{j M i:Nat}{a x:Int}(k:a.natAbs≤j+i*M)(o:x.natAbs≤M):(a+x).natAbs≤j+(i+1)*M:=by rw [Nat.succ_mul];omega
end
section
open Go.RowKit
def zeR(k:Key)(r2:Int)(gs:List (Key×Int))(r:RowM):RowM:=⟨r.rest+r2*factor r.fs k,zot r.fs k gs,r.eq⟩
theorem ziG(A:Option Addr)(n c:Nat)(L:List RawR)(l:List RowM)(k:Key)(v2:Value)(r2:Int)(gs:List (Key×Int))(K G:Nat)(w:World)(h:SlR w A n c L)(hh:zF w L l)(h2:TM w v2 r2 gs) (ok:∀r∈l,zo0 K G r.fs gs r.rest r2) (hn:n<1100000):Calls Tryz.prog 20 #[.slice A n c,.string ⟨k.toArray⟩,v2] w fun e w'=>∃E C D,e= .returned (.slice E n C)∧w'.ownsRow w.heap.size 35 4 (.slice E n C) n (cat RawR.cells D)∧zal w' w.heap.size D (l.map (zeR k r2 gs))∧Pu w w':=by
 obtain⟨g2,A2,n2,Y,m2,rfl⟩:=h2.shape;obtain⟨W,hWe⟩:∃W,W=w.alloc (.cells #[.bool g2,.slice A2 n2 Y,.pointer m2] 33):=⟨_,rfl⟩
 have F:Pu w W:=by rw [hWe];exact(Pu.refl w).alloc _
 have k5:Blk W w.heap.size 33 #[.bool g2,.slice A2 n2 Y,.pointer m2]:=by rw [hWe];exact Blk.new _ _ _
 have Q:L.length=n:=h.len;have a0:=hh.1;have HL:=Qh (AI Q a0);have H2:=Qh (h2.pu F);have bi:=Qh hWe;have OK:=Qh ok;clear Q a0 h2 ok hWe;go_enter Tryz.func20,Tryz.ntmps20;go_wp2_with fail;rw [←bi.out]
 go_loopw [7,12] (fun ov iv wr=>∃(i:Nat) (E:Option Addr) (C:Nat) (D:List RawR),i≤n∧iv= .int .i64 (i:Int)∧ov= .slice E i C∧wr.ownsRow W.heap.size 35 4 (.slice E i C) i (cat RawR.cells D)∧zal wr W.heap.size D ((l.take i).map (zeR k r2 gs))∧Pu W wr) (fun _ iv _=>n - (intOf iv).toNat)
 case atStart=>exact⟨0,none,0,[],Nat.zero_le _,rfl,rfl,World.ownsRow_nil _ _ _ _,by simpa using zal.nil W W.heap.size,Pu.refl _⟩
 case round=>
  obtain⟨i,E,C,D,hi,rfl,rfl,ho,P,J⟩:=hrel;by_cases bj:i<n
  ·obtain⟨q,hq⟩:∃q,L[i]?=some q:=⟨_,List.getElem?_eq_getElem (by rw [HL.out.1];exact bj)⟩
   obtain⟨r,hr,R⟩:=hh.at_ hq;obtain⟨b,off,rfl,bU,x0,x1,x2,x3⟩:=SlR.at_ (Sl.pu h (F.trans J)) hq;obtain⟨z,hVe⟩:∃z,z=wr.alloc (.cells #[.bool q.g,.slice q.A q.n q.c,.pointer q.m,.bool q.eq] 35):=⟨_,rfl⟩
   have I:Pu wr z:=by rw [hVe];exact(Pu.refl wr).alloc _
   have k9:Blk z wr.heap.size 35 #[.bool q.g,.slice q.A q.n q.c,.pointer q.m,.bool q.eq]:=by rw [hVe];exact Blk.new _ _ _
   have m5:=k5.pu (J.trans I);have a9:=R.pu (F.trans (J.trans I));have U:=OK.out r (List.mem_of_getElem? hr);have X:=Qh (show∀V (p:Pu z V),Calls Tryz.prog 51 #[.agg #[.bool q.g,.slice q.A q.n q.c,.pointer q.m],.string ⟨k.toArray⟩,.agg #[.bool g2,.slice A2 n2 Y,.pointer m2]] V fun e w'=>∃v,e= .returned v∧TMO w' V.heap.size v (r.rest+r2*factor r.fs k) (zot r.fs k gs)∧Pu V w' from fun V p=>zpP _ _ r.rest r2 r.fs gs k K G V (a9.2.pu p) (H2.out.pu (J.trans (I.trans p))) U);have aw:(l.take (i+1)).map (zeR k r2 gs)=(l.take i).map (zeR k r2 gs)++[zeR k r2 gs r]:=by rw [List.take_add_one,hr];simp
   have bh:=Qh aw;have a8:q.eq=r.eq:=R.1;have bW:IntKind.i64.wrap ((i:Int)+1)=(i:Int)+1:=IntWalk.i64_in _ (by omega);have bV:=F.size;have bX:=J.size;have bS:=I.size;have bf:=zaw ho I;have bk:=P.pu I;have a4:=Qh a8;have a6:=Qh hVe;clear hq hr R a9 U hVe ho P a8 aw;obtain⟨qg,qA,qn,qc,qm,B⟩:=q;dsimp only at x0 x1 x2 x3 X k9 a4 a6;go_wp2_with fail
   try rw [←a6.out]
   have pd:Pu z z.drew:=(Pu.refl z).drew;refine zw 10 (fun _ w=>Pu z w) (fun _=>Pu) (fun io=>match io with|0=>fun vv_ _=>vv_= .slice E i C|1=>fun vv_ _=>vv_= .pointer (some ⟨wr.heap.size,0,none⟩)|2=>fun vv_ _=>vv_= .agg #[.bool qg,.slice qA qn qc,.pointer qm]|3=>fun vv_ _=>vv_= .string ⟨k.toArray⟩|4=>fun vv_ _=>vv_= .agg #[.bool g2,.slice A2 n2 Y,.pointer m2]|5=>fun v w=>∃g A n c m,v= .agg #[.bool g,.slice A n c,.pointer m]∧TMO w z.heap.size (.agg #[.bool g,.slice A n c,.pointer m]) (r.rest+r2*factor r.fs k) (zot r.fs k gs)|6=>fun vv_ _=>vv_= .pointer (some ⟨wr.heap.size,3,none⟩)|7=>fun vv_ _=>vv_= .bool B|8=>fun v w=>∃g A n c m,v= .agg #[.bool g,.slice A n c,.pointer m,.bool B]∧TMO w z.heap.size (.agg #[.bool g,.slice A n c,.pointer m]) (r.rest+r2*factor r.fs k) (zot r.fs k gs)|9=>fun v w=>∃q g A n c m,v= .slice (some ⟨q,0,none⟩) 1 1∧Blk w q 35 #[.bool g,.slice A n c,.pointer m,.bool B]∧TMO w z.heap.size (.agg #[.bool g,.slice A n c,.pointer m]) (r.rest+r2*factor r.fs k) (zot r.fs k gs)|_=>fun _ _=>True) [some 16,some 17,some 18,some 19,some 20,some 21,some 22,some 23,some 24,some 25] (by kernel_rfl) (by kernel_rfl) rfl pd ?_ ?_ ?_ ?_
   ·intro ko t u u' hk x hI O;exact hI.trans O
   ·intro io ko v u u' hi hk M h bg;have O:=bg
    match io,hi,M,h with
    |0,_,_,h=>exact h
    |1,_,_,h=>exact h
    |2,_,_,h=>exact h
    |3,_,_,h=>exact h
    |4,_,_,h=>exact h
    |5,_,M,h=>replace h:∃g A n c m,v= .agg #[.bool g,.slice A n c,.pointer m]∧TMO u z.heap.size (.agg #[.bool g,.slice A n c,.pointer m]) (r.rest+r2*factor r.fs k) (zot r.fs k gs):=h;obtain⟨g,A,n,c,m,e,h⟩:=h;exact⟨g,A,n,c,m,e,h.pu O⟩
    |6,_,_,h=>exact h
    |7,_,_,h=>exact h
    |8,_,M,h=>replace h:∃g A n c m,v= .agg #[.bool g,.slice A n c,.pointer m,.bool B]∧TMO u z.heap.size (.agg #[.bool g,.slice A n c,.pointer m]) (r.rest+r2*factor r.fs k) (zot r.fs k gs):=h;obtain⟨g,A,n,c,m,e,h⟩:=h;exact⟨g,A,n,c,m,e,h.pu O⟩
    |9,_,M,h=>replace h:∃q g A n c m,v= .slice (some ⟨q,0,none⟩) 1 1∧Blk u q 35 #[.bool g,.slice A n c,.pointer m,.bool B]∧TMO u z.heap.size (.agg #[.bool g,.slice A n c,.pointer m]) (r.rest+r2*factor r.fs k) (zot r.fs k gs):=h;obtain⟨q,g,A,n,c,m,e,h,h'⟩:=h;exact⟨q,g,A,n,c,m,e,h.pu O,h'.pu O⟩
    |_+10,hi,_,_=>exact absurd hi (by omega)
   ·refine zc.cons [] rfl (by kernel_rfl) (fun y t V x p o K j=>?_) ?_
    ·try dsimp only at j
     simp only [PU,Nat.reduceEqDiff,Nat.reduceAdd,reduceIte]at j⊢;clear o
     try dsimp only at p
     go_simp;exact j.out _ _ (Pu.refl _) rfl
    refine zc.cons [] rfl (by kernel_rfl) (fun y t V x p o K j=>?_) ?_
    ·try dsimp only at j
     simp only [PU,Nat.reduceEqDiff,Nat.reduceAdd,reduceIte]at j⊢;clear o
     try dsimp only at p
     go_simp;exact j.out _ _ (Pu.refl _) rfl
    refine zc.cons [1] rfl (by kernel_rfl) (fun y t V x p o K j=>?_) ?_
    ·try dsimp only at j
     simp only [PU,Nat.reduceEqDiff,Nat.reduceAdd,reduceIte]at j⊢;have e1:=o 1 (by simp);clear o
     try dsimp only at p e1
     generalize y 1=z1 at j e1⊢;subst e1;obtain⟨x0,x1,x2,x3⟩:=(k9.pu p).c4_;go_simp;exact j.out _ _ (Pu.refl _) rfl
    refine zc.cons [] rfl (by kernel_rfl) (fun y t V x p o K j=>?_) ?_
    ·try dsimp only at j
     simp only [PU,Nat.reduceEqDiff,Nat.reduceAdd,reduceIte]at j⊢;clear o
     try dsimp only at p
     go_simp;exact j.out _ _ (Pu.refl _) rfl
    refine zc.cons [] rfl (by kernel_rfl) (fun y t V x p o K j=>?_) ?_
    ·try dsimp only at j
     simp only [PU,Nat.reduceEqDiff,Nat.reduceAdd,reduceIte]at j⊢;clear o
     try dsimp only at p
     obtain⟨x0,x1,x2⟩:=(m5.pu p).c3_;go_simp;exact j.out _ _ (Pu.refl _) rfl
    refine zc.cons [2,3,4] rfl (by kernel_rfl) (fun y t V x p o K j=>?_) ?_
    ·try dsimp only at j
     simp only [PU,Nat.reduceEqDiff,Nat.reduceAdd,reduceIte]at j⊢;have e2:=o 2 (by simp);have e3:=o 3 (by simp);have e4:=o 4 (by simp);clear o
     try dsimp only at p e2 e3 e4
     generalize y 2=z2 at j e2⊢;generalize y 3=z3 at j e3⊢;generalize y 4=z4 at j e4⊢;subst e2;subst e3;subst e4;go_simp;go_at_call 51;refine(X.out _ p).mono ?_;rintro e u1 ⟨v,rfl,av,p1⟩;obtain⟨g,A,n,c,m,rfl⟩:=av.tm.shape;go_wp2_with fail;exact j.out _ _ p1 ⟨g,A,n,c,m,rfl,av.base_ p.size⟩
    refine zc.cons [] rfl (by kernel_rfl) (fun y t V x p o K j=>?_) ?_
    ·try dsimp only at j
     simp only [PU,Nat.reduceEqDiff,Nat.reduceAdd,reduceIte]at j⊢;clear o
     try dsimp only at p
     go_simp;exact j.out _ _ (Pu.refl _) rfl
    refine zc.cons [6] rfl (by kernel_rfl) (fun y t V x p o K j=>?_) ?_
    ·try dsimp only at j
     simp only [PU,Nat.reduceEqDiff,Nat.reduceAdd,reduceIte]at j⊢;have e6:=o 6 (by simp);clear o
     try dsimp only at p e6
     generalize y 6=z6 at j e6⊢;subst e6;obtain⟨x0,x1,x2,x3⟩:=(k9.pu p).c4_;go_simp;exact j.out _ _ (Pu.refl _) rfl
    refine zc.cons [5,7] rfl (by kernel_rfl) (fun y t V x p o K j=>?_) ?_
    ·try dsimp only at j
     simp only [PU,Nat.reduceEqDiff,Nat.reduceAdd,reduceIte]at j⊢;have e5:=o 5 (by simp);have e7:=o 7 (by simp);clear o
     try dsimp only at p e5 e7
     generalize y 5=z5 at j e5⊢;generalize y 7=z7 at j e7⊢;obtain⟨g5,A5,n5,c5,bT,rfl,h5⟩:=e5;subst e7;go_simp;exact j.out _ _ (Pu.refl _) ⟨_,_,_,_,_,rfl,h5⟩
    refine zc.cons [8] rfl (by kernel_rfl) (fun y t V x p o K j=>?_) ?_
    ·try dsimp only at j
     simp only [PU,Nat.reduceEqDiff,Nat.reduceAdd,reduceIte]at j⊢;have e8:=o 8 (by simp);clear o
     try dsimp only at p e8
     generalize y 8=z8 at j e8⊢;obtain⟨g8,A8,n8,c8,m8,rfl,h8⟩:=e8;go_simp;exact j.out _ _ ((Pu.refl _).alloc _) ⟨_,_,_,_,_,_,rfl,Blk.new _ _ _,h8.pu ((Pu.refl _).alloc _)⟩
    exact zc.nil
   ·intro y V t hL p o;have f0:=o 0 (by decide);have f1:=o 1 (by decide);have f2:=o 2 (by decide);have f3:=o 3 (by decide);have f4:=o 4 (by decide);have f5:=o 5 (by decide);have f6:=o 6 (by decide);have f7:=o 7 (by decide);have f8:=o 8 (by decide);have f9:=o 9 (by decide);clear o
    try dsimp only at p f0 f1 f2 f3 f4 f5 f6 f7 f8 f9
    simp only [PU,Nat.reduceEqDiff,Nat.reduceAdd,reduceIte];generalize y 0=z0 at f0⊢;generalize y 1=z1 at f1⊢;generalize y 2=z2 at f2⊢;generalize y 3=z3 at f3⊢;generalize y 4=z4 at f4⊢;generalize y 5=z5 at f5⊢;generalize y 6=z6 at f6⊢;generalize y 7=z7 at f7⊢;generalize y 8=z8 at f8⊢;generalize y 9=z9 at f9⊢;subst f0;subst f1;subst f2;subst f3;subst f4;subst f6;subst f7;clear f5 f8;obtain⟨qb,g9,A9,n9,c9,Z,rfl,bn,h9⟩:=f9;have N:=zaw bf p;have az:=bk.pu p;have bc:W.heap.size≤V.heap.size:=by have:=p.size;omega
    go_wp2_with (at_builtin;refine zjb zcX rfl _ _ rfl #[.bool g9,.slice A9 n9 c9,.pointer Z,.bool B] rfl (RawR.cells_one ⟨g9,A9,n9,c9,Z,B⟩) rfl rfl bn N (by simp [maxLen];omega) (by omega) bc ?_);intro g4 c4 w4 a5 T bo;have hQ:=zcC N (Nat.le_refl _) T;have a7:ziu w4 W.heap.size ⟨g9,A9,n9,c9,Z,B⟩ (zeR k r2 gs r):=⟨a4.out,(h9.qf hQ).base_ (by omega)⟩
    have ax:=(az.qf hQ).append (zal.one a7);have au:Pu W w4:=(J.trans (I.trans p)).grown T (fun k hk=>(N.lt k hk).1);have H:=Qh (AI a5 (AI ax au));clear a5 T bo hQ a7 ax au N az;go_wp2;go_roundw
    case rel=>exact⟨i+1,some ⟨g4,0,none⟩,c4,D++[⟨g9,A9,n9,c9,Z,B⟩],by omega,by go_num,rfl,by rw [zaX,zgI];exact H.out.1,by rw [bh.out];exact H.out.2.1,H.out.2.2⟩
    case measure=>simp [intOf];omega
  ·obtain rfl:i=n:=by omega
   have S:(l.take i).map (zeR k r2 gs)=l.map (zeR k r2 gs):=by rw [List.take_of_length_le (by rw [←HL.out.2,HL.out.1];omega)]
   rw [S]at P;have H:=Qh (AI ho (AI P (F.trans J)));clear S P ho;go_wp2;go_ret;exact⟨E,C,D,rfl,zbK H.out.1 F.size,H.out.2.1.base_ F.size,H.out.2.2⟩
end
end Go.Proofs.YtckfnbckoclhpaaGreatDoor

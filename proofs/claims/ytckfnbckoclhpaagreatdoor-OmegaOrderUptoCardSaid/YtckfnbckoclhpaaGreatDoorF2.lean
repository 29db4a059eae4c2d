/- The solver's small functions. -/
import Derived.Test.YtckfnbckoclhpaaGreatDoorF1
import Derived.Test.YtckfnbckoclhpaaGreatDoorE15
import Derived.Test.YtckfnbckoclhpaaGreatDoorCT
namespace Go.Proofs.YtckfnbckoclhpaaGreatDoor
set_option linter.unusedVariables false
set_option linter.unusedSimpArgs false
set_option maxRecDepth 100000
set_option maxHeartbeats 8000000
section
open Go.RowKit
theorem ziS(sb F U n:Nat)(w:World)(h:zgS w sb F U)(B:U≤F)(E:F≤2000)(z:n≤2000000000000):Calls Tryz.prog 95 #[.pointer (some ⟨sb,0,none⟩),.int .i64 (n:Int)] w fun e w'=>(F - U<n∧e= .returned (.bool false)∧zgS w' sb F F∧Fr (fun k=>k=sb) w w')∨(n≤F - U∧e= .returned (.bool true)∧zgS w' sb F (U+n)∧Fr (fun k=>k=sb) w w'):=by
 have y:w.cell? ⟨sb,0,none⟩=some (.int .i64 (F:Int)):=h.cell 0;have C:w.cell? ⟨sb,1,none⟩=some (.int .i64 (U:Int)):=h.cell 1;have D:w.frozen? ⟨sb,1,none⟩=false:=h.frozen 1;have v:IntKind.i64.wrap ((F:Int) - U)=(F:Int) - U:=IntWalk.i64_in _ (by omega);by_cases j:F - U<n
 ·have t:decide ((F:Int) - (U:Int)<(n:Int))=true:=by simp;omega
  have i:=Qh (Blk.set_ h 1 (.int .i64 (F:Int)));go_enter Tryz.func95,Tryz.ntmps95;go_wp2_with fail
  go_quiet (fail)
  go_wp2;go_ret;exact .inl ⟨j,rfl,i.out,((Fr.refl (fun k=>k=sb) w).drewN _).setCell (p:=⟨sb,1,none⟩) (.inl rfl) _⟩
 ·have t:decide ((F:Int) - (U:Int)<(n:Int))=false:=by simp;omega
  have x:IntKind.i64.wrap ((U:Int)+n)=(U:Int)+n:=IntWalk.i64_in _ (by omega);have i:=Qh (Blk.set_ h 1 (.int .i64 ((U:Int)+(n:Int))));have o:=Qh (show((U+n:Nat):Int)=(U:Int)+(n:Int) by omega);go_enter Tryz.func95,Tryz.ntmps95;go_wp2_with fail
  go_quiet (fail)
  go_wp2;go_ret;refine .inr ⟨by omega,rfl,?_,((Fr.refl (fun k=>k=sb) w).drewN _).setCell (p:=⟨sb,1,none⟩) (.inl rfl) _⟩;unfold zgS;rw [o.out];exact i.out
theorem zfc(k:Key)(w:World):Calls Tryz.prog 139 #[.string ⟨k.toArray⟩] w fun e w'=>∃v',e= .returned v'∧TM w' v' 0 [(k,1)]∧Pu w w':=by
 obtain⟨W,hWe⟩:∃W,W=w.alloc (.cells #[.bool false,.slice none 0 0,.pointer none] 33):=⟨_,rfl⟩
 have F:Pu w W:=by rw [hWe];exact(Pu.refl w).alloc _
 have E:Blk W w.heap.size 33 #[.bool false,.slice none 0 0,.pointer none]:=by rw [hWe];exact Blk.new w _ _
 have B:=Qh (zcJ k W);have y:=Qh hWe;rw [hWe]at B;clear hWe;go_enter Tryz.func139,Tryz.ntmps139;go_wp2_with fail;refine B.out.mono ?_;rintro e I ⟨v,rfl,t,p⟩;obtain⟨g,A,n,c,m,rfl⟩:=t.shape;rw [←y.out]at p;have i:=E.pu p;obtain⟨L,N,K⟩:=i.c3_;obtain⟨O,M,J⟩:=i.z3_;obtain⟨z,x⟩:=zb1 i (.bool g) (.slice A n c) (.pointer m);obtain⟨G,r1,r2⟩:=z.c3_;have o:=t.frB i (by decide) (by decide) (by simp) x;have D:=(F.trans p).step x (fun j hj=>by have H:j=w.heap.size:=hj;omega);have C:=Qh (AI o D);clear o D x z i t p;go_wp2;exact bodyPost_ret (v:= .agg #[.bool g,.slice A n c,.pointer m]) (by simp [results,Tryz.results139,go_sem,G,r1,r2]) rfl ⟨_,rfl,C.out.1,C.out.2⟩
theorem zgp(v:Value)(rest:Int)(fs gs:List (Key×Int))(vb R0 K G:Nat)(w:World)(h:TM w v rest fs)(hv:VM w vb gs)(ok:zjd R0 K G rest fs gs):Calls Tryz.prog 142 #[v,.pointer (some ⟨vb,0,none⟩)] w fun e w'=>∃v',e= .returned v'∧ZR w' v' (rest+zk (factor gs) fs)∧Pu w w':=by
 obtain⟨g,A,n,c,m,rfl⟩:=h.shape;obtain⟨W,hWe⟩:∃W,W=(w.alloc (.cells #[.bool g,.slice A n c,.pointer m] 33)).alloc (.cells #[.bool false,.slice none 0 0] 30):=⟨_,rfl⟩
 have pW:Pu w W:=by rw [hWe];exact((Pu.refl w).alloc _).alloc _
 have k2:Blk W w.heap.size 33 #[.bool g,.slice A n c,.pointer m]:=by rw [hWe];exact(Blk.new w _ _).alloc _
 have k4:Blk W (w.heap.size+1) 30 #[.bool false,.slice none 0 0]:=by rw [hWe];exact Blk.at_new _ _ _ (by simp)
 have cP:W.heap.size=w.heap.size+2:=by rw [hWe];simp
 have Hr:=Qh (zco _ _ _ _ (h.pu pW));have X:=h.rise;have aE:=Qh X;have bS:=Qh hWe;have OK:=Qh ok;have HV:=Qh hv;have HT:=Qh h;have aw:=ok.r;rw [hWe]at Hr;clear hWe h hv ok X;go_enter Tryz.func142,Tryz.ntmps142;go_wp2_with fail;refine Hr.out.mono ?_;rintro e P ⟨v1,rfl,a8,I⟩;rw [←bS.out]at I;obtain⟨g1,A1,n1,c1,rfl⟩:=a8.shape2;obtain⟨W2,hW2⟩:∃W2,W2=P.alloc (.cells #[.bool g1,.slice A1 n1 c1] 30):=⟨_,rfl⟩
 have N:Pu W W2:=by rw [hW2];exact I.alloc _
 have l2:=k2.pu N;have J:=k4.pu N;have l5:Blk W2 P.heap.size 30 #[.bool g1,.slice A1 n1 c1]:=by rw [hW2];exact Blk.new _ _ _
 have z5:ZR W2 (.agg #[.bool g1,.slice A1 n1 c1]) rest:=by rw [hW2];exact a8.pu ((Pu.refl _).alloc _)
 have cN:w.heap.size+2≤P.heap.size:=by have:=I.size;omega
 have Hn:=Qh (zcM _ _ _ _ (HT.out.pu (pW.trans N)));obtain⟨R,x1,x2⟩:=l2.c3_;have bP:=Qh (show W2.heap.size=P.heap.size+1 by rw [hW2];simp);rw [hW2]at R x1 x2 Hn;have bQ:=Qh hW2;have PW:=pW.trans N;clear hW2 k2 k4 I N Hr a8;go_wp2_with fail;refine Hn.out.mono ?_;rintro e W3 ⟨aV,D,aR,rfl,H,cK,C⟩;rw [←bQ.out]at C H;have j2:=l2.pu C;have j4:=J.pu C;have j5:=l5.pu C;have y5:=z5.pu C;have aS:Sl W3 1 aV D aR (kts (fs.map (·.1))):=Sl.of_own H;have aG:=ziV H;have cn:fs.length=D:=by have:=aS.1;simpa [kts]using this
 have cm:=C.size;have cc:=PW.trans C;clear R x1 x2 Hn l2 J l5 z5 C PW H;go_wp2_with fail
 go_loopw [15] (fun iv wr=>∃(i:Nat) (g6:Bool) (A6:Option Addr) (n6 c6:Nat) (a:Int),i≤D∧iv= .int .i64 (i:Int)∧Blk wr P.heap.size 30 #[.bool g6,.slice A6 n6 c6]∧ZR wr (.agg #[.bool g6,.slice A6 n6 c6]) a∧Hid (rest+zk (factor gs) fs=a+zk (factor gs) (fs.drop i))∧a.natAbs≤R0+i*(G*K)∧Fr (fun j=>j=P.heap.size) W3 wr) (fun iv _=>D - (intOf iv).toNat)
 case atStart=>exact⟨0,g1,A1,n1,c1,rest,Nat.zero_le _,rfl,j5,y5,Qh rfl,by simpa using aw,Fr.refl _ _⟩
 case round=>
  obtain⟨i,g6,A6,n6,c6,a,hi,rfl,l6,aa,ad,ap,hF⟩:=hrel;have T:Pu w wr:=cc.step hF (fun j hj=>by have e':j=P.heap.size:=hj;omega);have l2:=j2.fr hF (by omega);have J:=j4.fr hF (by omega);by_cases b8:i<D
  ·obtain⟨p,o⟩:∃p,fs[i]?=some p:=⟨_,List.getElem?_eq_getElem (by omega)⟩
   obtain⟨k,z⟩:=p;have aQ:factor fs k=z:=zl aE.out.1 (List.mem_of_getElem? o);have a4:Sl wr 1 aV D aR (kts (fs.map (·.1))):=aS.fr hF (fun _ b' off e hS=>by have e1:b'=P.heap.size:=hS;have e2:=aG b' off e;have e3:=bP.out;omega);obtain⟨bn,on,u,rfl,cQ,hu,R⟩:=a4.at_ b8;have cb:u= .string ⟨k.toArray⟩:=by simp only [kts,List.getElem?_map,o]at hu;exact(Option.some.inj hu).symm
   subst cb;have aK:rest+zk (factor gs) fs=(a+factor gs k*z)+zk (factor gs) (fs.drop (i+1)):=by
    have bU:=(List.getElem?_eq_some_iff.1 o).1;have e:fs.drop i=(k,z)::fs.drop (i+1):=by
     rw [List.drop_eq_getElem_cons bU]
     congr 1
     exact(List.getElem?_eq_some_iff.1 o).2
    rw [ad.out,e,zk,Int.mul_comm (factor gs k)];dsimp only;omega
   have bJ:=Qh aK;obtain⟨L,a5,aM⟩:=HV.out;have aN:=a5.rise;have Q:=zrH vb L k wr (a5.pu T);have Y:=(aM.get (k:=k) aN).pu T;obtain⟨vv,hvv⟩:∃vv,gvZ L k=vv:=⟨_,rfl⟩
   rw [hvv]at Q Y;clear hvv a5 aM aN aK;obtain⟨g9,A9,n9,c9,rfl⟩:=Y.shape2;have bg:=Qh Q;have aO:=Qh (OK.out.up1 _ (List.mem_of_getElem? o));have bA:=Qh aQ;have cR:IntKind.i64.wrap ((i:Int)+1)=(i:Int)+1:=IntWalk.i64_in _ (by omega);clear Q o hu aQ ad;go_wp2_with fail;refine bg.out.mono ?_;rintro e w3 ⟨rfl,C⟩;obtain⟨M,hVe⟩:∃M,M=w3.alloc (.cells #[.bool g9,.slice A9 n9 c9] 30):=⟨_,rfl⟩
   have pV:Pu wr M:=by rw [hVe];exact C.alloc _
   have k9:Blk M w3.heap.size 30 #[.bool g9,.slice A9 n9 c9]:=by rw [hVe];exact Blk.new _ _ _
   have m2:=l2.pu pV;have m6:=l6.pu pV;have z9:=Y.pu pV;have za:=aa.pu pV;have hT:=HT.out.pu (T.trans pV);have av:(factor gs k).natAbs≤G:=OK.out.up2.factor k;have ao:(factor gs k*z).natAbs≤G*K:=by rw [Int.natAbs_mul];exact Nat.mul_le_mul av aO.out
   have a7:=zi3 ap ao;have aU:i≤1100000:=by omega
   have b1:(factor gs k).natAbs<4294967296^E9:=zC (n:=(factor gs k).natAbs) (a:=E3) (b:=E9) (zbT _ _ av _ OK.out.bG) (by decide);have b2:z.natAbs<4294967296^E9:=zC (n:=z.natAbs) (a:=E3) (b:=E9) (zbT _ _ aO.out _ OK.out.bK) (by decide);have Z:R0+i*(G*K)<4294967296^E3:=zbT _ _ (Nat.add_le_add_left (Nat.mul_le_mul_right _ aU) _) _ OK.out.b;have O:G*K<4294967296^E3:=zbT _ _ (Nat.le_trans (Nat.le_mul_of_pos_left _ (by decide)) (Nat.le_add_left _ _)) _ OK.out.b;have b3:a.natAbs<4294967296^E9:=zC (n:=a.natAbs) (a:=E3) (b:=E9) (zbT _ _ ap _ Z) (by decide);have b4:(factor gs k*z).natAbs<4294967296^E9:=zC (n:=(factor gs k*z).natAbs) (a:=E3) (b:=E9) (zbT _ _ ao _ O) (by decide);have HB:=Qh (AI b1 (AI b2 (AI b3 b4)));have HS:=Qh a7;have bZ:=Qh hVe;clear hVe av ao ap aU Y aa C b1 b2 b3 b4 Z O a7 l6 a4;go_wp2_with fail
   try rw [←bZ.out]
   have pd:Pu M M.drew:=(Pu.refl M).drew;refine zw 7 (fun _ w=>Pu M w) (fun _=>Pu) (fun io=>match io with|0=>fun vv_ _=>vv_= .agg #[.bool g6,.slice A6 n6 c6]|1=>fun vv_ _=>vv_= .agg #[.bool g9,.slice A9 n9 c9]|2=>fun vv_ _=>vv_= .agg #[.bool g,.slice A n c,.pointer m]|3=>fun vv_ _=>vv_= .string ⟨k.toArray⟩|4=>fZ (factor fs k)|5=>fZ (factor gs k*z)|6=>fSZ (factor gs k*z)|_=>fun _ _=>True) [some 25,some 26,some 27,some 28,some 29,some 30,some 31] (by kernel_rfl) (by kernel_rfl) rfl pd ?_ ?_ ?_ ?_
   ·intro ko B u u' hk E hI hR;exact hI.trans hR
   ·intro io ko v u u' hi hk bE h aw;have hR:=aw
    match io,hi,bE,h with
    |0,_,_,h=>exact h
    |1,_,_,h=>exact h
    |2,_,_,h=>exact h
    |3,_,_,h=>exact h
    |4,_,_,h=>exact fZ.pu h hR
    |5,_,_,h=>exact fZ.pu h hR
    |6,_,_,h=>exact fSZ.pu h hR
    |_+7,hi,_,_=>exact absurd hi (by omega)
   ·refine zc.cons [] rfl (by kernel_rfl) (fun y B V E x o K t=>?_) ?_
    ·simp only [PU,Nat.reduceEqDiff,Nat.reduceAdd,reduceIte]at t⊢;clear o;obtain⟨R,x1⟩:=((m6).pu x).c2_;go_simp;exact t.out _ _ (Pu.refl _) rfl
    refine zc.cons [] rfl (by kernel_rfl) (fun y B V E x o K t=>?_) ?_
    ·simp only [PU,Nat.reduceEqDiff,Nat.reduceAdd,reduceIte]at t⊢;clear o;obtain⟨R,x1⟩:=((k9).pu x).c2_;go_simp;exact t.out _ _ (Pu.refl _) rfl
    refine zc.cons [] rfl (by kernel_rfl) (fun y B V E x o K t=>?_) ?_
    ·simp only [PU,Nat.reduceEqDiff,Nat.reduceAdd,reduceIte]at t⊢;clear o;obtain⟨R,x1,x2⟩:=((m2).pu x).c3_;go_simp;exact t.out _ _ (Pu.refl _) rfl
    refine zc.cons [] rfl (by kernel_rfl) (fun y B V E x o K t=>?_) ?_
    ·simp only [PU,Nat.reduceEqDiff,Nat.reduceAdd,reduceIte]at t⊢;clear o;go_simp;exact t.out _ _ (Pu.refl _) rfl
    refine zc.cons [2,3] rfl (by kernel_rfl) (fun y B V E x o K t=>?_) ?_
    ·simp only [PU,Nat.reduceEqDiff,Nat.reduceAdd,reduceIte]at t⊢;have e2:=o 2 (by simp);have e3:=o 3 (by simp);clear o;generalize y 2=z2 at t e2⊢;generalize y 3=z3 at t e3⊢;obtain rfl:=e2;obtain rfl:=e3;go_simp;go_at_call 14;refine(zY _ rest k fs V (hT.pu x)).mono ?_;rintro e u1 ⟨v,rfl,hN,I⟩;obtain⟨g,A,n,c,rfl⟩:=hN.shape2;go_wp2_with fail;exact t.out _ _ I ⟨g,A,n,c,rfl,hN⟩
    refine zc.cons [1,4] rfl (by kernel_rfl) (fun y B V E x o K t=>?_) ?_
    ·simp only [PU,Nat.reduceEqDiff,Nat.reduceAdd,reduceIte]at t⊢;have e1:=o 1 (by simp);have e4:=o 4 (by simp);clear o;generalize y 1=z1 at t e1⊢;generalize y 4=z4 at t e4⊢;obtain rfl:=e1;obtain⟨g4,A4,n4,c4,rfl,bL⟩:=e4;go_simp;go_at_call 50;refine(zfK _ _ (factor gs k) z V (z9.pu x) (by rw [←bA.out];exact bL) HB.out.1 HB.out.2.1).mono ?_;rintro e u1 ⟨v,rfl,hN,I⟩;obtain⟨g,A,n,c,rfl⟩:=hN.shape2;go_wp2_with fail;exact t.out _ _ I ⟨g,A,n,c,rfl,hN⟩
    refine zc.cons [5] rfl (by kernel_rfl) (fun y B V E x o K t=>?_) ?_
    ·simp only [PU,Nat.reduceEqDiff,Nat.reduceAdd,reduceIte]at t⊢;have e5:=o 5 (by simp);clear o;generalize y 5=z5 at t e5⊢;obtain⟨g5,A5,n5,c5,rfl,ce⟩:=e5;go_simp;exact t.out _ _ ((Pu.refl _).alloc _) ⟨_,g5,A5,n5,c5,rfl,Blk.new _ _ _,ce.pu ((Pu.refl _).alloc _)⟩
    exact zc.nil
   ·intro y V B hL x o;have f0:=o 0 (by decide);have f1:=o 1 (by decide);have f2:=o 2 (by decide);have f3:=o 3 (by decide);have f4:=o 4 (by decide);have f5:=o 5 (by decide);have f6:=o 6 (by decide);clear o;simp only [PU,Nat.reduceEqDiff,Nat.reduceAdd,reduceIte];generalize y 0=z0 at f0⊢;generalize y 1=z1 at f1⊢;generalize y 2=z2 at f2⊢;generalize y 3=z3 at f3⊢;generalize y 4=z4 at f4⊢;generalize y 5=z5 at f5⊢;generalize y 6=z6 at f6⊢;obtain rfl:=f0;obtain rfl:=f1;obtain rfl:=f2;obtain rfl:=f3;clear f4 f5;obtain⟨q,gq,Aq,nq,cq,rfl,aW,aJ⟩:=f6;go_wp2_with fail;refine(zcB _ _ a (factor gs k*z) q V (za.pu x) aJ HB.out.2.2.1 HB.out.2.2.2 aW).mono ?_;rintro e u1 ⟨v,rfl,ax,p7⟩;obtain⟨g7,A7,n7,c7,rfl⟩:=ax.shape2;have F:=m6.pu (x.trans p7);have R:=F.cell 0;have cO:=F.frozen 0;have x1:=F.cell 1;have cM:=F.frozen 1;obtain⟨aL,S⟩:=zas F (.bool g7) (.slice A7 n7 c7);have aP:=ax.frT S (zh F (by decide));have aT:=hF.trans ((pV.trans (x.trans p7)).fr' S);have HF:=Qh (AI aL (AI aP aT));clear aP aT aL F S ax aW aJ;go_wp2;go_roundw
    case rel=>exact⟨i+1,g7,A7,n7,c7,_,by omega,by go_num,HF.out.1,HF.out.2.1,bJ,HS.out,HF.out.2.2⟩
    case measure=>simp [intOf];omega
  ·obtain rfl:i=D:=by omega
   have U:rest+zk (factor gs) fs=a:=by rw [ad.out,List.drop_eq_nil_of_le (by omega),zk,Int.add_zero]
   obtain⟨a0,a1⟩:=l6.c2_;obtain⟨c0,c1⟩:=J.c2_;obtain⟨d0,d1⟩:=J.z2_;obtain⟨F,S⟩:=zas J (.bool g6) (.slice A6 n6 c6);obtain⟨r0,r1⟩:=F.c2_;have aX:=aa.frT S (zh J (by decide));have hP:=T.step S (fun j hj=>by have e':j=w.heap.size+1:=hj;omega);have HP:=Qh (AI U (AI aX hP));clear U aX hP S F J l6 aa ad;go_wp2;exact bodyPost_ret (v:= .agg #[.bool g6,.slice A6 n6 c6]) (by simp [results,Tryz.results142,go_sem,r0,r1]) rfl ⟨_,rfl,by rw [HP.out.1];exact HP.out.2.1,HP.out.2.2⟩
end
section
open Go.RowKit
theorem zdR{w:World}{A:Option Addr}{n c:Nat}{l:List Key}(h:Sl w 1 A n c (kts l)){i:Nat}{k:Key}(p:l[i]?=some k):∃b off,A=some ⟨b,off,none⟩∧b<w.heap.size∧i<n∧w.cell? ⟨b,off+i,none⟩=some (.string ⟨k.toArray⟩):=by have v:=h.1;have y:=(List.getElem?_eq_some_iff.1 p).1;simp [kts]at v;obtain⟨b,off,u,e,x,o,t⟩:=h.at_ (j:=i) (by omega);refine⟨b,off,e,x,by omega,?_⟩;rw [kts,List.getElem?_map,p]at o;injection o with o;rw [t,←o]
theorem zf6{fs:List (Key×Int)}{i:Nat}{p:Key×Int}(h:fs[i]?=some p):(fs.map (·.1))[i]?=some p.1:=by simp [h]
theorem zfe(a b:Int):∃q:Int,zee a b=q∧(q= -1∨q=0∨q=1)∧(q<0↔a<b)∧(q>0↔b<a):=by
 unfold zee;split
 ·exact⟨_,rfl,.inl rfl,by omega,by omega⟩
 ·split
  ·exact⟨_,rfl,.inr (.inr rfl),by omega,by omega⟩
  ·exact⟨_,rfl,.inr (.inl rfl),by omega,by omega⟩
theorem zne(v:Value)(rest:Int)(fs:List (Key×Int))(w:World)(h:TM w v rest fs)(aa:fs≠[])(hb:∀f∈fs,f.2.natAbs<4294967296^E4):Calls Tryz.prog 138 #[v] w fun e w'=>∃p∈fs,e= .returned (.string ⟨p.1.toArray⟩)∧Pu w w':=by
 obtain⟨g,A,n,c,m,rfl⟩:=h.shape;obtain⟨W,hWe⟩:∃W,W=w.alloc (.cells #[.bool g,.slice A n c,.pointer m] 33):=⟨_,rfl⟩
 have pW:Pu w W:=by rw [hWe];exact(Pu.refl w).alloc _
 have k1:Blk W w.heap.size 33 #[.bool g,.slice A n c,.pointer m]:=by rw [hWe];exact Blk.new w _ _
 have P:=h.pu pW;have L:=h.rise;have Hn:=Qh (zcM _ _ _ _ P);have O:=Qh (AI L (AI hb aa));have aL:=Qh hWe;rw [hWe]at Hn;clear hWe h hb aa L;go_enter Tryz.func138,Tryz.ntmps138;go_wp2_with fail;refine Hn.out.mono ?_;rintro e W1 ⟨A3,I,c3,rfl,H,bC,x⟩;rw [←aL.out]at x H;have J:Sl W1 1 A3 I c3 (kts (fs.map (·.1))):=Sl.of_own H;have b8:=(zci H).1;have a6:=(zci H).2;have j1:=k1.pu x;have PW:=pW.trans x;have aU:=P.pu x;have bf:fs.length=I:=by have:=J.1;simpa [kts]using this
 have aj:0<fs.length:=List.length_pos_iff.2 O.out.2.2;obtain⟨p0,hp0⟩:∃p,fs[0]?=some p:=⟨_,List.getElem?_eq_getElem aj⟩
 obtain⟨nb,no,rfl,bB,b0,G⟩:=zdR J (zf6 hp0);have Y:=Qh (List.mem_of_getElem? hp0);have ah:=Qh J;obtain⟨k0,z0⟩:=p0;rw [Nat.add_zero]at G;dsimp only at G;have bg:c3≤9223372036854775807:=a6;clear Hn k1 x hp0 J H P;by_cases aE:c3=1
 ·have aX:I=1:=by omega
  subst aE aX;go_wp2_with fail
  go_loopw [4,15] (fun bv N wr=>N= .int .i64 0∧bv= .string ⟨k0.toArray⟩∧wr=W1) (fun _ N _=>0)
  case atStart=>exact⟨rfl,rfl,rfl⟩
  case round=>obtain⟨rfl,rfl,rfl⟩:=hrel;go_wp2;go_ret;exact⟨_,Y.out,rfl,PW⟩
 go_wp2_with fail
 go_loopw [4,15] (fun bv N wr=>∃(i:Nat) (D:Key) (zb:Int),i+1≤I∧N= .int .i64 (i:Int)∧bv= .string ⟨D.toArray⟩∧Hid ((D,zb)∈fs)∧Pu W1 wr) (fun _ N _=>I - (intOf N).toNat)
 case atStart=>exact⟨0,k0,z0,by omega,rfl,rfl,Y,Pu.refl _⟩
 case round=>
  obtain⟨i,D,zb,R,rfl,rfl,F,Q⟩:=hrel;clear G;by_cases b5:i+1<I
  ·obtain⟨p,j⟩:∃p,fs[i+1]?=some p:=⟨_,List.getElem?_eq_getElem (by omega)⟩
   obtain⟨b',bq,e',aF,b7,G⟩:=zdR (ah.out.pu Q) (zf6 j);injection e' with e';injection e' with U T;subst U T;have Hp:=Qh (List.mem_of_getElem? j);obtain⟨k,z⟩:=p;dsimp only at G;rw [show no+(i+1)=no+1+i by omega]at G;have m1:=j1.pu Q;have hT:=aU.pu Q;have b1:(factor fs k).natAbs<4294967296^E4:=by rw [zl O.out.1.1 Hp.out];exact O.out.2.1 _ Hp.out
   have b2:(factor fs D).natAbs<4294967296^E4:=by rw [zl O.out.1.1 F.out];exact O.out.2.1 _ F.out
   have b3:(((factor fs k).natAbs:Int)).natAbs<4294967296^E4:=by rw [Int.natAbs_natCast];exact b1
   have b4:(((factor fs D).natAbs:Int)).natAbs<4294967296^E4:=by rw [Int.natAbs_natCast];exact b2
   have S:=Qh (AI b1 (AI b2 (AI b3 b4)));have bD:IntKind.i64.wrap ((i:Int)+1)=(i:Int)+1:=IntWalk.i64_in _ (by omega);clear j b1 b2 b3 b4 aF;go_wp2_with fail;have pd:Pu wr wr.drew:=(Pu.refl wr).drew;refine zw 8 (fun _ w=>Pu wr w) (fun _=>Pu) (fun io=>match io with|0=>fun vv_ _=>vv_= .agg #[.bool g,.slice A n c,.pointer m]|1=>fun vv_ _=>vv_= .string ⟨k.toArray⟩|2=>fZ (factor fs k)|3=>fZ (((factor fs k).natAbs:Int))|4=>fun vv_ _=>vv_= .agg #[.bool g,.slice A n c,.pointer m]|5=>fun vv_ _=>vv_= .string ⟨D.toArray⟩|6=>fZ (factor fs D)|7=>fZ (((factor fs D).natAbs:Int))|_=>fun _ _=>True) [some 19,some 20,some 21,some 22,some 23,some 24,some 25,some 26] (by kernel_rfl) (by kernel_rfl) rfl pd ?_ ?_ ?_ ?_
   ·intro ko t u u' hk C hI M;exact hI.trans M
   ·intro io ko v u u' R hk aA h a9;have M:=a9
    match io,R,aA,h with
    |0,_,_,h=>exact h
    |1,_,_,h=>exact h
    |2,_,_,h=>exact fZ.pu h M
    |3,_,_,h=>exact fZ.pu h M
    |4,_,_,h=>exact h
    |5,_,_,h=>exact h
    |6,_,_,h=>exact fZ.pu h M
    |7,_,_,h=>exact fZ.pu h M
    |_+8,R,_,_=>exact absurd R (by omega)
   ·refine zc.cons [] rfl (by kernel_rfl) (fun y t V C B j K o=>?_) ?_
    ·simp only [PU,Nat.reduceEqDiff,Nat.reduceAdd,reduceIte]at o⊢;clear j;obtain⟨G,x1,x2⟩:=((m1).pu B).c3_;go_simp;exact o.out _ _ (Pu.refl _) rfl
    refine zc.cons [] rfl (by kernel_rfl) (fun y t V C B j K o=>?_) ?_
    ·simp only [PU,Nat.reduceEqDiff,Nat.reduceAdd,reduceIte]at o⊢;clear j;go_simp;exact o.out _ _ (Pu.refl _) rfl
    refine zc.cons [0,1] rfl (by kernel_rfl) (fun y t V C B j K o=>?_) ?_
    ·simp only [PU,Nat.reduceEqDiff,Nat.reduceAdd,reduceIte]at o⊢;have e0:=j 0 (by simp);have U:=j 1 (by simp);clear j;generalize y 0=z0 at o e0⊢;generalize y 1=z1 at o U⊢;obtain rfl:=e0;obtain rfl:=U;go_simp;go_at_call 14;refine(zY _ rest k fs V (hT.pu B)).mono ?_;rintro e u1 ⟨v,rfl,E,x⟩;obtain⟨g,A,n,c,rfl⟩:=E.shape2;go_wp2_with fail;exact o.out _ _ x ⟨g,A,n,c,rfl,E⟩
    refine zc.cons [2] rfl (by kernel_rfl) (fun y t V C B j K o=>?_) ?_
    ·simp only [PU,Nat.reduceEqDiff,Nat.reduceAdd,reduceIte]at o⊢;have T:=j 2 (by simp);clear j;generalize y 2=z2 at o T⊢;obtain⟨g2,A2,n2,c2,rfl,aI⟩:=T;go_simp;go_at_call 141;refine(zdn _ (factor fs k) V aI S.out.1).mono ?_;rintro e u1 ⟨v,rfl,E,x⟩;obtain⟨g,A,n,c,rfl⟩:=E.shape2;go_wp2_with fail;exact o.out _ _ x ⟨g,A,n,c,rfl,E⟩
    refine zc.cons [] rfl (by kernel_rfl) (fun y t V C B j K o=>?_) ?_
    ·simp only [PU,Nat.reduceEqDiff,Nat.reduceAdd,reduceIte]at o⊢;clear j;obtain⟨G,x1,x2⟩:=((m1).pu B).c3_;go_simp;exact o.out _ _ (Pu.refl _) rfl
    refine zc.cons [] rfl (by kernel_rfl) (fun y t V C B j K o=>?_) ?_
    ·simp only [PU,Nat.reduceEqDiff,Nat.reduceAdd,reduceIte]at o⊢;clear j;go_simp;exact o.out _ _ (Pu.refl _) rfl
    refine zc.cons [4,5] rfl (by kernel_rfl) (fun y t V C B j K o=>?_) ?_
    ·simp only [PU,Nat.reduceEqDiff,Nat.reduceAdd,reduceIte]at o⊢;have e4:=j 4 (by simp);have e5:=j 5 (by simp);clear j;generalize y 4=z4 at o e4⊢;generalize y 5=z5 at o e5⊢;obtain rfl:=e4;obtain rfl:=e5;go_simp;go_at_call 14;refine(zY _ rest D fs V (hT.pu B)).mono ?_;rintro e u1 ⟨v,rfl,E,x⟩;obtain⟨g,A,n,c,rfl⟩:=E.shape2;go_wp2_with fail;exact o.out _ _ x ⟨g,A,n,c,rfl,E⟩
    refine zc.cons [6] rfl (by kernel_rfl) (fun y t V C B j K o=>?_) ?_
    ·simp only [PU,Nat.reduceEqDiff,Nat.reduceAdd,reduceIte]at o⊢;have e6:=j 6 (by simp);clear j;generalize y 6=z6 at o e6⊢;obtain⟨g6,A6,n6,c6,rfl,ba⟩:=e6;go_simp;go_at_call 141;refine(zdn _ (factor fs D) V ba S.out.2.1).mono ?_;rintro e u1 ⟨v,rfl,E,x⟩;obtain⟨g,A,n,c,rfl⟩:=E.shape2;go_wp2_with fail;exact o.out _ _ x ⟨g,A,n,c,rfl,E⟩
    exact zc.nil
   ·intro y V t hL B j;have f0:=j 0 (by decide);have f1:=j 1 (by decide);have f2:=j 2 (by decide);have f3:=j 3 (by decide);have f4:=j 4 (by decide);have f5:=j 5 (by decide);have f6:=j 6 (by decide);have f7:=j 7 (by decide);clear j;simp only [PU,Nat.reduceEqDiff,Nat.reduceAdd,reduceIte];generalize y 0=z0 at f0⊢;generalize y 1=z1 at f1⊢;generalize y 2=z2 at f2⊢;generalize y 3=z3 at f3⊢;generalize y 4=z4 at f4⊢;generalize y 5=z5 at f5⊢;generalize y 6=z6 at f6⊢;generalize y 7=z7 at f7⊢;obtain rfl:=f0;obtain rfl:=f1;obtain rfl:=f4;obtain rfl:=f5;clear f2 f6;obtain⟨g3,b9,b6,bA,rfl,h3⟩:=f3;obtain⟨g7,A7,n7,c7,rfl,h7⟩:=f7;go_wp2_with fail;refine(zbF _ _ _ _ V h3 h7 S.out.2.2.1 S.out.2.2.2).mono ?_;rintro e u1 ⟨rfl,p7⟩;obtain⟨q,hq,bz,aw,aM⟩:=zfe ((factor fs k).natAbs:Int) ((factor fs D).natAbs:Int);rw [hq];have X:=Q.trans (B.trans p7);clear hq aw aM h3 h7;by_cases Z:q<0
    ·have hd:decide (q<0)=true:=decide_eq_true Z;go_wp2;go_roundw
     case rel=>exact⟨i+1,k,z,by omega,by go_num,rfl,Hp,X⟩
     case measure=>simp [intOf];omega
    ·have hd:decide (q<0)=false:=decide_eq_false Z;go_wp2;go_roundw
     case rel=>exact⟨i+1,D,zb,by omega,by go_num,rfl,F,X⟩
     case measure=>simp [intOf];omega
  ·have hd:decide ((i:Int)<(I:Int) - 1)=false:=by simp;omega
   go_wp2;go_ret;exact⟨_,F.out,rfl,PW.trans Q⟩
structure zoa(K:Nat)(rest f:Int)(fs:List (Key×Int)):Prop where
 nz:f≠0
 r:rest.natAbs<4294967296^E3
 f:f.natAbs<4294967296^E3
 up:zad K fs
 few:fs.length≤60
 big:60*K+1100000*K<4294967296^E3
theorem zmT{k:Key}{f:Int}{fs acc:List (Key×Int)}{i:Nat}{p:Key×Int}(j:fs[i]?=some p):zc0 k f acc (fs.drop i)=zc0 k f (if p.1=k then acc else zG acc (zG [] [(p.1,1)] (p.2/f)) 1) (fs.drop (i+1)):=by
 have o:=(List.getElem?_eq_some_iff.1 j).1;have e:fs.drop i=p::fs.drop (i+1):=by
  rw [List.drop_eq_getElem_cons o]
  congr 1
  exact(List.getElem?_eq_some_iff.1 j).2
 rw [e];rfl
theorem ziA{k:Key}{q:Int}{M:Nat}(h:q.natAbs≤M):zad M (zG [] [(k,1)] q):=fun p j=>by
 have i:=zl (zeU k q) j;rw [zcP]at i;rw [←i];split
 ·exact h
 ·exact Nat.zero_le _
theorem zkp(k:Key)(q:Int):(zG [] [(k,1)] q).length≤1:=zcA [(k,1)] []
theorem znJ{K i:Nat}{rest f z:Int}{fs acc:List (Key×Int)}(o:zoa K rest f fs)(x:zad (i*K) acc∧acc.length≤i)(C:z.natAbs≤K)(D:i<fs.length)(j:Key):(∀g∈[(j,(1:Int))],(g.2*(z/f)).natAbs≤K)∧1100000*K<4294967296^E3∧(z/f).natAbs<4294967296^E3∧(∀g∈[(j,(1:Int))],g.2.natAbs<4294967296^E3)∧zad K (zG [] [(j,1)] (z/f))∧acc.length+(zG [] [(j,1)] (z/f)).length<300∧i*K+1100000*K<4294967296^E3∧(rest/f).natAbs<4294967296^E3∧Hid (zad ((i+1)*K) (zG acc (zG [] [(j,1)] (z/f)) 1)∧(zG acc (zG [] [(j,1)] (z/f)) 1).length≤i+1):=by
 have p:=Nat.le_trans (zbx z f) C;have v:1100000*K<4294967296^E3:=Nat.lt_of_le_of_lt (Nat.le_add_left _ _) o.big;have t:zad K (zG [] [(j,1)] (z/f)):=ziA p;have y:=zkp j (z/f);have B:i*K≤60*K:=Nat.mul_le_mul_right _ (by have:=o.few;omega);refine⟨fun g k=>?_,v,Nat.lt_of_le_of_lt (Nat.le_trans p (Nat.le_mul_of_pos_left K (by decide))) v,fun g k=>?_,t,by have:=o.few;omega,Nat.lt_of_le_of_lt (Nat.add_le_add_right B _) o.big,Nat.lt_of_le_of_lt (zbx rest f) o.r,Qh ⟨?_,?_⟩⟩
 ·rw [List.mem_singleton.1 k,Int.one_mul];exact p
 ·rw [List.mem_singleton.1 k];show(1:Int).natAbs<_;exact zds (by decide)
 ·have w:=zg7 (n:=1) (M:=K) (zG [] [(j,1)] (z/f)) acc (i*K) x.1 (fun g k=>by
   rw [Int.mul_one];exact t g k)
  refine w.le ?_;rw [Nat.succ_mul];have:=Nat.mul_le_mul_right K y;omega
 ·have:=zcA (n:=1) (zG [] [(j,1)] (z/f)) acc;omega
theorem zpI(v:Value)(rest:Int)(k:Key)(v2:Value)(f:Int)(fs:List (Key×Int))(K:Nat)(w:World)(h:TM w v rest fs)(h2:ZR w v2 f)(ok:zoa K rest f fs):Calls Tryz.prog 140 #[v,.string ⟨k.toArray⟩,v2] w fun e w'=>∃v',e= .returned v'∧TM w' v' (rest/f) (zc0 k f [] fs)∧Pu w w':=by
 obtain⟨g,A,n,c,m,rfl⟩:=h.shape;obtain⟨gf,Af,nf,cf,rfl⟩:=h2.shape2;obtain⟨X,hWe⟩:∃X,X=((w.alloc (.cells #[.bool g,.slice A n c,.pointer m] 33)).alloc (.cells #[.bool gf,.slice Af nf cf] 30)).alloc (.cells #[.bool false,.slice none 0 0,.pointer none] 33):=⟨_,rfl⟩
 have pW:Pu w X:=by rw [hWe];exact(((Pu.refl w).alloc _).alloc _).alloc _
 have k3:Blk X w.heap.size 33 #[.bool g,.slice A n c,.pointer m]:=by rw [hWe];exact((Blk.new w _ _).alloc _).alloc _
 have k5:Blk X (w.heap.size+1) 30 #[.bool gf,.slice Af nf cf]:=by rw [hWe];exact(Blk.at_new _ _ _ (by simp)).alloc _
 have k6:Blk X (w.heap.size+2) 33 #[.bool false,.slice none 0 0,.pointer none]:=by rw [hWe];exact Blk.at_new _ _ _ (by simp)
 have de:X.heap.size=w.heap.size+3:=by rw [hWe];simp
 have hT:=h.pu pW;have hF:=h2.pu pW;have aM:=h.rise.1;have bu:=Qh aM;have b1:rest.natAbs<4294967296^E4:=up4 ok.r;have b2:f.natAbs<4294967296^E4:=up4 ok.f;have HB:=Qh (AI b1 (AI b2 (AI ok.nz (show 0<f.natAbs by have:=ok.nz;omega))));have OK:=Qh ok;have cF:=Qh hWe;clear hWe h h2 ok aM b1 b2;go_enter Tryz.func140,Tryz.ntmps140;go_wp2_with fail;rw [←cF.out];have pd:Pu X X.drew:=(Pu.refl X).drew;have E:∀j x u u',j<3→(fun S=>match S with|0=>fun v _=>v= .agg #[.bool g,.slice A n c,.pointer m]|1=>fZ (rest)|2=>fun v _=>v= .agg #[.bool gf,.slice Af nf cf]|_=>fun _ _=>True:Nat→Value→World→Prop) j x u→NS X u u'→(fun S=>match S with|0=>fun v _=>v= .agg #[.bool g,.slice A n c,.pointer m]|1=>fZ (rest)|2=>fun v _=>v= .agg #[.bool gf,.slice Af nf cf]|_=>fun _ _=>True:Nat→Value→World→Prop) j x u':=by
  intro j x u u' hj h bh
  match j,hj,h with
  |0,_,h=>exact h
  |1,_,h=>exact fZ.ns h bh
  |2,_,h=>exact h
  |_+3,hj,_=>exact absurd hj (by omega)
 refine zag 12 (DJ X 3 (fun S=>match S with|0=>fun v _=>v= .agg #[.bool g,.slice A n c,.pointer m]|1=>fZ (rest)|2=>fun v _=>v= .agg #[.bool gf,.slice Af nf cf]|_=>fun _ _=>True) (rest/f)) [some 17,some 18,some 19,some 20,some 16,some 21,some 22,some 23,some 7,some 8,none,none] (by kernel_rfl) (by kernel_rfl) rfl (fun _=>DJ.start pd) ?_ ?_
 ·refine ze.cons [] rfl (by kernel_rfl) (fun y H V B C t K o=>?_) ?_
  ·simp only [PU,Nat.reduceEqDiff,Nat.reduceAdd,reduceIte]at o⊢;have D:=t.pu;obtain⟨P,x1,x2⟩:=((k3).pu D).c3_;go_simp;exact o.out _ _ (t.kp E 0 B (Pu.refl _) (.inl ⟨by decide,rfl⟩))
  refine ze.cons [0] rfl (by kernel_rfl) (fun y H V B C t K o=>?_) ?_
  ·simp only [PU,Nat.reduceEqDiff,Nat.reduceAdd,reduceIte]at o⊢;have D:=t.pu;have v0:y 0=_:=t.pre 0 (by decide) (C 0 (by simp));simp only [v0]at o⊢;go_simp;go_at_call 68;refine(zco _ rest fs V (hT.pu D)).mono ?_;rintro e u1 ⟨v,rfl,T,R⟩;obtain⟨g,A,n,c,rfl⟩:=T.shape2;go_wp2_with fail;exact o.out _ _ (t.kp E 1 B R (.inl ⟨by decide,⟨g,A,n,c,rfl,T⟩⟩))
  refine ze.cons [] rfl (by kernel_rfl) (fun y H V B C t K o=>?_) ?_
  ·simp only [PU,Nat.reduceEqDiff,Nat.reduceAdd,reduceIte]at o⊢;have D:=t.pu;obtain⟨P,x1⟩:=((k5).pu D).c2_;go_simp;exact o.out _ _ (t.kp E 2 B (Pu.refl _) (.inl ⟨by decide,rfl⟩))
  refine ze.cons [1,2] rfl (by kernel_rfl) (fun y H V B C t K o=>?_) ?_
  ·simp only [PU,Nat.reduceEqDiff,Nat.reduceAdd,reduceIte]at o⊢;have D:=t.pu;obtain⟨g1,A1,n1,c1,v1,cP⟩:=t.pre 1 (by decide) (C 1 (by simp));have v2:y 2=_:=t.pre 2 (by decide) (C 2 (by simp));simp only [v1,v2]at o⊢;go_simp;go_at_call 154;refine(zbB _ _ rest f V cP (hF.pu D) HB.out.1 HB.out.2.1 HB.out.2.2.1 (zgN _ _ HB.out.2.2.2)).mono ?_;rintro e u1 ⟨w3,w4,rfl,h3,h4,R⟩;obtain⟨g3,A3,n3,c3,rfl⟩:=h3.shape2;obtain⟨g4,A4,n4,c4,rfl⟩:=h4.shape2;go_wp2_with fail;exact o.out _ _ (t.kp E 3 B R (.inr (.inl ⟨rfl,⟨g3,A3,n3,c3,g4,A4,n4,c4,rfl,h3⟩⟩)))
  refine ze.cons [3] rfl (by kernel_rfl) (fun y H V B C t K o=>?_) ?_
  ·simp only [PU,Nat.reduceEqDiff,Nat.reduceAdd,reduceIte]at o⊢;have D:=t.pu;have F:=C 3 (by simp);obtain⟨g3,A3,n3,c3,g4,A4,n4,c4,G,_⟩:=t.d F;simp only [G]at o⊢;go_simp;exact o.out _ _ (t.kp E 4 B (Pu.refl _) (.inr (.inr (.inl ⟨rfl,⟨F,G.symm⟩⟩))))
  refine ze.cons [4] rfl (by kernel_rfl) (fun y H V B C t K o=>?_) ?_
  ·simp only [PU,Nat.reduceEqDiff,Nat.reduceAdd,reduceIte]at o⊢;have D:=t.pu;obtain⟨F,em⟩:=t.m (C 4 (by simp));obtain⟨g3,A3,n3,c3,g4,A4,n4,c4,G,_⟩:=t.d F;have I:=em.trans G
   try dsimp only at I
   simp only [I,G]at o⊢;go_simp;exact o.out _ _ (t.kp E 5 B (Pu.refl _) (.inr (.inr (.inr (.inl ⟨rfl,⟨F,_,_,_,G,rfl⟩⟩)))))
  refine ze.cons [4] rfl (by kernel_rfl) (fun y H V B C t K o=>?_) ?_
  ·simp only [PU,Nat.reduceEqDiff,Nat.reduceAdd,reduceIte]at o⊢;have D:=t.pu;obtain⟨F,em⟩:=t.m (C 4 (by simp));obtain⟨g3,A3,n3,c3,g4,A4,n4,c4,G,_⟩:=t.d F;have I:=em.trans G
   try dsimp only at I
   simp only [I,G]at o⊢;go_simp;exact o.out _ _ (t.kp E 6 B (Pu.refl _) (.inr (.inr (.inr (.inr (.inl ⟨rfl,⟨F,_,_,_,G,rfl⟩⟩))))))
  refine ze.cons [4] rfl (by kernel_rfl) (fun y H V B C t K o=>?_) ?_
  ·simp only [PU,Nat.reduceEqDiff,Nat.reduceAdd,reduceIte]at o⊢;have D:=t.pu;obtain⟨F,em⟩:=t.m (C 4 (by simp));obtain⟨g3,A3,n3,c3,g4,A4,n4,c4,G,_⟩:=t.d F;have I:=em.trans G
   try dsimp only at I
   simp only [I,G]at o⊢;go_simp;exact o.out _ _ (t.kp E 7 B (Pu.refl _) (.inr (.inr (.inr (.inr (.inr (.inl ⟨rfl,⟨F,rfl⟩⟩)))))))
  refine ze.cons [] rfl (by kernel_rfl) (fun y H V B C t K o=>?_) ?_
  ·simp only [PU,Nat.reduceEqDiff,Nat.reduceAdd,reduceIte]at o⊢;have D:=t.pu;go_simp;exact o.out _ _ (t.kp E 8 B ((Pu.refl _).alloc _) (.inr (.inr (.inr (.inr (.inr (.inr (⟨.inl rfl,rfl,⟨_,_,_,_,Blk.new _ _ _⟩⟩))))))))
  refine ze.cons [] rfl (by kernel_rfl) (fun y H V B C t K o=>?_) ?_
  ·simp only [PU,Nat.reduceEqDiff,Nat.reduceAdd,reduceIte]at o⊢;have D:=t.pu;go_simp;exact o.out _ _ (t.kp E 9 B ((Pu.refl _).alloc _) (.inr (.inr (.inr (.inr (.inr (.inr (⟨.inr rfl,rfl,⟨_,_,_,_,Blk.new _ _ _⟩⟩))))))))
  refine ze.cons [5,8] rfl (by kernel_rfl) (fun y H V B C t K o=>?_) ?_
  ·simp only [PU,Nat.reduceEqDiff,Nat.reduceAdd,reduceIte]at o⊢;have D:=t.pu;have W:=C 5 (by simp);have O:=C 8 (by simp);obtain⟨g,A,n,c,Z⟩:=t.num W;obtain⟨b,J,Y,hb⟩:=t.a O;obtain⟨g',A',n',c',N⟩:=hb
   try dsimp only [zdD]at Z J
   obtain⟨P,x1⟩:=N.c2_;obtain⟨f0,f1⟩:=N.z2_;obtain⟨M,Q⟩:=zas N (.bool g) (.slice A n c);simp only [Z,J]at o⊢;go_simp;exact o.out undef _ (t.store E 10 B (.inl rfl) ⟨_,_,_,_,N⟩ Y Q M (fun _=>⟨W,O,J,Z⟩) (fun e=>absurd e (by decide)) undef)
  refine ze.cons [6,9] rfl (by kernel_rfl) (fun y H V B C t K o=>?_) ?_
  ·simp only [PU,Nat.reduceEqDiff,Nat.reduceAdd,reduceIte]at o⊢;have D:=t.pu;have W:=C 6 (by simp);have O:=C 9 (by simp);obtain⟨g,A,n,c,Z⟩:=t.num1 W;obtain⟨b,J,Y,hb⟩:=t.b O;obtain⟨g',A',n',c',N⟩:=hb
   try dsimp only [zdD]at Z J
   obtain⟨P,x1⟩:=N.c2_;obtain⟨f0,f1⟩:=N.z2_;obtain⟨M,Q⟩:=zas N (.bool g) (.slice A n c);simp only [Z,J]at o⊢;go_simp;exact o.out undef _ (t.store E 11 B (.inr rfl) ⟨_,_,_,_,N⟩ Y Q M (fun e=>absurd e (by decide)) (fun _=>⟨O,J⟩) undef)
  exact ze.nil
 ·intro y U H hL t;obtain⟨bQ,gQ,AQ,nQ,cQ,J,Y,hB,hQ⟩:=t.last (hL 10 (by decide));have D:=t.pu;clear t
  try dsimp only [zdD]at J
  simp only [PU,Nat.reduceEqDiff,Nat.reduceAdd,reduceIte];simp only [J];generalize y 0=y0;generalize y 1=y1;generalize y 2=y2;generalize y 3=y3;generalize y 4=y4;generalize y 5=y5;generalize y 6=y6;generalize y 7=y7;generalize y 9=y9;obtain⟨z0,z1⟩:=hB.c2_;go_wp2_with fail;refine(zbd _ _ U hQ).mono ?_;rintro e W1 ⟨v,rfl,T,R⟩;obtain⟨g1,A1,n1,c1,m1,rfl⟩:=T.shape;obtain⟨W2,hW2⟩:∃W2,W2=W1.alloc (.cells #[.bool g1,.slice A1 n1 c1,.pointer m1] 33):=⟨_,rfl⟩
  have a8:Pu X W2:=by rw [hW2];exact(D.trans R).alloc _
  have b6:Blk W2 W1.heap.size 33 #[.bool g1,.slice A1 n1 c1,.pointer m1]:=by rw [hW2];exact Blk.new _ _ _
  have b5:TM W2 (.agg #[.bool g1,.slice A1 n1 c1,.pointer m1]) (rest/f) []:=by rw [hW2];exact T.pu ((Pu.refl _).alloc _)
  have dN:w.heap.size+3≤W1.heap.size:=by have:=(D.trans R).size;omega
  have cB:=Qh (show W2.heap.size=W1.heap.size+1 by rw [hW2];simp);have l3:=k3.pu a8;have l5:=k5.pu a8;have l6:=k6.pu a8;have Hn:=Qh (zcM _ _ _ _ (hT.pu a8));obtain⟨P,x1,x2⟩:=l3.c3_;rw [hW2]at P x1 x2 Hn;have cC:=Qh hW2;clear hW2 hB hQ R T E z0 z1;go_wp2_with fail;refine Hn.out.mono ?_;rintro e W3 ⟨b8,ao,bF,rfl,a5,dh,p3⟩;rw [←cC.out]at p3 a5;have bD:Sl W3 1 b8 ao bF (kts (fs.map (·.1))):=Sl.of_own a5;have bt:=ziV a5;have dc:fs.length=ao:=by have:=bD.1;simpa [kts]using this
  have j3:=l3.pu p3;have j5:=l5.pu p3;have j6:=l6.pu p3;have cg:=b6.pu p3;have u10:=b5.pu p3;have cN:=a8.trans p3;have da:=p3.size;clear P x1 x2 Hn l3 l5 l6 b6 b5 p3 a5;go_wp2_with fail
  go_loopw [29] (fun iv wr=>∃(i:Nat) (go:Bool) (Ao:Option Addr) (no co:Nat) (mo:Option Addr) (acc:List (Key×Int)),i≤ao∧iv= .int .i64 (i:Int)∧Blk wr W1.heap.size 33 #[.bool go,.slice Ao no co,.pointer mo]∧TM wr (.agg #[.bool go,.slice Ao no co,.pointer mo]) (rest/f) acc∧Hid (zc0 k f [] fs=zc0 k f acc (fs.drop i))∧Hid (zad (i*K) acc∧acc.length≤i)∧Fr (fun j=>j=W1.heap.size) W3 wr) (fun iv _=>ao - (intOf iv).toNat)
  case atStart=>exact⟨0,g1,A1,n1,c1,m1,[],Nat.zero_le _,rfl,cg,u10,Qh rfl,Qh ⟨zad.nil _,Nat.le_refl _⟩,Fr.refl _ _⟩
  case round=>
   obtain⟨i,go,Ao,no,co,mo,acc,hi,rfl,lo,tO,aO,a4,aN⟩:=hrel;have av:Pu X wr:=cN.step aN (fun j hj=>by have e':j=W1.heap.size:=hj;omega);have l3:=k3.pu av;have l5:=k5.pu av;have l6:=k6.pu av;by_cases dI:i<ao
   ·obtain⟨p,C⟩:∃p,fs[i]?=some p:=⟨_,List.getElem?_eq_getElem (by omega)⟩
    have bf:Sl wr 1 b8 ao bF (kts (fs.map (·.1))):=bD.fr aN (fun _ b' off e hS=>by have e1:b'=W1.heap.size:=hS;have e2:=bt b' off e;have e3:=cB.out;omega);obtain⟨bn,on,rfl,cG,dL,P⟩:=zdR bf (zf6 C);have aj:=aO.out.trans (zmT (k:=k) (f:=f) (acc:=acc) C);have aZ:=zl bu.out (List.mem_of_getElem? C);have bl:=OK.out.up p (List.mem_of_getElem? C);have dO:IntKind.i64.wrap ((i:Int)+1)=(i:Int)+1:=IntWalk.i64_in _ (by omega);obtain⟨L,z⟩:=p;dsimp only at P aj aZ bl;have aL:=Qh (AI aZ bl);clear C aZ bl bf cG;by_cases aw:L=k
    ·subst aw;rw [if_pos rfl]at aj;have bc:=Qh aj;have HA:Hid (zad ((i+1)*K) acc∧acc.length≤i+1):=Qh ⟨a4.out.1.le (Nat.mul_le_mul_right _ (by omega)),by have:=a4.out.2;omega⟩;clear aj;go_wp2_with fail;go_roundw
     case rel=>exact⟨i+1,go,Ao,no,co,mo,acc,by omega,by go_num,lo,tO,bc,HA,aN⟩
     case measure=>simp [intOf];omega
    ·rw [if_neg aw]at aj;have bc:=Qh aj;have cM:(⟨L.toArray⟩:ByteArray)≠⟨k.toArray⟩:=fun e=>aw (by
      injection e with e;simpa using congrArg Array.toList e)
     have dP:(L==k)=false:=by simp [aw]
     have bz:z.natAbs<4294967296^E3:=by have h1:=OK.out.big;have h2:=aL.out.2;refine Nat.lt_of_le_of_lt (Nat.le_trans h2 ?_) h1;exact Nat.le_trans (Nat.le_mul_of_pos_left K (by decide:0<60)) (Nat.le_add_right _ _)
     have bH:z.natAbs<4294967296^E4:=up4 bz;have cJ:=Qh (AI bz bH);have dM:=Qh aw;have c6:=hT.pu av;have cz:=hF.pu av;clear aj cM bz bH aw aO;go_wp2_with fail;have cR:Pu wr wr.drew:=(Pu.refl wr).drew;have E:∀j x u u',j<4→(fun S=>match S with|0=>fun v _=>v= .agg #[.bool g,.slice A n c,.pointer m]|1=>fun v _=>v= .string ⟨L.toArray⟩|2=>fZ (factor fs L)|3=>fun v _=>v= .agg #[.bool gf,.slice Af nf cf]|_=>fun _ _=>True:Nat→Value→World→Prop) j x u→NS wr u u'→(fun S=>match S with|0=>fun v _=>v= .agg #[.bool g,.slice A n c,.pointer m]|1=>fun v _=>v= .string ⟨L.toArray⟩|2=>fZ (factor fs L)|3=>fun v _=>v= .agg #[.bool gf,.slice Af nf cf]|_=>fun _ _=>True:Nat→Value→World→Prop) j x u':=by
      intro j x u u' hj h bh
      match j,hj,h with
      |0,_,h=>exact h
      |1,_,h=>exact h
      |2,_,h=>exact fZ.ns h bh
      |3,_,h=>exact h
      |_+4,hj,_=>exact absurd hj (by omega)
     refine zag 13 (DJ wr 4 (fun S=>match S with|0=>fun v _=>v= .agg #[.bool g,.slice A n c,.pointer m]|1=>fun v _=>v= .string ⟨L.toArray⟩|2=>fZ (factor fs L)|3=>fun v _=>v= .agg #[.bool gf,.slice Af nf cf]|_=>fun _ _=>True) (factor fs L/f)) [some 37,some 38,some 39,some 40,some 41,some 36,some 42,some 43,some 44,some 13,some 14,none,none] (by kernel_rfl) (by kernel_rfl) rfl (fun _=>DJ.start cR) ?_ ?_
     ·refine ze.cons [] rfl (by kernel_rfl) (fun y H V B C t K o=>?_) ?_
      ·simp only [PU,Nat.reduceEqDiff,Nat.reduceAdd,reduceIte]at o⊢;have D:=t.pu;obtain⟨P,x1,x2⟩:=((l3).pu D).c3_;go_simp;exact o.out _ _ (t.kp E 0 B (Pu.refl _) (.inl ⟨by decide,rfl⟩))
      refine ze.cons [] rfl (by kernel_rfl) (fun y H V B C t K o=>?_) ?_
      ·simp only [PU,Nat.reduceEqDiff,Nat.reduceAdd,reduceIte]at o⊢;have D:=t.pu;go_simp;exact o.out _ _ (t.kp E 1 B (Pu.refl _) (.inl ⟨by decide,rfl⟩))
      refine ze.cons [0,1] rfl (by kernel_rfl) (fun y H V B C t K o=>?_) ?_
      ·simp only [PU,Nat.reduceEqDiff,Nat.reduceAdd,reduceIte]at o⊢;have D:=t.pu;have v0:y 0=_:=t.pre 0 (by decide) (C 0 (by simp));have v1:y 1=_:=t.pre 1 (by decide) (C 1 (by simp));simp only [v0,v1]at o⊢;go_simp;go_at_call 14;refine(zY _ rest L fs V (c6.pu D)).mono ?_;rintro e u1 ⟨v,rfl,T,R⟩;obtain⟨g,A,n,c,rfl⟩:=T.shape2;go_wp2_with fail;exact o.out _ _ (t.kp E 2 B R (.inl ⟨by decide,⟨g,A,n,c,rfl,T⟩⟩))
      refine ze.cons [] rfl (by kernel_rfl) (fun y H V B C t K o=>?_) ?_
      ·simp only [PU,Nat.reduceEqDiff,Nat.reduceAdd,reduceIte]at o⊢;have D:=t.pu;obtain⟨P,x1⟩:=((l5).pu D).c2_;go_simp;exact o.out _ _ (t.kp E 3 B (Pu.refl _) (.inl ⟨by decide,rfl⟩))
      refine ze.cons [2,3] rfl (by kernel_rfl) (fun y H V B C t K o=>?_) ?_
      ·simp only [PU,Nat.reduceEqDiff,Nat.reduceAdd,reduceIte]at o⊢;have D:=t.pu;obtain⟨g2,A2,n2,c2,v2,c9⟩:=t.pre 2 (by decide) (C 2 (by simp));have v3:y 3=_:=t.pre 3 (by decide) (C 3 (by simp));simp only [v2,v3]at o⊢;go_simp;go_at_call 154;refine(zbB _ _ (factor fs L) f V c9 (cz.pu D) (by rw [aL.out.1];exact cJ.out.2) HB.out.2.1 HB.out.2.2.1 (zgN _ _ HB.out.2.2.2)).mono ?_;rintro e u1 ⟨w3,w4,rfl,h3,h4,R⟩;obtain⟨g3,A3,n3,c3,rfl⟩:=h3.shape2;obtain⟨g4,A4,n4,c4,rfl⟩:=h4.shape2;go_wp2_with fail;exact o.out _ _ (t.kp E 4 B R (.inr (.inl ⟨rfl,⟨g3,A3,n3,c3,g4,A4,n4,c4,rfl,h3⟩⟩)))
      refine ze.cons [4] rfl (by kernel_rfl) (fun y H V B C t K o=>?_) ?_
      ·simp only [PU,Nat.reduceEqDiff,Nat.reduceAdd,reduceIte]at o⊢;have D:=t.pu;have F:=C 4 (by simp);obtain⟨g3,A3,n3,c3,g4,A4,n4,c4,G,_⟩:=t.d F;simp only [G]at o⊢;go_simp;exact o.out _ _ (t.kp E 5 B (Pu.refl _) (.inr (.inr (.inl ⟨rfl,⟨F,G.symm⟩⟩))))
      refine ze.cons [5] rfl (by kernel_rfl) (fun y H V B C t K o=>?_) ?_
      ·simp only [PU,Nat.reduceEqDiff,Nat.reduceAdd,reduceIte]at o⊢;have D:=t.pu;obtain⟨F,em⟩:=t.m (C 5 (by simp));obtain⟨g3,A3,n3,c3,g4,A4,n4,c4,G,_⟩:=t.d F;have I:=em.trans G
       try dsimp only at I
       simp only [I,G]at o⊢;go_simp;exact o.out _ _ (t.kp E 6 B (Pu.refl _) (.inr (.inr (.inr (.inl ⟨rfl,⟨F,_,_,_,G,rfl⟩⟩)))))
      refine ze.cons [5] rfl (by kernel_rfl) (fun y H V B C t K o=>?_) ?_
      ·simp only [PU,Nat.reduceEqDiff,Nat.reduceAdd,reduceIte]at o⊢;have D:=t.pu;obtain⟨F,em⟩:=t.m (C 5 (by simp));obtain⟨g3,A3,n3,c3,g4,A4,n4,c4,G,_⟩:=t.d F;have I:=em.trans G
       try dsimp only at I
       simp only [I,G]at o⊢;go_simp;exact o.out _ _ (t.kp E 7 B (Pu.refl _) (.inr (.inr (.inr (.inr (.inl ⟨rfl,⟨F,_,_,_,G,rfl⟩⟩))))))
      refine ze.cons [5] rfl (by kernel_rfl) (fun y H V B C t K o=>?_) ?_
      ·simp only [PU,Nat.reduceEqDiff,Nat.reduceAdd,reduceIte]at o⊢;have D:=t.pu;obtain⟨F,em⟩:=t.m (C 5 (by simp));obtain⟨g3,A3,n3,c3,g4,A4,n4,c4,G,_⟩:=t.d F;have I:=em.trans G
       try dsimp only at I
       simp only [I,G]at o⊢;go_simp;exact o.out _ _ (t.kp E 8 B (Pu.refl _) (.inr (.inr (.inr (.inr (.inr (.inl ⟨rfl,⟨F,rfl⟩⟩)))))))
      refine ze.cons [] rfl (by kernel_rfl) (fun y H V B C t K o=>?_) ?_
      ·simp only [PU,Nat.reduceEqDiff,Nat.reduceAdd,reduceIte]at o⊢;have D:=t.pu;go_simp;exact o.out _ _ (t.kp E 9 B ((Pu.refl _).alloc _) (.inr (.inr (.inr (.inr (.inr (.inr (⟨.inl rfl,rfl,⟨_,_,_,_,Blk.new _ _ _⟩⟩))))))))
      refine ze.cons [] rfl (by kernel_rfl) (fun y H V B C t K o=>?_) ?_
      ·simp only [PU,Nat.reduceEqDiff,Nat.reduceAdd,reduceIte]at o⊢;have D:=t.pu;go_simp;exact o.out _ _ (t.kp E 10 B ((Pu.refl _).alloc _) (.inr (.inr (.inr (.inr (.inr (.inr (⟨.inr rfl,rfl,⟨_,_,_,_,Blk.new _ _ _⟩⟩))))))))
      refine ze.cons [6,9] rfl (by kernel_rfl) (fun y H V B C t K o=>?_) ?_
      ·simp only [PU,Nat.reduceEqDiff,Nat.reduceAdd,reduceIte]at o⊢;have D:=t.pu;have W:=C 6 (by simp);have O:=C 9 (by simp);obtain⟨g,A,n,c,Z⟩:=t.num W;obtain⟨b,J,Y,hb⟩:=t.a O;obtain⟨g',A',n',c',N⟩:=hb
       try dsimp only [zdD]at Z J
       obtain⟨P,x1⟩:=N.c2_;obtain⟨f0,f1⟩:=N.z2_;obtain⟨M,Q⟩:=zas N (.bool g) (.slice A n c);simp only [Z,J]at o⊢;go_simp;exact o.out undef _ (t.store E 11 B (.inl rfl) ⟨_,_,_,_,N⟩ Y Q M (fun _=>⟨W,O,J,Z⟩) (fun e=>absurd e (by decide)) undef)
      refine ze.cons [7,10] rfl (by kernel_rfl) (fun y H V B C t K o=>?_) ?_
      ·simp only [PU,Nat.reduceEqDiff,Nat.reduceAdd,reduceIte]at o⊢;have D:=t.pu;have W:=C 7 (by simp);have O:=C 10 (by simp);obtain⟨g,A,n,c,Z⟩:=t.num1 W;obtain⟨b,J,Y,hb⟩:=t.b O;obtain⟨g',A',n',c',N⟩:=hb
       try dsimp only [zdD]at Z J
       obtain⟨P,x1⟩:=N.c2_;obtain⟨f0,f1⟩:=N.z2_;obtain⟨M,Q⟩:=zas N (.bool g) (.slice A n c);simp only [Z,J]at o⊢;go_simp;exact o.out undef _ (t.store E 12 B (.inr rfl) ⟨_,_,_,_,N⟩ Y Q M (fun e=>absurd e (by decide)) (fun _=>⟨O,J⟩) undef)
      exact ze.nil
     ·intro y U H hL t;obtain⟨bQ,gQ,AQ,nQ,cQ,J,Y,hB,hQ⟩:=t.last (hL 11 (by decide));have D:=t.pu;clear t
      try dsimp only [zdD]at J
      simp only [PU,Nat.reduceEqDiff,Nat.reduceAdd,reduceIte];simp only [J];generalize y 0=y0;generalize y 1=y1;generalize y 2=y2;generalize y 3=y3;generalize y 4=y4;generalize y 5=y5;generalize y 6=y6;generalize y 7=y7;generalize y 8=y8;generalize y 10=dK;rw [aL.out.1]at hQ;have b7:=lo.pu D;have cu:=tO.pu D;have cr:=D;have HM:=Qh (znJ OK.out a4.out aL.out.2 (show i<fs.length by omega) L);clear D E lo tO;go_wp2_with fail;have cD:Pu U U.drew:=(Pu.refl U).drew;refine zw 6 (fun _ w=>Pu U w) (fun _=>Pu) (fun S=>match S with|0=>fun vv_ _=>vv_= .agg #[.bool go,.slice Ao no co,.pointer mo]|1=>fun vv_ _=>vv_= .string ⟨L.toArray⟩|2=>fT (0) ([(L,1)])|3=>fun vv_ _=>vv_= .agg #[.bool gQ,.slice AQ nQ cQ]|4=>fT (0*(z/f)) (zG [] [(L,1)] (z/f))|5=>fST (0*(z/f)) (zG [] [(L,1)] (z/f))|_=>fun _ _=>True) [some 45,some 46,some 47,some 48,some 49,some 50] (by kernel_rfl) (by kernel_rfl) rfl cD ?_ ?_ ?_ ?_
      ·intro ko aq u u' hk B hI hR;exact hI.trans hR
      ·intro S ko v u u' hi hk cw h ct;have hR:=ct
       match S,hi,cw,h with
       |0,_,_,h=>exact h
       |1,_,_,h=>exact h
       |2,_,_,h=>exact fT.pu h hR
       |3,_,_,h=>exact h
       |4,_,_,h=>exact fT.pu h hR
       |5,_,_,h=>exact fST.pu h hR
       |_+6,hi,_,_=>exact absurd hi (by omega)
      ·refine zc.cons [] rfl (by kernel_rfl) (fun y aq V B D C K o=>?_) ?_
       ·simp only [PU,Nat.reduceEqDiff,Nat.reduceAdd,reduceIte]at o⊢;clear C;obtain⟨P,x1,x2⟩:=((b7).pu D).c3_;go_simp;exact o.out _ _ (Pu.refl _) rfl
       refine zc.cons [] rfl (by kernel_rfl) (fun y aq V B D C K o=>?_) ?_
       ·simp only [PU,Nat.reduceEqDiff,Nat.reduceAdd,reduceIte]at o⊢;clear C;go_simp;exact o.out _ _ (Pu.refl _) rfl
       refine zc.cons [1] rfl (by kernel_rfl) (fun y aq V B D C K o=>?_) ?_
       ·simp only [PU,Nat.reduceEqDiff,Nat.reduceAdd,reduceIte]at o⊢;have e1:=C 1 (by simp);clear C;generalize y 1=z1 at o e1⊢;obtain rfl:=e1;go_simp;go_at_call 139;refine(zfc L V).mono ?_;rintro e u1 ⟨v,rfl,T,R⟩;obtain⟨g,A,n,c,m,rfl⟩:=T.shape;go_wp2_with fail;exact o.out _ _ R ⟨g,A,n,c,m,rfl,T⟩
       refine zc.cons [] rfl (by kernel_rfl) (fun y aq V B D C K o=>?_) ?_
       ·simp only [PU,Nat.reduceEqDiff,Nat.reduceAdd,reduceIte]at o⊢;clear C;obtain⟨P,x1⟩:=((hB).pu D).c2_;go_simp;exact o.out _ _ (Pu.refl _) rfl
       refine zc.cons [2,3] rfl (by kernel_rfl) (fun y aq V B D C K o=>?_) ?_
       ·simp only [PU,Nat.reduceEqDiff,Nat.reduceAdd,reduceIte]at o⊢;have e2:=C 2 (by simp);have e3:=C 3 (by simp);clear C;generalize y 2=z2 at o e2⊢;generalize y 3=z3 at o e3⊢;obtain⟨g2,A2,n2,c2,m2,rfl,cS⟩:=e2;obtain rfl:=e3;go_simp;go_at_call 29;refine(zaW _ _ 0 (z/f) [(L,1)] _ V cS (hQ.pu D) HM.out.1 (by simp) HM.out.2.1 HM.out.2.2.1 HM.out.2.2.2.1 zan).mono ?_;rintro e u1 ⟨v,rfl,T,R⟩;obtain⟨g,A,n,c,m,rfl⟩:=T.tm.shape;go_wp2_with fail;exact o.out _ _ R ⟨g,A,n,c,m,rfl,T.tm⟩
       refine zc.cons [4] rfl (by kernel_rfl) (fun y aq V B D C K o=>?_) ?_
       ·simp only [PU,Nat.reduceEqDiff,Nat.reduceAdd,reduceIte]at o⊢;have e4:=C 4 (by simp);clear C;generalize y 4=z4 at o e4⊢;obtain⟨g4,A4,n4,c4,m4,rfl,cL⟩:=e4;go_simp;exact o.out _ _ ((Pu.refl _).alloc _) ⟨_,g4,A4,n4,c4,m4,rfl,Blk.new _ _ _,cL.pu ((Pu.refl _).alloc _)⟩
       exact zc.nil
      ·intro y V aq hL D C;have f0:=C 0 (by decide);have f1:=C 1 (by decide);have f2:=C 2 (by decide);have f3:=C 3 (by decide);have f4:=C 4 (by decide);have f5:=C 5 (by decide);clear C;simp only [PU,Nat.reduceEqDiff,Nat.reduceAdd,reduceIte];generalize y 0=z0 at f0⊢;generalize y 1=z1 at f1⊢;generalize y 2=z2 at f2⊢;generalize y 3=z3 at f3⊢;generalize y 4=z4 at f4⊢;generalize y 5=z5 at f5⊢;obtain rfl:=f0;obtain rfl:=f1;obtain rfl:=f3;clear f2 f4;obtain⟨q5,g5,A5,n5,c5,m5,rfl,bC,bE⟩:=f5;go_wp2_with fail;refine(zcd _ (rest/f) (0*(z/f)) acc (zG [] [(L,1)] (z/f)) (i*K) K V q5 g5 A5 n5 c5 m5 (cu.pu D) bC bE a4.out.1 HM.out.2.2.2.2.1 HM.out.2.2.2.2.2.1 HM.out.2.2.2.2.2.2.1 HM.out.2.2.2.2.2.2.2.1 (by rw [Int.zero_mul];exact zan)).mono ?_;rintro e u1 ⟨v,rfl,bb,p7⟩;obtain⟨g7,A7,n7,c7,m7,rfl⟩:=bb.tm.shape;have M:=b7.pu (D.trans p7);have P:=M.cell 0;have dH:=M.frozen 0;have x1:=M.cell 1;have dG:=M.frozen 1;have x2:=M.cell 2;have dJ:=M.frozen 2;obtain⟨b9,Q⟩:=zb1 M (.bool g7) (.slice A7 n7 c7) (.pointer m7);have bi:=bb.tm.frB M (by decide) (by decide) (by simp) Q;have e0:rest/f+0*(z/f)*1=rest/f:=by rw [Int.zero_mul,Int.zero_mul,Int.add_zero]
       rw [e0]at bi;have bB:=aN.trans ((cr.trans (D.trans p7)).fr' Q);have HF:=Qh (AI b9 (AI bi bB));clear bi bB b9 M Q bb bC bE e0;go_wp2;go_roundw
       case rel=>exact⟨i+1,g7,A7,n7,c7,m7,_,by omega,by go_num,HF.out.1,HF.out.2.1,bc,HM.out.2.2.2.2.2.2.2.2,HF.out.2.2⟩
       case measure=>simp [intOf];omega
   ·obtain rfl:i=ao:=by omega
    have aK:zc0 k f [] fs=acc:=by rw [aO.out,List.drop_eq_nil_of_le (by omega)];rfl
    obtain⟨a0,a1,a2⟩:=lo.c3_;obtain⟨c0,c1,c2⟩:=l6.c3_;obtain⟨d0,d1,d2⟩:=l6.z3_;obtain⟨M,Q⟩:=zb1 l6 (.bool go) (.slice Ao no co) (.pointer mo);obtain⟨r0,r1,r2⟩:=M.c3_;have bA:=tO.frB l6 (by decide) (by decide) (by simp) Q;have hP:=(pW.trans av).step Q (fun j hj=>by have e':j=w.heap.size+2:=hj;omega);have HP:=Qh (AI aK (AI bA hP));clear aK bA hP Q M lo l6 tO aO;go_wp2;exact bodyPost_ret (v:= .agg #[.bool go,.slice Ao no co,.pointer mo]) (by simp [results,Tryz.results140,go_sem,r0,r1,r2]) rfl ⟨_,rfl,by rw [HP.out.1];exact HP.out.2.1,HP.out.2.2⟩
end
end Go.Proofs.YtckfnbckoclhpaaGreatDoor

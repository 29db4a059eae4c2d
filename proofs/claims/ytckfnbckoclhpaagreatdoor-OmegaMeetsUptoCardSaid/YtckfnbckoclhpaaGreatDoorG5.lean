/- A term's value. -/
import Derived.Test.YtckfnbckoclhpaaGreatDoorE29
import Derived.Test.YtckfnbckoclhpaaGreatDoorE27
import Derived.Test.YtckfnbckoclhpaaGreatDoorE28
import Derived.Test.YtckfnbckoclhpaaGreatDoorF9
import Derived.Test.YtckfnbckoclhpaaGreatDoorF1
import Derived.Test.YtckfnbckoclhpaaGreatDoorF3
import Derived.Test.YtckfnbckoclhpaaGreatDoorE30
namespace Go.Proofs.YtckfnbckoclhpaaGreatDoor
set_option linter.unusedVariables false
set_option linter.unusedSimpArgs false
set_option maxRecDepth 100000
set_option maxHeartbeats 4000000
section
open Go.RowKit
def zdu(gs:List (Key×Int)):Int→List (Key×Int)→Option Int
 |a,[]=>some a
 |a,f::fs=>if there gs f.1 then zdu gs (a+factor gs f.1*f.2) fs else none
theorem zlV{gs fs:List (Key×Int)}{a:Int}{i:Nat}{k:Key}{z:Int}(h:fs[i]?=some (k,z)):zdu gs a (fs.drop i)=if there gs k then zdu gs (a+factor gs k*z) (fs.drop (i+1))else none:=by
 have j:=(List.getElem?_eq_some_iff.1 h).1;have e:fs.drop i=(k,z)::fs.drop (i+1):=by
  rw [List.drop_eq_getElem_cons j]
  congr 1
  have:=List.getElem?_eq_getElem j;rw [h]at this;exact(Option.some.inj this).symm
 rw [e];rfl
def zoP(o:Option Int)(e:Ending)(w':World):Prop:=(∃z v,o=some z∧e= .returned (.tuple #[v,.int .i64 0])∧ZR w' v z)∨(o=none∧e= .returned (.tuple #[.agg #[.bool false,.slice none 0 0],.int .i64 31]))
theorem znt(v:Value)(rest:Int)(fs gs:List (Key×Int))(vb R0 K G:Nat)(w:World)(h:TM w v rest fs)(hv:VM w vb gs)(ok:zjd R0 K G rest fs gs):Calls Tryz.prog 18 #[v,.pointer (some ⟨vb,0,none⟩)] w fun e w'=>zoP (zdu gs rest fs) e w'∧Pu w w':=by
 obtain⟨g,A,n,c,m,rfl⟩:=h.shape;obtain⟨W,hWe⟩:∃W,W=((w.alloc (.cells #[.bool g,.slice A n c,.pointer m] 33)).alloc (.cells #[.bool false,.slice none 0 0] 30)).alloc (.cells #[.bool g,.slice A n c] 30):=⟨_,rfl⟩
 have pW:Pu w W:=by rw [hWe];exact(((Pu.refl w).alloc _).alloc _).alloc _
 have k2:Blk W w.heap.size 33 #[.bool g,.slice A n c,.pointer m]:=by rw [hWe];exact((Blk.new w _ _).alloc _).alloc _
 have k4:Blk W (w.heap.size+1) 30 #[.bool false,.slice none 0 0]:=by rw [hWe];exact(Blk.at_new _ _ _ (by simp)).alloc _
 have k6:Blk W (w.heap.size+1+1) 30 #[.bool g,.slice A n c]:=by rw [hWe];exact Blk.at_new _ _ _ (by simp)
 have cI:W.heap.size=w.heap.size+3:=by rw [hWe];simp
 have Hp:=Qh (zca _ _ _ _ (h.pu pW));have bf:ZR W (.agg #[.bool g,.slice A n c]) rest:=h.rest_.pu pW;rw [hWe]at Hp;have aY:=Qh hWe;have OK:=Qh ok;have HV:=Qh hv;have a7:=ok.r;clear hWe h hv ok;go_enter Tryz.func18,Tryz.ntmps18;go_wp2_with fail;refine Hp.out.mono ?_;rintro e Wp ⟨A4,n4,c4,LG,rfl,aV,cN,a9,aU,R⟩;rw [←aY.out]at R aU;have j4:=k4.pu R;have j6:=k6.pu R;have bq:=bf.pu R;have ct:=R.size;have PW:=pW.trans R;have cH:LG.length=n4:=ziT aV;clear R k2 k4 k6 Hp aY bf;go_wp2_with fail
 go_loopw [16] (fun iv wr=>∃(i:Nat) (O:Bool) (Q:Option Addr) (N P:Nat) (a:Int),i≤n4∧iv= .int .i64 (i:Int)∧Blk wr (w.heap.size+1+1) 30 #[.bool O,.slice Q N P]∧ZR wr (.agg #[.bool O,.slice Q N P]) a∧Hid (zdu gs rest fs=zdu gs a (fs.drop i))∧a.natAbs≤R0+i*(G*K)∧Fr (fun j=>j=w.heap.size+1+1) Wp wr) (fun iv _=>n4 - (intOf iv).toNat)
 case atStart=>exact⟨0,g,A,n,c,rest,Nat.zero_le _,rfl,j6,bq,Qh rfl,by simpa using a7,Fr.refl _ _⟩
 case round=>
  obtain⟨i,O,Q,N,P,a,hi,rfl,l6,ae,aG,aw,hF⟩:=hrel;have cJ:=hF.size;have T:Pu w wr:=PW.step hF (fun j hj=>by have e':j=w.heap.size+1+1:=hj;omega);have l4:=j4.fr hF (by omega);by_cases cG:i<n4
  ·obtain⟨p,o⟩:∃p,LG[i]?=some p:=⟨_,List.getElem?_eq_getElem (by omega)⟩
   obtain⟨gg,hgi⟩:∃g,fs[i]?=some g:=⟨_,List.getElem?_eq_getElem (by rw [←a9.1];omega)⟩
   obtain⟨k,qg,qA,qn,qc⟩:=p;obtain⟨k',z⟩:=gg;obtain⟨ek,hq⟩:=a9.2 i _ _ o hgi;dsimp only at ek hq;subst ek;have ce:Sl wr 3 A4 n4 c4 (kps vcZ LG):=aV.fr hF (fun _ b' off e hS=>by have h5:=aU b' off e;omega);obtain⟨bb,off,rfl,cM,x0,x1,x2⟩:=atZ ce o;have aX:ZR wr (.agg #[.bool qg,.slice qA qn qc]) z:=hq.frT hF (zh j6 (by decide));have au:=Qh (aG.out.trans (zlV (gs:=gs) (a:=a) hgi));obtain⟨X,hXe⟩:∃X,X=wr.alloc (.cells #[.string ⟨k.toArray⟩,.bool qg,.slice qA qn qc] 119):=⟨_,rfl⟩
   have I:Pu wr X:=by rw [hXe];exact(Pu.refl wr).alloc _
   have k8:Blk X wr.heap.size 119 #[.string ⟨k.toArray⟩,.bool qg,.slice qA qn qc]:=by rw [hXe];exact Blk.new _ _ _
   obtain⟨L,aB,av⟩:=HV.out;have Z:=aB.rise;have B:=zrH vb L k X (aB.pu (T.trans I));have aa:=(av.get (k:=k) Z).pu (T.trans I);have aW:there L k=there gs k:=zbk L gs k av.keys;rw [aW]at B;obtain⟨vv,hvv⟩:∃vv,gvZ L k=vv:=⟨_,rfl⟩
   rw [hvv]at B aa;clear hvv aB av Z aW;obtain⟨g9,A9,n9,c9,rfl⟩:=aa.shape2;obtain⟨bt,hbt⟩:∃bt,there gs k=bt:=⟨_,rfl⟩
   rw [hbt]at B;have bc:=Qh hbt;rw [hXe]at B;have a5:=Qh B;have aO:=Qh hXe;have aR:=Qh (OK.out.up1 _ (List.mem_of_getElem? hgi));have cO:IntKind.i64.wrap ((i:Int)+1)=(i:Int)+1:=IntWalk.i64_in _ (by omega);have y4:=(l4.pu I)
   have y6:=(l6.pu I)
   clear B hbt hXe o hgi hq
   cases bt with
   |false=>go_wp2_with fail;refine a5.out.mono ?_;rintro e w3 ⟨rfl,J⟩;rw [←aO.out]at J;have z4:=(y4.pu J).alloc (.cells #[.bool g9,.slice A9 n9 c9] 30);obtain⟨a0,a1⟩:=z4.c2_;obtain⟨b0,b1⟩:=z4.z2_;obtain⟨C,E⟩:=zas z4 (.bool false) (.slice none 0 0);obtain⟨r0,r1⟩:=C.c2_;have hP:=(((T.trans I).trans J).alloc (.cells #[.bool g9,.slice A9 n9 c9] 30)).step E (fun j hj=>by have e':j=w.heap.size+1:=hj;omega);have HP:=Qh hP;clear hP E C z4 J;go_wp2;exact bodyPost_ret (v:= .tuple #[.agg #[.bool false,.slice none 0 0],.int .i64 31]) (by simp [results,Tryz.results18,go_sem,r0,r1]) rfl ⟨.inr ⟨by rw [au.out,bc.out];rfl,rfl⟩,HP.out⟩
   |true=>
    have bJ:=Qh (show zdu gs rest fs=zdu gs (a+factor gs k*z) (fs.drop (i+1)) by rw [au.out,bc.out];rfl);clear au;go_wp2_with fail;refine a5.out.mono ?_;rintro e w3 ⟨rfl,J⟩;rw [←aO.out]at J;obtain⟨F,hVe⟩:∃F,F=w3.alloc (.cells #[.bool g9,.slice A9 n9 c9] 30):=⟨_,rfl⟩
    have S:Pu X F:=by rw [hVe];exact J.alloc _
    have k9:Blk F w3.heap.size 30 #[.bool g9,.slice A9 n9 c9]:=by rw [hVe];exact Blk.new _ _ _
    have m6:=y6.pu S;have m8:=k8.pu S;have z9:=aa.pu S;have zq:=aX.pu (I.trans S);have za:=ae.pu (I.trans S);have a4:(factor gs k).natAbs≤G:=OK.out.up2.factor k;have aq:(factor gs k*z).natAbs≤G*K:=by rw [Int.natAbs_mul];exact Nat.mul_le_mul a4 aR.out
    have bF:=zi3 aw aq;have aZ:i≤1100000:=by omega
    have HB:=Qh (AI a4 (AI aq (AI aw aZ)));have bY:=Qh hVe;have cK:=I.size;have cL:=S.size;clear hVe a4 aq aw aZ aa aX ae y4 y6 k8 J;go_wp2_with fail
    try rw [←bY.out]
    have pd:Pu F F.drew:=(Pu.refl F).drew;have bD:=Qh (show∀V (x:Pu F V),Calls Tryz.prog 50 #[.agg #[.bool g9,.slice A9 n9 c9],.agg #[.bool qg,.slice qA qn qc]] V fun e w'=>∃v',e= .returned v'∧ZR w' v' (factor gs k*z)∧Pu V w' from fun V x=>zfK _ _ (factor gs k) z V (z9.pu x) (zq.pu x)
     (zC (n:=(factor gs k).natAbs) (a:=E3) (b:=E9) (zbT _ _ HB.out.1 _ OK.out.bG) (by decide)) (zC (n:=z.natAbs) (a:=E3) (b:=E9) (zbT _ _ aR.out _ OK.out.bK) (by decide)))
    have ad:R0+i*(G*K)<4294967296^E3:=zbT _ _ (Nat.add_le_add_left (Nat.mul_le_mul_right _ HB.out.2.2.2) _) _ OK.out.b;have M:G*K<4294967296^E3:=zbT _ _ (Nat.le_trans (Nat.le_mul_of_pos_left _ (by decide)) (Nat.le_add_left _ _)) _ OK.out.b;have bB:=Qh (show∀V (x:Pu F V) (q:Nat) (gq:Bool) (Aq:Option Addr) (nq cq:Nat),ZR V (.agg #[.bool gq,.slice Aq nq cq]) (factor gs k*z)→Blk V q 30 #[.bool gq,.slice Aq nq cq]→Calls Tryz.prog 49 #[.agg #[.bool O,.slice Q N P],.slice (some ⟨q,0,none⟩) 1 1] V fun e w'=>∃v',e= .returned v'∧ZR w' v' (a+factor gs k*z)∧Pu V w' from fun V x q gq Aq nq cq h1 h2=>zcB _ _ a (factor gs k*z) q V (za.pu x) h1
     (zC (n:=a.natAbs) (a:=E3) (b:=E9) (zbT _ _ HB.out.2.2.1 _ ad) (by decide)) (zC (n:=(factor gs k*z).natAbs) (a:=E3) (b:=E9) (zbT _ _ HB.out.2.1 _ M) (by decide)) h2)
    clear ad M;refine zw 6 (fun _ w=>Pu F w) (fun _=>Pu) (fun io=>match io with|0=>fun vv_ _=>vv_= .agg #[.bool O,.slice Q N P]|1=>fun vv_ _=>vv_= .agg #[.bool g9,.slice A9 n9 c9]|2=>fun vv_ _=>vv_= .pointer (some ⟨wr.heap.size,1,none⟩)|3=>fun vv_ _=>vv_= .agg #[.bool qg,.slice qA qn qc]|4=>fun v w=>∃g A n c,v= .agg #[.bool g,.slice A n c]∧ZR w (.agg #[.bool g,.slice A n c]) (factor gs k*z)|5=>fun v w=>∃q g A n c,v= .slice (some ⟨q,0,none⟩) 1 1∧Blk w q 30 #[.bool g,.slice A n c]∧ZR w (.agg #[.bool g,.slice A n c]) (factor gs k*z)|_=>fun _ _=>True) [some 30,some 31,some 32,some 33,some 34,some 35] (by kernel_rfl) (by kernel_rfl) rfl pd ?_ ?_ ?_ ?_
    ·intro ko D u u' hk H hI hR;exact hI.trans hR
    ·intro io ko v u u' hi hk a8 h a7;have hR:=a7
     match io,hi,a8,h with
     |0,_,_,h=>exact h
     |1,_,_,h=>exact h
     |2,_,_,h=>exact h
     |3,_,_,h=>exact h
     |4,_,a8,h=>replace h:∃g A n c,v= .agg #[.bool g,.slice A n c]∧ZR u (.agg #[.bool g,.slice A n c]) (factor gs k*z):=h;obtain⟨g,A,n,c,e,h⟩:=h;exact⟨g,A,n,c,e,h.pu hR⟩
     |5,_,a8,h=>replace h:∃q g A n c,v= .slice (some ⟨q,0,none⟩) 1 1∧Blk u q 30 #[.bool g,.slice A n c]∧ZR u (.agg #[.bool g,.slice A n c]) (factor gs k*z):=h;obtain⟨q,g,A,n,c,e,h,h'⟩:=h;exact⟨q,g,A,n,c,e,h.pu hR,h'.pu hR⟩
     |_+6,hi,_,_=>exact absurd hi (by omega)
    ·refine zc.cons [] rfl (by kernel_rfl) (fun y D V H x o K t=>?_) ?_
     ·try dsimp only at t
      simp only [PU,Nat.reduceEqDiff,Nat.reduceAdd,reduceIte]at t⊢;clear o
      try dsimp only at x
      obtain⟨x0,x1⟩:=(m6.pu x).c2_;go_simp;exact t.out _ _ (Pu.refl _) rfl
     refine zc.cons [] rfl (by kernel_rfl) (fun y D V H x o K t=>?_) ?_
     ·try dsimp only at t
      simp only [PU,Nat.reduceEqDiff,Nat.reduceAdd,reduceIte]at t⊢;clear o
      try dsimp only at x
      obtain⟨x0,x1⟩:=(k9.pu x).c2_;go_simp;exact t.out _ _ (Pu.refl _) rfl
     refine zc.cons [] rfl (by kernel_rfl) (fun y D V H x o K t=>?_) ?_
     ·try dsimp only at t
      simp only [PU,Nat.reduceEqDiff,Nat.reduceAdd,reduceIte]at t⊢;clear o
      try dsimp only at x
      go_simp;exact t.out _ _ (Pu.refl _) rfl
     refine zc.cons [2] rfl (by kernel_rfl) (fun y D V H x o K t=>?_) ?_
     ·try dsimp only at t
      simp only [PU,Nat.reduceEqDiff,Nat.reduceAdd,reduceIte]at t⊢;have e2:=o 2 (by simp);clear o
      try dsimp only at x e2
      generalize y 2=z2 at t e2⊢;subst e2;obtain⟨x0,x1,x2⟩:=(m8.pu x).c3_;go_simp;exact t.out _ _ (Pu.refl _) rfl
     refine zc.cons [1,3] rfl (by kernel_rfl) (fun y D V H x o K t=>?_) ?_
     ·try dsimp only at t
      simp only [PU,Nat.reduceEqDiff,Nat.reduceAdd,reduceIte]at t⊢;have e1:=o 1 (by simp);have e3:=o 3 (by simp);clear o
      try dsimp only at x e1 e3
      generalize y 1=z1 at t e1⊢;generalize y 3=z3 at t e3⊢;subst e1;subst e3;go_simp;go_at_call 50;refine(bD.out _ x).mono ?_;rintro e u1 ⟨v,rfl,U,p1⟩;obtain⟨g,A,n,c,rfl⟩:=U.shape2;go_wp2_with fail;exact t.out _ _ p1 ⟨g,A,n,c,rfl,U⟩
     refine zc.cons [4] rfl (by kernel_rfl) (fun y D V H x o K t=>?_) ?_
     ·try dsimp only at t
      simp only [PU,Nat.reduceEqDiff,Nat.reduceAdd,reduceIte]at t⊢;have e4:=o 4 (by simp);clear o
      try dsimp only at x e4
      generalize y 4=z4 at t e4⊢;obtain⟨g4,cb,cc,cd,rfl,U⟩:=e4;go_simp;exact t.out _ _ ((Pu.refl _).alloc _) ⟨_,g4,cb,cc,cd,rfl,Blk.new _ _ _,U.pu ((Pu.refl _).alloc _)⟩
     exact zc.nil
    ·intro y V D hL x o;have f0:=o 0 (by decide);have f1:=o 1 (by decide);have f2:=o 2 (by decide);have f3:=o 3 (by decide);have f4:=o 4 (by decide);have f5:=o 5 (by decide);clear o
     try dsimp only at x f0 f1 f2 f3 f4 f5
     simp only [PU,Nat.reduceEqDiff,Nat.reduceAdd,reduceIte];generalize y 0=z0 at f0⊢;generalize y 1=z1 at f1⊢;generalize y 2=z2 at f2⊢;generalize y 3=z3 at f3⊢;generalize y 4=z4 at f4⊢;generalize y 5=z5 at f5⊢;subst f0;subst f1;subst f2;subst f3;clear f4;obtain⟨q,gq,Aq,nq,cq,rfl,ba,aP⟩:=f5;go_wp2_with fail;refine(bB.out _ x q gq Aq nq cq aP ba).mono ?_;rintro e u1 ⟨v,rfl,hT,p1⟩;obtain⟨g7,A7,n7,c7,rfl⟩:=hT.shape2;have C:=m6.pu (x.trans p1);have x0:=C.cell 0;have cF:=C.frozen 0;have x1:=C.cell 1;have cE:=C.frozen 1;obtain⟨aQ,E⟩:=zas C (.bool g7) (.slice A7 n7 c7);have aS:=hT.frT E (zh C (by decide));have aT:=hF.trans ((I.trans (S.trans (x.trans p1))).fr' E);have HF:=Qh (AI aQ (AI aS aT));clear aS aT aQ C E hT ba aP;go_wp2;go_roundw
     case rel=>exact⟨i+1,g7,A7,n7,c7,_,by omega,by go_num,HF.out.1,HF.out.2.1,bJ,bF,HF.out.2.2⟩
     case measure=>simp [intOf];omega
  ·obtain rfl:i=n4:=by omega
   have Y:zdu gs rest fs=some a:=by rw [aG.out,List.drop_eq_nil_of_le (by rw [←a9.1];omega)];rfl
   obtain⟨a0,a1⟩:=l6.c2_;obtain⟨c0,c1⟩:=l4.c2_;obtain⟨d0,d1⟩:=l4.z2_;obtain⟨C,E⟩:=zas l4 (.bool O) (.slice Q N P);obtain⟨r0,r1⟩:=C.c2_;have bg:=ae.frT E (zh l4 (by decide));have hP:=T.step E (fun j hj=>by have e':j=w.heap.size+1:=hj;omega);have HP:=Qh (AI Y (AI bg hP));clear Y bg hP E C l4 l6 ae aG;go_wp2;exact bodyPost_ret (v:= .tuple #[.agg #[.bool O,.slice Q N P],.int .i64 0]) (by simp [results,Tryz.results18,go_sem,r0,r1]) rfl ⟨.inl ⟨a,_,HP.out.1,rfl,HP.out.2.1⟩,HP.out.2.2⟩
end
section
open Go.RowKit
def okS(z:Int)(eq:Bool):Bool:=decide (z=0)|| (decide (z<0)&&!eq)
def zct(gs:List (Key×Int)):Bool→List RowM→Option Bool
 |b,[]=>some b
 |b,r::l=>(zdu gs r.rest r.fs).bind fun z=>zct gs (b&&okS z r.eq) l
theorem zkw{gs:List (Key×Int)}{l:List RowM}{b:Bool}{i:Nat}{r:RowM}(h:l[i]?=some r):zct gs b (l.drop i)=(zdu gs r.rest r.fs).bind fun z=>zct gs (b&&okS z r.eq) (l.drop (i+1)):=by
 have j:=(List.getElem?_eq_some_iff.1 h).1;have e:l.drop i=r::l.drop (i+1):=by
  rw [List.drop_eq_getElem_cons j]
  congr 1
  have:=List.getElem?_eq_getElem j;rw [h]at this;exact(Option.some.inj this).symm
 rw [e];rfl
theorem zll{gs:List (Key×Int)}{K G:Nat}(i:zad G gs):∀(fs:List (Key×Int)) (a z:Int),zad K fs→zdu gs a fs=some z→z.natAbs≤a.natAbs+fs.length*(G*K)
 | [],a,z,_,h=>by simp [zdu]at h;subst h;omega
 |f::fs,a,z,hf,h=>by
  unfold zdu at h;split at h
  ·have o:=zll i fs _ z (fun x hx=>hf x (List.mem_cons_of_mem _ hx)) h;have j:(factor gs f.1*f.2).natAbs≤G*K:=by
    rw [Int.natAbs_mul];exact Nat.mul_le_mul (i.factor _) (hf f (List.mem_cons_self ..))
   rw [List.length_cons,Nat.succ_mul];omega
  ·cases h
def zmW(o:Option Bool)(e:Ending):Prop:=(∃b,o=some b∧e= .returned (.tuple #[.bool b,.int .i64 0]))∨(o=none∧e= .returned (.tuple #[.bool false,.int .i64 31]))
theorem zng(A:Option Addr)(n c:Nat)(L:List RawR)(l:List RowM)(gs:List (Key×Int))(vb R0 K G:Nat)(w:World)(h:SlR w A n c L)(hh:zF w L l)(hv:VM w vb gs)(ok:∀r∈l,zjd R0 K G r.rest r.fs gs)(hn:n<4611686018427387904):Calls Tryz.prog 19 #[.slice A n c,.pointer (some ⟨vb,0,none⟩)] w fun e w'=>zmW (zct gs true l) e∧Pu w w':=by
 have S:L.length=n:=h.len;have ag:=hh.1;have HL:=Qh (AI S ag);have HV:=Qh hv;have OK:=Qh ok;clear S ag hv ok;go_enter Tryz.func19,Tryz.ntmps19;go_wp2_with fail
 go_loopw [6,13] (fun ov iv wr=>∃(i:Nat) (b:Bool),i≤n∧iv= .int .i64 (i:Int)∧ov= .bool b∧Hid (zct gs true l=zct gs b (l.drop i))∧Pu w wr) (fun _ iv _=>n - (intOf iv).toNat)
 case atStart=>exact⟨0,true,Nat.zero_le _,rfl,rfl,Qh rfl,Pu.refl _⟩
 case round=>
  obtain⟨i,b,hi,rfl,rfl,N,R⟩:=hrel;by_cases a0:i<n
  ·obtain⟨q,hq⟩:∃q,L[i]?=some q:=⟨_,List.getElem?_eq_getElem (by rw [HL.out.1];exact a0)⟩
   obtain⟨r,hr,H⟩:=hh.at_ hq;obtain⟨b1,off,rfl,aR,x0,x1,x2,x3⟩:=SlR.at_ (Sl.pu h R) hq;obtain⟨X,hXe⟩:∃X,X=wr.alloc (.cells #[.bool q.g,.slice q.A q.n q.c,.pointer q.m,.bool q.eq] 35):=⟨_,rfl⟩
   have P:Pu wr X:=by rw [hXe];exact(Pu.refl wr).alloc _
   have Y:Blk X wr.heap.size 35 #[.bool q.g,.slice q.A q.n q.c,.pointer q.m,.bool q.eq]:=by rw [hXe];exact Blk.new _ _ _
   have p:=OK.out r (List.mem_of_getElem? hr);have x:=znt q.term r.rest r.fs gs vb R0 K G X (H.2.pu (R.trans P)) (HV.out.pu (R.trans P)) p;rw [hXe]at x;have T:∀z,zdu gs r.rest r.fs=some z→z.natAbs<4294967296^E4:=fun z j=>by have h1:=zll p.up2 r.fs r.rest z p.up1 j;have h2:=H.2.rise.2;exact zC (n:=z.natAbs) (a:=E3) (b:=E4) (zbT _ _ (Nat.le_trans h1 (Nat.add_le_add p.r (Nat.mul_le_mul_right _ h2))) _ p.b) (by decide)
   have J:=Qh x;have F:=Qh (N.out.trans (zkw (gs:=gs) (b:=b) hr));have am:=Qh T;have ai:q.eq=r.eq:=H.1;have aS:IntKind.i64.wrap ((i:Int)+1)=(i:Int)+1:=IntWalk.i64_in _ (by omega);have ae:=Qh hXe;have ah:=Qh ai;clear hq hr H p x T ai hXe N;obtain⟨qg,qA,qn,qc,qm,qe⟩:=q;dsimp only at x0 x1 x2 x3 J Y ah ae;go_wp2_with fail;refine J.out.mono ?_;rintro e w3 ⟨Z,O⟩;rw [←ae.out]at O;rcases Z with⟨z,v,j,rfl,W⟩|⟨j,rfl⟩
   ·obtain⟨g9,A9,n9,c9,rfl⟩:=W.shape2;obtain⟨V,hVe⟩:∃V,V=w3.alloc (.cells #[.bool g9,.slice A9 n9 c9] 30):=⟨_,rfl⟩
    have pV:Pu w3 V:=by rw [hVe];exact(Pu.refl w3).alloc _
    have k9:Blk V w3.heap.size 30 #[.bool g9,.slice A9 n9 c9]:=by rw [hVe];exact Blk.new _ _ _
    have m8:=Y.pu (O.trans pV);have y:=Qh (show zct gs true l=zct gs (b&&okS z r.eq) (l.drop (i+1)) by rw [F.out,j];rfl);have I:=fun U (pU:Pu V U)=>zaN _ z U ((W.pu pV).pu pU) (am.out z j);have af:=R.trans (P.trans (O.trans pV));obtain⟨y0,y1⟩:=k9.c2_;have y3:=m8.cell 3;rw [hVe]at y0 y1 y3;have M:=Qh hVe;have D:=Qh (AI k9 (AI m8 af));clear F j W k9 m8 af hVe pV O Y P
    cases b with
    |false=>
     have E:=Qh (show(false&&okS z r.eq)=false from rfl);clear I;go_wp2;go_roundw
     case rel=>exact⟨i+1,false,by omega,by go_num,rfl,Qh (by rw [y.out,E.out]),by rw [←M.out];exact D.out.2.2⟩
     case measure=>simp [intOf];omega
    |true=>
     obtain⟨s,hs,hcase⟩:∃s:Int,z.sign=s∧((s= -1∧z<0)∨(s=0∧z=0)∨(s=1∧0<z)):=by
      rcases Int.lt_trichotomy z 0 with c|c|c
      ·exact⟨-1,Int.sign_eq_neg_one_of_neg c,.inl ⟨rfl,c⟩⟩
      ·exact⟨0,by rw [c];rfl,.inr (.inl ⟨rfl,c⟩)⟩
      ·exact⟨1,Int.sign_eq_one_of_pos c,.inr (.inr ⟨rfl,c⟩)⟩
     rw [hs]at I;have B:=Qh I;clear I hs;rcases hcase with⟨rfl,j⟩|⟨rfl,j⟩|⟨rfl,j⟩
     ·have E:=Qh (show(true&&okS z r.eq)=!qe by
       rw [←ah.out];unfold okS;rw [decide_eq_false (show¬z=0 by omega),decide_eq_true j];simp)
      clear j;go_wp2_with fail;rw [←M.out];refine(B.out _ (Pu.refl V)).mono ?_;rintro e w4 ⟨rfl,o⟩;obtain⟨z0,z1⟩:=(D.out.1.pu o).c2_;go_wp2_with fail;refine(B.out _ o).mono ?_;rintro e w5 ⟨rfl,Q⟩;have z3:=(D.out.2.1.pu (o.trans Q)).cell 3;have C:=Qh (D.out.2.2.trans (o.trans Q));clear o Q;go_wp2;go_roundw
      case rel=>exact⟨i+1,!qe,by omega,by go_num,by first|rfl|simp,Qh (by rw [y.out,E.out]),C.out⟩
      case measure=>simp [intOf];omega
     ·have E:=Qh (show(true&&okS z r.eq)=true by
       unfold okS;rw [decide_eq_true j];simp)
      clear j;go_wp2_with fail;rw [←M.out];refine(B.out _ (Pu.refl V)).mono ?_;rintro e w4 ⟨rfl,o⟩;have C:=Qh (D.out.2.2.trans o);clear o;go_wp2;go_roundw
      case rel=>exact⟨i+1,true,by omega,by go_num,by first|rfl|simp,Qh (by rw [y.out,E.out]),C.out⟩
      case measure=>simp [intOf];omega
     ·have E:=Qh (show(true&&okS z r.eq)=false by
       unfold okS;rw [decide_eq_false (show¬z=0 by omega),decide_eq_false (show¬z<0 by omega)];simp)
      clear j;go_wp2_with fail;rw [←M.out];refine(B.out _ (Pu.refl V)).mono ?_;rintro e w4 ⟨rfl,o⟩;obtain⟨z0,z1⟩:=(D.out.1.pu o).c2_;go_wp2_with fail;refine(B.out _ o).mono ?_;rintro e w5 ⟨rfl,Q⟩;have C:=Qh (D.out.2.2.trans (o.trans Q));clear o Q;go_wp2;go_roundw
      case rel=>exact⟨i+1,false,by omega,by go_num,by first|rfl|simp,Qh (by rw [y.out,E.out]),C.out⟩
      case measure=>simp [intOf];omega
   ·have t:=Qh (show zct gs true l=none by rw [F.out,j];rfl);have aA:=Qh ((R.trans (P.trans O)).alloc (.cells #[.bool false,.slice none 0 0] 30));clear F j O Y P;go_wp2;go_ret2;exact⟨.inr ⟨t.out,rfl⟩,aA.out⟩
  ·obtain rfl:i=n:=by omega
   have t:=Qh (show zct gs true l=some b by rw [N.out,List.drop_eq_nil_of_le (by rw [←HL.out.2,HL.out.1];omega)];rfl);clear N;go_wp2;go_ret2;exact⟨.inl ⟨b,t.out,rfl⟩,R⟩
end
section
open Go.RowKit
def ze0(ps:List (Key×Int)):List (Key×Int):=ps.foldl (fun m p=>zau m p.1 p.2) []
theorem zmi{ps:List (Key×Int)}{i:Nat}{p:Key×Int}(h:ps[i]?=some p):ze0 (ps.take (i+1))=zau (ze0 (ps.take i)) p.1 p.2:=by unfold ze0;rw [List.take_add_one,h,List.foldl_append];rfl
end
section
open Go.RowKit
theorem zl8{P:Type}{l:List (Key×P)}(j:zx l)(k:Key):there l k=(zae l k).isSome:=by
 unfold zae
 cases h:there l k with
 |false=>rfl
 |true=>obtain⟨v,i⟩:=(zD j k).1 h;rw [if_pos rfl,i];rfl
theorem zkP{gs:List (Key×Int)}:∀(fs:List (Key×Int)) (a:Int),(∀f∈fs,there gs f.1=true)→zdu gs a fs=some (a+zk (factor gs) fs)
 | [],a,_=>by rw [zk,Int.add_zero];rfl
 |f::fs,a,h=>by unfold zdu;rw [if_pos (h f (List.mem_cons_self ..)),zkP fs _ (fun g i=>h g (List.mem_cons_of_mem _ i)),zk,Int.mul_comm f.2,Int.add_assoc]
end
section
open Go.RowKit
theorem zoz(C:Int)(A:Option Addr)(n c:Nat)(F:List (Key×Int))(L:List (Key×Part))(w:World)(h:Sl w 3 A n c (kps vcZ L))(hh:zH w L F)(hn:n≤1000000):Calls Tryz.prog 28 #[.agg #[.int .i64 C,.slice A n c]] w fun e w'=>∃G r o,e= .returned (.pointer (some ⟨G,0,none⟩))∧MOZ w' w.heap.size G r o∧zH w' o (ze0 F)∧Pu w w':=by
 obtain⟨X,hXe⟩:∃X,X=w.alloc (.cells #[.int .i64 C,.slice A n c] 77):=⟨_,rfl⟩
 have pX:Pu w X:=by rw [hXe];exact(Pu.refl w).alloc _
 have k1:Blk X w.heap.size 77 #[.int .i64 C,.slice A n c]:=by rw [hXe];exact Blk.new _ _ _
 have y:=Qh (zrr X);rw [hXe]at y;have ao:=Qh hXe;have M:L.length=n:=by have:=h.1;rw [zc9 zcF]at this;omega
 have J:=Qh (AI M hh.1);clear hXe M;go_enter Tryz.func28,Tryz.ntmps28;go_wp2_with fail;refine y.out.mono ?_;rintro e W ⟨G,rfl,N,Q⟩;rw [←ao.out]at Q N;have av:=k1.pu Q;have aj:=N.base_ pX.size;have pW:=pX.trans Q;obtain⟨x0,x1⟩:=av.c2_;clear y k1 N Q pX;go_wp2_with fail
 go_loopw [10] (fun iv wr=>∃(i:Nat) (r:Option Nat) (o:List (Key×Part)),i≤n∧iv= .int .i64 (i:Int)∧MOZ wr w.heap.size G r o∧zH wr o (ze0 (F.take i))∧o.length≤i∧Pu w wr) (fun iv _=>n - (intOf iv).toNat)
 case atStart=>exact⟨0,none,[],Nat.zero_le _,rfl,aj,zH.nil _,Nat.le_refl _,pW⟩
 case round=>
  obtain⟨i,r,o,hi,rfl,R,x,aA,P⟩:=hrel;by_cases ad:i<n
  ·obtain⟨p,hp⟩:∃p,L[i]?=some p:=⟨_,List.getElem?_eq_getElem (by rw [J.out.1];exact ad)⟩
   obtain⟨f,hf⟩:∃f,F[i]?=some f:=⟨_,List.getElem?_eq_getElem (by rw [←J.out.2,J.out.1];exact ad)⟩
   obtain⟨e1,hz⟩:=(hh.pu P).2 i p f hp hf;obtain⟨k,H,D,E,I⟩:=p;obtain⟨k',z⟩:=f;dsimp only at e1 hz;subst e1;obtain⟨bb,off,rfl,aB,y0,y1,y2⟩:=atZ (h.pu P) hp;dsimp only at y0 y1 y2;obtain⟨Y,hY⟩:∃Y,Y=wr.alloc (.cells #[.string ⟨k.toArray⟩,.bool H,.slice D E I] 82):=⟨_,rfl⟩
   have O:Pu wr Y:=by rw [hY];exact(Pu.refl wr).alloc _
   have kY:Blk Y wr.heap.size 82 #[.string ⟨k.toArray⟩,.bool H,.slice D E I]:=by rw [hY];exact Blk.new _ _ _
   have t:=R.pu O;have af:=x.pu O;have ag:=hz.pu O;have ae:=P.trans O;have B:=Qh (zp7 w.heap.size G r o k (H,D,E,I) Y t (by omega));obtain⟨u0,u1,u2⟩:=kY.c3_;rw [hY]at u0 u1 u2 B;have HY:=Qh hY;have aq:=Qh (zmi hf);have az:=t.lt;have V:=t.row;have K:=t.typed;have aC:IntKind.i64.wrap ((i:Int)+1)=(i:Int)+1:=IntWalk.i64_in _ (by omega);clear R x hz hY kY t hp hf O;go_wp2_with fail;refine B.out.mono ?_;rintro e T ⟨rfl,r',U,a9,v⟩;rw [←HY.out]at v;have S:=(af.frT v K).put (k:=k) (q:=(H,D,E,I)) (ag.frT v K);have aa:=ae.step v (fun j hj=>by
    rcases hj with rfl|hj
    ·exact az.1
    ·exact(V j hj).1)
   have HT:=Qh (AI U (AI S aa));clear U S aa v af ag ae B y0 y1 y2 u0 u1 u2 V K;go_wp2;go_roundw
   case rel=>exact⟨i+1,r',zau o k (H,D,E,I),by omega,by go_num,HT.out.1,by rw [aq.out];exact HT.out.2.1,by have:=ziF o k (H,D,E,I);omega,HT.out.2.2⟩
   case measure=>simp [intOf];omega
  ·obtain rfl:i=n:=by omega
   have Z:F.take i=F:=List.take_of_length_le (by rw [←J.out.2,J.out.1];exact Nat.le_refl _);rw [Z]at x;have HR:=Qh (AI R (AI x P));clear R x P Z;go_wp2;go_ret;exact⟨G,r,o,rfl,HR.out.1,HR.out.2.1,HR.out.2.2⟩
end
section
open Go.RowKit
theorem zhJ{u v:Key→Int}:∀(fs:List (Key×Int)),(∀f∈fs,u f.1=v f.1)→zk u fs=zk v fs
 | [],_=>rfl
 |f::fs,h=>by rw [zk,zk,h f (List.mem_cons_self ..),zhJ fs fun g i=>h g (List.mem_cons_of_mem _ i)]
theorem zsa(g:Key→Int):∀(ns:List Key) (acc:List (Key×Int)),zx acc→zx ((ns.map fun k=>(k,g k)).foldl (fun m p=>zau m p.1 p.2) acc)∧∀k,zae ((ns.map fun k=>(k,g k)).foldl (fun m p=>zau m p.1 p.2) acc) k=if k∈ns then some (g k)else zae acc k
 | [],acc,h=>⟨h,fun k=>by simp⟩
 |n::ns,acc,h=>by
  have i:=zsa g ns (zau acc n (g n)) (zN h n (g n));refine⟨i.1,fun k=>?_⟩;show zae ((ns.map fun k=>(k,g k)).foldl (fun m p=>zau m p.1 p.2) (zau acc n (g n))) k=_;rw [i.2 k,zbu h];by_cases e:k=n
  ·subst e;simp
  ·simp [e]
section
variable{ms:List (Key×Int)}{ns:List Key}{k:Key}
theorem zk9(ms:List (Key×Int))(ns:List Key):zx (ze0 (zjs ms ns)):=(zsa (factor ms) ns [] List.Pairwise.nil).1
theorem ziB(ms:List (Key×Int))(ns:List Key)(k:Key):zae (ze0 (zjs ms ns)) k=if k∈ns then some (factor ms k)else none:=(zsa (factor ms) ns [] List.Pairwise.nil).2 k
theorem znK(i:k∈ns):there (ze0 (zjs ms ns)) k=true:=by rw [zl8 (zk9 ms ns),ziB,if_pos i];rfl
theorem zmr(i:k∈ns):factor (ze0 (zjs ms ns)) k=factor ms k:=by rw [zaz,ziB,if_pos i];rfl
theorem zru{M:Nat}(h:∀k,(factor ms k).natAbs≤M):zad M (ze0 (zjs ms ns)):=fun p hp=>by
 have i:=(zv (zk9 ms ns) (k:=p.1) (v:=p.2)).2 hp;rw [ziB]at i;split at i
 ·injection i with i;rw [←i];exact h p.1
 ·cases i
end
theorem zoA{v:Key→Int}{r:RowM}(h:zaF v r):okS (zcu v r) r.eq=true:=by
 unfold okS
 cases e:r.eq with
 |true=>have:=h.1 e;simp [this]
 |false=>have:=h.2 e;simp;omega
theorem zjk{ms:List (Key×Int)}{ns:List Key}:∀(l:List RowM),(∀r∈l,∀f∈r.fs,f.1∈ns)→zR (factor ms) l→zct (ze0 (zjs ms ns)) true l=some true
 | [],_,_=>rfl
 |r::l,hn,h=>by unfold zct;have o:=hn r (List.mem_cons_self ..);rw [zkP r.fs r.rest fun f i=>znK (o f i),zhJ (u:=factor (ze0 (zjs ms ns))) (v:=factor ms) r.fs fun f i=>zmr (o f i)];show zct _ (true&&okS (zcu (factor ms) r) r.eq) l=_;rw [zoA (h r (List.mem_cons_self ..))];exact zjk l (fun q j=>hn q (List.mem_cons_of_mem _ j)) fun q j=>h q (List.mem_cons_of_mem _ j)
section
variable{ls:List LineM}
end
end
end Go.Proofs.YtckfnbckoclhpaaGreatDoor

/- The solver. -/
import Derived.Test.YtckfnbckoclhpaaGreatDoorF7
import Derived.Test.YtckfnbckoclhpaaGreatDoorF8
import Derived.Test.YtckfnbckoclhpaaGreatDoorF3
import Derived.Test.YtckfnbckoclhpaaGreatDoorF5
import Derived.Test.YtckfnbckoclhpaaGreatDoorF6
import Derived.Test.YtckfnbckoclhpaaGreatDoorF2
import Derived.Test.YtckfnbckoclhpaaGreatDoorE22
import Derived.BigRegion
namespace Go.Proofs.YtckfnbckoclhpaaGreatDoor
set_option linter.unusedVariables false
set_option linter.unusedSimpArgs false
set_option maxRecDepth 100000
set_option maxHeartbeats 8000000
section
open Go.RowKit
theorem zat.lift{NM:List Key}{f B:Nat}{l k:List RowM}{E z:Prop}{sb F U x:Nat}{w u w':World}{e:Ending}(h:zat NM f k E sb F U u e w')(v:Fr (fun k=>k=sb) w u)(P:x≤U)(y:f≤B) (M:∀j,zR (factor j) k→zR (factor j) l) (H:za4 l→za4 k) (G:z→E):zat NM B l z sb F x w e w':=by
 have J:=v.size;obtain⟨O,Q,N,K,D,h⟩:=h;refine⟨O,by omega,N,K,v.trans D,?_⟩;rcases h with⟨I,r,L,j,i,o,C,t,R⟩|⟨p,i,o,C⟩|⟨p,i,o⟩
 ·exact .inl ⟨I,r,L,j,i,o.base_ J,C,zbQ.le (g:=f) ⟨t.rise,t.nm,t.up,M j t.says⟩ y,by omega⟩
 ·exact .inr (.inl ⟨p,i,fun h=>o (H h),by omega⟩)
 ·exact .inr (.inr ⟨p,i,fun h=>o (G h)⟩)
theorem Fit.edgeOk{NM:List Key}{g f:Nat}{l:List RowM}{k:Key}{o:List (Key×Int)}(i:Fit NM g l)(t:zfo NM)(z:f≤2000)(w:zad (2^VB f) o)(y:∀c,(factor o c).natAbs≤2^VB f){r:RowM}(j:r∈l)(x:zeM k r≠2):zk1 (2^(BB+1)) (2^RR) (2^VB f) o k r:=by
 have v:zad (2^(BB+1)) r.fs:=fun p hp=>Nat.le_trans (i.up j p hp) (zbV (by omega));have C:=zbc (c:=1100001) (m:=21) (BB+1) (by decide);have B:=zaB (n:=21+(BB+1)) (by unfold BB;omega);refine⟨i.sys.rise r j,v,by omega,i.few t j,?_,i.rest3 j,zii (by omega) (i.rest.entry j) (znz (i.sys.rise r j) v) w,Nat.lt_of_le_of_lt (zqc y i t j) (zrE (by omega))⟩;rcases zcW k r with⟨h,_⟩|⟨_,_,h⟩|⟨_,_,h⟩
 ·exact absurd h x
 ·omega
 ·omega
theorem zkt{d:Nat}(hS:zer d)(NM:List Key)(l:List RowM)(A:Option Addr)(n c:Nat)(L:List RawR)(sb F U:Nat)(w:World) (hN:zfo NM) (hF:Fit NM (F - U+1) l) (hU:U≤F) (bs:F≤2000) (hd:F - U<d) (hs:zgS w sb F U) (hl:SlR w A n c L) (hh:zF w L l) (he:∀r∈l,r.eq=false) (aU:l≠[]) (aR:∀r∈l,r.fs≠[]):Calls Tryz.prog 97 #[.pointer (some ⟨sb,0,none⟩),.slice A n c] w (zat NM (F - U+1) l False sb F U w):=by
 have a7:=hF.cnt;have bc:L.length=n:=hl.len;have b4:=hh.1;have y:=hs.lt;have aX:zW l≠[]:=fun e=>by
  obtain⟨r,z⟩:=List.exists_mem_of_ne_nil _ aU;obtain⟨p,hp⟩:=List.exists_mem_of_ne_nil _ (aR r z);have h1:=zeT.2 ⟨r,z,p,hp,rfl⟩;rw [e]at h1
  cases h1
 have aQ:=Qh (zl5 A n c L l w hl hh (fun r z k=>up4 (Nat.lt_of_le_of_lt (hF.min.entry z k) (zaB (by unfold BB;omega)))) (fun r z=>by have:=hF.few hN z;omega) aX (by omega));have Hn:=Qh (AI a7 (AI y (AI hd hU)));have o:=Qh (AI hF (AI hN (AI he bs)));clear a7 bc b4 y aX hF he aU aR;go_enter Tryz.func97,Tryz.ntmps97;go_wp2_with fail;refine aQ.out.mono ?_;rintro e W0 ⟨k,A0,X,Q,A1,n1,V,Z,n2,N,x,rfl,hk,hc,p0⟩;obtain⟨t,ht,hf⟩:∃t,t∈l∧factor t.fs k≠0:=by obtain⟨r,z,p,hp,rfl⟩:=zeT.1 hk;exact⟨r,z,zde (o.out.1.sys.rise r z) (o.out.1.sys.nz r z) hp⟩
 have HK:=Qh (AI ht (AI hf (o.out.1.sys.nm t ht k hf)));have HX:=Qh hc.ex;obtain⟨W,hW⟩:∃W,W=W0.alloc (.cells #[.string ⟨k.toArray⟩,.slice A0 X Q,.slice A1 n1 V,.slice Z n2 N,.bool x] 222):=⟨_,rfl⟩
 obtain⟨b6,hb6⟩:∃b6,b6=W0.heap.size:=⟨_,rfl⟩
 have G:Pu w W:=by rw [hW];exact p0.alloc _
 have k6:Blk W b6 222 #[.string ⟨k.toArray⟩,.slice A0 X Q,.slice A1 n1 V,.slice Z n2 N,.bool x]:=by rw [hW,hb6];exact Blk.new _ _ _
 have aA:ze3 W l k A0 X Q A1 n1 V Z n2 N x:=by rw [hW];exact hc.pu ((Pu.refl _).alloc _)
 have K:=hs.pu G;have lW:=Sl.pu hl G;have aW:=hh.pu G;have aB:¬b6=sb:=fun e=>by have:=p0.size;have:=Hn.out.2.1;omega
 have bk:=G.size;obtain⟨O,Y,x2,P,x4⟩:=k6.c5_;rw [hW,hb6]at O Y x2 P x4;have HW:=Qh hW;have b7:=Qh hb6;clear hW hb6 ht hf hk hc p0 hs hl hh aQ;go_wp2_with fail;rw [←HW.out]
 try rw [←b7.out]
 refine(zhC hS NM l k t A0 X Q A1 n1 V Z n2 N x (!x) sb F U W o.out.2.1 o.out.1 Hn.out.2.2.2 o.out.2.2.2 Hn.out.2.2.1 K aA o.out.2.2.1 HK.out.1 HK.out.2.1).mono ?_;clear O Y x2 P x4;rintro e R ⟨U1,a8,E,C,fR,h⟩;have kR:=k6.fr fR aB;have D:=aA.sv K fR;have lR:=SlR.sv lW K fR;have H:=aW.sv K fR;have J:Fr (fun j=>j=sb) w R:=G.fr' fR;obtain⟨O,Y,x2,P,x4⟩:=kR.c5_;clear k6 aA lW aW fR;rcases h with⟨mb,rr,Lm,ms,rfl,hm,M,I,y⟩|⟨p,rfl,au,y⟩|⟨p,rfl,hE⟩
 ·have bj:=I.few o.out.2.1;have aS:Lm.length<1100000:=by have:=M.1;omega
  have am:=Qh (zpb l k A0 X Q A1 n1 V Z n2 N x W.heap.size mb rr Lm ms (2^(BB+1)) (2^RR) (2^VB (F - U)) R D hm M (fun r z h=>o.out.1.edgeOk o.out.2.1 (by have:=o.out.2.2.2;omega) I.up I.abs z h) (by have:=Hn.out.1;omega) aS);rw [HX.out]at I;have bw:=Qh (I.fill o.out.1 o.out.2.1 o.out.2.2.1 HK.out.2.2);have bM:=hm.lt;have aP:=hm.row;clear hm M I bj aS D lR H kR K G;go_wp2_with fail;refine am.out.mono ?_;rintro e T ⟨rfl,r',L',aO,aN,aC⟩;have fT:=J.step aC (fun i hi=>by
   rcases hi with rfl|hi
   ·exact .inr (by omega)
   ·have:=(aP i hi).1;exact .inr (by omega))
  have sT:=C.fr aC (fun hi=>by
   have:=Hn.out.2.1;rcases hi with rfl|hi
   ·omega
   ·have:=(aP sb hi).1;omega)
  have aq:=Qh (AI (aO.base_ bk) (AI aN (AI fT sT)));clear aO aN fT sT aC J C O Y x2 P x4 am;go_wp2;go_ret2;exact⟨U1,a8,E,aq.out.2.2.2,aq.out.2.2.1,.inl ⟨mb,r',L',_,rfl,aq.out.1,aq.out.2.1,bw.out,y⟩⟩
 ·cases x with
  |true=>have B:=Qh (AI C J);have aD:=Qh au;clear C J au D lR H K G;go_wp2;go_ret2;exact⟨U1,a8,E,B.out.1,B.out.2,.inr (.inl ⟨none,rfl,fun⟨v,hv⟩=>aD.out ⟨v,zlc o.out.1.sys.rise hv⟩,y⟩)⟩
  |false=>
   have aD:=Qh au;have b0:=Qh y;clear au y K G;go_wp2_with fail;refine(zhC hS NM l k t A0 X Q A1 n1 V Z n2 N false false sb F U1 R o.out.2.1 (o.out.1.le (by omega)) E o.out.2.2.2 (by have:=Hn.out.2.2.1;omega) C D o.out.2.2.1 HK.out.1 HK.out.2.1).mono ?_;clear O Y x2 P x4;rintro e S ⟨U2,bL,ae,sS,fS,h⟩;have kS:=kR.fr fS aB;have ao:=D.sv C fS;have lS:=SlR.sv lR C fS;have ap:=H.sv C fS;have fQ:=J.trans fS;obtain⟨O,Y,x2,P,x4⟩:=kS.c5_;clear kR D lR H J fS C;rcases h with⟨mb,rr,Lm,ms,rfl,hm,M,I,ai⟩|⟨p2,rfl,a9,ai⟩|⟨p2,rfl,aV⟩
   ·clear hm M I kS;have aT:=Qh (zh7 hS NM l k A n c L A0 X Q A1 n1 V Z n2 N false sb F U2 U S o.out.2.1 (o.out.1.le (by omega)) ae o.out.2.2.2 (by have:=Hn.out.2.2.1;omega) sS lS ap ao HX.out.symm o.out.2.2.1 aD.out (by have:=b0.out;omega));have HS:=Qh fQ;clear sS lS ap ao fQ;go_wp2_with fail;refine aT.out.mono ?_;intro e T hE;have aV:=Qh (hE.pre HS.out (Nat.le_refl U) (show F - U2≤F - U+1 by omega));obtain⟨y0,y1,rfl⟩:=hE.shape;clear hE aT O Y x2 P x4;go_wp2;go_ret2;exact aV.out
   ·have B:=Qh (AI sS fQ);have bi:=Qh a9;have bb:=Qh ai;clear sS fQ a9 ao lS ap ai kS;go_wp2;go_ret2;exact⟨U2,by omega,ae,B.out.1,B.out.2,.inr (.inl ⟨none,rfl,fun⟨v,hv⟩=>bi.out ⟨v,zlc o.out.1.sys.rise hv⟩,by have:=bb.out;omega⟩)⟩
   ·have B:=Qh (AI sS fQ);clear sS fQ ao lS ap kS;go_wp2;go_ret2;exact⟨U2,by omega,ae,B.out.1,B.out.2,.inr (.inr ⟨none,rfl,id⟩)⟩
 ·have B:=Qh (AI C J);clear C J D lR H K G;go_wp2;go_ret2;exact⟨U1,a8,E,B.out.1,B.out.2,.inr (.inr ⟨none,rfl,id⟩)⟩
end
section
open Go.RowKit
theorem zqM{f:Nat}{l o:List RowM}{r:RowM}(p:((zi l).1&&zcH (zi l).2)=true)(i:o.Perm (zO (zi l).2))(j:r∈o)(h:zjM (f+1) l):∀k,factor r.fs k≠0→zjM f (o.map (zeR k (zaR k r) (zai k r))):=by
 cases h with
 |bad h1=>
  rw [p]at h1
  cases h1
 |none h1 h2=>
  rw [h2]at i;rw [i.eq_nil]at j
  cases j
 |one h1 h2 h3 h4=>rw [h2]at i;have e:=List.perm_singleton.1 i;rw [e]at j⊢;rw [List.mem_singleton.1 j];exact h4
theorem zqp{f:Nat}{l j:List RowM}(k:((zi l).1&&zcH (zi l).2)=true)(i:j.Perm (zO (zi l).2))(p:j≠[])(o:∀r∈j,r.eq=false):¬zjM f l:=by
 intro h
 cases h with
 |bad h1=>
  rw [k]at h1
  cases h1
 |none h1 h2=>rw [h2]at i;exact p i.eq_nil
 |one h1 h2 h3 h4=>
  rw [h2]at i;have e:=List.perm_singleton.1 i;rw [e]at o;have:=o _ (List.mem_cons_self ..);rw [h3]at this
  cases this
theorem zmo{d:Nat}(hS:zer d):zer (d+1):=by
 intro NM l A n c L sb F U w hN hF hU aA hd Q hl hh;have B:=hF.cnt;have aa:L.length=n:=hl.len;have aD:=hh.1;have O:=Q.lt;have ak:=Qh (show Calls Tryz.prog 95 #[.pointer (some ⟨sb,0,none⟩),.int .i64 1] w _ from ziS sb F U 1 w Q hU aA (by omega));have Hn:=Qh (AI B (AI O (AI hd (AI hU (AI aa aD)))));have y:=Qh (AI hF (AI hN aA));clear B aa aD O hF;go_enter Tryz.func61,Tryz.ntmps61;go_wp2_with fail;refine ak.out.mono ?_;rintro e W (⟨b7,rfl,sW,M⟩|⟨Z,rfl,sW,M⟩)
 ·have x:=Qh (AI sW M);clear sW M ak Q hl hh;go_wp2;go_ret2;exact⟨F,hU,Nat.le_refl _,x.out.1,x.out.2,.inr (.inr ⟨none,rfl,fun h=>by
   rw [show F - U=0 by omega]at h
   cases h⟩)⟩
 ·have lW:=SlR.sv hl Q M;have aH:=hh.sv Q M;have P:∀r∈l,zou (2^BB) r:=fun r C=>y.out.1.good y.out.2.1 C;have Ht:=Qh (zoF A n c (2^BB) L l W lW aH P zlh (by have:=Hn.out;omega));have aj:=Qh (y.out.1.sys.plain y.out.2.1.plain);have k:=Qh Z;clear P ak Q hl hh lW aH Z;go_wp2_with fail;refine Ht.out.mono ?_;rintro e V ⟨A',N,c',rfl,p1,am,H⟩;have sV:=sW.pu p1;have FV:Fr (fun j=>j=sb) w V:=M.pu p1;clear sW M Ht
  cases hb:((zi l).1&&zcH (zi l).2)with
  |false=>
   obtain⟨rfl,rfl,rfl⟩:=H hb;have x:=Qh (AI sV FV);have Hb:=Qh hb;clear am H hb sV FV p1;go_wp2;go_ret2;have bt:¬za4 l:=fun⟨v,hv⟩=>by
    have h1:=((zjP aj.out).1 hv).1;rw [Hb.out]at h1
    cases h1
   exact⟨U+1,by omega,by have:=k.out;omega,x.out.1,x.out.2,.inr (.inl ⟨none,rfl,bt,by omega⟩)⟩
  |true=>
   obtain⟨L',t,o,-,lV,hO⟩:=am hb;have E:=hO.hold;have K:=Qh (AI hb (AI o (y.out.1.tidy y.out.2.1 o)));have Y:Hid (∀v,zR v t↔zR v l):=Qh (fun v=>by rw [zlP o,zjP aj.out];exact⟨fun h=>⟨hb,h⟩,fun h=>h.2⟩);have HS:Hid (∀r∈t,r.fs≠[]):=Qh (fun r C=>zn6 aj.out r (o.mem_iff.1 C));have D:=Qh (show L'.length=N∧L'.length=t.length from⟨lV.len,E.1⟩);have B:=K.out.2.2.cnt;have bk:=Qh (show N≤2200 by have:=D.out;omega);clear am H hb o hO p1 B;go_wp2_with fail
   go_loopw [21] (fun iv wr=>∃i:Nat,i≤N∧iv= .int .i64 (i:Int)∧Hid (∀r∈t.take i,r.eq=false)∧Pu V wr) (fun iv _=>N - (intOf iv).toNat)
   case atStart=>exact⟨0,Nat.zero_le _,rfl,Qh (by simp),Pu.refl _⟩
   case round=>
    obtain⟨i,hi,rfl,a9,R⟩:=hrel;by_cases O:i<N
    ·obtain⟨q,hq⟩:∃q,L'[i]?=some q:=⟨_,List.getElem?_eq_getElem (by rw [D.out.1];exact O)⟩
     obtain⟨r,C,ae⟩:=E.at_ hq;obtain⟨bq,bD,rfl,aI,x0,x1,x2,x3⟩:=SlR.at_ (Sl.pu lV R) hq;obtain⟨qg,qA,qn,qc,qm,qe⟩:=q;dsimp only at x0 x1 x2 x3;have ad:r∈t:=List.mem_of_getElem? C;have bn:=Qh (show t.take (i+1)=t.take i++[r] by rw [List.take_add_one,C];rfl);have hT:=ae.2;dsimp only [RawR.term]at hT;have b4:qe=r.eq:=ae.1;subst b4;obtain⟨X,hX⟩:∃X,X=wr.alloc (.cells #[.bool qg,.slice qA qn qc,.pointer qm,.bool r.eq] 35):=⟨_,rfl⟩
     have J:Pu V X:=by rw [hX];exact R.alloc _
     have k8:Blk X wr.heap.size 35 #[.bool qg,.slice qA qn qc,.pointer qm,.bool r.eq]:=by rw [hX];exact Blk.new _ _ _
     have ap:=hT.pu J;obtain⟨y0,y1,y2,y3⟩:=k8.c4_;rw [hX]at y0 y1 y2 y3;have HX:=Qh hX;have sX:=sV.pu J;have lX:=Sl.pu lV J;have af:=E.pu J;have FX:=FV.pu J;have HE:=Qh (AI ad (HS.out r ad));clear hX hq C ae hT ad aI k8
     cases hre:r.eq with
     |true=>rw [hre]at y3 x3 HX;have aG:=Qh (zlX hS NM t r (.agg #[.bool qg,.slice qA qn qc,.pointer qm]) _ N c' L' sb F (U+1) X y.out.2.1 (by rw [show F - (U+1)+1=F - U by have:=k.out;omega];exact K.out.2.2) (by have:=k.out;omega) y.out.2.2 (by have:=k.out;omega) sX lX af HE.out.1 hre HE.out.2 ap);have bc:=Qh FX;clear sX lX af FX ap hre;go_wp2_with fail;rw [←HX.out];refine aG.out.mono ?_;intro e T G;have av:Hid (zat NM (F - U) l (zjM (F - U) l) sb F U w e T):=Qh (zat.lift G bc.out (Nat.le_succ U) (by have:=k.out;omega) (fun ms=>(Y.out _).1) (fun⟨v,hv⟩=>⟨v,(Y.out v).2 hv⟩) (fun hz=>by rw [show F - U=F - (U+1)+1 by have:=k.out;omega]at hz;exact zqM K.out.1 K.out.2.1 HE.out.1 hz));obtain⟨z0,z1,rfl⟩:=G.shape;clear G aG x0 x1 x2 x3 y0 y1 y2 y3;go_wp2;go_ret2;exact av.out
     |false=>
      rw [hre]at y3 x3 HX;have bo:=Qh hre;have bg:=Qh J;have bM:IntKind.i64.wrap ((i:Int)+1)=(i:Int)+1:=IntWalk.i64_in _ (by have:=bk.out;omega);clear sX lX af FX ap hre J;go_wp2;go_roundw
      case rel=>exact⟨i+1,by omega,by go_num,Qh (fun r' z=>by
       rw [bn.out]at z;rcases List.mem_append.1 z with z|z
       ·exact a9.out r' z
       ·rw [List.mem_singleton.1 z];exact bo.out),by have:=bg.out;rwa [HX.out]at this⟩
      case measure=>simp [intOf];omega
    ·obtain rfl:i=N:=by omega
     have aB:t.take i=t:=List.take_of_length_le (by rw [←D.out.2,D.out.1];exact Nat.le_refl _);have I:=a9.out;rw [aB]at I;have aE:=Qh I;have sR:=sV.pu R;have lR:=Sl.pu lV R;have S:=E.pu R;have FR:=FV.pu R;clear aB I sV lV E FV;by_cases h0:i=0
     ·subst h0;have aC:t= []:=List.length_eq_zero_iff.1 (by rw [←D.out.2,D.out.1]);have ah:=Qh (zrr wr);have x:=Qh (AI sR (AI FR FR.size));have bb:Hid (zbQ NM (F - U) l []):=Qh (⟨zbQ.nil (NM:=NM) (f:=F - U).rise,fun p hp=>(by cases hp),zad.nil _,(Y.out _).1 (by rw [aC];exact fun r C=>(by cases C))⟩);clear sR FR lR S aC;go_wp2_with fail;refine ah.out.mono ?_;rintro e T ⟨mb,rfl,hm,pT⟩;have HT:=Qh (AI (hm.base_ x.out.2.2) (AI (x.out.1.pu pT) (x.out.2.1.pu pT)));clear hm pT ah;go_wp2;go_ret2;exact⟨U+1,by omega,by have:=k.out;omega,HT.out.2.1,HT.out.2.2,.inl ⟨mb,none,[],[],rfl,HT.out.1,zH.nil _,bb.out,by omega⟩⟩
     ·have aq:t≠[]:=fun e=>h0 (by rw [←D.out.1,D.out.2,e];rfl);have aF:=Qh (zkt hS NM t A' i c' L' sb F (U+1) wr y.out.2.1 (by rw [show F - (U+1)+1=F - U by have:=k.out;omega];exact K.out.2.2) (by have:=k.out;omega) y.out.2.2 (by have:=k.out;omega) sR lR S aE.out aq HS.out);have x:=Qh (AI FR aq);clear sR FR lR S aq;have bL:decide ((i:Int)=0)=false:=decide_eq_false (by omega);go_wp2_with fail;refine aF.out.mono ?_;intro e T G;have av:Hid (zat NM (F - U) l (zjM (F - U) l) sb F U w e T):=Qh (zat.lift G x.out.1 (Nat.le_succ U) (by have:=k.out;omega) (fun ms=>(Y.out _).1) (fun⟨v,hv⟩=>⟨v,(Y.out v).2 hv⟩) (fun hz=>zqp K.out.1 K.out.2.1 x.out.2 aE.out hz));obtain⟨z0,z1,rfl⟩:=G.shape;clear G aF;go_wp2;go_ret2;exact av.out
theorem zkR:∀d,zer d
 |0=>fun NM l A n c L sb F U w o k p j i=>absurd i (Nat.not_lt_zero _)
 |d+1=>zmo (zkR d)
end
section
open Go.RowKit
theorem zhy(A:Option Addr)(n c:Nat)(i:Int)(w:World)(h:i<0):Calls Tryz.prog 27 #[.slice A n c,.int .i64 i] w fun e w'=>e= .returned (.tuple #[.agg #[.int .i64 3,.slice none 0 0],.int .i64 0])∧Pu w w':=by have o:decide (i<0)=true:=decide_eq_true h;have j:Blk (w.alloc (.cells #[.int .i64 0,.slice none 0 0] 77)) w.heap.size 77 #[.int .i64 0,.slice none 0 0]:=Blk.new _ _ _;obtain⟨p,t⟩:=j.c2_;obtain⟨x,y⟩:=j.z2_;go_enter Tryz.func27,Tryz.ntmps27;go_wp2;obtain⟨k,r1⟩:=(Blk.new w 77 #[.int .i64 3,.slice none 0 0]).c2_;exact bodyPost_ret (v:= .tuple #[.agg #[.int .i64 3,.slice none 0 0],.int .i64 0]) (by simp [results,Tryz.results27,go_sem,k,r1]) rfl ⟨rfl,(Pu.refl w).alloc _⟩
theorem zr7:zcE Tryz.prog 75 82 (.agg #[.string ⟨#[]⟩,.bool false,.slice none 0 0]) 3 48:=⟨Tryz.underlying75,by kernel_rfl,rfl,by decide⟩
def zd0 (NM : List Key) (l : List RowM) (f : Nat) (w : World) (e : Ending) (w' : World) : Prop :=
  ∃ U', U' ≤ f ∧ Pu w w' ∧
    ((∃ A n c ms L, e = .returned (.tuple #[.agg #[.int .i64 1, .slice A n c], .int .i64 (U' : Int)]) ∧ 0 < U' ∧ zbQ NM f l ms ∧ n = (zW l).length ∧ w'.ownsRow w.heap.size 82 3 (.slice A n c) n (kps vcZ L) ∧ zH w' L (zjs ms (zW l))) ∨
     (e = .returned (.tuple #[.agg #[.int .i64 2, .slice none 0 0], .int .i64 (U' : Int)]) ∧ ¬ za4 l) ∨
     (e = .returned (.tuple #[.agg #[.int .i64 3, .slice none 0 0], .int .i64 (U' : Int)]) ∧ ¬ zjM f l))
theorem zb9(NM:List Key)(l:List RowM)(A:Option Addr)(n c:Nat)(L:List RawR)(F:Nat)(w:World)(hN:zfo NM)(hF:Fit NM F l)(bC:F≤2000)(hl:SlR w A n c L)(hh:zF w L l):Calls Tryz.prog 27 #[.slice A n c,.int .i64 (F:Int)] w (zd0 NM l F w):=by
 have hd:decide ((F:Int)<0)=false:=decide_eq_false (by omega);obtain⟨W,hW⟩:∃W,W=(w.alloc (.cells #[.int .i64 0,.slice none 0 0] 77)).alloc (.cells #[.int .i64 (F:Int),.int .i64 0] 137):=⟨_,rfl⟩
 have pW:Pu w W:=by rw [hW];exact((Pu.refl w).alloc _).alloc _
 have k4:Blk W w.heap.size 77 #[.int .i64 0,.slice none 0 0]:=by rw [hW];exact(Blk.new w _ _).alloc _
 have sW:zgS W (w.heap.size+1) F 0:=by rw [hW];exact Blk.at_new _ _ _ (by simp)
 have cm:W.heap.size=w.heap.size+2:=by rw [hW];simp
 have Hs:=Qh (zkR (F+1) NM l A n c L (w.heap.size+1) F 0 W hN hF (Nat.zero_le _) bC (by omega) sW (Sl.pu hl pW) (hh.pu pW));rw [hW]at Hs;have HW:=Qh hW;have HF:=Qh (AI hF hN);clear hW hF sW;go_enter Tryz.func27,Tryz.ntmps27;go_wp2_with fail;refine Hs.out.mono ?_;rw [←HW.out];clear Hs;rintro e R ⟨U',-,I,sR,fR,h⟩;have kR:=k4.fr fR (by omega);have pR:Pu w R:=pW.step fR (fun j hj=>by have e':j=w.heap.size+1:=hj;omega);have bZ:=fR.size;clear k4 pW fR;rcases h with⟨mb,rr,Lm,ms,rfl,hm,bj,hM,P⟩|⟨p,rfl,bY,P⟩|⟨p,rfl,hE⟩
 ·obtain⟨V,hV⟩:∃V,V=R.alloc (.cells #[.int .i64 1,.slice none 0 0] 77):=⟨_,rfl⟩
  obtain⟨x,hb9⟩:∃x,x=R.heap.size:=⟨_,rfl⟩
  have y:Pu R V:=by rw [hV];exact(Pu.refl R).alloc _
  have K:Blk V x 77 #[.int .i64 1,.slice none 0 0]:=by rw [hV,hb9];exact Blk.new _ _ _
  have B:=kR.pu y;have O:=sR.pu y;have M:=pR.trans y;have lV:=Sl.pu hl M;have bi:=hh.pu M;have a6:=hm.pu y;have a8:=bj.pu y;have cg:=pR.size;have cl:=K.lt;have bz:=HF.out.1.cnt;have bL:L.length=n:=hl.len;have bB:=hh.1;have bo:n≤2200:=by omega
  have a9:=Qh (zc1 A n c L l V lV bi (fun r hr=>by have:=HF.out.1.few HF.out.2 hr;omega) bo);rw [hV]at a9;have HV:=Qh hV;have aZ:=Qh hb9;have HM:=Qh (AI hM (AI P I));clear kR sR hV hb9 hm bj hM P I lV bi bz bL bB hl hh;go_wp2_with fail;refine a9.out.mono ?_;rintro e W1 ⟨A',n',c',rfl,ag,cu,J⟩;rw [←HV.out]at J ag
  try rw [←aZ.out]
  clear a9;have aj:(zW l).length=n':=by have:=(Sl.of_own ag).1;simpa [kts]using this
  have ai:=K.pu J;have bf:=B.pu J;have bk:=O.pu J;have P1:=M.trans J;have aL:=a6.pu J;have aG:=a8.pu J;have cc:=J.size;have HL:=Qh aj;have HS:=Qh ag;have ct:=a6.lt;clear K B O M a6 a8 aj ag J;go_wp2_with fail
  go_loopw [33] (fun iv wr=>∃(i:Nat) (A2:Option Addr) (c2:Nat) (L2:List (Key×Part)),i≤n'∧iv= .int .i64 (i:Int)∧Blk wr x 77 #[.int .i64 1,.slice A2 i c2]∧wr.ownsRow W1.heap.size 82 3 (.slice A2 i c2) i (kps vcZ L2)∧zH wr L2 (zjs ms ((zW l).take i))∧Fr (fun j=>j=x) W1 wr) (fun iv _=>n' - (intOf iv).toNat)
  case atStart=>exact⟨0,none,0,[],Nat.zero_le _,rfl,ai,World.ownsRow_nil _ _ _ _,by simpa [zjs]using zH.nil _,Fr.refl _ _⟩
  case round=>
   obtain⟨i,A2,c2,L2,hi,rfl,ah,S,N,z⟩:=hrel;by_cases P:i<n'
   ·obtain⟨k,hk⟩:∃k,(zW l)[i]?=some k:=⟨_,List.getElem?_eq_getElem (by rw [HL.out];exact P)⟩
    have aV:Sl wr 1 A' n' c' (kts (zW l)):=Sl.of_own (zbp HS.out z (fun g E e=>by have e':g=x:=e;have:=(zah HS.out g E).1;omega));obtain⟨bn,on,rfl,cx,cr,x0⟩:=zdR aV hk;have aK:=(aL.mr).frB ai (by decide) (by simp) z;have aA:=aG.frT z (zh ai (by decide));have Hg:=Qh (zrH mb Lm k wr aK);have bc:zx Lm:=by obtain⟨_,_,_,_,_,_,h⟩:=aK;exact h
    have hz:=aA.get (k:=k) bc;obtain⟨vg,vA,vn,vc,hv⟩:=hz.shape2;rw [hv]at hz Hg;have Hk:=Qh hk;have cw:IntKind.i64.wrap ((i:Int)+1)=(i:Int)+1:=IntWalk.i64_in _ (by omega);clear aV aK aA bc hv hk;go_wp2_with fail;refine Hg.out.mono ?_;rintro e G ⟨rfl,pG⟩;obtain⟨X,hX⟩:∃X,X=G.alloc (.cells #[.bool vg,.slice vA vn vc] 30):=⟨_,rfl⟩
    have pX:Pu wr X:=by rw [hX];exact pG.alloc _
    have aJ:=ah.pu pX;have kz:Blk X G.heap.size 30 #[.bool vg,.slice vA vn vc]:=by rw [hX];exact Blk.new _ _ _
    have D:=zaw S pX;have bb:=N.pu pX;have aX:=hz.pu pX;have aH:=z.pu pX;obtain⟨z0,z1⟩:=kz.c2_;obtain⟨c0,c1⟩:=aJ.c2_;rw [hX]at z0 z1 c0 c1;have HX:=Qh hX;have bq:=aH.size;have aY:W1.heap.size≤(G.alloc (.cells #[.bool vg,.slice vA vn vc] 30)).heap.size:=by rw [←hX];exact bq
    have af:=D;rw [hX]at af;clear hX ah S N hz z Hg kz x0 pG;go_wp2_with (at_builtin;refine zax zr7 rfl _ _ rfl #[.string ⟨k.toArray⟩,.bool vg,.slice vA vn vc] rfl (by simp [Value.oneCell']) rfl rfl (by simp) af (by simp [maxLen];omega) (by omega) aY ?_);intro A3 c3 w2 Y E;rw [←HX.out]at E;have H:=zpv aJ D (by omega) E;have aE:=Fr.grown aH E (fun j hj=> .inr (D.lt j hj).1);have az:∀g,(Value.slice A2 i c2).ownBlock=some g→∃t cs fz,X.heap[g]?=some (.cells cs t fz)∧t≠169:=fun g hg'=>by obtain⟨_,t,cs,fz,e1,e2⟩:=zah D g hg';exact⟨t,cs,fz,e1,by rw [e2];decide⟩
    have aW:=bb.frT (Fr.of_grown E) az;have bh:=aX.frT (Fr.of_grown E) az;have C:Blk (w2.setCell ⟨x,1,none⟩ (.slice A3 (i+1) c3)) x 77 #[.int .i64 1,.slice A3 (i+1) c3]:=H.set_ 1 _;have o:=Fr.one w2 x 1 (.slice A3 (i+1) c3);have T:=zbp Y o (fun g hg' e=>by have e':g=x:=e;have:=(zah Y g hg').1;omega);have Q:=(aW.frT o (zh H (by decide))).append (zH.cons (k:=k) (q:=(vg,vA,vn,vc)) (zH.nil _) (bh.frT o (zh H (by decide))));have bg:=aE.trans o;obtain⟨d0,d1⟩:=H.c2_;obtain⟨g0,g1⟩:=H.z2_;have Z:=Qh (AI C (AI T (AI Q bg)));clear C T Q bg o aW bh az aE H Y E af D bb aX aH aJ pX z0 z1 c0 c1 aY;go_wp2;go_roundw
    case rel=>exact⟨i+1,A3,c3,L2++[(k,(vg,vA,vn,vc))],by omega,by go_num,Z.out.1,by rw [zbC];exact Z.out.2.1,by have h1:=Z.out.2.2.1;rw [List.take_add_one,Hk.out];simpa [zjs]using h1,Z.out.2.2.2⟩
    case measure=>simp [intOf];omega
   ·obtain rfl:i=n':=by omega
    have ba:(zW l).take i=zW l:=List.take_of_length_le (by rw [HL.out];exact Nat.le_refl _);rw [ba]at N;have cv:=aL.lt;have cf:w.heap.size+2≤x:=by have:=aZ.out;omega
    have bU:¬w.heap.size=x:=by omega
    have kW:=bf.fr z bU;have sW:=bk.fr z (by omega);have PW:=P1.step z (fun j hj=>by have e':j=x:=hj;omega);clear ba aL aG bf bk ai;obtain⟨x0,x1⟩:=ah.c2_;obtain⟨y0,y1⟩:=kW.c2_;obtain⟨z0,z1⟩:=kW.z2_;obtain⟨s0,s1⟩:=sW.c2_;obtain⟨C,o⟩:=zas kW (.int .i64 1) (.slice A2 i c2);have U:=PW.step o (fun j hj=>by have e':j=w.heap.size:=hj;omega);obtain⟨r0,r1⟩:=(C.pu (Pu.refl _).drew).c2_;have HP:=Qh U.drew;have T:=zaw (zbp S o (fun g E e=>by have e':g=w.heap.size:=e;have:=(zah S g E).1;have:=P1.size;omega)) (Pu.refl _).drew;have Q:=(N.frT o (zh kW (by decide))).pu (Pu.refl _).drew;have Z:=Qh (AI (zbK T P1.size) Q);clear T Q S N;clear C o U ah kW sW
    try go_wp2_with fail
    go_region;go_wp2;exact bodyPost_ret (v:= .tuple #[.agg #[.int .i64 1,.slice A2 i c2],.int .i64 (U':Int)]) (by simp [results,Tryz.results27,go_sem,r0,r1]) rfl ⟨U',HM.out.2.2,HP.out,.inl ⟨A2,i,c2,ms,L2,rfl,HM.out.2.1,HM.out.1,HL.out.symm,Z.out.1,Z.out.2⟩⟩
 ·obtain⟨V,hV⟩:∃V,V=R.alloc (.cells #[.int .i64 2,.slice none 0 0] 77):=⟨_,rfl⟩
  have y:Pu R V:=by rw [hV];exact(Pu.refl R).alloc _
  have K:Blk V R.heap.size 77 #[.int .i64 2,.slice none 0 0]:=by rw [hV];exact Blk.new _ _ _
  have B:=kR.pu y;have O:=sR.pu y;have M:=pR.trans y;have HV:=Qh hV;have HU:=Qh (AI I bY);clear kR sR hV I;go_wp2_with fail;rw [←HV.out];obtain⟨x0,x1⟩:=K.c2_;obtain⟨y0,y1⟩:=B.c2_;obtain⟨z0,z1⟩:=B.z2_;obtain⟨s0,s1⟩:=O.c2_;obtain⟨C,o⟩:=zas B (.int .i64 2) (.slice none 0 0);have U:=M.step o (fun j hj=>by have e':j=w.heap.size:=hj;omega);obtain⟨r0,r1⟩:=(C.pu (Pu.refl _).drew).c2_;have HP:=Qh U.drew;clear C o U K B O
  try go_wp2_with fail
  go_region;go_wp2;exact bodyPost_ret (v:= .tuple #[.agg #[.int .i64 2,.slice none 0 0],.int .i64 (U':Int)]) (by simp [results,Tryz.results27,go_sem,r0,r1]) rfl ⟨U',HU.out.1,HP.out,.inr (.inl ⟨rfl,HU.out.2⟩)⟩
 ·obtain⟨V,hV⟩:∃V,V=R.alloc (.cells #[.int .i64 3,.slice none 0 0] 77):=⟨_,rfl⟩
  have y:Pu R V:=by rw [hV];exact(Pu.refl R).alloc _
  have K:Blk V R.heap.size 77 #[.int .i64 3,.slice none 0 0]:=by rw [hV];exact Blk.new _ _ _
  have B:=kR.pu y;have O:=sR.pu y;have M:=pR.trans y;have HV:=Qh hV;have HU:=Qh (AI I hE);clear kR sR hV I;go_wp2_with fail;rw [←HV.out];obtain⟨x0,x1⟩:=K.c2_;obtain⟨y0,y1⟩:=B.c2_;obtain⟨z0,z1⟩:=B.z2_;obtain⟨s0,s1⟩:=O.c2_;obtain⟨C,o⟩:=zas B (.int .i64 3) (.slice none 0 0);have U:=M.step o (fun j hj=>by have e':j=w.heap.size:=hj;omega);obtain⟨r0,r1⟩:=(C.pu (Pu.refl _).drew).c2_;have HP:=Qh U.drew;clear C o U K B O
  try go_wp2_with fail
  go_region;go_wp2;exact bodyPost_ret (v:= .tuple #[.agg #[.int .i64 3,.slice none 0 0],.int .i64 (U':Int)]) (by simp [results,Tryz.results27,go_sem,r0,r1]) rfl ⟨U',HU.out.1,HP.out,.inr (.inr ⟨rfl,HU.out.2⟩)⟩
end
end Go.Proofs.YtckfnbckoclhpaaGreatDoor

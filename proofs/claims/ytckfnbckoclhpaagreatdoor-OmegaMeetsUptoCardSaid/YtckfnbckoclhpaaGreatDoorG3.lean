/- The law OmegaMeets. -/
import Derived.Test.YtckfnbckoclhpaaGreatDoorG2
import Derived.Test.YtckfnbckoclhpaaGreatDoorG1
import Derived.Test.YtckfnbckoclhpaaGreatDoorE29
import Derived.Test.YtckfnbckoclhpaaGreatDoorG5
import Derived.Test.YtckfnbckoclhpaaGreatDoorE30
namespace Go.Proofs.YtckfnbckoclhpaaGreatDoor
set_option linter.unusedVariables false
set_option linter.unusedSimpArgs false
set_option maxRecDepth 100000
set_option maxHeartbeats 8000000
section
open Go.RowKit
theorem zj9(A:Option Addr)(n c:Nat)(Q:List zf7)(j:List LineM)(v:Int)(w:World)(h:SlL w A n c Q)(hh:zgw w Q j)(hn:n≤1100000)(ca: -9223372036854775808≤v)(cf:v≤9223372036854775807):Calls Tryz.prog 7 #[.slice A n c,.int .i64 v] w fun e w'=>e= .returned (.bool true)∧Pu w w':=by
 have ad:=Qh (zfM w);go_enter Tryz.func7,Tryz.ntmps7;go_wp2_with fail;refine ad.out.mono ?_;rintro e w1 ⟨rfl,p1⟩;clear ad;go_wp2_with fail;refine(zhR A n c Q j w1 (Sl.pu h p1) (hh.pu p1) hn).mono ?_;rintro e w2 ⟨A1,L,c1,ok,Ls,rfl,ax,O,p2⟩;have P2:=p1.trans p2;clear p1 p2
 cases ok with
 |false=>clear O;have x:=Qh P2;clear P2 ax;go_wp2;go_ret;exact⟨rfl,x.out⟩
 |true=>
  obtain⟨rfl,lS,hX⟩:=O rfl;have hS:=hX.hold;have K:=Qh (zp9 ax.symm);clear O ax hX;go_wp2_with fail;refine(zlb A L c Q j w2 (Sl.pu h P2) (hh.pu P2) hn).mono ?_;rintro e w3 ⟨rfl,p3⟩;have B:=P2.trans p3;have t:=Sl.pu lS p3;have o:=hS.pu p3;clear lS hS P2 p3 h hh
  cases hm:j.all zdi with
  |false=>have x:=Qh B;clear B hm t o;go_wp2;go_ret;exact⟨rfl,x.out⟩
  |true=>
   have Hm:=Qh (List.all_eq_true.1 hm);clear hm;by_cases ao:2000<v
   ·have d1:decide (2000<v)=true:=decide_eq_true ao;have x:=Qh B;clear B t o;go_wp2;go_ret;exact⟨rfl,x.out⟩
   ·have d1:decide (2000<v)=false:=decide_eq_false ao;have P:∀f,f≤2000→Fit (zeI j) f (j.map zbU):=fun f hf=>zfZ K.out.1 Hm.out (fun r hr=>hr) (by rw [List.length_map];have:=K.out.1;omega) hf;have HN:=Qh (zo6 K.out.1 K.out.2 Hm.out);by_cases ap:v<0
    ·have d2:decide (v<0)=true:=decide_eq_true ap;go_wp2_with fail;refine(zhy A1 L c1 v w3 ap).mono ?_;rintro e C ⟨rfl,E⟩;obtain⟨V,hV⟩:∃V,V=C.alloc (.cells #[.int .i64 3,.slice none 0 0] 77):=⟨_,rfl⟩
     have y:Pu w3 V:=by rw [hV];exact E.alloc _
     have z:Blk V C.heap.size 77 #[.int .i64 3,.slice none 0 0]:=by rw [hV];exact Blk.new _ _ _
     obtain⟨I,J⟩:=z.c2_;rw [hV]at I J;have x:=Qh (B.trans y);have U:=Qh hV;clear hV B E y z t o;have d3:decide (max v 0<0)=false:=decide_eq_false (by omega);have d4:decide (0≤v)=false:=decide_eq_false (by omega);go_wp2;go_ret;exact⟨rfl,by have:=x.out;rwa [U.out]at this⟩
    ·obtain⟨F,rfl⟩:∃F:Nat,v=(F:Int):=⟨v.toNat,by omega⟩
     have am:F≤2000:=by omega
     have HS:=Qh (zb9 (zeI j) (j.map zbU) A1 L c1 Ls F w3 HN.out (P F am) am t o);have R:=Qh (P F am);clear P;go_wp2_with fail;refine HS.out.mono ?_;rintro e C ⟨U',cc,E,hc⟩;have d5:decide ((U':Int)<0)=false:=decide_eq_false (by omega);have d6:decide (max (F:Int) 0<(U':Int))=false:=decide_eq_false (by omega);have d7:decide (0≤(F:Int))=true:=decide_eq_true (by omega);clear HS;rcases hc with⟨Ak,N,ck,ms,Lk,rfl,bz,hM,aC,aB,aE⟩|⟨rfl,bY⟩|⟨rfl,hE⟩
     ·obtain⟨V,hV⟩:∃V,V=C.alloc (.cells #[.int .i64 1,.slice Ak N ck] 77):=⟨_,rfl⟩
      have y:Pu w3 V:=by rw [hV];exact E.alloc _
      have av:Pu C V:=by rw [hV];exact(Pu.refl _).alloc _
      obtain⟨b7,hb7⟩:∃b7,b7=C.heap.size:=⟨_,rfl⟩
      have z:Blk V b7 77 #[.int .i64 1,.slice Ak N ck]:=by rw [hV,hb7];exact Blk.new _ _ _
      have lV:=Sl.pu t y;have az:=o.pu y;have aG:=(Sl.of_own aB).pu av;have aF:=aE.pu av;have PV:=B.trans y;have G:Ls.length=L:=SlR.len t;have aY:=Qh aC;have ae:=o.1;rw [List.length_map]at ae;have h6:=K.out.1;have aw:=Qh (zc1 A1 L c1 Ls (j.map zbU) V lV az (fun r hr=>by have:=R.out.few HN.out hr;omega) (by omega));obtain⟨I,J⟩:=z.c2_;rw [hV,hb7]at I J;rw [hV]at aw;have U:=Qh hV;have bl:=Qh hb7;have HM:=Qh hM;have bR:=ziP h6 Hm.out;clear hV hb7 hM t o B E y av aB aE G ae h6 bz aC;go_wp2_with fail;refine aw.out.mono ?_;rintro e W ⟨A',n',c',rfl,aa,cb,M⟩;rw [←U.out]at M aa;have H:(zW (j.map zbU)).length=n':=by have:=(Sl.of_own aa).1;simpa [kts]using this
      obtain rfl:N=n':=by rw [aY.out,H]
      have kW:=z.pu M;have lW:=Sl.pu lV M;have aA:=az.pu M;have a0:=Sl.pu aG M;have af:=aF.pu M;have aH:=Sl.of_own aa;have PW:=PV.trans M;have HL:=Qh H;obtain⟨y0,y1⟩:=kW.c2_;clear I J aw z lV az aG aF PV M aa H
      try rw [←bl.out]
      go_wp2_with fail
      go_loopw [83] (fun iv wr=>∃i:Nat,i≤N∧iv= .int .i64 (i:Int)∧Pu W wr) (fun iv _=>N - (intOf iv).toNat)
      case atStart=>exact⟨0,Nat.zero_le _,rfl,Pu.refl _⟩
      case round=>
       obtain⟨i,hi,rfl,D⟩:=hrel;by_cases bt:i<N
       ·obtain⟨k,hk⟩:∃k,(zW (j.map zbU))[i]?=some k:=⟨_,List.getElem?_eq_getElem (by rw [HL.out];exact bt)⟩
        have aj:(zjs ms (zW (j.map zbU)))[i]?=some (k,factor ms k):=by unfold zjs;rw [List.getElem?_map,hk];rfl
        obtain⟨p,Z⟩:∃p,Lk[i]?=some p:=⟨_,List.getElem?_eq_getElem (by rw [af.1];exact(List.getElem?_eq_some_iff.1 aj).1)⟩
        obtain⟨e1,-⟩:=af.2 i p _ Z aj;obtain⟨pk,qg,qA,qn,qc⟩:=p;dsimp only at e1;subst e1;obtain⟨bv,ov,rfl,bZ,z0,z1,z2⟩:=atZ (Sl.pu a0 D) Z;dsimp only at z0 z1 z2;obtain⟨Y,hY⟩:∃Y,Y=wr.alloc (.cells #[.string ⟨pk.toArray⟩,.bool qg,.slice qA qn qc] 82):=⟨_,rfl⟩
        have pY:Pu wr Y:=by rw [hY];exact(Pu.refl wr).alloc _
        have kY:Blk Y wr.heap.size 82 #[.string ⟨pk.toArray⟩,.bool qg,.slice qA qn qc]:=by rw [hY];exact Blk.new _ _ _
        obtain⟨bn,on,rfl,ce,bX,u0⟩:=zdR (Sl.pu aH (D.trans pY)) hk;have x:=Qh (D.trans pY);have v0:=kY.cell 0;have cd:IntKind.i64.wrap ((i:Int)+1)=(i:Int)+1:=IntWalk.i64_in _ (by omega);have HY:=Qh hY;clear hk aj Z hY pY;go_wp2_with fail;rw [←HY.out]
        go_quiet (fail)
        go_wp2;go_roundw
        case rel=>exact⟨i+1,by omega,by go_num,Pu.drewN x.out _⟩
        case measure=>simp [intOf];omega
       ·obtain rfl:i=N:=by omega
        have kR:=kW.pu D;have lR:=Sl.pu lW D;have hR:=aA.pu D;have PR:=PW.trans D;obtain⟨r0,r1⟩:=kR.c2_;have b5:i≤1000000:=by have:=HL.out;omega
        have au:=Qh (zoz 1 Ak i ck (zjs ms (zW (j.map zbU))) Lk wr (Sl.pu a0 D) (af.pu D) b5);have G:Ls.length=L:=SlR.len lR;have aR:L<4611686018427387904:=by omega
        clear kW lW aA a0 af aH PW kR y0 y1 G;go_wp2_with fail;refine au.out.mono ?_;rintro e T ⟨mb,rr,L',rfl,hm,aI,pT⟩;have aD:=Qh (zng A1 L c1 Ls (j.map zbU) (ze0 (zjs ms (zW (j.map zbU)))) mb (2^RR) (2^(BB+1)) (2^VB F) T (Sl.pu lR pT) (hR.pu pT) ⟨L',hm.mr,aI⟩ (fun r hr=>zii (by omega) (R.out.rest.entry hr) (fun p Z=>Nat.le_trans (R.out.up hr p Z) (zbV (by omega))) (zru HM.out.abs)) aR);have aJ:zct (ze0 (zjs ms (zW (j.map zbU)))) true (j.map zbU)=some true:=zjk _ (fun r hr f hf=>zeT.2 ⟨r,hr,f,hf,rfl⟩) HM.out.says;have a9:=Qh aJ;have bi:=Qh (PR.trans pT);clear au hm aI lR hR PR pT aJ r0 r1 D;go_wp2_with fail;refine aD.out.mono ?_;rintro e X ⟨Z,pX⟩;rcases Z with⟨b,S,rfl⟩|⟨S,rfl⟩
        ·rw [a9.out]at S;injection S with S;subst S;have HX:=Qh (bi.out.trans pX);clear aD pX;go_wp2;go_ret;exact⟨rfl,HX.out⟩
        ·rw [a9.out]at S
         cases S
     ·obtain⟨V,hV⟩:∃V,V=C.alloc (.cells #[.int .i64 2,.slice none 0 0] 77):=⟨_,rfl⟩
      have y:Pu w3 V:=by rw [hV];exact E.alloc _
      have z:Blk V C.heap.size 77 #[.int .i64 2,.slice none 0 0]:=by rw [hV];exact Blk.new _ _ _
      obtain⟨I,J⟩:=z.c2_;rw [hV]at I J;have x:=Qh (B.trans y);have U:=Qh hV;clear hV B E y z t o;go_wp2;go_ret;exact⟨rfl,by have:=x.out;rwa [U.out]at this⟩
     ·obtain⟨V,hV⟩:∃V,V=C.alloc (.cells #[.int .i64 3,.slice none 0 0] 77):=⟨_,rfl⟩
      have y:Pu w3 V:=by rw [hV];exact E.alloc _
      have z:Blk V C.heap.size 77 #[.int .i64 3,.slice none 0 0]:=by rw [hV];exact Blk.new _ _ _
      obtain⟨I,J⟩:=z.c2_;rw [hV]at I J;have x:=Qh (B.trans y);have U:=Qh hV;clear hV B E y z t o;go_wp2;go_ret;exact⟨rfl,by have:=x.out;rwa [U.out]at this⟩
end
end Go.Proofs.YtckfnbckoclhpaaGreatDoor

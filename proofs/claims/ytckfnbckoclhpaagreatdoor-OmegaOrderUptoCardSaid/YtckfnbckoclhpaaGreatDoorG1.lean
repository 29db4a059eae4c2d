/- The laws of omega. -/
import Derived.Test.YtckfnbckoclhpaaGreatDoorF9
import Derived.Test.YtckfnbckoclhpaaGreatDoorE27
namespace Go.Proofs.YtckfnbckoclhpaaGreatDoor
set_option linter.unusedVariables false
set_option linter.unusedSimpArgs false
set_option maxRecDepth 100000
set_option maxHeartbeats 4000000
section
open Go.RowKit
theorem zhR(A:Option Addr)(n c:Nat)(Q:List zf7)(j:List LineM)(p:World)(h:SlL p A n c Q)(hh:zgw p Q j)(hn:n≤1100000):Calls Tryz.prog 23 #[.slice A n c] p fun e w'=>∃M n1 E V L,e= .returned (.tuple #[.slice M n1 E,.bool V])∧V=okL 6 j∧(V=true→n1=n∧SlR w' M n1 E L∧zeh w' p.heap.size L (j.map zbU))∧Pu p w':=by
 have t:Q.length=n:=h.len;have a0:=hh.1;have HL:=Qh (AI t a0);clear t a0;go_enter Tryz.func23,Tryz.ntmps23;go_wp2_with fail
 go_loopw [4,12] (fun ov iv wr=>∃(i:Nat) (M:Option Addr) (E:Nat) (L:List RawR),i≤n∧iv= .int .i64 (i:Int)∧ov= .slice M i E∧wr.ownsRow p.heap.size 35 4 (.slice M i E) i (cat RawR.cells L)∧zeh wr p.heap.size L ((j.take i).map zbU)∧Pu p wr∧Hid (∀l∈j.take i,zei l=true)) (fun _ iv _=>n - (intOf iv).toNat)
 case atStart=>exact⟨0,none,0,[],Nat.zero_le _,rfl,rfl,World.ownsRow_nil _ _ _ _,by simpa using zeh.nil p p.heap.size,Pu.refl _,Qh (fun l hl=>by simp at hl)⟩
 case round=>
  obtain⟨i,M,E,L,hi,rfl,rfl,R,U,H,z⟩:=hrel;by_cases aW:i<n
  ·obtain⟨q,hq⟩:∃q,Q[i]?=some q:=⟨_,List.getElem?_eq_getElem (by rw [HL.out.1];exact aW)⟩
   obtain⟨l,hl,aV⟩:=hh.at_ hq;obtain⟨b,off,rfl,bw,x0,x1,x2⟩:=SlL.at_ (Sl.pu h H) hq;obtain⟨qA,qn,qc,qr,qe⟩:=q;obtain⟨he,hr,aw,ad,ax,av,af⟩:=aV;dsimp only at he hr aw ad x0 x1 x2;subst he hr aw;obtain⟨Y,hYe⟩:∃Y,Y=wr.alloc (.cells #[.slice qA l.ps.length qc,.int .i64 l.rest,.bool l.eq] 130):=⟨_,rfl⟩
   have pY:Pu wr Y:=by rw [hYe];exact(Pu.refl wr).alloc _
   have k8:Blk Y wr.heap.size 130 #[.slice qA l.ps.length qc,.int .i64 l.rest,.bool l.eq]:=by rw [hYe];exact Blk.new _ _ _
   have y:=zox l.ps l.rest qA qc Y (ad.pu (H.trans pY)) ax av af.each af.len;obtain⟨y0,y1⟩:=k8.c2_;rw [hYe]at y y0 y1;have S:=Qh y;have bh:=Qh hYe;have Hl:=Qh hl;have bz:IntKind.i64.wrap ((i:Int)+1)=(i:Int)+1:=IntWalk.i64_in _ (by omega);clear hq hl ad ax av af y hYe;obtain⟨a4,hokm⟩:∃a4,okM l.ps l.rest=a4:=⟨_,rfl⟩
   have a5:=Qh hokm;go_wp2_with fail;refine S.out.mono ?_;rintro e w3 ⟨v,V,An,nx,cn,Af,cf,⟨rs,rA,rn,rc⟩,fs,rfl,a7,o,az,aK,aG,p3⟩;rw [hokm]at a7;subst a7;rw [←bh.out]at p3 o;obtain⟨G,K,J,I,B,rfl⟩:=o.tm.shape;unfold zjg;have bf:=Nat.le_trans H.size pY.size;have W:=Qh (AI o az);clear o az aK aG hokm S y0 y1
   cases V with
   |false=>have bk:=Qh (zpQ (m:=6) Hl.out a5.out);have aR:=Qh (((H.trans (pY.trans p3)).alloc (.cells #[.bool G,.slice K J I,.pointer B] 33)).alloc (.cells #[.slice An nx cn,.slice Af nx cf,.int .i64 rs,.slice rA rn rc] 56));go_wp2;go_ret2;exact⟨none,0,0,false,[],rfl,bk.out.symm,(fun x=>by cases x),aR.out⟩
   |true=>
    obtain⟨F,hVe⟩:∃F,F=(w3.alloc (.cells #[.bool G,.slice K J I,.pointer B] 33)).alloc (.cells #[.slice An nx cn,.slice Af nx cf,.int .i64 rs,.slice rA rn rc] 56):=⟨_,rfl⟩
    have Z:Pu w3 F:=by rw [hVe];exact((Pu.refl w3).alloc _).alloc _
    have X:Pu Y F:=p3.trans Z;have k9:Blk F w3.heap.size 33 #[.bool G,.slice K J I,.pointer B]:=by rw [hVe];exact(Blk.new w3 _ _).alloc _
    have m8:=k8.pu X;have pV:Pu wr F:=pY.trans X;have P:=zaw R pV;have a6:=U.pu pV;have o:=(W.out.1.pu Z).lo_ bf;rw [W.out.2 rfl]at o;have aa:Pu p F:=H.trans pV;obtain⟨z0,z1,z2⟩:=k9.c3_;obtain⟨u0,u1,u2⟩:=m8.c3_;have aM:=aa.size;have ae:=P;have ah:=aM;rw [hVe]at z0 z1 z2 u0 u1 u2 ae ah;have ba:=Qh hVe;clear hVe R U H k8 p3 Z X pV W k9 m8 pY;go_wp2_with (at_builtin;refine zax zcX rfl _ _ rfl #[.bool G,.slice K J I,.pointer B,.bool l.eq] rfl (RawR.cells_one ⟨G,K,J,I,B,l.eq⟩) rfl rfl (by simp) ae (by simp [maxLen];omega) (by omega) ah ?_);intro A3 c3 w2 T hg;rw [←ba.out]at hg;have O:=Fr.of_grown hg;have D:=zrI P (e:=35) ⟨by decide,by decide,by decide⟩;have au:=(a6.frY O D).push (q:=⟨G,K,J,I,B,l.eq⟩) (r:=zbU l) ⟨rfl,o.frY O D⟩;have aq:Pu p w2:=aa.step O (fun k hk=>(P.lt k hk).1);have N:∀x∈j.take (i+1),zei x=true:=fun x hx=>by
     rw [List.take_add_one,Hl.out]at hx;rcases List.mem_append.1 hx with h|h
     ·exact z.out x h
     ·have e:x=l:=by simpa using h
      rw [e];exact a5.out
    have ai:(j.take (i+1)).map zbU=(j.take i).map zbU++[zbU l]:=by rw [List.take_add_one,Hl.out];simp
    have w:=Qh (AI T (AI au (AI aq (AI N ai))));clear O D au aq N ai T hg ae ah P a6 o aa z0 z1 z2 u0 u1 u2;go_wp2;go_roundw
    case rel=>exact⟨i+1,A3,c3,L++[⟨G,K,J,I,B,l.eq⟩],by omega,by go_num,rfl,by rw [zaX,zgI];exact w.out.1,by rw [w.out.2.2.2.2];exact w.out.2.1,w.out.2.2.1,Qh w.out.2.2.2.1⟩
    case measure=>simp [intOf];omega
  ·obtain rfl:i=n:=by omega
   have t:j.length=i:=by rw [←HL.out.2,HL.out.1]
   have C:j.take i=j:=List.take_of_length_le (by omega);rw [C]at U;have a9:=Qh (show decide ((i:Int)≤6)=okL 6 j by have h1:=z.out;rw [C]at h1;unfold okL;have h2:j.all zei=true:=List.all_eq_true.2 h1;rw [h2,Bool.and_true,t];exact decide_eq_decide.2 (by omega));have w:=Qh (AI (Sl.of_own R) (AI U H));clear C U R z t;go_wp2;go_ret2;exact⟨M,i,E,_,L,rfl,a9.out,(fun _=>⟨rfl,w.out.1,w.out.2.1⟩),w.out.2.2⟩
end
section
open Go.RowKit
theorem zgR{l:LineM}(h:4<l.ps.length∨l.rest< -1000∨1000<l.rest∨∃p∈l.ps,p.2< -9∨9<p.2):zdi l=false:=by
 cases e:zdi l with
 |false=>rfl
 |true=>
  obtain⟨k,o,j⟩:=zgt e;rcases h with h|h|h|⟨p,i,h⟩
  ·omega
  ·omega
  ·omega
  ·have:=j p i;omega
theorem zpt{l:LineM}(j:l.ps.length≤4)(k: -1000≤l.rest)(o:l.rest≤1000)(h:∀p∈l.ps,-9≤p.2∧p.2≤9):zdi l=true:=by unfold zdi;rw [decide_eq_true j,decide_eq_true k,decide_eq_true o,List.all_eq_true.2 fun p i=>by rw [decide_eq_true (h p i).1,decide_eq_true (h p i).2];rfl];rfl
theorem ziZ{j:List LineM}{i:Nat}{l:LineM}(h:j[i]?=some l)(k:zdi l=false):j.all zdi=false:=by rw [List.all_eq_false];exact⟨l,List.mem_of_getElem? h,by simp [k]⟩
theorem zlb(A:Option Addr)(n c:Nat)(Q:List zf7)(F:List LineM)(L:World)(h:SlL L A n c Q)(hh:zgw L Q F)(hn:n≤1100000):Calls Tryz.prog 24 #[.slice A n c] L fun e w'=>e= .returned (.bool (F.all zdi))∧Pu L w':=by
 have J:Q.length=n:=h.len;have X:=hh.1;have Z:=Qh (AI J X);clear J X;go_enter Tryz.func24,Tryz.ntmps24;go_wp2_with fail
 go_loopw [9] (fun iv wr=>∃(i:Nat),i≤n∧iv= .int .i64 (i:Int)∧Pu L wr∧Hid (∀l∈F.take i,zdi l=true)) (fun iv _=>n - (intOf iv).toNat)
 case atStart=>exact⟨0,Nat.zero_le _,rfl,Pu.refl _,Qh (fun l S=>by simp at S)⟩
 case round=>
  obtain⟨i,hi,rfl,P,I⟩:=hrel;by_cases a0:i<n
  ·obtain⟨q,hq⟩:∃q,Q[i]?=some q:=⟨_,List.getElem?_eq_getElem (by rw [Z.out.1];exact a0)⟩
   obtain⟨l,S,ax⟩:=hh.at_ hq;obtain⟨b,off,rfl,aS,x0,x1,x2⟩:=SlL.at_ (Sl.pu h P) hq;obtain⟨qA,qn,qc,qr,qe⟩:=q;obtain⟨he,hr,W,O,aQ,aP,az⟩:=ax;dsimp only at he hr W O x0 x1 x2;subst he hr W;obtain⟨Y,hYe⟩:∃Y,Y=wr.alloc (.cells #[.slice qA l.ps.length qc,.int .i64 l.rest,.bool l.eq] 130):=⟨_,rfl⟩
   have pY:Pu wr Y:=by rw [hYe];exact(Pu.refl wr).alloc _
   have k8:Blk Y wr.heap.size 130 #[.slice qA l.ps.length qc,.int .i64 l.rest,.bool l.eq]:=by rw [hYe];exact Blk.new _ _ _
   obtain⟨y0,y1⟩:=k8.c2_;rw [hYe]at y0 y1;have E:=Qh hYe;have H:=Qh S;have k:=P.trans pY;have o:=O.pu k;have aU:IntKind.i64.wrap ((i:Int)+1)=(i:Int)+1:=IntWalk.i64_in _ (by omega);clear hq S O az hYe k8 pY P;by_cases h4:4<l.ps.length
   ·have d4:decide ((4:Int)<(l.ps.length:Int))=true:=by simp;omega
    have v:=Qh (ziZ H.out (zgR (.inl h4)));have z:=Qh k;clear o k;go_wp2;go_ret;exact⟨by rw [v.out];rfl,by have:=z.out;rwa [E.out]at this⟩
   ·have d4:decide ((4:Int)<(l.ps.length:Int))=false:=by simp;omega
    by_cases N:l.rest< -1000
    ·have d5:decide (l.rest< -1000)=true:=decide_eq_true N;have v:=Qh (ziZ H.out (zgR (.inr (.inl N))));have z:=Qh k;clear o k;go_wp2;go_ret;exact⟨by rw [v.out];rfl,by have:=z.out;rwa [E.out]at this⟩
    ·have d5:decide (l.rest< -1000)=false:=decide_eq_false N;by_cases K:1000<l.rest
     ·have d6:decide (1000<l.rest)=true:=decide_eq_true K;have v:=Qh (ziZ H.out (zgR (.inr (.inr (.inl K)))));have z:=Qh k;clear o k;go_wp2;go_ret;exact⟨by rw [v.out];rfl,by have:=z.out;rwa [E.out]at this⟩
     ·have d6:decide (1000<l.rest)=false:=decide_eq_false K;have T:=Qh (AI h4 (AI N K));clear h4 N K;go_wp2_with fail;rw [←E.out];clear y0 y1
      go_loopw [34] (fun jv ws=>∃(j:Nat),j≤l.ps.length∧jv= .int .i64 (j:Int)∧Pu Y ws∧Hid (∀p∈l.ps.take j,-9≤p.2∧p.2≤9)) (fun jv _=>l.ps.length - (intOf jv).toNat)
      case atStart=>exact⟨0,Nat.zero_le _,rfl,Pu.refl _,Qh (fun p G=>by simp at G)⟩
      case round=>
       obtain⟨j,hj,rfl,w,V⟩:=hrel;by_cases am:j<l.ps.length
       ·obtain⟨p,G⟩:∃p,l.ps[j]?=some p:=⟨_,List.getElem?_eq_getElem am⟩
        obtain⟨bp,op,rfl,aT,R⟩:=zjH zdm (by decide) (o.pu w) G;have z0:wr.cell? ⟨bp,op+j*2,none⟩=some (.string ⟨p.1.toArray⟩):=R 0 _ rfl;have z1:wr.cell? ⟨bp,op+j*2+1,none⟩=some (.int .i64 p.2):=R 1 _ rfl;obtain⟨C,t⟩:=p;dsimp only at z0 z1;have Hp:=Qh G;have B:=List.mem_of_getElem? G;have U:=Qh ((k.trans w).alloc (.cells #[.string ⟨C.toArray⟩,.int .i64 t] 113));have a5:=Qh (w.alloc (.cells #[.string ⟨C.toArray⟩,.int .i64 t] 113));have kp:Blk (wr.alloc (.cells #[.string ⟨C.toArray⟩,.int .i64 t] 113)) wr.heap.size 113 #[.string ⟨C.toArray⟩,.int .i64 t]:=Blk.new _ _ _;have v1:=kp.cell 1;have aR:IntKind.i64.wrap ((j:Int)+1)=(j:Int)+1:=IntWalk.i64_in _ (by have:=T.out.1;omega);clear G R kp;by_cases h7:t< -9
        ·have d7:decide (t< -9)=true:=decide_eq_true h7;have v:=Qh (ziZ H.out (zgR (.inr (.inr (.inr ⟨(C,t),B,.inl h7⟩)))));clear o k w B;go_wp2;go_ret;exact⟨by rw [v.out];rfl,U.out⟩
        ·have d7:decide (t< -9)=false:=decide_eq_false h7;by_cases h8:9<t
         ·have d8:decide (9<t)=true:=decide_eq_true h8;have v:=Qh (ziZ H.out (zgR (.inr (.inr (.inr ⟨(C,t),B,.inr h8⟩)))));clear o k w B;go_wp2;go_ret;exact⟨by rw [v.out];rfl,U.out⟩
         ·have d8:decide (9<t)=false:=decide_eq_false h8;have av:=Qh (show -9≤t∧t≤9 by omega);clear o k w B;go_wp2;go_roundw
          case rel=>exact⟨j+1,by omega,by go_num,a5.out,Qh (fun p' x=>by
           rw [List.take_add_one,Hp.out]at x;rcases List.mem_append.1 x with x|x
           ·exact V.out p' x
           ·have e:p'=(C,t):=by simpa using x
            rw [e];exact av.out)⟩
          case measure=>simp [intOf];omega
       ·obtain rfl:j=l.ps.length:=by omega
        have D:=V.out;rw [List.take_of_length_le (Nat.le_refl _)]at D;have hm:=Qh (zpt (l:=l) (by have:=T.out;omega) (by have:=T.out;omega) (by have:=T.out;omega) D);have z:=Qh (k.trans w);clear D o k w;go_wp2;go_roundw
        case rel=>exact⟨i+1,by omega,by go_num,z.out,Qh (fun l' y=>by
         rw [List.take_add_one,H.out]at y;rcases List.mem_append.1 y with y|y
         ·exact I.out l' y
         ·have e:l'=l:=by simpa using y
          rw [e];exact hm.out)⟩
        case measure=>simp [intOf];omega
  ·obtain rfl:i=n:=by omega
   have M:F.take i=F:=List.take_of_length_le (by rw [←Z.out.2,Z.out.1];exact Nat.le_refl _);have h1:=I.out;rw [M]at h1;have ad:=Qh (show F.all zdi=true from List.all_eq_true.2 h1);have z:=Qh P;clear M h1 P;go_wp2;go_ret;exact⟨by rw [ad.out];rfl,z.out⟩
end
end Go.Proofs.YtckfnbckoclhpaaGreatDoor

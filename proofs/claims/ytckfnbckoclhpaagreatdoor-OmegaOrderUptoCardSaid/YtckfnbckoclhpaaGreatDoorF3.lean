/- The solver's small functions. -/
import Derived.Test.YtckfnbckoclhpaaGreatDoorF2
import Derived.Test.YtckfnbckoclhpaaGreatDoorE32
import Derived.Test.YtckfnbckoclhpaaGreatDoorE23
import Derived.Test.YtckfnbckoclhpaaGreatDoorF1
import Derived.Test.YtckfnbckoclhpaaGreatDoorE30
namespace Go.Proofs.YtckfnbckoclhpaaGreatDoor
set_option linter.unusedVariables false
set_option linter.unusedSimpArgs false
set_option maxRecDepth 100000
set_option maxHeartbeats 8000000
section
open Go.RowKit
def zdq(m:List (Key×Bool))(fs:List (Key×Int)):List (Key×Bool):=fs.foldl (fun m f=>zau m f.1 true) m
def zhl(l:List RowM):List (Key×Bool):=l.foldl (fun m r=>zdq m r.fs) []
def zW(l:List RowM):List Key:=(zhl l).map (·.1)
theorem zlI{m:List (Key×Bool)}{fs:List (Key×Int)}{j:Nat}{f:Key×Int}(h:fs[j]?=some f):zdq m (fs.take (j+1))=zau (zdq m (fs.take j)) f.1 true:=by unfold zdq;rw [List.take_add_one,h,List.foldl_append];rfl
theorem zmq{l:List RowM}{i:Nat}{r:RowM}(h:l[i]?=some r):zhl (l.take (i+1))=zdq (zhl (l.take i)) r.fs:=by unfold zhl;rw [List.take_add_one,h,List.foldl_append];rfl
theorem zc1(A:Option Addr)(n c:Nat)(L:List RawR)(l:List RowM)(w:World)(h:SlR w A n c L)(hh:zF w L l)(ao:∀r∈l,r.fs.length≤100)(hn:n≤2200):Calls Tryz.prog 25 #[.slice A n c] w fun e w'=>∃A' n' c',e= .returned (.slice A' n' c')∧w'.ownsRow w.heap.size 9 1 (.slice A' n' c') n' (kts (zW l))∧n'≤1100000∧Pu w w':=by
 have I:L.length=n:=h.len;have HL:=Qh (AI I hh.1);have C:=Qh ao;clear I ao;go_enter Tryz.func25,Tryz.ntmps25;go_wp2_with fail;refine(zsj _).mono ?_;rintro e w1 ⟨U,rfl,aj,p1⟩;go_wp2_with fail
 go_loopw [11] (fun iv wr=>∃(i:Nat) (r:Option Nat),i≤n∧iv= .int .i64 (i:Int)∧MOB wr w.heap.size U r (zhl (l.take i))∧(zhl (l.take i)).length≤i*100∧Pu w wr) (fun iv _=>n - (intOf iv).toNat)
 case atStart=>exact⟨0,none,Nat.zero_le _,rfl,by simpa [zhl]using aj,by simp [zhl],p1⟩
 case round=>
  obtain⟨i,r,hi,rfl,P,aC,H⟩:=hrel;clear aj p1;by_cases aF:i<n
  ·obtain⟨q,hq⟩:∃q,L[i]?=some q:=⟨_,List.getElem?_eq_getElem (by rw [HL.out.1];exact aF)⟩
   obtain⟨o,hr,ai⟩:=hh.at_ hq;obtain⟨b,off,rfl,bb,T,x1,x2,x3⟩:=SlR.at_ (Sl.pu h H) hq;obtain⟨X,hXe⟩:∃X,X=wr.alloc (.cells #[.bool q.g,.slice q.A q.n q.c,.pointer q.m,.bool q.eq] 35):=⟨_,rfl⟩
   have Y:Pu wr X:=by rw [hXe];exact(Pu.refl wr).alloc _
   have hT:=ai.2.pu (H.trans Y);have Hn:=Qh (zcM _ _ _ _ hT);rw [hXe]at Hn;have aZ:=C.out o (List.mem_of_getElem? hr);have am:=Qh (zmq hr);have ah:=Qh hXe;have E:=P.pu Y;have ag:=H.trans Y;have bf:IntKind.i64.wrap ((i:Int)+1)=(i:Int)+1:=IntWalk.i64_in _ (by omega);obtain⟨qg,qA,qn,qc,qm,qe⟩:=q;dsimp only at T x1 x2 x3 Hn ah hT;generalize zhl (l.take i)=Q at*
   clear hXe hq hr ai P Y hT H;go_wp2_with fail;refine Hn.out.mono ?_;rintro e R ⟨N,t,av,rfl,y,aP,S⟩;rw [←ah.out]at S y;have J:Sl R 1 N t av (kts (o.fs.map (·.1))):=Sl.of_own y;have Z:=ziV y;have aS:o.fs.length=t:=by have:=J.1;simpa [kts]using this
   have aE:=E.pu S;have aM:=ag.trans S;have a9:=E.lt;have aa:=E.row;have aN:0<t→∀b' off',N=some ⟨b',off',none⟩→b'<R.heap.size:=fun h0 b' off' e=>by obtain⟨b1,o1,G,B,_⟩:=J.2.2 h0;rw [e]at G;injection G with G;injection G with G;rw [G];exact B
   clear Hn S E ag y T x1 x2 x3;go_wp2_with fail
   go_loopw [19] (fun jv ws=>∃(j:Nat) (r2:Option Nat),j≤t∧jv= .int .i64 (j:Int)∧MOB ws w.heap.size U r2 (zdq Q (o.fs.take j))∧(zdq Q (o.fs.take j)).length≤i*100+j∧Hid (∀g,r2=some g→g<X.heap.size∨R.heap.size≤g)∧Fr (fun k=>w.heap.size≤k∧k<X.heap.size) R ws) (fun jv _=>t - (intOf jv).toNat)
   case atStart=>exact⟨0,r,Nat.zero_le _,rfl,by simpa [zdq]using aE,by simpa [zdq]using aC,Qh (fun g F=> .inl (aa g F).2.1),Fr.refl _ _⟩
   case round=>
    obtain⟨j,r2,hj,rfl,v,a5,ax,D⟩:=hrel;by_cases aY:j<t
    ·obtain⟨p,hp⟩:∃p,o.fs[j]?=some p:=⟨_,List.getElem?_eq_getElem (by omega)⟩
     have K:Sl wr 1 N t av (kts (o.fs.map (·.1))):=J.fr D (fun h0 b' off' e hS=>by have e2:=Z b' off' e;have e3:w.heap.size≤b'∧b'<X.heap.size:=hS;omega);obtain⟨bn,on,rfl,aO,bc,T⟩:=zdR K (zf6 hp);have M:=Qh (zlI (m:=Q) hp);have O:=Qh (zsn w.heap.size U r2 (zdq Q (o.fs.take j)) p.1 true wr v (by omega));have ae:=ziF (zdq Q (o.fs.take j)) p.1 true;have aq:=Qh ae;have V:=v.row;have aV:=v.lt;have aU:=D.size;have ba:IntKind.i64.wrap ((j:Int)+1)=(j:Int)+1:=IntWalk.i64_in _ (by omega);obtain⟨pk,pz⟩:=p;dsimp only at T M O aq;clear hp K v ae;go_wp2_with fail;refine O.out.mono ?_;rintro e W5 ⟨rfl,r5,ap,aw,au⟩;have ak:=D.step au (fun k hk=>by
      rcases hk with e|e
      ·exact .inl (by rw [e];exact a9)
      ·have B:=V k e;rcases ax.out k e with W|W
       ·exact .inl ⟨B.1,W⟩
       ·exact .inr W)
     have a4:Hid (∀g,r5=some g→g<X.heap.size∨R.heap.size≤g):=Qh fun g F=>by
      rcases aw with B|⟨g',B,W⟩
      ·exact ax.out g (by rw [←B];exact F)
      ·rw [B]at F;injection F with F;exact .inr (by omega)
     have C:=Qh (AI ap ak);clear ap ak au aw;go_wp2_with fail;go_roundw
     case rel=>exact⟨j+1,r5,by omega,by go_num,by rw [M.out];exact C.out.1,by rw [M.out];have:=aq.out;omega,a4,C.out.2⟩
     case measure=>simp [intOf];omega
    ·obtain rfl:j=t:=by omega
     have z:o.fs.take j=o.fs:=List.take_of_length_le (by omega);rw [z]at v a5;have af:=aM.step D (fun i h=>h.1);have C:=Qh (AI v af);clear v af z;go_wp2_with fail;go_roundw
     case rel=>exact⟨i+1,r2,by omega,by go_num,by rw [am.out];exact C.out.1,by rw [am.out];omega,C.out.2⟩
     case measure=>simp [intOf];omega
  ·obtain rfl:i=n:=by omega
   have z:l.take i=l:=List.take_of_length_le (by rw [←HL.out.2,HL.out.1];exact Nat.le_refl _);rw [z]at P;have Hk:=Qh (zr0 U (zhl l) wr P.mr);clear P z;go_wp2_with fail;refine Hk.out.mono ?_;rintro e W4 ⟨A4,n4,c4,rfl,aH,aJ,p4⟩;go_wp2;go_ret;exact⟨A4,n4,c4,rfl,zbK aH H.size,aJ,H.trans p4⟩
theorem zoO(A:Option Addr)(n c:Nat)(L:List RawR)(l:List RowM)(k:Key)(w:World)(h:SlR w A n c L)(hh:zF w L l)(hb:∀r∈l,(factor r.fs k).natAbs<4294967296^E4)(hn:n<1100000):Calls Tryz.prog 173 #[.slice A n c,.string ⟨k.toArray⟩] w fun e w'=>∃v',e= .returned v'∧ZR w' v' (zgZ k l)∧Pu w w':=by
 have K:L.length=n:=h.len;have HL:=Qh (AI K hh.1);have HB:=Qh hb;obtain⟨W,hWe⟩:∃W,W=(w.alloc (.cells #[.bool false,.slice none 0 0] 30)).alloc (.cells #[.bool false,.slice none 0 0] 30):=⟨_,rfl⟩
 have pW:Pu w W:=by rw [hWe];exact((Pu.refl w).alloc _).alloc _
 have k4:Blk W w.heap.size 30 #[.bool false,.slice none 0 0]:=by rw [hWe];exact(Blk.new w _ _).alloc _
 have k5:Blk W (w.heap.size+1) 30 #[.bool false,.slice none 0 0]:=by rw [hWe];exact Blk.at_new _ _ _ (by simp)
 have bf:=Qh (show W.heap.size=w.heap.size+2 by rw [hWe];simp);have aL:=Qh hWe;have h0:ZR W (.agg #[.bool false,.slice none 0 0]) 0:=⟨false,none,0,0,[],rfl,Sl.nil _ _ _ _,zg.nil _,zcz,(fun e=>by cases e),⟨by simp [maxLen],W32.none _ _⟩,rfl⟩
 have aj:((0:Int)).natAbs<4294967296^E4:=up4 zan;have aM:=Qh aj;clear hWe K hb aj;go_enter Tryz.func173,Tryz.ntmps173;go_wp2_with fail;rw [←aL.out]
 go_loopw [11] (fun iv wr=>∃(i:Nat) (G:Bool) (I:Option Addr) (F H:Nat) (z:Int),i≤n∧iv= .int .i64 (i:Int)∧Blk wr (w.heap.size+1) 30 #[.bool G,.slice I F H]∧ZR wr (.agg #[.bool G,.slice I F H]) z∧Hid (zgZ k l=(l.drop i).foldl (fun m r=>if m<factor r.fs k then factor r.fs k else m) z∧z.natAbs<4294967296^E4)∧Fr (fun j=>j=w.heap.size+1) W wr) (fun iv _=>n - (intOf iv).toNat)
 case atStart=>exact⟨0,false,none,0,0,0,Nat.zero_le _,rfl,k5,h0,Qh ⟨rfl,aM.out⟩,Fr.refl _ _⟩
 case round=>
  obtain⟨i,G,I,F,H,z,hi,rfl,S,R,y,Q⟩:=hrel;have D:Pu w wr:=pW.step Q (fun j hj=>by have e':j=w.heap.size+1:=hj;omega);have O:=k4.fr Q (by omega);by_cases aN:i<n
  ·obtain⟨q,hq⟩:∃q,L[i]?=some q:=⟨_,List.getElem?_eq_getElem (by rw [HL.out.1];exact aN)⟩
   obtain⟨o,Y,ak⟩:=hh.at_ hq;obtain⟨b,off,rfl,bk,x0,x1,x2,x3⟩:=SlR.at_ (Sl.pu h D) hq;obtain⟨X,hXe⟩:∃X,X=wr.alloc (.cells #[.bool q.g,.slice q.A q.n q.c,.pointer q.m,.bool q.eq] 35):=⟨_,rfl⟩
   have N:Pu wr X:=by rw [hXe];exact(Pu.refl wr).alloc _
   have Hf:=Qh (zY q.term o.rest k o.fs X (ak.2.pu (D.trans N)));rw [hXe]at Hf;have au:=HB.out o (List.mem_of_getElem? Y);have ai:(l.drop i).foldl (fun m r=>if m<factor r.fs k then factor r.fs k else m) z=(l.drop (i+1)).foldl (fun m r=>if m<factor r.fs k then factor r.fs k else m) (if z<factor o.fs k then factor o.fs k else z):=by
    have a9:=(List.getElem?_eq_some_iff.1 Y).1;have e:l.drop i=o::l.drop (i+1):=by
     rw [List.drop_eq_getElem_cons a9]
     congr 1
     exact(List.getElem?_eq_some_iff.1 Y).2
    rw [e];rfl
   have p:=Qh (AI (y.out.1.trans ai) (AI au y.out.2));have ah:=Qh hXe;have bl:IntKind.i64.wrap ((i:Int)+1)=(i:Int)+1:=IntWalk.i64_in _ (by omega);have m6:=S.pu N;have mz:=R.pu N;have ag:=Q.trans N.fr;obtain⟨qg,qA,qn,qc,qm,qe⟩:=q;dsimp only at x0 x1 x2 x3 ah;dsimp only [RawR.term]at Hf;clear hXe hq Y ak S R ai au y N D Q;go_wp2_with fail;refine Hf.out.mono ?_;rintro e W3 ⟨v,rfl,hv,P⟩;rw [←ah.out]at P;obtain⟨T,A9,n9,Z,rfl⟩:=hv.shape2;obtain⟨V,hVe⟩:∃V,V=W3.alloc (.cells #[.bool T,.slice A9 n9 Z] 30):=⟨_,rfl⟩
   have pV:Pu W3 V:=by rw [hVe];exact(Pu.refl W3).alloc _
   have k8:Blk V W3.heap.size 30 #[.bool T,.slice A9 n9 Z]:=by rw [hVe];exact Blk.new _ _ _
   have aq:=m6.pu (P.trans pV);have nz:=mz.pu (P.trans pV);have nv:=hv.pu pV;have aR:=ag.trans (P.trans pV).fr;obtain⟨y0,y1⟩:=k8.c2_;obtain⟨y2,y3⟩:=aq.c2_;have Hc:=Qh (zbF _ _ _ _ V nv nz p.out.2.1 p.out.2.2);obtain⟨s,hs,bj,aK,ap⟩:=zfe (factor o.fs k) z;rw [hs]at Hc;rw [hVe]at y0 y1 y2 y3 Hc;have aP:=Qh hVe;have Hs:=Qh ap;clear hs aK ap hVe hv m6 mz ag x0 x1 x2 x3;go_wp2_with fail;refine Hc.out.mono ?_;rintro e U ⟨rfl,J⟩;rw [←aP.out]at J;have u8:=k8.pu J;have u6:=aq.pu J;obtain⟨z0,z1⟩:=u8.c2_;obtain⟨f0,f1⟩:=u6.z2_;have am:=aR.trans J.fr;by_cases t:s>0
   ·have hd:decide (s>0)=true:=decide_eq_true t;have aF:decide (0<s)=true:=decide_eq_true t;obtain⟨w0,w1⟩:=u6.c2_;obtain⟨M,B⟩:=zas u6 (.bool T) (.slice A9 n9 Z);have ao:=(nv.pu J).frT B (zh u6 (by decide));have C:=Qh (AI M (AI ao (am.trans B)));have HN:Hid (zgZ k l=(l.drop (i+1)).foldl (fun m r=>if m<factor r.fs k then factor r.fs k else m) (factor o.fs k)∧(factor o.fs k).natAbs<4294967296^E4):=Qh ⟨by rw [p.out.1,if_pos (Hs.out.1 t)],p.out.2.1⟩;clear M ao B nv t;go_wp2;go_roundw
    case rel=>exact⟨i+1,T,A9,n9,Z,_,by omega,by go_num,C.out.1,C.out.2.1,HN,C.out.2.2⟩
    case measure=>simp [intOf];omega
   ·have hd:decide (s>0)=false:=decide_eq_false t;have aF:decide (0<s)=false:=decide_eq_false t;have C:=Qh (AI u6 (AI (nz.pu J) am));have HN:Hid (zgZ k l=(l.drop (i+1)).foldl (fun m r=>if m<factor r.fs k then factor r.fs k else m) z∧z.natAbs<4294967296^E4):=Qh ⟨by rw [p.out.1,if_neg (fun h=>t (Hs.out.2 h))],p.out.2.2⟩;clear u6 nz t;go_wp2;go_roundw
    case rel=>exact⟨i+1,G,I,F,H,z,by omega,by go_num,C.out.1,C.out.2.1,HN,C.out.2.2⟩
    case measure=>simp [intOf];omega
  ·obtain rfl:i=n:=by omega
   have E:zgZ k l=z:=by rw [y.out.1,List.drop_eq_nil_of_le (by rw [←HL.out.2,HL.out.1];exact Nat.le_refl _)];rfl
   obtain⟨a0,a1⟩:=S.c2_;obtain⟨c0,c1⟩:=O.c2_;obtain⟨d0,d1⟩:=O.z2_;obtain⟨M,B⟩:=zas O (.bool G) (.slice I F H);obtain⟨r0,r1⟩:=M.c2_;have av:=R.frT B (zh O (by decide));have hP:=D.step B (fun j hj=>by have e':j=w.heap.size:=hj;omega);have HP:=Qh (AI E (AI av hP));clear E av hP B M O S R y;go_wp2;exact bodyPost_ret (v:= .agg #[.bool G,.slice I F H]) (by simp [results,Tryz.results173,go_sem,r0,r1]) rfl ⟨_,rfl,by rw [HP.out.1];exact HP.out.2.1,HP.out.2.2⟩
end
section
open Go.RowKit
theorem zm7(q:RawR)(r:RowM)(k:Key)(F:Nat)(w:World)(E:zeP w q r)(H:Blk w F 9 #[.string ⟨k.toArray⟩])(C:(factor r.fs k).natAbs<4294967296^E4):Calls Tryz.prog 184 #[q.val,.pointer (some ⟨F,0,none⟩)] w fun e w'=>e= .returned (.bool (!((factor r.fs k).natAbs==1)))∧Pu w w':=by
 obtain⟨X,hXe⟩:∃X,X=w.alloc (.cells #[.bool q.g,.slice q.A q.n q.c,.pointer q.m,.bool q.eq] 35):=⟨_,rfl⟩
 have p:Pu w X:=by rw [hXe];exact(Pu.refl w).alloc _
 have c0:=(H.pu p).cell 0;have y:=Qh (zY q.term r.rest k r.fs X (E.2.pu p));rw [hXe]at y c0;have o:=Qh hXe;have t:=Qh (AI C (AI (up4 (zds (z:=1) (by decide))) (show(((factor r.fs k).natAbs:Int)).natAbs<4294967296^E4 by rw [Int.natAbs_natCast];exact C)));obtain⟨S,W,R,Y,Q,T⟩:=q;dsimp only [RawR.term]at y;dsimp only at o c0;dsimp only [RawR.val];clear hXe E C H;go_enter Tryz.func184,Tryz.ntmps184;go_wp2_with fail;refine y.out.mono ?_;rintro e w2 ⟨v,rfl,L,J⟩;rw [←o.out]at J;go_wp2_with fail;refine(zdn _ _ _ L t.out.1).mono ?_;rintro e Z ⟨V,rfl,G,N⟩;go_wp2_with fail;refine(zaG 1 _ (by decide) (by decide)).mono ?_;rintro e U ⟨O,rfl,I,D⟩;go_wp2_with fail;refine(zbF _ _ _ _ _ (G.pu D) I t.out.2.2 t.out.2.1).mono ?_;rintro e P ⟨rfl,M⟩;have K:=Qh (((p.trans J).trans N).trans (D.trans M));by_cases i:(factor r.fs k).natAbs=1
 ·have j:zee ((factor r.fs k).natAbs:Int) 1=0:=by rw [i];rfl
  have B:=Qh (show(!((factor r.fs k).natAbs==1))=false by rw [i];rfl);rw [j];clear i j;go_wp2;go_ret;exact⟨by rw [B.out];rfl,K.out⟩
 ·have B:=Qh (show(!((factor r.fs k).natAbs==1))=true by simp [i]);obtain⟨s,j,hcase⟩:∃s,zee ((factor r.fs k).natAbs:Int) 1=s∧(s= -1∨s=1):=by
   unfold zee;split
   ·exact⟨_,rfl,.inl rfl⟩
   ·rw [if_pos (by omega)];exact⟨_,rfl,.inr rfl⟩
  rw [j];clear i j;rcases hcase with rfl|rfl
  all_goals
   go_wp2;go_ret;exact⟨by rw [B.out];rfl,K.out⟩
theorem znI(A:Option Addr)(n c:Nat)(L:List RawR)(l:List RowM)(k:Key)(G:Nat)(w:World)(h:SlR w A n c L)(K:zF w L l)(R:Blk w G 9 #[.string ⟨k.toArray⟩])(M:∀r∈l,(factor r.fs k).natAbs<4294967296^E4)(hn:n<1100000):Calls Tryz.prog 196 #[.slice A n c,.func (.func 184) #[] #[.pointer (some ⟨G,0,none⟩)]] w fun e w'=>(∃j:Int,e= .returned (.int .i64 j)∧decide (0≤j)=!(l.all fun r=>(factor r.fs k).natAbs==1))∧Pu w w':=by
 have z:L.length=n:=h.len;have F:=Qh (AI z K.1);have O:=Qh M;clear z M;go_enter Tryz.func196,Tryz.ntmps196;go_wp2_with fail
 go_loopw [8] (fun I wr=>∃(i:Nat),i≤n∧I= .int .i64 (i:Int)∧Hid (∀r∈l.take i,(factor r.fs k).natAbs=1)∧Pu w wr) (fun I _=>n - (intOf I).toNat)
 case atStart=>exact⟨0,Nat.zero_le _,rfl,Qh (fun r o=>by simp at o),Pu.refl _⟩
 case round=>
  obtain⟨i,hi,rfl,p,v⟩:=hrel;by_cases J:i<n
  ·obtain⟨q,hq⟩:∃q,L[i]?=some q:=⟨_,List.getElem?_eq_getElem (by rw [F.out.1];exact J)⟩
   obtain⟨t,o,y⟩:=K.at_ hq;obtain⟨b,off,rfl,V,Q,S,P,U⟩:=SlR.at_ (Sl.pu h v) hq;have D:=Qh (zm7 q t k G wr ⟨y.1,y.2.pu v⟩ (R.pu v) (O.out t (List.mem_of_getElem? o)));have N:=Qh o;have W:IntKind.i64.wrap ((i:Int)+1)=(i:Int)+1:=IntWalk.i64_in _ (by omega);obtain⟨Z,qA,Y,qc,X,qe⟩:=q;dsimp only at Q S P U;dsimp only [RawR.val]at D;clear hq o y;obtain⟨u,hu⟩:∃u,((factor t.fs k).natAbs==1)=u:=⟨_,rfl⟩
   rw [hu]at D
   cases u with
   |true=>
    have B:Hid (∀r∈l.take (i+1),(factor r.fs k).natAbs=1):=Qh fun r o=>by
     rw [List.take_add_one,N.out]at o;rcases List.mem_append.1 o with h|h
     ·exact p.out r h
     ·have e:r=t:=by simpa using h
      rw [e];exact eq_of_beq hu
    clear hu;go_wp2_with fail;refine D.out.mono ?_;rintro e T ⟨rfl,H⟩;have C:=v.trans H;go_wp2;go_roundw
    case rel=>exact⟨i+1,by omega,by go_num,B,C⟩
    case measure=>simp [intOf];omega
   |false=>
    have B:=Qh (show decide ((0:Int)≤(i:Int))=!(l.all fun r=>(factor r.fs k).natAbs==1) by
     have:(l.all fun r=>(factor r.fs k).natAbs==1)=false:=by rw [List.all_eq_false];exact⟨t,List.mem_of_getElem? N.out,by rw [hu];simp⟩
     rw [this];simp)
    clear hu;go_wp2_with fail;refine D.out.mono ?_;rintro e T ⟨rfl,H⟩;have C:=v.trans H;go_wp2;go_ret;exact⟨⟨_,rfl,B.out⟩,C⟩
  ·obtain rfl:i=n:=by omega
   have E:l.take i=l:=List.take_of_length_le (by rw [←F.out.2,F.out.1];exact Nat.le_refl _);rw [E]at p;have B:=Qh (show decide ((0:Int)≤ -1)=!(l.all fun r=>(factor r.fs k).natAbs==1) by rw [List.all_eq_true.2 fun r o=>by rw [p.out r o];rfl];rfl);clear p E;go_wp2;go_ret;exact⟨⟨_,rfl,B.out⟩,v⟩
theorem zle(A:Option Addr)(n c:Nat)(L:List RawR)(l:List RowM)(k:Key)(w:World)(h:SlR w A n c L)(v:zF w L l)(B:∀r∈l,(factor r.fs k).natAbs<4294967296^E4)(E:n<1100000):Calls Tryz.prog 168 #[.slice A n c,.string ⟨k.toArray⟩] w fun e w'=>e= .returned (.bool (l.all fun r=>(factor r.fs k).natAbs==1))∧Pu w w':=by
 obtain⟨X,hXe⟩:∃X,X=w.alloc (.cells #[.string ⟨k.toArray⟩] 9):=⟨_,rfl⟩
 have p:Pu w X:=by rw [hXe];exact(Pu.refl w).alloc _
 have t:Blk X w.heap.size 9 #[.string ⟨k.toArray⟩]:=by rw [hXe];exact Blk.new _ _ _
 have C:=Qh (znI A n c L l k w.heap.size X (Sl.pu h p) (v.pu p) t B E);have i:Calls Tryz.prog 183 #[.slice A n c,.func (.func 184) #[] #[.pointer (some ⟨w.heap.size,0,none⟩)]] X fun e w'=>e= .returned (.bool (!(l.all fun r=>(factor r.fs k).natAbs==1)))∧Pu X w':=by generalize (l.all fun r=>(factor r.fs k).natAbs==1)=u at C⊢;clear h v B t hXe;go_enter Tryz.func183,Tryz.ntmps183;go_wp2_with fail;refine C.out.mono ?_;rintro e F ⟨⟨j,rfl,y⟩,o⟩;have H:decide (j≥0)=!u:=y;have I:=Qh y;clear y;go_wp2;go_ret;exact⟨by first|rfl|simp_all,o⟩
 have z:=Qh i;rw [hXe]at z;have D:=Qh hXe;generalize (l.all fun r=>(factor r.fs k).natAbs==1)=u at z⊢;clear i hXe C t h v B;go_enter Tryz.func168,Tryz.ntmps168;go_wp2_with fail;refine z.out.mono ?_;rintro e F ⟨rfl,o⟩;rw [←D.out]at o;have G:=p.trans o
 cases u
 all_goals
  go_wp2;go_ret;exact⟨rfl,G⟩
end
section
open Go.RowKit
section
variable{w w':World}{g:Nat}{s:ByteArray}{A0 A1 A2:Option Addr}{n0 c0 n1 c1 n2 c2:Nat}{x:Bool}
theorem Sl.ne_ch{k n c:Nat}{A:Option Addr}{o:List Value}(h:Sl w k A n c o)(G:2≤k)(E:Blk w g 222 #[.string s,.slice A0 n0 c0,.slice A1 n1 c1,.slice A2 n2 c2,.bool x]) (B:∀u0 u1,o[0]?=some u0→o[1]?=some u1→∀j,(#[Value.string s,.slice A0 n0 c0,.slice A1 n1 c1,.slice A2 n2 c2,.bool x])[j]?=some u0→(#[Value.string s,.slice A0 n0 c0,.slice A1 n1 c1,.slice A2 n2 c2,.bool x])[j+1]?≠some u1):0<n→∀b off,A=some ⟨b,off,none⟩→¬b=g:=by
 intro v b off C e;obtain⟨b',D,i,F,t⟩:=h.2.2 v;rw [C]at i;injection i with i;injection i with e1 e2;subst e1 e2 e;have z:1<o.length:=by rw [h.1];exact Nat.lt_of_lt_of_le (by omega:1<k) (Nat.le_mul_of_pos_left k v)
 have p:=t 0 _ (List.getElem?_eq_getElem (by omega));have y:=t 1 _ (List.getElem?_eq_getElem z);rw [E.cell]at p y;exact B _ _ (List.getElem?_eq_getElem (by omega)) (List.getElem?_eq_getElem z) (off+0) p y
theorem zqo{j:Nat}{u:Value}(h:(#[Value.string s,.slice A0 n0 c0,.slice A1 n1 c1,.slice A2 n2 c2,.bool x])[j]?=some u):(j=0∧u= .string s)∨(0<j∧j<4∧∃A n c,u= .slice A n c)∨(j=4∧u= .bool x):=by
 match j,h with
 |0,h=>exact .inl ⟨rfl,by simpa using h.symm⟩
 |1,h=>exact .inr (.inl ⟨by omega,by omega,A0,n0,c0,by simpa using h.symm⟩)
 |2,h=>exact .inr (.inl ⟨by omega,by omega,A1,n1,c1,by simpa using h.symm⟩)
 |3,h=>exact .inr (.inl ⟨by omega,by omega,A2,n2,c2,by simpa using h.symm⟩)
 |4,h=>exact .inr (.inr ⟨rfl,by simpa using h.symm⟩)
 |j+5,h=>simp at h
theorem TM.ch{v:Value}{rest:Int}{fs:List (Key×Int)}(h:TM w v rest fs)(t:Blk w g 222 #[.string s,.slice A0 n0 c0,.slice A1 n1 c1,.slice A2 n2 c2,.bool x])(o:Fr (fun k=>k=g) w w'):TM w' v rest fs:=by
 obtain⟨q,A,n,c,m,J,N,i⟩:=h;refine⟨q,A,n,c,m,J,N.frT o (zh t (by decide)),?_⟩;rcases i with i|⟨D,L,i,⟨F,M,I,z,B,K⟩,E⟩
 ·exact .inl i
 ·refine .inr ⟨D,L,i,⟨F,M,I,z.fr o (z.ne_ t (by decide)),B.fr o (B.ne_ch (by decide) t fun u0 u1 y C j G H=>?_),K⟩,E.frT o (zh t (by decide))⟩
  cases L with
  |nil=>simp [kps]at y
  |cons p L=>
   simp [kps]at y C;subst y C;rcases zqo G with⟨a,_⟩|⟨_,_,A,n,c,a⟩|⟨_,a⟩
   ·rcases zqo H with⟨b,_⟩|⟨_,_,A,n,c,b⟩|⟨b,_⟩
    ·omega
    ·cases b
    ·omega
   ·cases a
   ·cases a
theorem zF.ch{L:List RawR}{l:List RowM}(h:zF w L l)(t:Blk w g 222 #[.string s,.slice A0 n0 c0,.slice A1 n1 c1,.slice A2 n2 c2,.bool x])(p:Fr (fun k=>k=g) w w'):zF w' L l:=⟨h.1,fun i q r j o=>⟨(h.2 i q r j o).1,(h.2 i q r j o).2.ch t p⟩⟩
theorem SlR.ch{A:Option Addr}{n c:Nat}{L:List RawR}(h:SlR w A n c L)(z:Blk w g 222 #[.string s,.slice A0 n0 c0,.slice A1 n1 c1,.slice A2 n2 c2,.bool x])(t:Fr (fun k=>k=g) w w'):SlR w' A n c L:=by
 refine Sl.fr h t (Sl.ne_ch h (by decide) z fun u0 u1 i o j v y=>?_)
 cases L with
 |nil=>simp [cat]at i
 |cons p L=>
  simp [cat,RawR.cells]at i o;subst i o;rcases zqo v with⟨_,a⟩|⟨_,_,A,n,c,a⟩|⟨a,_⟩
  ·cases a
  ·cases a
  ·subst a;simp at y
end
structure ze3(w:World)(l:List RowM)(k:Key)(A0:Option Addr)(n0 c0:Nat)(A1:Option Addr)(n1 c1:Nat)(A2:Option Addr)(n2 c2:Nat)(x:Bool):Prop where
 lo:∃L,SlR w A0 n0 c0 L∧zF w L (zm k 0 l)
 up:∃L,SlR w A1 n1 c1 L∧zF w L (zm k 1 l)
 rest:∃L,SlR w A2 n2 c2 L∧zF w L (zm k 2 l)
 ex:x=zel k l
section
variable{w w':World}{l:List RowM}{k:Key}{A0:Option Addr}{n0 c0:Nat}{A1:Option Addr}{n1 c1:Nat}{A2:Option Addr}{n2 c2:Nat}{x:Bool}
theorem ze3.pu(h:ze3 w l k A0 n0 c0 A1 n1 c1 A2 n2 c2 x)(p:Pu w w'):ze3 w' l k A0 n0 c0 A1 n1 c1 A2 n2 c2 x:=by obtain⟨⟨C,B,o⟩,⟨y,z,v⟩,⟨t,j,i⟩,e⟩:=h;exact⟨⟨C,Sl.pu B p,o.pu p⟩,⟨y,Sl.pu z p,v.pu p⟩,⟨t,Sl.pu j p,i.pu p⟩,e⟩
theorem ze3.ch{g:Nat}{s:ByteArray}{v H K:Option Addr}{C N E J o B:Nat}{y:Bool}(h:ze3 w l k A0 n0 c0 A1 n1 c1 A2 n2 c2 x)(j:Blk w g 222 #[.string s,.slice v C N,.slice H E J,.slice K o B,.bool y])(i:Fr (fun k=>k=g) w w'):ze3 w' l k A0 n0 c0 A1 n1 c1 A2 n2 c2 x:=by obtain⟨⟨I,M,z⟩,⟨t,L,G⟩,⟨p,F,D⟩,e⟩:=h;exact⟨⟨I,M.ch j i,z.ch j i⟩,⟨t,L.ch j i,G.ch j i⟩,⟨p,F.ch j i,D.ch j i⟩,e⟩
theorem zaZ(k:Key)(s:Nat)(l:List RowM):(zm k s l).length≤l.length:=List.length_filter_le _ _
theorem ze3.few(h:ze3 w l k A0 n0 c0 A1 n1 c1 A2 n2 c2 x):n0=(zm k 0 l).length∧n1=(zm k 1 l).length∧n2=(zm k 2 l).length:=by obtain⟨⟨B,v,o⟩,⟨z,t,p⟩,⟨y,j,i⟩,e⟩:=h;exact⟨by rw [←SlR.len v,o.1],by rw [←SlR.len t,p.1],by rw [←SlR.len j,i.1]⟩
end
theorem zkG{a b:Nat}(j:a≤1100000)(i:b≤1100000):IntKind.i64.wrap ((a:Int)*(b:Int))=(a:Int)*(b:Int):=by have h:=Nat.mul_le_mul j i;have e:(a:Int)*(b:Int)=((a*b:Nat):Int):=(Int.natCast_mul a b).symm;rw [e];exact IntWalk.i64_in _ (by omega)
theorem zhQ(s t:ByteArray)(A0 A1 A2 p z C:Option Addr)(n0 c0 n1 c1 n2 c2 i D j B o v:Nat)(x y:Bool)(w:World)(E:n0≤1100000)(G:n1≤1100000)(I:i≤1100000)(H:j≤1100000):Calls Tryz.prog 169 #[.agg #[.string s,.slice A0 n0 c0,.slice A1 n1 c1,.slice A2 n2 c2,.bool x],.agg #[.string t,.slice p i D,.slice z j B,.slice C o v,.bool y]] w fun e w'=>(∃b,e= .returned (.bool b))∧Pu w w':=by
 have J:=zkG E G;have K:=zkG I H;have F:Pu w ((w.alloc (.cells #[.string s,.slice A0 n0 c0,.slice A1 n1 c1,.slice A2 n2 c2,.bool x] 222)).alloc (.cells #[.string t,.slice p i D,.slice z j B,.slice C o v,.bool y] 222)):=((Pu.refl w).alloc _).alloc _
 cases x<;>cases y
 all_goals
  go_enter Tryz.func169,Tryz.ntmps169;go_wp2;go_ret;exact⟨⟨_,rfl⟩,F⟩
theorem zhM{k:Key}:∀(fs:List (Key×Int)) (m:List (Key×Bool)),zx m→(k∈(zdq m fs).map (·.1)↔(∃f∈fs,f.1=k)∨k∈m.map (·.1))
 | [],m,_=>⟨fun h=> .inr h,fun h=>h.elim (fun⟨f,hf,_⟩=>by cases hf) id⟩
 |f::fs,m,hr=>by
  have o:=zhM (k:=k) fs (zau m f.1 true) (zN hr f.1 true);have p:k∈(zau m f.1 true).map (·.1)↔f.1=k∨k∈m.map (·.1):=by
   constructor
   ·intro h;obtain⟨q,i,e⟩:=List.mem_map.1 h;rcases zfn i with rfl|i
    ·exact .inl e
    ·exact .inr (List.mem_map.2 ⟨q,i,e⟩)
   ·rintro(h|h)
    ·exact List.mem_map.2 ⟨(f.1,true),(zv (zN hr f.1 true)).1 (by rw [zbu hr,if_pos rfl]),h⟩
    ·obtain⟨q,i,e⟩:=List.mem_map.1 h;by_cases c:q.1=f.1
     ·exact List.mem_map.2 ⟨(f.1,true),(zv (zN hr f.1 true)).1 (by rw [zbu hr,if_pos rfl]),c.symm.trans e⟩
     ·exact List.mem_map.2 ⟨q,(zv (v:=q.2) (zN hr f.1 true)).1 (by rw [zbu hr,if_neg c];exact(zv hr).2 i),e⟩
  show k∈(zdq (zau m f.1 true) fs).map (·.1)↔_;rw [o,p];constructor
  ·rintro(⟨g,j,e⟩|e|e)
   ·exact .inl ⟨g,List.mem_cons_of_mem _ j,e⟩
   ·exact .inl ⟨f,List.mem_cons_self ..,e⟩
   ·exact .inr e
  ·rintro(⟨g,j,e⟩|e)
   ·rcases List.mem_cons.1 j with rfl|j
    ·exact .inr (.inl e)
    ·exact .inl ⟨g,j,e⟩
   ·exact .inr (.inr e)
theorem zhr:∀(fs:List (Key×Int)) (m:List (Key×Bool)),zx m→zx (zdq m fs)
 | [],_,h=>h
 |f::fs,m,h=>zhr fs _ (zN h f.1 true)
theorem zgg{k:Key}:∀(l:List RowM) (m:List (Key×Bool)),zx m→zx (l.foldl (fun m r=>zdq m r.fs) m)∧(k∈(l.foldl (fun m r=>zdq m r.fs) m).map (·.1)↔(∃r∈l,∃f∈r.fs,f.1=k)∨k∈m.map (·.1))
 | [],m,h=>⟨h,fun h=> .inr h,fun h=>h.elim (fun⟨r,hr,_⟩=>by cases hr) id⟩
 |r::l,m,h=>by
  have j:=zgg (k:=k) l (zdq m r.fs) (zhr r.fs m h);refine⟨j.1,?_⟩;show k∈(l.foldl (fun m r=>zdq m r.fs) (zdq m r.fs)).map (·.1)↔_;rw [j.2,zhM r.fs m h];constructor
  ·rintro(⟨q,i,e⟩|e|e)
   ·exact .inl ⟨q,List.mem_cons_of_mem _ i,e⟩
   ·exact .inl ⟨r,List.mem_cons_self ..,e⟩
   ·exact .inr e
  ·rintro(⟨q,i,e⟩|e)
   ·rcases List.mem_cons.1 i with rfl|i
    ·exact .inr (.inl e)
    ·exact .inl ⟨q,i,e⟩
   ·exact .inr (.inr e)
theorem zeT{k:Key}{l:List RowM}:k∈zW l↔∃r∈l,∃f∈r.fs,f.1=k:=(zgg l [] List.Pairwise.nil).2.trans ⟨fun h=>h.elim id (fun h=>absurd h (by simp)),fun h=> .inl h⟩
theorem zlL(l:List RowM):(zW l).Pairwise (fun a b:Key=>a<b):=List.pairwise_map.2 (zgg (k:=[]) l [] List.Pairwise.nil).1
theorem zl5(A:Option Addr)(n c:Nat)(L:List RawR)(l:List RowM)(w:World)(h:SlR w A n c L)(hh:zF w L l)(hb:∀r∈l,∀k,(factor r.fs k).natAbs<4294967296^E4)(bJ:∀r∈l,r.fs.length≤100)(bM:zW l≠[])(hn:n≤2200):Calls Tryz.prog 143 #[.slice A n c] w fun e w'=>∃k A0 n0 c0 A1 n1 c1 A2 n2 c2 x,e= .returned (.agg #[.string ⟨k.toArray⟩,.slice A0 n0 c0,.slice A1 n1 c1,.slice A2 n2 c2,.bool x])∧k∈zW l∧ze3 w' l k A0 n0 c0 A1 n1 c1 A2 n2 c2 x∧Pu w w':=by
 obtain⟨W,hWe⟩:∃W,W=(w.alloc (.cells #[.string ByteArray.empty,.slice none 0 0,.slice none 0 0,.slice none 0 0,.bool false] 222)).alloc (.cells #[.string ByteArray.empty,.slice none 0 0,.slice none 0 0,.slice none 0 0,.bool false] 222):=⟨_,rfl⟩
 have pW:Pu w W:=by rw [hWe];exact((Pu.refl w).alloc _).alloc _
 have k2:Blk W w.heap.size 222 #[.string ByteArray.empty,.slice none 0 0,.slice none 0 0,.slice none 0 0,.bool false]:=by rw [hWe];exact(Blk.new w _ _).alloc _
 have k3:Blk W (w.heap.size+1) 222 #[.string ByteArray.empty,.slice none 0 0,.slice none 0 0,.slice none 0 0,.bool false]:=by rw [hWe];exact Blk.at_new _ _ _ (by simp)
 have bu:=Qh (show W.heap.size=w.heap.size+2 by rw [hWe];simp);have Hn:=Qh (zc1 A n c L l W (Sl.pu h pW) (hh.pu pW) bJ hn);rw [hWe]at Hn;have cq:=Qh hWe;have HL:=Qh (show L.length=n∧L.length=l.length from⟨h.len,hh.1⟩);have HB:=Qh (AI hb bM);clear hWe hb bM bJ;go_enter Tryz.func143,Tryz.ntmps143;go_wp2_with fail;refine Hn.out.mono ?_;rintro e W1 ⟨A8,n8,c8,rfl,aM,cJ,p1⟩;rw [←cq.out]at p1 aM;have bI:Sl W1 1 A8 n8 c8 (kts (zW l)):=Sl.of_own aM;have b8:=ziV aM;have co:(zW l).length=n8:=by have:=bI.1;simpa [kts]using this
 have j2:=k2.pu p1;have j3:=k3.pu p1;have PW:=pW.trans p1;have cI:w.heap.size+2≤W1.heap.size:=by have:=p1.size;have:=bu.out;omega
 have cc:=Qh (fun b off e=>show w.heap.size+2≤b by have:=b8 b off e;have:=bu.out;omega);clear Hn p1 k2 k3 aM b8;go_wp2_with fail
 go_loopw [10] (fun iv wr=>∃(i:Nat) (s:ByteArray) (F:Option Addr) (B J:Nat) (G:Option Addr) (z K:Nat) (H:Option Addr) (N I:Nat) (y:Bool),i≤n8∧iv= .int .i64 (i:Int)∧Blk wr (w.heap.size+1) 222 #[.string s,.slice F B J,.slice G z K,.slice H N I,.bool y]∧Hid (0<i→∃k,s=⟨k.toArray⟩∧k∈zW l∧ze3 wr l k F B J G z K H N I y)∧Fr (fun j=>j=w.heap.size+1) W1 wr) (fun iv _=>n8 - (intOf iv).toNat)
 case atStart=>exact⟨0,_,none,0,0,none,0,0,none,0,0,false,Nat.zero_le _,rfl,j3,Qh (fun h=>absurd h (by omega)),Fr.refl _ _⟩
 case round=>
  obtain⟨i,s,F,B,J,G,z,K,H,N,I,y,hi,rfl,l3,aj,hF⟩:=hrel;have a7:Pu w wr:=PW.step hF (fun j hj=>by have e':j=w.heap.size+1:=hj;omega);have l2:=j2.fr hF (by omega);by_cases cK:i<n8
  ·obtain⟨k,hk⟩:∃k,(zW l)[i]?=some k:=⟨_,List.getElem?_eq_getElem (by omega)⟩
   have bs:Sl wr 1 A8 n8 c8 (kts (zW l)):=bI.fr hF (fun _ b' off e hS=>by have e1:b'=w.heap.size+1:=hS;have e2:=cc.out b' off e;omega);obtain⟨bn,on,rfl,cs,cF,x0⟩:=zdR bs hk;have aw:=Qh (List.mem_of_getElem? hk);obtain⟨X,hXe⟩:∃X,X=wr.alloc (.cells #[.string ⟨k.toArray⟩,.slice none 0 0,.slice none 0 0,.slice none 0 0,.bool false] 222):=⟨_,rfl⟩
   have pX:Pu wr X:=by rw [hXe];exact(Pu.refl wr).alloc _
   have k6:Blk X wr.heap.size 222 #[.string ⟨k.toArray⟩,.slice none 0 0,.slice none 0 0,.slice none 0 0,.bool false]:=by rw [hXe];exact Blk.new _ _ _
   have Hs:=Qh (zmI A n c 0 L l k X (Sl.pu h (a7.trans pX)) (hh.pu (a7.trans pX)) (fun r hr=>HB.out.1 r hr k) (by omega));rw [hXe]at Hs;have ci:=Qh hXe;have cP:IntKind.i64.wrap ((i:Int)+1)=(i:Int)+1:=IntWalk.i64_in _ (by omega);have cC:=hF.size;have c9:=l3.lt;clear hXe hk bs cs;go_wp2_with fail;refine Hs.out.mono ?_;rintro e U ⟨A0,n0,c0,A1,n1,c1,A2,n2,c2,L0,L1,L2,rfl,M⟩;rw [←ci.out]at M;have u6:=k6.pu M.pu;have u3:=l3.pu (pX.trans M.pu);have u2:=l2.pu (pX.trans M.pu);have f1:=u6.frozen 1;have e1:=u6.cell 1;have f2:=(u6.set_ 1 (.slice A0 n0 c0)).frozen 2;have e2:=(u6.set_ 1 (.slice A0 n0 c0)).cell 2;have f3:=((u6.set_ 1 (.slice A0 n0 c0)).set_ 2 (.slice A1 n1 c1)).frozen 3;have e3:=((u6.set_ 1 (.slice A0 n0 c0)).set_ 2 (.slice A1 n1 c1)).cell 3;obtain⟨V,hVe⟩:∃V,V=((U.setCell ⟨wr.heap.size,1,none⟩ (.slice A0 n0 c0)).setCell ⟨wr.heap.size,2,none⟩ (.slice A1 n1 c1)).setCell ⟨wr.heap.size,3,none⟩ (.slice A2 n2 c2):=⟨_,rfl⟩
   have v6:Blk V wr.heap.size 222 #[.string ⟨k.toArray⟩,.slice A0 n0 c0,.slice A1 n1 c1,.slice A2 n2 c2,.bool false]:=by rw [hVe];exact((u6.set_ 1 _).set_ 2 _).set_ 3 _
   have fV:Fr (fun j=>j=wr.heap.size) U V:=by rw [hVe];exact((Fr.one U wr.heap.size 1 _).trans (Fr.one _ wr.heap.size 2 _)).trans (Fr.one _ wr.heap.size 3 _)
   have aL:¬w.heap.size+1=wr.heap.size:=by omega
   have aG:¬w.heap.size=wr.heap.size:=by omega
   have v3:=u3.fr fV aL;have v2:=u2.fr fV aG;have aO:SlR V A0 n0 c0 L0:=SlR.ch (Sl.of_own M.o0.own) u6 fV;have aN:SlR V A1 n1 c1 L1:=SlR.ch (Sl.of_own M.o1.own) u6 fV;have bQ:SlR V A2 n2 c2 L2:=SlR.ch (Sl.of_own M.o2.own) u6 fV;have h0:=(M.o0.hold.pu M.pu).ch u6 fV;have h1:=(M.o1.hold.pu M.pu).ch u6 fV;have h2:=(M.o2.hold.pu M.pu).ch u6 fV;have cE:n0≤2200:=by have e1:=SlR.len aO;have e2:=h0.1;have e3:=zaZ k 0 l;have:=HL.out;omega
   have cL:n1≤2200:=by have e1:=SlR.len aN;have e2:=h1.1;have e3:=zaZ k 1 l;have:=HL.out;omega
   have bH:=Qh (fun V' (p:Pu V V')=>zle A0 n0 c0 L0 (zm k 0 l) k V' (Sl.pu aO p) (h0.pu p) (fun r hr=>HB.out.1 r (List.mem_filter.1 hr).1 k) (by omega));have bN:=Qh (fun V' (p:Pu V V')=>zle A1 n1 c1 L1 (zm k 1 l) k V' (Sl.pu aN p) (h1.pu p) (fun r hr=>HB.out.1 r (List.mem_filter.1 hr).1 k) (by omega));have bO:=Qh (show∀V',Pu V V'→∀x,x=zel k l→ze3 V' l k A0 n0 c0 A1 n1 c1 A2 n2 c2 x from fun V' p x hx=>⟨⟨L0,Sl.pu aO p,h0.pu p⟩,⟨L1,Sl.pu aN p,h1.pu p⟩,⟨L2,Sl.pu bQ p,h2.pu p⟩,hx⟩);have aA:Hid (0<i→∃k,s=⟨k.toArray⟩∧k∈zW l∧ze3 V l k F B J G z K H N I y):=Qh fun h0=>by obtain⟨o,e1,e2,e3⟩:=aj.out h0;exact⟨o,e1,e2,(e3.pu (pX.trans M.pu)).ch u6 fV⟩
   have bP:Fr (fun j=>j=w.heap.size+1) W1 V:=(hF.trans (pX.trans M.pu).fr).step fV (fun j hj=> .inr (by have e':j=wr.heap.size:=hj;omega));have bo:=v6.cell 1;have bt:=v6.cell 2;have aq:zel k l=((zm k 0 l).all (fun r=>(factor r.fs k).natAbs==1)|| (zm k 1 l).all (fun r=>(factor r.fs k).natAbs==1)):=rfl;obtain⟨x1,hx1⟩:∃x1,(zm k 0 l).all (fun r=>(factor r.fs k).natAbs==1)=x1:=⟨_,rfl⟩
   obtain⟨Q,hx2⟩:∃Q,(zm k 1 l).all (fun r=>(factor r.fs k).natAbs==1)=Q:=⟨_,rfl⟩
   rw [hx1,hx2]at aq;rw [hx1]at bH;rw [hx2]at bN;have a9:=Qh aq;have bL:=Qh hVe;rw [hVe]at bo bt;have cz:=Qh (show∀V',Pu V V'→V'.cell? ⟨wr.heap.size,2,none⟩=some (.slice A1 n1 c1)from fun V' p=>(v6.pu p).cell 2);clear aq hx1 hx2 hVe aO aN bQ h0 h1 h2 M u6 u3 u2 aj hF pX k6 l3 l2 a7 fV;have bf:=Qh (bH.out V (Pu.refl V));rw [bL.out]at bf;go_wp2_with fail;refine bf.out.mono ?_;rintro e Y ⟨rfl,pY⟩;rw [←bL.out]at pY
   cases x1 with
   |true=>
    have pz:=pY;obtain⟨Z,hZ⟩:∃Z,Z=Y:=⟨_,rfl⟩
    subst hZ;have z6:=v6.pu pz;have z3:=v3.pu pz;have z2:=v2.pu pz;have f4:=z6.frozen 4;have e4:=z6.cell 4;obtain⟨T,hTe⟩:∃T,T=Z.setCell ⟨wr.heap.size,4,none⟩ (.bool true):=⟨_,rfl⟩
    have t6:Blk T wr.heap.size 222 #[.string ⟨k.toArray⟩,.slice A0 n0 c0,.slice A1 n1 c1,.slice A2 n2 c2,.bool true]:=by rw [hTe];exact z6.set_ 4 _
    have fT:Fr (fun j=>j=wr.heap.size) Z T:=by rw [hTe];exact Fr.one Z wr.heap.size 4 _
    have E:=z3.fr fT aL;have t2:=z2.fr fT aG;have t:ze3 T l k A0 n0 c0 A1 n1 c1 A2 n2 c2 true:=(bO.out Z pz true (by rw [a9.out];simp)).ch z6 fT;have ak:Hid (0<i→∃k,s=⟨k.toArray⟩∧k∈zW l∧ze3 T l k F B J G z K H N I y):=Qh fun h0=>by obtain⟨o,e1,e2,e3⟩:=aA.out h0;exact⟨o,e1,e2,(e3.pu pz).ch z6 fT⟩
    have D:Fr (fun j=>j=w.heap.size+1) W1 T:=(bP.trans pz.fr).step fT (fun j hj=> .inr (by have e':j=wr.heap.size:=hj;omega));obtain⟨a0,a1,a2,a3,a4⟩:=t6.c5_;obtain⟨b0,b1,b2,b3,b4⟩:=E.c5_;obtain⟨g0,g1,g2,g3,g4⟩:=E.z5_;rw [hTe]at a0 a1 a2 a3 a4 b0 b1 b2 b3 b4 g0 g1 g2 g3 g4;have aa:=Qh hTe;clear hTe z6 z3 z2 fT v6 v3 v2 bo bt;by_cases bk:i=0
    ·subst bk;have kR:=Qh (((((E.set_ 0 (.string ⟨k.toArray⟩)).set_ 1 (.slice A0 n0 c0)).set_ 2 (.slice A1 n1 c1)).set_ 3 (.slice A2 n2 c2)).set_ 4 (.bool true));have C:=Qh ((((Fr.one T (w.heap.size+1) 0 (.string ⟨k.toArray⟩)).trans (Fr.one _ (w.heap.size+1) 1 (.slice A0 n0 c0))).trans (Fr.one _ (w.heap.size+1) 2 (.slice A1 n1 c1))).trans (Fr.one _ (w.heap.size+1) 3 (.slice A2 n2 c2))|>.trans (Fr.one _ (w.heap.size+1) 4 (.bool true)));rw [aa.out]at kR C;have hN:=Qh (show∀T',Fr (fun j=>j=w.heap.size+1) T T'→(0<0+1→∃o,(⟨k.toArray⟩:ByteArray)=⟨o.toArray⟩∧o∈zW l∧ze3 T' l o A0 n0 c0 A1 n1 c1 A2 n2 c2 true)from fun T' f _=>⟨k,rfl,aw.out,t.ch E f⟩);have HF:=Qh D;rw [aa.out]at HF hN;clear t E t2 D t6 ak;go_wp2;go_roundw
     case rel=>exact⟨0+1,_,A0,n0,c0,A1,n1,c1,A2,n2,c2,true,by omega,by go_num,kR.out,Qh (hN.out _ C.out),HF.out.trans C.out⟩
     case measure=>simp [intOf];omega
    ·have bg:0<i:=by omega
     have cf:((i:Int)==0)=false:=by simp;omega
     obtain⟨kb,rfl,bj,ae⟩:=ak.out bg;have hm:=ae.few;have bh:=zaZ kb 0 l;have bi:=zaZ kb 1 l;have au:B≤1100000:=by have:=HL.out;omega
     have av:z≤1100000:=by have:=HL.out;omega
     have aB:=Qh (zhQ ⟨k.toArray⟩ ⟨kb.toArray⟩ A0 A1 A2 F G H n0 c0 n1 c1 n2 c2 B J z K N I true y T (by omega) (by omega) au av);rw [aa.out]at aB;clear hm bh bi au av ak;go_wp2_with fail;refine aB.out.mono ?_;rintro e T1 ⟨⟨bb,rfl⟩,q1⟩;rw [←aa.out]at q1;have s6:=t6.pu q1;have P:=E.pu q1;have S:=t.pu q1;have O:=ae.pu q1;have ad:=D.trans q1.fr;obtain⟨a0,a1,a2,a3,a4⟩:=s6.c5_;obtain⟨b0,b1,b2,b3,b4⟩:=P.c5_;obtain⟨g0,g1,g2,g3,g4⟩:=P.z5_
     cases bb with
     |true=>
      have kR:=Qh (((((P.set_ 0 (.string ⟨k.toArray⟩)).set_ 1 (.slice A0 n0 c0)).set_ 2 (.slice A1 n1 c1)).set_ 3 (.slice A2 n2 c2)).set_ 4 (.bool true));have C:=Qh ((((Fr.one T1 (w.heap.size+1) 0 (.string ⟨k.toArray⟩)).trans (Fr.one _ (w.heap.size+1) 1 (.slice A0 n0 c0))).trans (Fr.one _ (w.heap.size+1) 2 (.slice A1 n1 c1))).trans (Fr.one _ (w.heap.size+1) 3 (.slice A2 n2 c2))|>.trans (Fr.one _ (w.heap.size+1) 4 (.bool true)));have hN:=Qh (show∀T',Fr (fun j=>j=w.heap.size+1) T1 T'→(0<i+1→∃o,(⟨k.toArray⟩:ByteArray)=⟨o.toArray⟩∧o∈zW l∧ze3 T' l o A0 n0 c0 A1 n1 c1 A2 n2 c2 true)from fun T' f _=>⟨k,rfl,aw.out,S.ch P f⟩);have HF:=Qh ad;clear t S O ae P E t2 D ad t6 s6;go_wp2;go_roundw
      case rel=>exact⟨i+1,_,A0,n0,c0,A1,n1,c1,A2,n2,c2,true,by omega,by go_num,kR.out,Qh (hN.out _ C.out),HF.out.trans C.out⟩
      case measure=>simp [intOf];omega
     |false=>
      have HK:=Qh P;have HN:Hid (0<i+1→∃o,(⟨kb.toArray⟩:ByteArray)=⟨o.toArray⟩∧o∈zW l∧ze3 T1 l o F B J G z K H N I y):=Qh fun _=>⟨kb,rfl,bj,O⟩
      have HF:=Qh ad;clear t S O ae P E t2 D ad t6 s6;go_wp2;go_roundw
      case rel=>exact⟨i+1,_,F,B,J,G,z,K,H,N,I,y,by omega,by go_num,HK.out,HN,HF.out⟩
      case measure=>simp [intOf];omega
   |false=>
    have cN:=cz.out Y pY;go_wp2_with fail;refine(bN.out Y pY).mono ?_;rintro e Z ⟨rfl,pZ⟩;have pz:=pY.trans pZ;have z6:=v6.pu pz;have z3:=v3.pu pz;have z2:=v2.pu pz;have f4:=z6.frozen 4;have e4:=z6.cell 4;obtain⟨T,hTe⟩:∃T,T=Z.setCell ⟨wr.heap.size,4,none⟩ (.bool Q):=⟨_,rfl⟩
    have t6:Blk T wr.heap.size 222 #[.string ⟨k.toArray⟩,.slice A0 n0 c0,.slice A1 n1 c1,.slice A2 n2 c2,.bool Q]:=by rw [hTe];exact z6.set_ 4 _
    have fT:Fr (fun j=>j=wr.heap.size) Z T:=by rw [hTe];exact Fr.one Z wr.heap.size 4 _
    have E:=z3.fr fT aL;have t2:=z2.fr fT aG;have t:ze3 T l k A0 n0 c0 A1 n1 c1 A2 n2 c2 Q:=(bO.out Z pz Q (by rw [a9.out];simp)).ch z6 fT;have ak:Hid (0<i→∃k,s=⟨k.toArray⟩∧k∈zW l∧ze3 T l k F B J G z K H N I y):=Qh fun h0=>by obtain⟨o,e1,e2,e3⟩:=aA.out h0;exact⟨o,e1,e2,(e3.pu pz).ch z6 fT⟩
    have D:Fr (fun j=>j=w.heap.size+1) W1 T:=(bP.trans pz.fr).step fT (fun j hj=> .inr (by have e':j=wr.heap.size:=hj;omega));obtain⟨a0,a1,a2,a3,a4⟩:=t6.c5_;obtain⟨b0,b1,b2,b3,b4⟩:=E.c5_;obtain⟨g0,g1,g2,g3,g4⟩:=E.z5_;rw [hTe]at a0 a1 a2 a3 a4 b0 b1 b2 b3 b4 g0 g1 g2 g3 g4;have aa:=Qh hTe;clear hTe z6 z3 z2 fT v6 v3 v2 bo bt;by_cases bk:i=0
    ·subst bk;have kR:=Qh (((((E.set_ 0 (.string ⟨k.toArray⟩)).set_ 1 (.slice A0 n0 c0)).set_ 2 (.slice A1 n1 c1)).set_ 3 (.slice A2 n2 c2)).set_ 4 (.bool Q));have C:=Qh ((((Fr.one T (w.heap.size+1) 0 (.string ⟨k.toArray⟩)).trans (Fr.one _ (w.heap.size+1) 1 (.slice A0 n0 c0))).trans (Fr.one _ (w.heap.size+1) 2 (.slice A1 n1 c1))).trans (Fr.one _ (w.heap.size+1) 3 (.slice A2 n2 c2))|>.trans (Fr.one _ (w.heap.size+1) 4 (.bool Q)));rw [aa.out]at kR C;have hN:=Qh (show∀T',Fr (fun j=>j=w.heap.size+1) T T'→(0<0+1→∃o,(⟨k.toArray⟩:ByteArray)=⟨o.toArray⟩∧o∈zW l∧ze3 T' l o A0 n0 c0 A1 n1 c1 A2 n2 c2 Q)from fun T' f _=>⟨k,rfl,aw.out,t.ch E f⟩);have HF:=Qh D;rw [aa.out]at HF hN;clear t E t2 D t6 ak;go_wp2;go_roundw
     case rel=>exact⟨0+1,_,A0,n0,c0,A1,n1,c1,A2,n2,c2,Q,by omega,by go_num,kR.out,Qh (hN.out _ C.out),HF.out.trans C.out⟩
     case measure=>simp [intOf];omega
    ·have bg:0<i:=by omega
     have cf:((i:Int)==0)=false:=by simp;omega
     obtain⟨kb,rfl,bj,ae⟩:=ak.out bg;have hm:=ae.few;have bh:=zaZ kb 0 l;have bi:=zaZ kb 1 l;have au:B≤1100000:=by have:=HL.out;omega
     have av:z≤1100000:=by have:=HL.out;omega
     have aB:=Qh (zhQ ⟨k.toArray⟩ ⟨kb.toArray⟩ A0 A1 A2 F G H n0 c0 n1 c1 n2 c2 B J z K N I Q y T (by omega) (by omega) au av);rw [aa.out]at aB;clear hm bh bi au av ak;go_wp2_with fail;refine aB.out.mono ?_;rintro e T1 ⟨⟨bb,rfl⟩,q1⟩;rw [←aa.out]at q1;have s6:=t6.pu q1;have P:=E.pu q1;have S:=t.pu q1;have O:=ae.pu q1;have ad:=D.trans q1.fr;obtain⟨a0,a1,a2,a3,a4⟩:=s6.c5_;obtain⟨b0,b1,b2,b3,b4⟩:=P.c5_;obtain⟨g0,g1,g2,g3,g4⟩:=P.z5_
     cases bb with
     |true=>
      have kR:=Qh (((((P.set_ 0 (.string ⟨k.toArray⟩)).set_ 1 (.slice A0 n0 c0)).set_ 2 (.slice A1 n1 c1)).set_ 3 (.slice A2 n2 c2)).set_ 4 (.bool Q));have C:=Qh ((((Fr.one T1 (w.heap.size+1) 0 (.string ⟨k.toArray⟩)).trans (Fr.one _ (w.heap.size+1) 1 (.slice A0 n0 c0))).trans (Fr.one _ (w.heap.size+1) 2 (.slice A1 n1 c1))).trans (Fr.one _ (w.heap.size+1) 3 (.slice A2 n2 c2))|>.trans (Fr.one _ (w.heap.size+1) 4 (.bool Q)));have hN:=Qh (show∀T',Fr (fun j=>j=w.heap.size+1) T1 T'→(0<i+1→∃o,(⟨k.toArray⟩:ByteArray)=⟨o.toArray⟩∧o∈zW l∧ze3 T' l o A0 n0 c0 A1 n1 c1 A2 n2 c2 Q)from fun T' f _=>⟨k,rfl,aw.out,S.ch P f⟩);have HF:=Qh ad;clear t S O ae P E t2 D ad t6 s6;go_wp2;go_roundw
      case rel=>exact⟨i+1,_,A0,n0,c0,A1,n1,c1,A2,n2,c2,Q,by omega,by go_num,kR.out,Qh (hN.out _ C.out),HF.out.trans C.out⟩
      case measure=>simp [intOf];omega
     |false=>
      have HK:=Qh P;have HN:Hid (0<i+1→∃o,(⟨kb.toArray⟩:ByteArray)=⟨o.toArray⟩∧o∈zW l∧ze3 T1 l o F B J G z K H N I y):=Qh fun _=>⟨kb,rfl,bj,O⟩
      have HF:=Qh ad;clear t S O ae P E t2 D ad t6 s6;go_wp2;go_roundw
      case rel=>exact⟨i+1,_,F,B,J,G,z,K,H,N,I,y,by omega,by go_num,HK.out,HN,HF.out⟩
      case measure=>simp [intOf];omega
  ·obtain rfl:i=n8:=by omega
   have bW:0<i:=by rw [←co];exact List.length_pos_iff.2 HB.out.2
   obtain⟨k,rfl,aw,hc⟩:=aj.out bW;obtain⟨a0,a1,a2,a3,a4⟩:=l3.c5_;obtain⟨cG,cM,cO,cH,cD⟩:=l2.c5_;obtain⟨g0,g1,g2,g3,g4⟩:=l2.z5_;obtain⟨R,hR⟩:∃R,R=((((wr.setCell ⟨w.heap.size,0,none⟩ (.string ⟨k.toArray⟩)).setCell ⟨w.heap.size,1,none⟩ (.slice F B J)).setCell ⟨w.heap.size,2,none⟩ (.slice G z K)).setCell ⟨w.heap.size,3,none⟩ (.slice H N I)).setCell ⟨w.heap.size,4,none⟩ (.bool y):=⟨_,rfl⟩
   have kR:Blk R w.heap.size 222 #[.string ⟨k.toArray⟩,.slice F B J,.slice G z K,.slice H N I,.bool y]:=by rw [hR];exact((((l2.set_ 0 _).set_ 1 _).set_ 2 _).set_ 3 _).set_ 4 _
   have C:Fr (fun j=>j=w.heap.size) wr R:=by rw [hR];exact((((Fr.one wr w.heap.size 0 _).trans (Fr.one _ w.heap.size 1 _)).trans (Fr.one _ w.heap.size 2 _)).trans (Fr.one _ w.heap.size 3 _)).trans (Fr.one _ w.heap.size 4 _)
   have bw:=hc.ch l2 C;have hP:=a7.step C (fun j hj=>by have e':j=w.heap.size:=hj;omega);obtain⟨r0,r1,r2,r3,r4⟩:=kR.c5_;rw [hR]at r0 r1 r2 r3 r4 bw hP;have HP:=Qh (AI aw (AI bw hP));clear hR hc bw hP C kR l3 l2 aj hF a7 aw;go_wp2;exact bodyPost_ret (v:= .agg #[.string ⟨k.toArray⟩,.slice F B J,.slice G z K,.slice H N I,.bool y]) (by simp [results,Tryz.results143,go_sem,r0,r1,r2,r3,r4]) rfl ⟨k,F,B,J,G,z,K,H,N,I,y,rfl,HP.out.1,HP.out.2.1,HP.out.2.2⟩
end
section
open Go.RowKit
def zjs(ms:List (Key×Int))(ns:List Key):List (Key×Int):=ns.map fun k=>(k,factor ms k)
section
variable{ms:List (Key×Int)}{ns:List Key}{k:Key}
end
def zdi(l:LineM):Bool:=decide (l.ps.length≤4)&&decide (-1000≤l.rest)&&decide (l.rest≤1000)&&l.ps.all fun p=>decide (-9≤p.2)&&decide (p.2≤9)
theorem zgt{l:LineM}(h:zdi l=true):l.ps.length≤4∧l.rest.natAbs≤1000∧∀p∈l.ps,p.2.natAbs≤9:=by unfold zdi at h;simp only [Bool.and_eq_true,decide_eq_true_eq,List.all_eq_true]at h;exact⟨h.1.1.1,by omega,fun p i=>by have:=h.2 p i;omega⟩
theorem znm{l:LineM}(h:zdi l=true)(c:Key):(factor (zh9 l.ps) c).natAbs≤36:=by obtain⟨o,-,j⟩:=zgt h;have i:=zjY (M:=9) l.ps.length (Nat.le_refl _) (fun p hp=>j p (by simpa using hp));rw [List.take_of_length_le (Nat.le_refl _)]at i;have t:=i.factor c;omega
def zp8(ls:List LineM):List Key:=ls.flatMap fun l=>l.ps.map (·.1)
def zeI(ls:List LineM):List Key:=zp8 ls++(List.range 30).map zbl
theorem zn1:∀(ls:List LineM),(∀l∈ls,zdi l=true)→(zp8 ls).length≤4*ls.length
 | [],_=>Nat.le_refl _
 |l::ls,h=>by have j:=zn1 ls fun q hq=>h q (List.mem_cons_of_mem _ hq);have i:=(zgt (h l (List.mem_cons_self ..))).1;have e:zp8 (l::ls)=l.ps.map (·.1)++zp8 ls:=rfl;rw [e,List.length_append,List.length_map,List.length_cons];omega
section
variable{ls:List LineM}
theorem zh6(h:∀l∈ls,zei l=true):∀k∈zp8 ls,k.length≤40∧zdN k=true:=fun k i=>by obtain⟨l,j,i⟩:=List.mem_flatMap.1 i;obtain⟨p,o,rfl⟩:=List.mem_map.1 i;exact(zoh ((zqb (h l j)).2.2 p o)).2
theorem zo6(v:ls.length≤6)(o:∀l∈ls,zei l=true)(t:∀l∈ls,zdi l=true):zfo (zeI ls) where
 few:=by unfold zeI;rw [List.length_append,List.length_map,List.length_range];have:=zn1 ls t;omega
 short:=fun k j=>by
  rcases List.mem_append.1 j with j|j
  ·have:=(zh6 o k j).1;omega
  ·obtain⟨i,_,rfl⟩:=List.mem_map.1 j;rw [zd5];omega
 plain:=fun k j=>by
  rcases List.mem_append.1 j with j|j
  ·exact zkh (zh6 o k j).2
  ·obtain⟨i,p,rfl⟩:=List.mem_map.1 j;have:=List.mem_range.1 p;exact zjj (by omega)
theorem zqf(ls:List LineM):zgx (zeI ls) (ls.map zbU) where
 rise:=fun r i=>by obtain⟨l,o,rfl⟩:=List.mem_map.1 i;exact zgm _
 nz:=fun r i=>by obtain⟨l,o,rfl⟩:=List.mem_map.1 i;exact zq3 _
 nm:=fun r i c t=>by
  obtain⟨l,o,rfl⟩:=List.mem_map.1 i;by_cases h:∃f∈zh9 l.ps,f.1=c
  ·obtain⟨f,j,rfl⟩:=h;obtain⟨p,v,e⟩:=ziw _ f j;exact List.mem_append.2 (.inl (List.mem_flatMap.2 ⟨l,o,List.mem_map.2 ⟨p,v,e.symm⟩⟩))
  ·exact absurd (zI (zgm _) fun f j e=>h ⟨f,j,e⟩) t
theorem zfZ(v:ls.length≤6)(p:∀l∈ls,zdi l=true){k:List RowM}(o:∀r∈k,r∈ls.map zbU)(i:k.length≤12){f:Nat}(t:f≤2000):Fit (zeI ls) f k:=
 zgE (X:=ls.map zbU) ((zqf ls).sub fun r j=>⟨r,o r j,rfl⟩) o (by rw [List.length_map];exact v)
  (fun r j c=>by obtain⟨l,i,rfl⟩:=List.mem_map.1 (o r j);exact Nat.le_trans (znm (p l i) c) (by decide))
  (fun r j=>by obtain⟨l,i,rfl⟩:=List.mem_map.1 (o r j);exact Nat.le_trans (zgt (p l i)).2.1 (by decide)) i t
theorem zpK(C:∀l∈ls,zei l=true)(t:∀l∈ls,zdi l=true):Ren (zeI ls) (ls.map zbU) 0 (ls.map zbU) where
 sys:=zqf ls
 abs:=fun r o c=>by obtain⟨l,i,rfl⟩:=List.mem_map.1 o;exact Nat.le_trans (znm (t l i) c) (by decide)
 rest:=fun r o=>by obtain⟨l,i,rfl⟩:=List.mem_map.1 o;exact Nat.le_trans (zgt (t l i)).2.1 (by decide)
 some:=Iff.rfl
 fresh:=fun r o j _ D=>by obtain⟨l,i,rfl⟩:=List.mem_map.1 o;refine zI (zgm _) fun f v e=>?_;obtain⟨p,z,B⟩:=ziw _ f v;have y:=(zoh ((zqb (C l i)).2.2 p z)).2.1;rw [←B,e,zd5]at y;omega
 len:=rfl
theorem Ren.fit{NM:List Key}{o l:List RowM}{i f:Nat}(h:Ren NM o i l)(v:i≤40)(t:o.length≤6)(p:f≤2000):Fit NM f l:=zgE (X:=l) h.sys (fun r j=>j) (by rw [h.len];exact t) (fun r j c=>Nat.le_trans (h.abs r j c) (zbV (by omega))) h.rest (by rw [h.len];omega) p
theorem zlr{k:Key}(h:k∈zW (ls.map zbU)):k∈zp8 ls:=by obtain⟨r,t,f,i,rfl⟩:=zeT.1 h;obtain⟨l,j,rfl⟩:=List.mem_map.1 t;obtain⟨p,o,e⟩:=ziw _ f i;exact List.mem_flatMap.2 ⟨l,j,List.mem_map.2 ⟨p,o,e.symm⟩⟩
theorem ziP(p:ls.length≤6)(o:∀l∈ls,zdi l=true):(zW (ls.map zbU)).length≤24:=by
 have i:=zc7 (zp8 ls) ((zW (ls.map zbU)).map fun k=>(k,(0:Int))) (List.pairwise_map.2 (zlL _)) fun f hf=>by obtain⟨k,j,rfl⟩:=List.mem_map.1 hf;exact zlr j
 rw [List.length_map]at i;have:=zn1 ls o;omega
end
theorem zod{l k:List RowM}(i:∀r∈l,r∈k)(j:∀r∈k,r∈l):za4 l↔za4 k:=⟨fun⟨v,h⟩=>⟨v,fun r hr=>h r (j r hr)⟩,fun⟨v,h⟩=>⟨v,fun r hr=>h r (i r hr)⟩⟩
def omA:List RowM:=[⟨-1,[([120],2),([121],-2)],true⟩]
def ziI:RowM:=⟨3,[([120],-2)],false⟩
def zj0:RowM:=⟨-5,[([120],2)],false⟩
def omX:List (Key×Int):=[([120],1)]
theorem zoZ:zjM 100 omA:=by
 refine zjM.bad ?_;have e:zP ⟨-1,[([120],2),([121],-2)],true⟩= .bad:=by kernel_rfl
 show((zb0 (true,[]) (zP ⟨-1,[([120],2),([121],-2)],true⟩)).1&&zcH (zb0 (true,[]) (zP ⟨-1,[([120],2),([121],-2)],true⟩)).2)=false;rw [e];rfl
theorem zrQ:zP ziI= .lo omX 2:=by kernel_rfl
theorem zry:zP zj0= .up omX (-2):=by kernel_rfl
theorem ziR:zi [ziI,zj0]=(true,zau [] (zy 0 omX) ⟨omX,some (-2),some 2,none⟩):=by
 have j:zi [ziI]=(true,zau [] (zy 0 omX) ⟨omX,none,some 2,none⟩):=by show zb0 (true,[]) (zP ziI)=_;rw [zrQ];rfl
 have h:zi [ziI,zj0]=zb0 (zi [ziI]) (zP zj0):=rfl;have i:zx ([]:List (Key×Pr)):=List.Pairwise.nil;rw [h,j,zry];unfold zb0 zz;dsimp only;rw [zbu i,if_pos rfl,zi5 i];rfl
theorem zrA:((zi [ziI,zj0]).1&&zcH (zi [ziI,zj0]).2)=true:=by rw [ziR];rfl
theorem zpE:zO (zi [ziI,zj0]).2= [⟨-2,omX,true⟩]:=by rw [ziR];rfl
theorem zpi:zjM 100 [ziI,zj0]:=by
 refine zjM.one zrA zpE rfl fun k o=>?_;have e:k= [120]:=by refine Classical.byContradiction fun h=>o (zI (zbf ..) fun f hf e=>h ?_);rw [List.mem_singleton.1 hf]at e;exact e.symm
 subst e;have j: [(⟨-2,omX,true⟩:RowM)].map (zeR [120] (zaR [120] ⟨-2,omX,true⟩) (zai [120] ⟨-2,omX,true⟩))= [⟨0,[],true⟩]:=by kernel_rfl
 rw [j];have i:zi [(⟨0,[],true⟩:RowM)]=(true,[]):=by kernel_rfl
 exact zjM.none (by rw [i];rfl) (by rw [i];rfl)
theorem zoL:za4 [ziI,zj0]:=⟨fun _=>2,fun r hr=>by
 rcases List.mem_cons.1 hr with rfl|hr
 ·exact⟨fun h=>(by cases h),fun _=>by decide⟩
 ·rw [List.mem_singleton.1 hr];exact⟨fun h=>(by cases h),fun _=>by decide⟩⟩
theorem zqT{v:Key→Int}(h:zR v [ziI,zj0]):v [120]=2:=by have i:3+(-2*v [120]+0)≤0:=(h ziI (List.mem_cons_self ..)).2 rfl;have j: -5+(2*v [120]+0)≤0:=(h zj0 (List.mem_cons_of_mem _ (List.mem_cons_self ..))).2 rfl;omega
theorem zoe:zW [ziI,zj0]= [[120]]:=by kernel_rfl
end
end Go.Proofs.YtckfnbckoclhpaaGreatDoor

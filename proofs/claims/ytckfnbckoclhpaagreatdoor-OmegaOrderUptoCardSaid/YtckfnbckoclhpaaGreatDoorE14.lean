/- Terms. -/
import Derived.Test.YtckfnbckoclhpaaGreatDoorE13
import Derived.Deep.RegionHeld3
import Derived.Test.YtckfnbckoclhpaaGreatDoorC01
import Derived.Test.YtckfnbckoclhpaaGreatDoorE08
import Derived.Test.YtckfnbckoclhpaaGreatDoorC02
namespace Go.Proofs.YtckfnbckoclhpaaGreatDoor
set_option linter.unusedVariables false
set_option linter.unusedSimpArgs false
set_option maxRecDepth 100000
set_option maxHeartbeats 1600000
section
open Go.RowKit
theorem zco(v:Value)(rest:Int)(fs:List (Key×Int))(w:World)(h:TM w v rest fs):Calls Tryz.prog 68 #[v] w fun e w'=>∃v',e= .returned v'∧ZR w' v' rest∧Pu w w':=by obtain⟨g,A,n,c,m,rfl⟩:=h.shape;have j:=h.rest_;have i:Pu w ((w.alloc (.cells #[.bool g,.slice A n c,.pointer m] 33)).alloc (.cells #[.bool g,.slice A n c] 30)):=((Pu.refl w).alloc _).alloc _;have k:Blk ((w.alloc (.cells #[.bool g,.slice A n c,.pointer m] 33)).alloc (.cells #[.bool g,.slice A n c] 30)) (w.heap.size+1) 30 #[.bool g,.slice A n c]:=Blk.at_new _ _ _ (by simp);obtain⟨o,r1⟩:=k.c2_;have HZ:=Qh (AI (j.pu i) i);clear h j i;go_enter Tryz.func68,Tryz.ntmps68;go_wp2;exact bodyPost_ret (v:= .agg #[.bool g,.slice A n c]) (by simp [results,Tryz.results68,go_sem,o,r1]) rfl ⟨_,rfl,HZ.out.1,HZ.out.2⟩
theorem zcd(v1:Value)(r1 r2:Int)(fs gs:List (Key×Int))(K M:Nat)(w:World)(a:Nat)(G:Bool)(E:Option Addr)(I y:Nat)(J:Option Addr)(h1:TM w v1 r1 fs) (ha:Blk w a 33 #[.bool G,.slice E I y,.pointer J]) (h2:TM w (.agg #[.bool G,.slice E I y,.pointer J]) r2 gs) (hK:zad K fs) (hM:zad M gs) (hL:fs.length+gs.length<300) (o:K+1100000*M<4294967296^E3) (ad:r1.natAbs<4294967296^E3) (ae:r2.natAbs<4294967296^E3):Calls Tryz.prog 31 #[v1,.slice (some ⟨a,0,none⟩) 1 1] w fun e w'=>∃v,e= .returned v∧TMO w' w.heap.size v (r1+r2*1) (zG fs gs 1)∧Pu w w':=by
 obtain⟨z,L,N,D,C,rfl⟩:=h1.shape;have R:∀W v3,Pu w W→ZR W v3 1→Calls Tryz.prog 62 #[.agg #[.bool z,.slice L N D,.pointer C],.agg #[.bool G,.slice E I y,.pointer J],v3] W fun e w'=>∃v,e= .returned v∧TMO w' W.heap.size v (r1+r2*1) (zG fs gs 1)∧Pu W w':=fun W v3 p hz=>zeW _ _ _ r1 r2 1 fs gs K M W (h1.pu p) (h2.pu p) hz hK (fun g hg=>by have:=hM g hg;omega) hL o (zds (by decide)) (fun g hg=>Nat.lt_of_le_of_lt (Nat.le_trans (hM g hg) (by omega)) o) ad ae;have ap:=Qh R;obtain⟨W,hWe⟩:∃W,W=(w.alloc (.cells #[.bool z,.slice L N D,.pointer C] 33)).alloc (.cells #[.bool false,.slice none 0 0,.pointer none] 33):=⟨_,rfl⟩
 have pW:Pu w W:=by rw [hWe];exact((Pu.refl w).alloc _).alloc _
 have k1:Blk W w.heap.size 33 #[.bool z,.slice L N D,.pointer C]:=by rw [hWe];exact(Blk.new w _ _).alloc _
 have k4:Blk W (w.heap.size+1) 33 #[.bool false,.slice none 0 0,.pointer none]:=by rw [hWe];exact Blk.at_new _ _ _ (by simp)
 have aP:W.heap.size=w.heap.size+2:=by rw [hWe];simp
 have aR:=ha.lt;have ka:=ha.pu pW;have a8:=Qh hWe;clear hWe R h1 h2 hK hM o ad ae ha;go_enter Tryz.func31,Tryz.ntmps31;go_wp2_with fail;rw [←a8.out]
 go_loopw [9] (fun iv Y=>∃(i:Nat) (g:Bool) (A:Option Addr) (n c:Nat) (m:Option Addr),i≤1∧iv= .int .i64 (i:Int)∧Blk Y w.heap.size 33 #[.bool g,.slice A n c,.pointer m]∧(i=0→(g,A,n,c,m)=(z,L,N,D,C)∧Pu W Y)∧(i=1→TMO Y W.heap.size (.agg #[.bool g,.slice A n c,.pointer m]) (r1+r2*1) (zG fs gs 1))∧Fr (fun j=>j=w.heap.size) W Y) (fun iv _=>1 - (intOf iv).toNat)
 case atStart=>exact⟨0,z,L,N,D,C,by omega,rfl,k1,fun _=>⟨rfl,Pu.refl _⟩,fun e=>by omega,Fr.refl _ _⟩
 case round=>
  obtain⟨i,g,A,n,c,m,hi,rfl,S,h0,B,V⟩:=hrel;have H:=k4.fr V (by omega);by_cases aa:i=0
  ·obtain⟨e,X⟩:=h0 aa;subst aa
   cases e
   have kr:=ka.pu X;obtain⟨x0,x1,x2⟩:=kr.c3_;have aQ:=X.size;clear h0 B;obtain⟨U,hU⟩:∃U,U=wr.alloc (.cells #[.bool G,.slice E I y,.pointer J] 33):=⟨_,rfl⟩
   have T:Pu wr U:=by rw [hU];exact(Pu.refl _).alloc _
   have F:Blk U wr.heap.size 33 #[.bool G,.slice E I y,.pointer J]:=by rw [hU];exact Blk.new _ _ _
   have O:=S.pu T;have HU:=Qh hU;have Z:=V.pu T;have x:=X.trans T;have l5:=H.pu T;clear hU S kr H V X;go_wp2_with fail;rw [←HU.out];have k:Pu U U.drew:=(Pu.refl U).drew;have d0:U.cell? ⟨w.heap.size,0,none⟩=some (.bool z):=O.cell 0;have d1:U.cell? ⟨w.heap.size,1,none⟩=some (.slice L N D):=O.cell 1;have d2:U.cell? ⟨w.heap.size,2,none⟩=some (.pointer C):=O.cell 2;have d3:U.cell? ⟨wr.heap.size,0,none⟩=some (.bool G):=F.cell 0;have d4:U.cell? ⟨wr.heap.size,1,none⟩=some (.slice E I y):=F.cell 1;have d5:U.cell? ⟨wr.heap.size,2,none⟩=some (.pointer J):=F.cell 2;go_region_with (first
    | (go_at_call 30;refine(zaG 1 _ (by decide) (by decide)).mono ?_;rintro e u2 ⟨v5,rfl,B,p9⟩;replace k:=k.trans p9;have z12:=k.size;obtain⟨g5,A5,m5,c5,rfl⟩:=B.shape2;replace d0:=k.cellv d0;replace d1:=k.cellv d1;replace d2:=k.cellv d2;replace d3:=k.cellv d3;replace d4:=k.cellv d4;replace d5:=k.cellv d5)
    | (go_at_call 62;refine(ap.out _ _ ((pW.trans x).trans k) B).mono ?_;rintro e u3 ⟨v6,rfl,h6,aD⟩;replace k:=k.trans aD;obtain⟨g6,A6,m6,c6,q6,rfl⟩:=h6.tm.shape;have l4':=O.pu k;have ka0:=l4'.cell 0;have ka1:=l4'.cell 1;have ka2:=l4'.cell 2;have kf0:=l4'.frozen 0;have kf1:=l4'.frozen 1;have kf2:=l4'.frozen 2))
   all_goals
    obtain⟨aE,t,P⟩:=zcf l4' g6 A6 m6 c6 q6;have Q:=h6.frT t (fun i e=>by have e':i=w.heap.size:=e;have:=x.size;omega) P;have h8:TMO _ W.heap.size _ _ _:=Q.base_ (by have:=x.size;omega);have f7:=(Z.pu k).trans t;clear t P Q h6 l4' k O Z x;go_wp2;go_roundw
    case rel=>exact⟨1,g6,A6,m6,c6,q6,by omega,rfl,aE,fun e=>by omega,fun _=>h8,f7⟩
    case measure=>simp [intOf]
  ·obtain rfl:i=1:=by omega
   have ht:=B rfl;obtain⟨y0,y1,y2⟩:=S.c3_;obtain⟨z0,z1,z2⟩:=H.c3_;obtain⟨f0,f1,f2⟩:=H.z3_;obtain⟨F,t,P⟩:=zcf H g A n c m;have Q:=(ht.frT t (fun i e=>by have e':i=w.heap.size+1:=e;omega) P).base_ (base':=w.heap.size) (by omega);have p7:=(pW.step V (fun i e=>by
    have e':i=w.heap.size:=e;omega)).step t (fun i e=>by
    have e':i=w.heap.size+1:=e;omega)
   obtain⟨a4,a0,aA⟩:=F.c3_;have H7:=Qh (AI Q p7);clear F t P Q p7 ht B h0 S H;go_wp2;exact bodyPost_ret (v:= .agg #[.bool g,.slice A n c,.pointer m]) (by simp [results,Tryz.results31,go_sem,a4,a0,aA]) rfl ⟨_,rfl,H7.out.1,H7.out.2⟩
end
section
open Go.RowKit
theorem zmM:zcE Tryz.prog 50 9 (.string ByteArray.empty) 1 16:=⟨Tryz.underlying50,by kernel_rfl,rfl,by decide⟩
def kts(l:List Key):List Value:=l.map fun k=>Value.string ⟨k.toArray⟩
theorem zcM(v:Value)(rest:Int)(fs:List (Key×Int))(w:World)(h:TM w v rest fs):Calls Tryz.prog 58 #[v] w fun e w'=>∃A n c,e= .returned (.slice A n c)∧w'.ownsRow w.heap.size 9 1 (.slice A n c) n (kts (fs.map (·.1)))∧n≤1100000∧Pu w w':=by
 obtain⟨g,A,n,c,m,rfl⟩:=h.shape;have O:Pu w (w.alloc (.cells #[.bool g,.slice A n c,.pointer m] 33)):=(Pu.refl w).alloc _;have B:=zca _ _ _ _ (h.pu O);clear h;go_enter Tryz.func58,Tryz.ntmps58;go_wp2_with fail;refine B.mono ?_;rintro e E ⟨A4,G,c4,L,rfl,I,Z,K,W,S⟩;have T:=O.trans S;have N:=K.keys;have aq:L.length=G:=ziT I;clear W K S B;go_wp2_with fail
 go_loopw [3,9] (fun o i wr=>∃(j:Nat) (C:Option Addr) (F:Nat) (t:List Key),j≤G∧o= .slice C j F∧i= .int .i64 j∧t=(L.take j).map (·.1)∧wr.ownsRow E.heap.size 9 1 (.slice C j F) j (kts t)∧Pu E wr) (fun _ i _=>G - (intOf i).toNat)
 case atStart=>exact⟨0,none,0,[],Nat.zero_le _,rfl,rfl,by simp,World.ownsRow_nil _ _ _ _,Pu.refl _⟩
 case round=>
  obtain⟨j,C,F,t,hj,rfl,rfl,P,z,y⟩:=hrel;have U:=Qh P;clear P;have ao:=y.size;by_cases ak:j<G
  ·obtain⟨p,B⟩:∃p,L[j]?=some p:=⟨_,List.getElem?_eq_getElem (by omega)⟩
   obtain⟨k,R,V,Q,Y⟩:=p;obtain⟨bb,off,rfl,am,x0,x1,x2⟩:=atZ (I.pu y) B;have Hp:=Qh B;clear B;have D:Pu E (wr.alloc (.cells #[.string ⟨k.toArray⟩,.bool R,.slice V Q Y] 119)):=y.alloc _;have x:(wr.alloc (.cells #[.string ⟨k.toArray⟩,.bool R,.slice V Q Y] 119)).ownsRow E.heap.size 9 1 (.slice C j F) j (kts t):=z.alloc _;have M:=D.size;have ap:IntKind.i64.wrap ((j:Int)+1)=(j:Int)+1:=IntWalk.i64_in _ (by omega);clear z;go_wp2_with (at_builtin;refine zax zmM rfl _ _ rfl #[.string ⟨k.toArray⟩] rfl (by simp [Value.oneCell']) rfl rfl (by simp) x (by simp [maxLen];omega) (by omega) M ?_);intro A1 c1 w2 H J;have X:Pu E w2:=zam D x (Nat.le_refl _) J;clear x J y D x0 x1 x2;go_wp2;go_roundw
   case rel=>exact⟨j+1,A1,c1,t++[k],by omega,rfl,by go_num,by rw [U.out,List.take_add_one,Hp.out];simp,by simpa [kts]using H,X⟩
   case measure=>simp [intOf];omega
  ·obtain rfl:j=G:=by omega
   go_wp2;go_ret;have e1:t=fs.map (·.1):=by rw [U.out,List.take_of_length_le (by omega),N]
   exact⟨C,j,F,rfl,by rw [←e1];exact zbK z T.size,Z,T.trans y⟩
end
section
open Go.RowKit
theorem zH.hold{w:World}{L:List (Key×Part)}{fs:List (Key×Int)}(h:zH w L fs):zlf w (L.map (·.2)) (fs.map (·.2)):=by refine⟨by simp [h.1],fun i q z j k=>?_⟩;rw [List.getElem?_map,Option.map_eq_some_iff]at j k;obtain⟨p,t,rfl⟩:=j;obtain⟨f,o,rfl⟩:=k;exact(h.2 i p f t o).2
theorem zke(v:Value)(rest:Int)(fs:List (Key×Int))(w:World)(h:TM w v rest fs)(hb:∀f∈fs,f.2.natAbs<4294967296^E4):Calls Tryz.prog 67 #[v] w fun e w'=>∃v',e= .returned v'∧ZR w' v' (zmF (fs.map (·.2)))∧Pu w w':=by
 obtain⟨g,A,n,c,m,rfl⟩:=h.shape;have pA:Pu w ((w.alloc (.cells #[.bool g,.slice A n c,.pointer m] 33)).alloc (.cells #[.bool false,.slice none 0 0] 30)):=((Pu.refl w).alloc _).alloc _;have kR:Blk ((w.alloc (.cells #[.bool g,.slice A n c,.pointer m] 33)).alloc (.cells #[.bool false,.slice none 0 0] 30)) (w.heap.size+1) 30 #[.bool false,.slice none 0 0]:=Blk.at_new _ _ _ (by simp);have E:=zca _ _ _ _ (h.pu pA);clear h;go_enter Tryz.func67,Tryz.ntmps67;go_wp2_with fail;refine E.mono ?_;rintro e J ⟨A4,H,c4,L,rfl,U,aK,I,ao,p2⟩;have PW:=pA.trans p2;have aG:=I.keys;have aF:L.length=H:=ziT U;have W:=kR.pu p2;have ak:=Qh I.hold;have Hb:=Qh hb;clear ao I p2 E kR hb;go_wp2_with fail
 go_loopw [3,9] (fun o i wr=>∃(j:Nat) (D:Option Addr) (C:Nat) (x:List Part),j≤H∧o= .slice D j C∧i= .int .i64 j∧x=(L.take j).map (·.2)∧wr.ownsRow J.heap.size 30 2 (.slice D j C) j (ics x)∧Pu J wr) (fun _ i _=>H - (intOf i).toNat)
 case atStart=>exact⟨0,none,0,[],Nat.zero_le _,rfl,rfl,by simp,World.ownsRow_nil _ _ _ _,Pu.refl _⟩
 case round=>
  obtain⟨j,D,C,x,hj,rfl,rfl,ho,y,t⟩:=hrel;have HO:=Qh ho;clear ho;have aH:=t.size;by_cases aI:j<H
  ·obtain⟨p,E⟩:∃p,L[j]?=some p:=⟨_,List.getElem?_eq_getElem (by omega)⟩
   obtain⟨k,O,K,N,P⟩:=p;obtain⟨bb,off,rfl,aJ,x0,x1,x2⟩:=atZ (U.pu t) E;have Hp:=Qh E;clear E;have G:Pu J (wr.alloc (.cells #[.string ⟨k.toArray⟩,.bool O,.slice K N P] 119)):=t.alloc _;have B:(wr.alloc (.cells #[.string ⟨k.toArray⟩,.bool O,.slice K N P] 119)).ownsRow J.heap.size 30 2 (.slice D j C) j (ics x):=y.alloc _;have Y:=G.size;have aL:IntKind.i64.wrap ((j:Int)+1)=(j:Int)+1:=IntWalk.i64_in _ (by omega);clear y;go_wp2_with (at_builtin;refine zax eiZ rfl _ _ rfl #[.bool O,.slice K N P] rfl (by simp [Value.oneCell']) rfl rfl (by simp) B (by simp [maxLen];omega) (by omega) Y ?_);intro A1 c1 w2 M S;have ax:Pu J w2:=zam G B (Nat.le_refl _) S;clear B S t G x0 x1 x2;go_wp2;go_roundw
   case rel=>exact⟨j+1,A1,c1,x++[(O,K,N,P)],by omega,rfl,by go_num,by rw [HO.out,List.take_add_one,Hp.out];simp,by simpa [ics,Part.val]using M,ax⟩
   case measure=>simp [intOf];omega
  ·obtain rfl:j=H:=by omega
   have e1:x=L.map (·.2):=by rw [HO.out,List.take_of_length_le (by omega)]
   have R:IL wr D j C (fs.map (·.2)):=⟨x,Sl.of_own y,by rw [e1];exact ak.out.pu t⟩
   have hg:=zqt D j C (fs.map (·.2)) wr R (by omega) (fun z hz=>by obtain⟨f,hf,rfl⟩:=List.mem_map.1 hz;exact Hb.out f hf);have Q:=W.pu t;clear y HO e1 R;go_wp2_with fail;refine hg.mono ?_;rintro e w3 ⟨v3,rfl,h3,X⟩;obtain⟨Z,wA,wn,wc,rfl⟩:=h3.shape2;have F:=Q.pu X;obtain⟨c0,c1⟩:=F.c2_;obtain⟨f0,f1⟩:=F.z2_;obtain⟨kB,fB⟩:=zfT F Z wA wn wc;obtain⟨_,_,rz,rp⟩:=zA F Z wA wn wc;have T:=rz _ _ h3;have V:=rp _ ((PW.trans t).trans X) (by omega);obtain⟨r0,r1⟩:=kB.c2_;have HZ:=Qh (AI T V);clear kB fB rz rp T V F X h3 W Q;go_wp2;exact bodyPost_ret (v:= .agg #[.bool Z,.slice wA wn wc]) (by simp [results,Tryz.results67,go_sem,r0,r1]) rfl ⟨_,rfl,HZ.out.1,HZ.out.2⟩
end
end Go.Proofs.YtckfnbckoclhpaaGreatDoor

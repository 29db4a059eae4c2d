/- Terms. -/
import Derived.Test.YtckfnbckoclhpaaGreatDoorE12
import Derived.Test.YtckfnbckoclhpaaGreatDoorE08
import Derived.Test.YtckfnbckoclhpaaGreatDoorC05
import Derived.Test.YtckfnbckoclhpaaGreatDoorC04
import Derived.Deep.RegionHeld3
namespace Go.Proofs.YtckfnbckoclhpaaGreatDoor
set_option linter.unusedVariables false
set_option linter.unusedSimpArgs false
set_option maxRecDepth 100000
set_option maxHeartbeats 16000000
section
open Go.RowKit
theorem TM.shape{w:World}{v:Value}{rest:Int}{fs:List (Key×Int)}(h:TM w v rest fs):∃g A n c m,v= .agg #[.bool g,.slice A n c,.pointer m]:=by obtain⟨g,A,n,c,m,i,-⟩:=h;exact⟨g,A,n,c,m,i⟩
theorem zC{n a b:Nat}(h:n<4294967296^a)(i:a≤b):n<4294967296^b:=Nat.lt_of_lt_of_le h (znq i)
theorem zeQ(w:World)(o:Obj):w.heap.size+1=(w.alloc o).heap.size:=by simp
structure zsd(u V:World)(P:Nat)(g:Bool)(A:Option Addr)(n c:Nat)(z:Int):Prop where
 blk:Blk V P 30 #[.bool g,.slice A n c]
 num:ZR V (.agg #[.bool g,.slice A n c]) z
 pu:Pu u V
theorem zpy{u v:World}{g:Bool}{A:Option Addr}{n c:Nat}{z:Int}(i:Pu u v)(j:ZR v (.agg #[.bool g,.slice A n c]) z):zsd u (v.alloc (.cells #[.bool g,.slice A n c] 30)) v.heap.size g A n c z:=⟨Blk.new _ _ _,j.pu ((Pu.refl _).alloc _),i.alloc _⟩
theorem zpM{u v:World}{g:Bool}{A:Option Addr}{n c a:Nat}{z:Int}(t:Pu u v)(p:ZR v (.agg #[.bool g,.slice A n c]) z)(k:Blk v a 30 #[.bool false,.slice none 0 0])(j:u.heap.size≤a):zsd u ((v.setCell ⟨a,0,none⟩ (.bool g)).setCell ⟨a,1,none⟩ (.slice A n c)) a g A n c z:=by obtain⟨_,_,i,o⟩:=zA k g A n c;exact⟨(zfT k g A n c).1,i _ _ p,o _ t j⟩
theorem zcq{U V:World}{x i B w v o:Addr}{C j z y k t:Value}(F:U.cell? x=some C)(G:U.cell? i=some j)(I:U.cell? B=some z)(H:U.cell? w=some y)(D:U.cell? v=some k)(E:U.cell? o=some t)(p:Pu U V):V.cell? x=some C∧V.cell? i=some j∧V.cell? B=some z∧V.cell? w=some y∧V.cell? v=some k∧V.cell? o=some t:=⟨p.cellv F,p.cellv G,p.cellv I,p.cellv H,p.cellv D,p.cellv E⟩
theorem zrK{U V:World}{b b' i c:Nat}{F t D B o w:Value}(I:U.cell? ⟨b,0,none⟩=some F)(J:U.cell? ⟨b,1,none⟩=some t)(L:U.cell? ⟨b',0,none⟩=some D)(K:U.cell? ⟨b',1,none⟩=some B)(G:U.cell? ⟨i,0,none⟩=some o)(H:U.cell? ⟨i,1,none⟩=some w)(p:Pu U V)(x y z:Value)(C:b≠c)(E:b'≠c)(v:i≠c):(((V.setCell ⟨c,0,none⟩ x).setCell ⟨c,1,none⟩ y).setCell ⟨c,2,none⟩ z).cell? ⟨b,0,none⟩=some F∧(((V.setCell ⟨c,0,none⟩ x).setCell ⟨c,1,none⟩ y).setCell ⟨c,2,none⟩ z).cell? ⟨b,1,none⟩=some t∧(((V.setCell ⟨c,0,none⟩ x).setCell ⟨c,1,none⟩ y).setCell ⟨c,2,none⟩ z).cell? ⟨b',0,none⟩=some D∧(((V.setCell ⟨c,0,none⟩ x).setCell ⟨c,1,none⟩ y).setCell ⟨c,2,none⟩ z).cell? ⟨b',1,none⟩=some B∧(((V.setCell ⟨c,0,none⟩ x).setCell ⟨c,1,none⟩ y).setCell ⟨c,2,none⟩ z).cell? ⟨i,0,none⟩=some o∧(((V.setCell ⟨c,0,none⟩ x).setCell ⟨c,1,none⟩ y).setCell ⟨c,2,none⟩ z).cell? ⟨i,1,none⟩=some w:=by have k:Fr (fun j=>j=c) U (((V.setCell ⟨c,0,none⟩ x).setCell ⟨c,1,none⟩ y).setCell ⟨c,2,none⟩ z):=((Pu.fr p (S:=fun j=>j=c)).trans (Fr.one V c 0 x)).trans (Fr.one _ c 1 y)|>.trans (Fr.one _ c 2 z);exact⟨k.cellv I C,k.cellv J C,k.cellv L E,k.cellv K E,k.cellv G v,k.cellv H v⟩
def TMO(w:World)(base:Nat)(v:Value)(rest:Int)(fs:List (Key×Int)):Prop:=∃g A n c b r L,v= .agg #[.bool g,.slice A n c,.pointer (some ⟨b,0,none⟩)]∧ZR w (.agg #[.bool g,.slice A n c]) rest∧MOZ w base b r L∧zH w L fs
theorem TMO.tm{w:World}{base:Nat}{v:Value}{rest:Int}{fs:List (Key×Int)}(h:TMO w base v rest fs):TM w v rest fs:=by obtain⟨g,A,n,c,b,r,L,j,k,o,i⟩:=h;exact⟨g,A,n,c,_,j,k,.inr ⟨b,L,rfl,o.mr,i⟩⟩
theorem TMO.frT{S:Nat→Prop}{w w':World}{base:Nat}{v:Value}{rest:Int}{fs:List (Key×Int)}(h:TMO w base v rest fs)(i:Fr S w w')(o:∀g,S g→g<base)(p:∀g,S g→∃t cs fz,w.heap[g]?=some (.cells cs t fz)∧t≠169):TMO w' base v rest fs:=by
 obtain⟨g,A,n,c,b,r,L,e,y,k,x⟩:=h;refine⟨g,A,n,c,b,r,L,e,y.frT i p,k.fr i (fun e=>?_) (fun j hj e=>?_),x.frT i p⟩
 ·have:=o _ e;have:=k.lt;omega
 ·have:=o _ e;have:=k.row j hj;omega
theorem TM.rest_{w:World}{g:Bool}{A:Option Addr}{n c:Nat}{m:Option Addr}{rest:Int}{fs:List (Key×Int)}(h:TM w (.agg #[.bool g,.slice A n c,.pointer m]) rest fs):ZR w (.agg #[.bool g,.slice A n c]) rest:=by obtain⟨o,k,j,t,p,e,i,-⟩:=h;simp only [Value.agg.injEq,Array.mk.injEq,List.cons.injEq,Value.bool.injEq,Value.slice.injEq,Value.pointer.injEq,and_true]at e;obtain⟨rfl,⟨rfl,rfl,rfl⟩,rfl⟩:=e;exact i
theorem zrP{a b:Int}(j:a.natAbs<4294967296^E3)(i:b.natAbs<4294967296^E3):(a*b).natAbs<4294967296^E9:=by
 rw [Int.natAbs_mul];have h:∀p q:Nat,a.natAbs<4294967296^p→b.natAbs<4294967296^q→a.natAbs*b.natAbs<4294967296^(p+q):=fun p q hp hq=>by rw [Nat.pow_add];exact Nat.mul_lt_mul'' hp hq
 exact zC (n:=a.natAbs*b.natAbs) (a:=E3+E3) (b:=E9) (h E3 E3 j i) (by decide)
theorem zeW(v1 v2 v3:Value)(r1 r2 n:Int)(fs gs:List (Key×Int))(K M:Nat)(w:World)(h1:TM w v1 r1 fs)(h2:TM w v2 r2 gs)(h3:ZR w v3 n) (hK:zad K fs) (hM:∀g∈gs,(g.2*n).natAbs≤M) (hL:fs.length+gs.length<300) (aL:K+1100000*M<4294967296^E3) (hn:n.natAbs<4294967296^E3) (hg:∀g∈gs,g.2.natAbs<4294967296^E3) (bW:r1.natAbs<4294967296^E3) (ce:r2.natAbs<4294967296^E3):Calls Tryz.prog 62 #[v1,v2,v3] w fun e w'=>∃v,e= .returned v∧TMO w' w.heap.size v (r1+r2*n) (zG fs gs n)∧Pu w w':=by
 have bR:=h1;obtain⟨g1,A1,n1,c1,m1,rfl,bX,cg⟩:=h1;obtain⟨g2,A2,n2,c2,m2,rfl⟩:=h2.shape;obtain⟨g3,A3,n3,c3,rfl⟩:=h3.shape;obtain⟨W,hWe⟩:∃W,W=(((w.alloc (.cells #[.bool g1,.slice A1 n1 c1,.pointer m1] 33)).alloc (.cells #[.bool g2,.slice A2 n2 c2,.pointer m2] 33)).alloc (.cells #[.bool g3,.slice A3 n3 c3] 30)).alloc (.cells #[.bool false,.slice none 0 0,.pointer none] 33):=⟨_,rfl⟩
 have hW:Pu w W:=by rw [hWe];exact((((Pu.refl w).alloc _).alloc _).alloc _).alloc _
 have k1:Blk W w.heap.size 33 #[.bool g1,.slice A1 n1 c1,.pointer m1]:=by rw [hWe];exact(((Blk.new w _ _).alloc _).alloc _).alloc _
 have k2:Blk W (w.heap.size+1) 33 #[.bool g2,.slice A2 n2 c2,.pointer m2]:=by rw [hWe];exact((Blk.at_new _ _ _ (by simp)).alloc _).alloc _
 have k3:Blk W (w.heap.size+2) 30 #[.bool g3,.slice A3 n3 c3]:=by rw [hWe];exact(Blk.at_new _ _ _ (by simp)).alloc _
 have k4:Blk W (w.heap.size+3) 33 #[.bool false,.slice none 0 0,.pointer none]:=by rw [hWe];exact Blk.at_new _ _ _ (by simp)
 have dN:W.heap.size=w.heap.size+4:=by rw [hWe];simp
 have H1:=Qh (bX.pu hW);have H2:=Qh (h2.pu hW);have H3:=Qh (h3.pu hW);have bU:Hid ((m1=none∧fs= [])∨∃b L,m1=some ⟨b,0,none⟩∧MRZ W b L∧zH W L fs):=Qh (by
  rcases cg with e|⟨b,L,e,h4,O⟩
  ·exact .inl e
  ·exact .inr ⟨b,L,e,h4.pu hW,O.pu hW⟩)
 have dP:=Qh bR.rise;have S:=Qh (zrr W);rw [hWe]at S;have aZ:=Qh hWe;have B:=Qh (AI hK (AI hM (AI aL (AI hn (AI hg (AI bW ce))))));clear hWe bX h2 h3 cg bR hK hM aL hn hg bW ce;have T:∀U,Pu W U→U.cell? ⟨w.heap.size,2,none⟩=some (.pointer m1):=fun U p=>(k1.pu p).cell 2;have bw:(m1=none∧fs= [])∨∃b L,m1=some ⟨b,0,none⟩∧MRZ W b L∧zH W L fs:=bU.out;have bn:=Qh T;clear T bU;rcases bw with⟨rfl,cM⟩|⟨b1,L1,rfl,cb,bN⟩
 focus
  go_enter Tryz.func62,Tryz.ntmps62;go_wp2_with fail;refine S.out.mono ?_;rintro e w1 ⟨b,rfl,N,E⟩;rw [←aZ.out]at E N;have T:=bn.out _ E;obtain⟨y0,y1,y2⟩:=(k2.pu E).c3_;obtain⟨r,L1,F,ai⟩:∃r L,MOZ w1 W.heap.size b r L∧zH w1 L fs:=⟨none,[],N,by rw [cM];exact zH.nil _⟩
  clear N;go_wp2_with fail
 rotate_left
 focus
  go_enter Tryz.func62,Tryz.ntmps62;go_wp2_with fail;refine S.out.mono ?_;rintro e w0 ⟨b0,rfl,-,p0⟩;rw [←aZ.out]at p0;have T:=bn.out _ p0;go_wp2_with fail;refine(zsb b1 L1 _ (cb.pu p0)).mono ?_;rintro e w1 ⟨b,r,rfl,N,E⟩;have F:=N.base_ p0.size;replace E:=p0.trans E;obtain⟨y0,y1,y2⟩:=(k2.pu E).c3_;have ai:=bN.pu E;clear N p0 cb bN;go_wp2_with fail
 all_goals
  refine(zca _ r2 gs w1 (H2.out.pu E)).mono ?_;rintro e Wp ⟨A4,n4,c4,LG,rfl,bT,dS,ao,cN,p2⟩;have dO:=F.lt;have aK:=F.row;have bj:=F.pu p2;have cz:=ai.pu p2;have PW:=E.trans p2;have dd:=hW.trans PW;have j1:=k1.pu PW;have j2:=k2.pu PW;have j3:=k3.pu PW;have j4:=k4.pu PW;have jn:=H3.out.pu PW;have jz:=H1.out.pu PW;have cB:=H2.out.pu PW;have dz:=p2.size;have dL:LG.length=n4:=ziT bT;have aj:=Qh aK;clear aK T y0 y1 y2 F ai E p2 k1 k2 k3 k4 H1 H2 H3 S bn aZ;go_wp2_with fail
  go_loopw [23] (fun iv ws=>∃(i:Nat) (X:Option Nat) (L:List (Key×Part)) (acc:List (Key×Int)),i≤n4∧iv= .int .i64 (i:Int)∧MOZ ws W.heap.size b X L∧zH ws L acc∧acc=zG fs (gs.take i) n∧acc.length≤fs.length+i∧zad (K+i*M) acc∧(X=r∨∃g,X=some g∧Wp.heap.size≤g)∧Fr (fun j=>j=b∨r=some j) Wp ws) (fun iv _=>n4 - (intOf iv).toNat)
  case atStart=>exact⟨0,r,L1,fs,Nat.zero_le _,rfl,bj,cz,rfl,Nat.le_refl _,by simpa using B.out.1,.inl rfl,Fr.refl _ _⟩
  case round=>
   obtain⟨i,X,L,acc,hi,rfl,C,Q,aU,dn,bM,bo,y⟩:=hrel;have I:=bj.typed;have J:∀j,j<W.heap.size→¬(j=b∨r=some j):=fun j G e=>by
    rcases e with e|e
    ·omega
    ·have:=(aj.out j e).1;omega
   have cd:Sl wr 3 A4 n4 c4 (kps vcZ LG):=bT.fr y (fun _ b' off e hS=>by
    have O:=cN b' off e;rcases hS with hS|hS
    ·omega
    ·have:=(aj.out b' hS).2.1;omega)
   have bl:=Qh aU;have ba:=Qh bM;clear aU bM;by_cases dK:i<n4
   ·obtain⟨p,hp⟩:∃p,LG[i]?=some p:=⟨_,List.getElem?_eq_getElem (by omega)⟩
    obtain⟨gg,hgi⟩:∃g,gs[i]?=some g:=⟨_,List.getElem?_eq_getElem (by rw [←ao.1];omega)⟩
    obtain⟨k,qg,qA,qn,qc⟩:=p;obtain⟨k',z⟩:=gg;obtain⟨ek,hq⟩:=ao.2 i _ _ hp hgi;dsimp only at ek hq;subst ek;obtain⟨bb,off,rfl,dQ,x0,x1,x2⟩:=atZ cd hp;have cP:=hq.frT y I;have c8:=jn.frT y I;have l3:=j3.fr y (J _ (by omega));have aq:=List.mem_of_getElem? hgi;have cO:=Qh hgi;have aJ:=zrH b L k (wr.alloc (.cells #[.string ⟨k.toArray⟩,.bool qg,.slice qA qn qc] 119)) (C.mr.pu ((Pu.refl _).alloc _));have bi:=Q.get (k:=k) C.mr.rise;generalize gvZ L k=gw at*
    generalize there L k=th at*
    obtain⟨wg,wA,wn,wc,rfl⟩:=bi.shape2;have co:=Qh aJ;have pA:Pu wr (wr.alloc (.cells #[.string ⟨k.toArray⟩,.bool qg,.slice qA qn qc] 119)):=(Pu.refl _).alloc _;have kA:Blk (wr.alloc (.cells #[.string ⟨k.toArray⟩,.bool qg,.slice qA qn qc] 119)) wr.heap.size 119 #[.string ⟨k.toArray⟩,.bool qg,.slice qA qn qc]:=Blk.new _ _ _;have dT:IntKind.i64.wrap ((i:Int)+1)=(i:Int)+1:=IntWalk.i64_in _ (by omega);clear aJ hp hgi hq cd;go_wp2_with fail;refine co.out.mono ?_;rintro e u1 ⟨rfl,q1⟩;have pU:=pA.trans q1;have Y:=kA.pu q1;have kN:=l3.pu pU;obtain⟨U,hU⟩:∃U,U=u1.alloc (.cells #[.bool wg,.slice wA wn wc] 30):=⟨_,rfl⟩
    have pB:Pu u1 U:=by rw [hU];exact(Pu.refl _).alloc _
    have kB:Blk U u1.heap.size 30 #[.bool wg,.slice wA wn wc]:=by rw [hU];exact Blk.new _ _ _
    replace Y:=Y.pu pB;replace kN:=kN.pu pB;have bO:=bi.pu (pU.trans pB);have ca:=cP.pu (pU.trans pB);have am:=c8.pu (pU.trans pB);have HU:=Qh hU;clear hU x0 x1 x2;go_wp2_with fail;rw [←HU.out];have o:Pu U U.drew:=(Pu.refl U).drew;have d0:U.cell? ⟨u1.heap.size,0,none⟩=some (.bool wg):=kB.cell 0;have d1:U.cell? ⟨u1.heap.size,1,none⟩=some (.slice wA wn wc):=kB.cell 1;have d2:U.cell? ⟨wr.heap.size,1,none⟩=some (.bool qg):=Y.cell 1;have d3:U.cell? ⟨wr.heap.size,1+1,none⟩=some (.slice qA qn qc):=Y.cell 2;have d4:U.cell? ⟨w.heap.size+2,0,none⟩=some (.bool g3):=kN.cell 0;have d5:U.cell? ⟨w.heap.size+2,1,none⟩=some (.slice A3 n3 c3):=kN.cell 1;have cf:z.natAbs<4294967296^E9:=zC (a:=E3) (b:=E9) (B.out.2.2.2.2.1 _ aq) (by decide);have Z:n.natAbs<4294967296^E9:=zC (a:=E3) (b:=E9) B.out.2.2.2.1 (by decide);have bZ:(factor acc k).natAbs<4294967296^E9:=zC (a:=E3) (b:=E9) (Nat.lt_of_le_of_lt (Nat.le_trans (ba.out.factor k) (Nat.add_le_add_left (Nat.mul_le_mul_right M (show i≤1100000 by omega)) K)) B.out.2.2.1) (by decide);have ad:(z*n).natAbs<4294967296^E9:=zC (a:=E3) (b:=E9) (Nat.lt_of_le_of_lt (Nat.le_trans (B.out.2.1 _ aq) (by omega)) B.out.2.2.1) (by decide);have P:=Qh (AI cf (AI Z (AI bZ ad)));clear cf Z bZ ad;go_region_held3 (fun t=>t.cell? ⟨u1.heap.size,0,none⟩=some (.bool wg)∧t.cell? ⟨u1.heap.size,1,none⟩=some (.slice wA wn wc)∧t.cell? ⟨wr.heap.size,1,none⟩=some (.bool qg)∧t.cell? ⟨wr.heap.size,1+1,none⟩=some (.slice qA qn qc)∧t.cell? ⟨w.heap.size+2,0,none⟩=some (.bool g3)∧t.cell? ⟨w.heap.size+2,1,none⟩=some (.slice A3 n3 c3))
     (first|exact zcq d0 d1 d2 d3 d4 d5 (by repeat' (first|with_reducible exact o|with_reducible exact Pu.refl _|with_reducible refine Pu.drew ?_|with_reducible refine Pu.alloc ?_ _|with_reducible refine Pu.setCell ?_ ?_ _| (dsimp only;omega)))|go_keep)
     (first
      | (go_at_call 50;refine(zfK _ _ z n _ (ca.pu (by with_reducible first|exact o|exact o.alloc _|exact Pu.drew (Pu.alloc (Pu.refl _) _))) (am.pu (by with_reducible first|exact o|exact o.alloc _|exact Pu.drew (Pu.alloc (Pu.refl _) _))) P.out.1 P.out.2.1).mono ?_;rintro e u2 ⟨v5,rfl,O,p9⟩;with_reducible (first| (have bA:=(Blk.new U 30 #[.bool false,.slice none 0 0]).drew.pu p9)|skip);replace o:=Pu.trans (a:=U) (by with_reducible first|exact o|exact o.alloc _|exact Pu.drew (Pu.alloc (Pu.refl _) _)) p9;have z12:=o.size;obtain⟨g5,A5,m5,c5,rfl⟩:=O.shape2)
      | (go_at_call 49;refine(zcB _ (.agg #[.bool g5,.slice A5 m5 c5]) (factor acc k) (z*n) _ _ (bO.pu (by with_reducible first|exact o.alloc _|exact(o.alloc _).alloc _)) (O.pu (by with_reducible first|exact(Pu.refl _).alloc _|exact((Pu.refl _).alloc _).alloc _)) P.out.2.2.1 P.out.2.2.2 (by first|exact Blk.new _ _ _|exact(Blk.new _ _ _).alloc _|exact Blk.at_new _ _ _ (zeQ _ _))).mono ?_;rintro e u3 ⟨v6,rfl,h6,H⟩;with_reducible (first| (replace bA:=(bA.alloc _).pu H)| (have bA:=((Blk.new u2 30 #[.bool false,.slice none 0 0]).alloc _).pu H)| (have bA:=(Blk.at_new (u2.alloc _) 30 #[.bool false,.slice none 0 0] (k:=u2.heap.size+1) (zeQ _ _)).pu H)|skip);replace o:=Pu.trans (a:=U) (by with_reducible first|exact o.alloc _|exact(o.alloc _).alloc _) H;have z13:=o.size;obtain⟨g6,A6,m6,c6,rfl⟩:=h6.shape2;(try(have ka0:=bA.cell 0;have ka1:=bA.cell 1;have kf0:=bA.frozen 0;have kf1:=bA.frozen 1))))
    have dM:wr.heap.size+2≤U.heap.size:=by have h7:=kB.lt;have h8:=q1.size;simp at h8;omega
    all_goals
     first
      |have HS:=zpM o h6 bA (by first|exact Nat.le_refl _|omega)
      |have HS:=zpy o h6
     have pV:=(pU.trans pB).trans HS.pu;obtain⟨e0,e1⟩:=HS.blk.c2_;have bP:=zaN _ _ _ HS.num (zC (a:=E3) (b:=E4) (Nat.lt_of_le_of_lt (Nat.le_trans (Nat.le_trans (Int.natAbs_add_le _ _) (Nat.add_le_add (ba.out.factor k) (B.out.2.1 _ aq))) (show K+i*M+M≤K+1100000*M by rw [Nat.add_assoc,←Nat.succ_mul];exact Nat.add_le_add_left (Nat.mul_le_mul_right M (by omega)) K)) B.out.2.2.1) (by decide));have aR:=C.pu pV;have bf:=Q.pu pV;have bY:=Y.pu HS.pu;have bL:=Qh HS;have R:=zn7 (n:=n) fs cO.out;rw [←bl.out]at R;have ap:=Qh R;have aF:=zbO ba.out (B.out.2.1 _ aq);have aI:=Qh aF;have b8:=zex (n:=n) (acc:=acc) (g:=(k,z));clear o O h6 p9 H R aF;clear d0 d1 d2 d3 d4 d5 bO ca am kB kN;go_wp2_with fail;refine bP.mono ?_;rintro e u4 ⟨rfl,q4⟩;have g0:=(bY.pu q4).cell 0;obtain⟨dJ,dR⟩:=(bL.out.blk.pu q4).c2_;have cv:=bL.out.num.pu q4;have ah:=aR.pu q4;have ae:=bf.pu q4;have aT:=y.pu (pV.trans q4);have aP:=ah.typed;have bV:(∀j,(j=b∨X=some j)→(j=b∨r=some j)∨Wp.heap.size≤j):=fun j G=>by
      rcases G with rfl|G
      ·exact .inl (.inl rfl)
      ·rcases bo with e|⟨g',e,bk⟩
       ·exact .inl (.inr (e▸G))
       ·rw [e]at G;have e':g'=j:=by injection G
        subst e';exact .inr bk
     have cr:Wp.heap.size≤u4.heap.size:=aT.size;have bz:L.length<1100000:=by have h8:=ae.1;have h9:=ao.1;omega
     have b8:=zex (n:=n) (acc:=acc) (g:=(k,z));have bg:=Qh aP;have bS:=Qh bV;clear aP bV aR bf bY pV q4 C Q y e0 e1 bP J I;rcases Decidable.em (factor acc k+z*n=0)with hx|hx
     ·have cG:(factor acc k+z*n).sign=0:=by rw [hx];rfl
      have V:zX n acc (k,z)=dropM acc k:=if_pos hx;have hd:=zr6 _ b X L k _ ah;have Hx:=Qh (AI hx V);clear hx V;generalize (factor acc k+z*n).sign=sg at*
      go_wp2_with fail;refine hd.mono ?_;rintro e u5 ⟨rfl,D,f8⟩;have x:=ae.dropM (k:=k)|>.frT f8 bg.out;go_wp2;go_roundw
      case rel=>exact⟨i+1,X,_,zX n acc (k,z),by omega,rfl,D,(by rw [Hx.out.2];exact x),ap.out.symm,by omega,(by have h8:=aI.out;rw [Nat.succ_mul,←Nat.add_assoc];exact h8),bo,aT.step f8 bS.out⟩
      case measure=>simp [intOf];omega
     ·have cG:(factor acc k+z*n).sign≠0:=by
       intro e;exact hx (Int.sign_eq_zero_iff_zero.1 e)
      have V:zX n acc (k,z)=zau acc k (factor acc k+z*n):=if_neg hx;have hd:=zp7 _ b X L k (g6,A6,m6,c6) _ ah bz;have x:=zH.put (k:=k) (q:=(g6,A6,m6,c6)) ae cv;have Hx:=Qh (AI hx V);have cl:=Qh x;clear hx V x;generalize (factor acc k+z*n).sign=sg at*
      go_wp2_with fail;refine hd.mono ?_;rintro e u5 ⟨rfl,rr,D,cA,f8⟩;have cm:=cl.out.frT f8 bg.out;go_wp2;go_roundw
      case rel=>exact⟨i+1,rr,_,zX n acc (k,z),by omega,rfl,D,(by rw [Hx.out.2];exact cm),ap.out.symm,by omega,(by have h8:=aI.out;rw [Nat.succ_mul,←Nat.add_assoc];exact h8),(by
       rcases cA with e|⟨g',e,bk⟩
       ·rcases bo with e2|⟨g2,e2,cT⟩
        ·exact .inl (e.trans e2)
        ·exact .inr ⟨g2,e.trans e2,cT⟩
       ·exact .inr ⟨g',e,Nat.le_trans cr bk⟩),aT.step f8 bS.out⟩
      case measure=>simp [intOf];omega
   ·obtain rfl:i=n4:=by omega
    have cc:gs.take i=gs:=List.take_of_length_le (by rw [←ao.1];omega);have bQ:acc=zG fs gs n:=by rw [bl.out,cc]
    have l1:=j1.fr y (J _ (by omega));have l2:=j2.fr y (J _ (by omega));have l3:=j3.fr y (J _ (by omega));have l4:=j4.fr y (J _ (by omega));have cX:=jz.frT y I;have am:=jn.frT y I;have dc:=(TM.rest_ cB).frT y I;have o:Pu wr wr.drew:=(Pu.refl wr).drew;have d0:wr.cell? ⟨w.heap.size,0,none⟩=some (.bool g1):=l1.cell 0;have d1:wr.cell? ⟨w.heap.size,1,none⟩=some (.slice A1 n1 c1):=l1.cell 1;have d2:wr.cell? ⟨w.heap.size+1,0,none⟩=some (.bool g2):=l2.cell 0;have d3:wr.cell? ⟨w.heap.size+1,1,none⟩=some (.slice A2 n2 c2):=l2.cell 1;have d4:wr.cell? ⟨w.heap.size+2,0,none⟩=some (.bool g3):=l3.cell 0;have d5:wr.cell? ⟨w.heap.size+2,1,none⟩=some (.slice A3 n3 c3):=l3.cell 1;have Z:n.natAbs<4294967296^E9:=zC (a:=E3) (b:=E9) B.out.2.2.2.1 (by decide);have aN:r1.natAbs<4294967296^E9:=zC (a:=E3) (b:=E9) B.out.2.2.2.2.2.1 (by decide);have aQ:r2.natAbs<4294967296^E9:=zC (a:=E3) (b:=E9) B.out.2.2.2.2.2.2 (by decide);have ad:(r2*n).natAbs<4294967296^E9:=zrP B.out.2.2.2.2.2.2 B.out.2.2.2.1;have P:=Qh (AI aQ (AI Z (AI aN ad)));have cu:=Qh bQ;clear Z aN aQ ad bQ cc;go_wp2_with fail;go_region_held3 (fun t=>t.cell? ⟨w.heap.size,0,none⟩=some (.bool g1)∧t.cell? ⟨w.heap.size,1,none⟩=some (.slice A1 n1 c1)∧t.cell? ⟨w.heap.size+1,0,none⟩=some (.bool g2)∧t.cell? ⟨w.heap.size+1,1,none⟩=some (.slice A2 n2 c2)∧t.cell? ⟨w.heap.size+2,0,none⟩=some (.bool g3)∧t.cell? ⟨w.heap.size+2,1,none⟩=some (.slice A3 n3 c3))
     (first|with_reducible exact zrK d0 d1 d2 d3 d4 d5 o _ _ _ (by omega) (by omega) (by omega)|exact zcq d0 d1 d2 d3 d4 d5 (by(repeat' (first|with_reducible exact o|with_reducible exact Pu.refl _|with_reducible refine Pu.drew ?_|with_reducible refine Pu.alloc ?_ _|with_reducible refine Pu.setCell ?_ ?_ _| (dsimp only;omega))))|go_keep)
     (first
      | (go_at_call 50;refine(zfK _ _ r2 n _ (dc.pu (by with_reducible first|exact o|exact o.alloc _|exact Pu.drew (Pu.alloc (Pu.refl _) _))) (am.pu (by with_reducible first|exact o|exact o.alloc _|exact Pu.drew (Pu.alloc (Pu.refl _) _))) P.out.1 P.out.2.1).mono ?_;rintro e u2 ⟨v5,rfl,O,p9⟩;with_reducible (first| (have bA:=(Blk.new wr 30 #[.bool false,.slice none 0 0]).drew.pu p9)|skip);replace o:=Pu.trans (a:=wr) (by with_reducible first|exact o|exact o.alloc _|exact Pu.drew (Pu.alloc (Pu.refl _) _)) p9;have z12:=o.size;obtain⟨g5,A5,m5,c5,rfl⟩:=O.shape2)
      | (go_at_call 49;refine(zcB _ (.agg #[.bool g5,.slice A5 m5 c5]) r1 (r2*n) _ _ (cX.pu (by with_reducible first|exact o|exact o.alloc _|exact(o.alloc _).alloc _)) (O.pu (by with_reducible first|exact Pu.refl _|exact(Pu.refl _).alloc _|exact((Pu.refl _).alloc _).alloc _)) P.out.2.2.1 P.out.2.2.2 (by first|exact Blk.new _ _ _|exact(Blk.new _ _ _).alloc _|exact Blk.at_new _ _ _ (zeQ _ _)|exact bA)).mono ?_;rintro e u3 ⟨v6,rfl,h6,H⟩;replace o:=Pu.trans (a:=wr) (by with_reducible first|exact o|exact o.alloc _|exact(o.alloc _).alloc _) H;have z13:=o.size;obtain⟨g6,A6,m6,c6,rfl⟩:=h6.shape2;have l4':=l4.pu o;have ka0:=l4'.cell 0;have ka1:=l4'.cell 1;have ka2:=l4'.cell 2;have kf0:=l4'.frozen 0;have kf1:=l4'.frozen 1;have kf2:=l4'.frozen 2))
    have ct:=cu.out
    all_goals
     obtain⟨hB,au,aO⟩:=zcf l4' g6 A6 m6 c6 (some ⟨b,0,none⟩);obtain⟨f0,f1,f2⟩:=hB.c3_;have cS:Pu w (((u3.setCell ⟨w.heap.size+3,0,none⟩ (.bool g6)).setCell ⟨w.heap.size+3,1,none⟩ (.slice A6 m6 c6)).setCell ⟨w.heap.size+3,2,none⟩ (.pointer (some ⟨b,0,none⟩))):=(((dd.step y (fun j G=>by
      rcases G with rfl|G
      ·omega
      ·have:=(aj.out j G).1;omega)).trans o).step au (fun j G=>by omega))
     have D:=(C.pu o).fr au (fun e=>by omega) (fun g hg e=>by have:=((C.pu o).row g hg).1;omega);have x:=(Q.pu o).frT au aO;have cC:=h6.frT au aO;rw [ct]at x;go_wp2;exact bodyPost_ret (v:= .agg #[.bool g6,.slice A6 m6 c6,.pointer (some ⟨b,0,none⟩)]) (by simp [results,Tryz.results62,go_sem,f0,f1,f2]) rfl ⟨_,rfl,⟨g6,A6,m6,c6,b,_,_,rfl,cC,D.base_ (by omega),x⟩,cS⟩
end
section
open Go.RowKit
theorem TMO.base_{w:World}{base base':Nat}{v:Value}{rest:Int}{fs:List (Key×Int)}(h:TMO w base v rest fs)(j:base'≤base):TMO w base' v rest fs:=by obtain⟨g,A,n,c,b,r,L,e,k,o,i⟩:=h;exact⟨g,A,n,c,b,r,L,e,k,o.base_ j,i⟩
theorem ZR.zero(w:World):ZR w (.agg #[.bool false,.slice none 0 0]) 0:=⟨false,none,0,0,[],rfl,Sl.nil _ _ _ _,zg.nil _,zcz,(fun e=>by cases e),⟨by simp [maxLen],W32.none _ _⟩,rfl⟩
theorem TM.zero(w:World):TM w (.agg #[.bool false,.slice none 0 0,.pointer none]) 0 []:=⟨false,none,0,0,none,rfl,ZR.zero w,.inl ⟨rfl,rfl⟩⟩
theorem zan:(0:Int).natAbs<4294967296^E3:=zC (n:=0) (a:=1) (b:=E3) (by decide) (by decide)
theorem zad.nil(K:Nat):zad K []:=fun f i=>by cases i
theorem zaW(E S:Value)(r1 n:Int)(fs:List (Key×Int))(M:Nat)(w:World)(C:TM w E r1 fs)(D:ZR w S n) (Q:∀g∈fs,(g.2*n).natAbs≤M) (hL:fs.length<300) (k:1100000*M<4294967296^E3) (N:n.natAbs<4294967296^E3) (F:∀g∈fs,g.2.natAbs<4294967296^E3) (t:r1.natAbs<4294967296^E3):Calls Tryz.prog 29 #[E,S] w fun e w'=>∃v,e= .returned v∧TMO w' w.heap.size v (r1*n) (zG [] fs n)∧Pu w w':=by
 obtain⟨Z,A1,n1,O,m1,rfl⟩:=C.shape;obtain⟨Y,X,U,K,rfl⟩:=D.shape2;obtain⟨W,hWe⟩:∃W,W=((w.alloc (.cells #[.bool Z,.slice A1 n1 O,.pointer m1] 33)).alloc (.cells #[.bool Y,.slice X U K] 30)).alloc (.cells #[.bool false,.slice none 0 0,.pointer none] 33):=⟨_,rfl⟩
 have B:Pu w W:=by rw [hWe];exact(((Pu.refl w).alloc _).alloc _).alloc _
 have x:Blk W (w.heap.size+2) 33 #[.bool false,.slice none 0 0,.pointer none]:=by rw [hWe];exact Blk.at_new _ _ _ (by simp)
 have P:=zeW _ _ _ 0 r1 n [] fs 0 M W (TM.zero W) (C.pu B) (D.pu B) (zad.nil 0) Q (by simpa using hL) (by rw [Nat.zero_add];exact k) N F zan t;have G:=Qh P;have p:=Qh hWe;rw [hWe]at G;clear hWe P C D Q k N F t;go_enter Tryz.func29,Tryz.ntmps29;go_wp2_with fail;refine G.out.mono ?_;rintro e w1 ⟨v,rfl,y,o⟩;rw [←p.out]at o;obtain⟨g,A,R,c,m,rfl⟩:=y.tm.shape;have j:=x.pu o;obtain⟨c0,O,K⟩:=j.c3_;obtain⟨f0,f1,f2⟩:=j.z3_;obtain⟨I,z,T⟩:=zcf j g A R c m;have J:=Qh (AI ((B.trans o).step z (fun i e=>by
  have V:i=w.heap.size+2:=e;omega)) (y.frT z (fun i e=>by
  have V:i=w.heap.size+2:=e;rw [←p.out];have:=x.lt;omega) T))
 obtain⟨r0,L,r2⟩:=I.c3_;clear I z T y j x o;go_wp2;exact bodyPost_ret (v:= .agg #[.bool g,.slice A R c,.pointer m]) (by simp [results,Tryz.results29,go_sem,r0,L,r2]) rfl ⟨_,rfl,(by have H:=J.out.2.base_ (base':=w.heap.size) (by simp;omega);rw [Int.zero_add]at H;exact H),J.out.1⟩
theorem zY(v:Value)(rest:Int)(k:Key)(fs:List (Key×Int))(w:World)(h:TM w v rest fs):Calls Tryz.prog 14 #[v,.string ⟨k.toArray⟩] w fun e w'=>∃v',e= .returned v'∧ZR w' v' (factor fs k)∧Pu w w':=by
 obtain⟨g,A,n,c,m,rfl,N,R⟩:=h;rcases R with⟨rfl,rfl⟩|⟨b,L,rfl,D,G⟩
 ·have t:Pu w (w.alloc (.cells #[.bool g,.slice A n c,.pointer none] 33)):=(Pu.refl w).alloc _;clear N;have k:Blk ((w.alloc (.cells #[.bool g,.slice A n c,.pointer none] 33)).alloc (.cells #[.bool false,.slice none 0 0] 30)) (w.heap.size+1) 30 #[.bool false,.slice none 0 0]:=Blk.at_new _ _ _ (by simp);obtain⟨E,r1⟩:=k.c2_;go_enter Tryz.func14,Tryz.ntmps14;go_wp2;exact bodyPost_ret (v:= .agg #[.bool false,.slice none 0 0]) (by simp [results,Tryz.results14,go_sem,E,r1]) rfl ⟨_,rfl,ZR.zero _,t.alloc _⟩
 ·have t:Pu w ((w.alloc (.cells #[.bool g,.slice A n c,.pointer (some ⟨b,0,none⟩)] 33)).alloc (.cells #[.bool false,.slice none 0 0] 30)):=((Pu.refl w).alloc _).alloc _;have K:=D.pu t;have I:Blk ((w.alloc (.cells #[.bool g,.slice A n c,.pointer (some ⟨b,0,none⟩)] 33)).alloc (.cells #[.bool false,.slice none 0 0] 30)) (w.heap.size+1) 30 #[.bool false,.slice none 0 0]:=Blk.at_new _ _ _ (by simp);have P:=zrH b L k _ K;have F:=G.get (k:=k) D.rise;generalize gvZ L k=W at*
  obtain⟨p,j,i,o,rfl⟩:=F.shape2;have z:=F.pu t;have M:=Qh z;clear N D G K F z;go_enter Tryz.func14,Tryz.ntmps14;go_wp2_with fail;refine P.mono ?_;rintro e S ⟨rfl,y⟩;have x:=(I.pu y).alloc (.cells #[.bool p,.slice j i o] 30);obtain⟨T,U⟩:=x.c2_;obtain⟨X,V⟩:=x.z2_;obtain⟨H,Q⟩:=zfT x p j i o;obtain⟨_,_,J,O⟩:=zA x p j i o;have C:=J _ _ (M.out.pu (y.alloc (.cells #[.bool p,.slice j i o] 30)));have B:=O _ (t.trans (y.alloc (.cells #[.bool p,.slice j i o] 30))) (by omega);obtain⟨E,r1⟩:=H.c2_;have HZ:=Qh (AI C B);clear H Q J O C B x M y I;go_wp2;exact bodyPost_ret (v:= .agg #[.bool p,.slice j i o]) (by simp [results,Tryz.results14,go_sem,E,r1]) rfl ⟨_,rfl,HZ.out.1,HZ.out.2⟩
end
section
open Go.RowKit
theorem zds{z:Int}(h:z.natAbs≤1):z.natAbs<4294967296^E3:=zC (n:=z.natAbs) (a:=1) (b:=E3) (Nat.lt_of_le_of_lt h (by decide)) (by decide)
theorem zrv{U V:World}{b b' c:Nat}{D v C B t w:Value}(G:U.cell? ⟨b,0,none⟩=some D)(H:U.cell? ⟨b,1,none⟩=some v)(J:U.cell? ⟨b,2,none⟩=some C)(I:U.cell? ⟨b',0,none⟩=some B)(E:U.cell? ⟨b',1,none⟩=some t)(F:U.cell? ⟨b',2,none⟩=some w)(p:Pu U V)(x y z:Value)(k:b≠c)(o:b'≠c):(((V.setCell ⟨c,0,none⟩ x).setCell ⟨c,1,none⟩ y).setCell ⟨c,2,none⟩ z).cell? ⟨b,0,none⟩=some D∧(((V.setCell ⟨c,0,none⟩ x).setCell ⟨c,1,none⟩ y).setCell ⟨c,2,none⟩ z).cell? ⟨b,1,none⟩=some v∧(((V.setCell ⟨c,0,none⟩ x).setCell ⟨c,1,none⟩ y).setCell ⟨c,2,none⟩ z).cell? ⟨b,2,none⟩=some C∧(((V.setCell ⟨c,0,none⟩ x).setCell ⟨c,1,none⟩ y).setCell ⟨c,2,none⟩ z).cell? ⟨b',0,none⟩=some B∧(((V.setCell ⟨c,0,none⟩ x).setCell ⟨c,1,none⟩ y).setCell ⟨c,2,none⟩ z).cell? ⟨b',1,none⟩=some t∧(((V.setCell ⟨c,0,none⟩ x).setCell ⟨c,1,none⟩ y).setCell ⟨c,2,none⟩ z).cell? ⟨b',2,none⟩=some w:=by have i:Fr (fun j=>j=c) U (((V.setCell ⟨c,0,none⟩ x).setCell ⟨c,1,none⟩ y).setCell ⟨c,2,none⟩ z):=((Pu.fr p (S:=fun j=>j=c)).trans (Fr.one V c 0 x)).trans (Fr.one _ c 1 y)|>.trans (Fr.one _ c 2 z);exact⟨i.cellv G k,i.cellv H k,i.cellv J k,i.cellv I o,i.cellv E o,i.cellv F o⟩
theorem zcN(v1 v2:Value)(r1 r2:Int)(fs gs:List (Key×Int))(K M:Nat)(w:World)(T:TM w v1 r1 fs)(h2:TM w v2 r2 gs) (hK:zad K fs) (X:zad M gs) (hL:fs.length+gs.length<300) (k:K+1100000*M<4294967296^E3) (J:r1.natAbs<4294967296^E3) (L:r2.natAbs<4294967296^E3):Calls Tryz.prog 55 #[v1,v2] w fun e w'=>∃v,e= .returned v∧TMO w' w.heap.size v (r1+r2*(-1)) (zG fs gs (-1))∧Pu w w':=by
 obtain⟨C,G,H,E,D,rfl⟩:=T.shape;obtain⟨z,y,o,B,x,rfl⟩:=h2.shape;have F:∀W v3,Pu w W→ZR W v3 (-1)→Calls Tryz.prog 62 #[.agg #[.bool C,.slice G H E,.pointer D],.agg #[.bool z,.slice y o B,.pointer x],v3] W fun e w'=>∃v,e= .returned v∧TMO w' W.heap.size v (r1+r2*(-1)) (zG fs gs (-1))∧Pu W w':=fun W v3 p hz=>zeW _ _ _ r1 r2 (-1) fs gs K M W (T.pu p) (h2.pu p) hz hK (fun g O=>by have:=X g O;omega) hL k (zds (by decide)) (fun g O=>Nat.lt_of_le_of_lt (Nat.le_trans (X g O) (by omega)) k) J L;have U:=Qh F;obtain⟨W,hWe⟩:∃W,W=((w.alloc (.cells #[.bool C,.slice G H E,.pointer D] 33)).alloc (.cells #[.bool z,.slice y o B,.pointer x] 33)).alloc (.cells #[.bool false,.slice none 0 0,.pointer none] 33):=⟨_,rfl⟩
 have pW:Pu w W:=by rw [hWe];exact(((Pu.refl w).alloc _).alloc _).alloc _
 have N:Blk W w.heap.size 33 #[.bool C,.slice G H E,.pointer D]:=by rw [hWe];exact((Blk.new w _ _).alloc _).alloc _
 have Q:Blk W (w.heap.size+1) 33 #[.bool z,.slice y o B,.pointer x]:=by rw [hWe];exact(Blk.at_new _ _ _ (by simp)).alloc _
 have k4:Blk W (w.heap.size+2) 33 #[.bool false,.slice none 0 0,.pointer none]:=by rw [hWe];exact Blk.at_new _ _ _ (by simp)
 have d0:W.cell? ⟨w.heap.size,0,none⟩=some (.bool C):=N.cell 0;have V:W.cell? ⟨w.heap.size,1,none⟩=some (.slice G H E):=N.cell 1;have S:W.cell? ⟨w.heap.size,2,none⟩=some (.pointer D):=N.cell 2;have P:W.cell? ⟨w.heap.size+1,0,none⟩=some (.bool z):=Q.cell 0;have Z:W.cell? ⟨w.heap.size+1,1,none⟩=some (.slice y o B):=Q.cell 1;have d5:W.cell? ⟨w.heap.size+1,2,none⟩=some (.pointer x):=Q.cell 2;have j:Pu W W.drew:=(Pu.refl W).drew;have I:=Qh hWe;clear hWe F T h2 hK X k J L;go_enter Tryz.func55,Tryz.ntmps55;go_wp2_with fail;rw [←I.out];go_region_held3 (fun t=>t.cell? ⟨w.heap.size,0,none⟩=some (.bool C)∧t.cell? ⟨w.heap.size,1,none⟩=some (.slice G H E)∧t.cell? ⟨w.heap.size,2,none⟩=some (.pointer D)∧t.cell? ⟨w.heap.size+1,0,none⟩=some (.bool z)∧t.cell? ⟨w.heap.size+1,1,none⟩=some (.slice y o B)∧t.cell? ⟨w.heap.size+1,2,none⟩=some (.pointer x))
  (first|with_reducible exact zrv d0 V S P Z d5 j _ _ _ (by omega) (by omega)|with_reducible exact zcq d0 V S P Z d5 j|with_reducible exact zcq d0 V S P Z d5 (Pu.refl _)|go_keep)
  (first
   | (go_at_call 30;refine(zaG (-1) _ (by decide) (by decide)).mono ?_;rintro e u2 ⟨v5,rfl,h5,p9⟩;replace j:=j.trans p9;have z12:=j.size;obtain⟨g5,A5,m5,c5,rfl⟩:=h5.shape2)
   | (go_at_call 62;refine(U.out _ _ (pW.trans j) h5).mono ?_;rintro e u3 ⟨v6,rfl,Y,ai⟩;replace j:=j.trans ai;obtain⟨g6,A6,m6,c6,q6,rfl⟩:=Y.tm.shape;have l4':=k4.pu j;have ka0:=l4'.cell 0;have ka1:=l4'.cell 1;have ka2:=l4'.cell 2;have kf0:=l4'.frozen 0;have kf1:=l4'.frozen 1;have kf2:=l4'.frozen 2))
 have a6:W.heap.size=w.heap.size+3:=by rw [I.out];simp
 all_goals
  obtain⟨kB,R,tB⟩:=zcf l4' g6 A6 m6 c6 q6;have h7:=(Y.frT R (fun i e=>by have e':i=w.heap.size+2:=e;omega) tB).base_ (base':=w.heap.size) (by omega);have p7:=(pW.trans j).step R (fun i e=>by have e':i=w.heap.size+2:=e;omega);obtain⟨ao,aj,ap⟩:=kB.c3_;have H7:=Qh (AI h7 p7);clear kB R tB h7 p7 Y;go_wp2;exact bodyPost_ret (v:= .agg #[.bool g6,.slice A6 m6 c6,.pointer q6]) (by simp [results,Tryz.results55,go_sem,ao,aj,ap]) rfl ⟨_,rfl,H7.out.1,H7.out.2⟩
end
end Go.Proofs.YtckfnbckoclhpaaGreatDoor

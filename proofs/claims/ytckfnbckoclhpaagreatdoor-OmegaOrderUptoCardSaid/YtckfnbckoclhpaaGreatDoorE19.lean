/- Rows. -/
import Derived.Test.YtckfnbckoclhpaaGreatDoorE18
import Derived.Deep.RegionHeld3
import Derived.Test.YtckfnbckoclhpaaGreatDoorC07
import Derived.Test.YtckfnbckoclhpaaGreatDoorE14
namespace Go.Proofs.YtckfnbckoclhpaaGreatDoor
set_option linter.unusedVariables false
set_option linter.unusedSimpArgs false
set_option maxRecDepth 100000
set_option maxHeartbeats 16000000
section
open Go.RowKit
theorem za5{K:Nat}{fs:List (Key×Int)}(h:zad K fs):zad K (za9 fs (-1)):=by intro f i;obtain⟨q,j,rfl⟩:=List.mem_map.1 i;have:=h q j;dsimp only;omega
theorem zdg(fs:List (Key×Int))(g:Int):(za9 fs g).length=fs.length:=by simp [za9]
theorem zhk{z g:Int}(k:0<g)(h:z%g=0):(0<z/g↔0<z)∧(z/g=0↔z=0):=by
 have j:g*(z/g)=z:=Int.mul_ediv_cancel' (Int.dvd_of_emod_eq_zero h);refine⟨⟨fun i=>?_,fun i=>?_⟩,⟨fun i=>?_,fun i=>?_⟩⟩
 ·rw [←j];exact Int.mul_pos k i
 ·rcases Int.lt_or_le 0 (z/g)with c|c
  ·exact c
  ·have:g*(z/g)≤0:=Int.mul_nonpos_of_nonneg_of_nonpos (by omega) c;omega
 ·rw [i,Int.mul_zero]at j;exact j.symm
 ·rw [i];exact Int.zero_ediv g
theorem znp(base tb mb:Nat)(ok:Bool)(r:Option Nat)(L:List (Key×Nat))(ps:List (Key×Pr))(v1 v2:Value)(rest g:Int)(k:Key)(z:Int)(fs:List (Key×Int))(K:Nat)(w:World) (h:zK w base (fun b=>base≤b) tb ok mb r L ps) (h1:TM w v1 rest ((k,z)::fs)) (h2:ZR w v2 g) (aF:0<g) (ag:∀f∈(k,z)::fs,f.2%g=0) (hz:NZ ((k,z)::fs)) (hb:base≤w.heap.size) (x:zrW ps ((k,z)::fs) K) (hr:rest.natAbs<4294967296^E3) (b4:g.natAbs<4294967296^E3):Calls Tryz.prog 70 #[ptr tb,v1,v2] w (zkz base tb mb (zb0 (ok,ps) (if z<0 then .lo (za9 (zbI ((k,z)::fs) g) (-1)) (-((-rest)/g))else .up (zbI ((k,z)::fs) g) (-((-rest)/g)))) w):=by
 obtain⟨g1,A1,n1,c1,m1,rfl⟩:=h1.shape;obtain⟨g2,A2,n2,c2,rfl⟩:=h2.shape2;have bw:=h1.rise.1;obtain⟨W,hWe⟩:∃W,W=(w.alloc (.cells #[.bool g1,.slice A1 n1 c1,.pointer m1] 33)).alloc (.cells #[.bool g2,.slice A2 n2 c2] 30):=⟨_,rfl⟩
 have pW:Pu w W:=by rw [hWe];exact((Pu.refl w).alloc _).alloc _
 have aN:=zj6 _ _ rest g _ K W (h1.pu pW) (h2.pu pW) aF ag x.up x.big hr b4 x.few;have a5:=Qh aN;rw [hWe]at a5;have cv:w.heap.size+2=W.heap.size:=by rw [hWe];simp
 have aB:=Qh hWe;have y:zad K (zbI ((k,z)::fs) g):=zi9 aF x.up;have b6:NZ (zbI ((k,z)::fs) g):=zgo hz (fun f hf=>Int.dvd_of_emod_eq_zero (ag f hf));have bb:zx (zbI ((k,z)::fs) g):=zpo bw _;have aO:(-((-rest)/g)).natAbs<4294967296^E3:=by rw [Int.natAbs_neg];exact Nat.lt_of_le_of_lt (zf3 aF (-rest)) (by rw [Int.natAbs_neg];exact hr)
 have a4:(zbI ((k,z)::fs) g).length<300:=by rw [zid];exact x.few
 have b5:=x.text _ (zfi _ g) y;have bl:=x.text _ ((zjA _ (-1)).trans (zfi _ g)) (za5 y);obtain⟨zp,z0⟩:=zhk aF (ag (k,z) (List.mem_cons_self ..));have aC:=hz (k,z) (List.mem_cons_self ..);dsimp only at zp z0 aC;have aM:zbI ((k,z)::fs) g=(k,z/g)::zbI fs g:=rfl;have aX:=zgV (k:=k) (z:=z/g) (fs:=zbI fs g) bb;have b7:(z/g).natAbs<4294967296^E4:=y.big2 x.big (k,z/g) (by rw [aM];exact List.mem_cons_self ..);generalize hfd:zbI ((k,z)::fs) g=i at*
 generalize hnd: -((-rest)/g)=o at*
 have aE:=Qh (fun V v (t:TM V v o i)=>zco v o i V t);have D:=Qh (fun V v (t:TM V v o i)=>zjn v o k (z/g) (zbI fs g) V (by rw [←aM];exact t) b7 aX);have aD:=Qh (show∀V v,base≤V.heap.size→TM V v o i→Calls Tryz.prog 105 #[v] V fun e w'=>∃v,e= .returned v∧TMO w' base v 0 i∧Pu V w' from fun V v hV t=>by refine(zh1 v o i K V t y a4 x.big aO).mono ?_;rintro e w' ⟨v,e1,t,p'⟩;rw [show o+o*(-1)=(0:Int) by omega]at t;exact⟨v,e1,t.base_ hV,p'⟩);have bt:=Qh (show∀V v,base≤V.heap.size→TM V v 0 i→Calls Tryz.prog 73 #[v] V fun e w'=>∃v,e= .returned v∧TMO w' base v 0 (za9 i (-1))∧Pu V w' from fun V v hV t=>by refine(zbm v 0 i K V t y a4 (by have:=x.big;exact Nat.lt_of_le_of_lt (Nat.le_add_left _ _) this) zan).mono ?_;rintro e w' ⟨v,e1,t,p'⟩;rw [Int.zero_mul,zbv bb b6 (by omega)]at t;exact⟨v,e1,t.base_ hV,p'⟩);have b0:=Qh (fun V v (p:Pu w V) (t:TMO V base v 0 i)=>zgB base tb mb (fun b=>base≤b) ok r L ps v i V (h.pu p) t (Nat.le_trans hb p.size) x.len (y.big2 x.big) b5);have aW:=Qh (fun V v (p:Pu w V) (t:TMO V base v 0 (za9 i (-1)))=>zgB base tb mb (fun b=>base≤b) ok r L ps v (za9 i (-1)) V (h.pu p) t (Nat.le_trans hb p.size) x.len ((za5 y).big2 x.big) bl);have G:=h.rise;have aG:=Qh (AI (x.psb.of G.2 i) (AI (x.psb.of G.2 (za9 i (-1))) aO));clear aN hWe h1 h2 hr b4 x y b6 bb aO a4 b5 bl aM aX b7 hz ag hfd hnd;have bU:(z<0∧(z/g).sign= -1)∨(¬z<0∧(z/g).sign=1):=by
  rcases Int.lt_or_le 0 z with c|c
  ·exact .inr ⟨by omega,Int.sign_eq_one_of_pos (zp.2 c)⟩
  ·refine .inl ⟨by omega,Int.sign_eq_neg_one_of_neg ?_⟩;have h3:¬0<z/g:=fun h=>by
    have:=zp.1 h;omega
   have h4:z/g≠0:=fun h=>aC (z0.1 h);omega
 rcases bU with⟨ai,hs⟩|⟨ai,hs⟩
 ·rw [hs]at D;rw [if_pos ai];clear hs ai zp z0 aC;go_enter Tryz.func70,Tryz.ntmps70;go_wp2_with fail;refine a5.out.mono ?_;rintro e T ⟨v5,rfl,h5,X⟩;obtain⟨O,R,Q,S,H,rfl⟩:=h5.tm.shape;rw [←aB.out]at X;have P2:=pW.trans X;have pA:Pu T (T.alloc (.cells #[.bool O,.slice R Q S,.pointer H] 33)):=(Pu.refl _).alloc _;have kA:Blk (T.alloc (.cells #[.bool O,.slice R Q S,.pointer H] 33)) T.heap.size 33 #[.bool O,.slice R Q S,.pointer H]:=Blk.new _ _ _;have hA:=h5.pu pA;go_wp2_with fail;refine(aE.out _ _ hA.tm).mono ?_;rintro e F ⟨v6,rfl,h6,J⟩;obtain⟨g6,A6,Y,c6,rfl⟩:=h6.shape2;obtain⟨U,hU⟩:∃U,U=F.alloc (.cells #[.bool g6,.slice A6 Y c6] 30):=⟨_,rfl⟩
  have I:Pu F U:=by rw [hU];exact(Pu.refl _).alloc _
  have kN:Blk U F.heap.size 30 #[.bool g6,.slice A6 Y c6]:=by rw [hU];exact Blk.new _ _ _
  have kT:Blk U T.heap.size 33 #[.bool O,.slice R Q S,.pointer H]:=(kA.pu J).pu I;have PU:Pu w U:=((P2.trans pA).trans J).trans I;have ao:TMO U w.heap.size (.agg #[.bool O,.slice R Q S,.pointer H]) o i:=((hA.pu J).pu I).base_ (by rw [←aB.out];omega);have bc:=h6.pu I;have bR:base≤F.heap.size:=Nat.le_trans hb (Nat.le_trans P2.size (Nat.le_trans pA.size J.size));obtain⟨x0,x1,x2⟩:=kT.c3_;rw [hU]at x0 x1 x2;have aj:=Qh (D.out U _ ao.tm);rw [hU]at aj;have HU:=Qh hU;clear hU pA kA hA h5 h6 X J I P2;go_wp2_with fail;refine aj.out.mono ?_;rintro e w4 ⟨rfl,E⟩;rw [←HU.out]at E;have P4:=PU.trans E;obtain⟨y0,y1,y2⟩:=(kT.pu E).c3_;clear x0 x1 x2;go_wp2_with fail;refine(aD.out _ _ (Nat.le_trans hb P4.size) (ao.pu E).tm).mono ?_;rintro e w5 ⟨v7,rfl,h7,p5⟩;obtain⟨g7,A7,n7,c7,m7,rfl⟩:=h7.tm.shape;have P5:=P4.trans p5;clear y0 y1 y2;go_wp2_with fail;refine(bt.out _ _ (Nat.le_trans hb P5.size) h7.tm).mono ?_;rintro e w6 ⟨v8,rfl,h8,p6⟩;obtain⟨g8,A8,n8,c8,m8,rfl⟩:=h8.tm.shape;have P6:=P5.trans p6;go_wp2_with fail;refine(aW.out _ _ P6 h8).mono ?_;rintro e Z ⟨q,r',L',rfl,N,hq,q6⟩;have kZ:=(((kN.pu E).pu p5).pu p6).qf q6 (by decide);have bn:=(((bc.pu E).pu p5).pu p6).qf q6;have hQ:Qf base w Z:=(P6.qf base).trans q6;have am:=zd3 G.2 (za9 i (-1));have ak:=zew G.2 (za9 i (-1));have aq:=zgn G.2 (za9 i (-1));obtain⟨gq,Aq,nq,cq,mq,pu,pl,pe,j⟩:=N.get hq am;have aR:base≤Z.heap.size:=Nat.le_trans hb hQ.size;have au:∀V,Pu Z V→Calls Tryz.prog 109 #[pl,.agg #[.bool g6,.slice A6 Y c6]] V fun e w'=>∃a,e= .returned (.pointer a)∧NPt w' (fun b=>base≤b) (.pointer a) (za3 (zz ps (za9 i (-1))).lo o)∧Pu V w':=fun V p=>by refine(zgy _ _ (zz ps (za9 i (-1))).lo o (fun b=>base≤b) V (j.l.pu p) (bn.pu p) (fun b hb'=>Nat.le_trans aR (Nat.le_trans p.size hb')) (zej aG.out.2.2) (fun m hm=>zej (aG.out.2.1 m (.inr (.inl hm))))).mono ?_;rintro e w' ⟨p',e1,B,X⟩;obtain⟨a,rfl⟩:=B.ptr;exact⟨a,e1,B,X⟩
  have P:∀V a,Pu Z V→NPt V (fun b=>base≤b) (.pointer a) (za3 (zz ps (za9 i (-1))).lo o)→zK (V.setCell ⟨q,4,none⟩ (.pointer a)) base (fun b=>base≤b) tb ok mb r' L' (zau ps (zy 0 (za9 i (-1))) {zz ps (za9 i (-1))with lo:=za3 (zz ps (za9 i (-1))).lo o})∧Qf base w (V.setCell ⟨q,4,none⟩ (.pointer a)):=fun V a p B=>by
   have M:zao V base (fun b=>base≤b) q gq Aq nq cq mq pu pl pe (zz ps (za9 i (-1))):=⟨j.blk.pu p,j.ge,j.tm.pu p,j.u.pu p,j.l.pu p,j.e.pu p⟩
   obtain⟨a1,a2⟩:=(N.pu p).set ak hq M.blk M.ge (M.set_lo B);rw [aq]at a1;exact⟨a1,hQ.trans ((p.qf base).trans a2)⟩
  have HF:=Qh (AI au P);have kq:=j.blk;obtain⟨ap,aY⟩:=j.l.ptr;subst aY;have d0:Z.cell? ⟨q,4,none⟩=some (.pointer ap):=kq.cell 4;have d1:Z.cell? ⟨F.heap.size,0,none⟩=some (.bool g6):=kZ.cell 0;have d2:Z.cell? ⟨F.heap.size,1,none⟩=some (.slice A6 Y c6):=kZ.cell 1;have C:Pu Z Z.drew:=(Pu.refl Z).drew;clear au P j N aq ak am;go_wp2_with fail;go_region_with (first
   | (go_at_call 109;refine(HF.out.1 _ C).mono ?_;rintro e u7 ⟨a,rfl,B,p9⟩;replace C:=C.trans p9;have ka0:=(kq.pu C).cell 4;have kf0:=(kq.pu C).frozen 4))
  all_goals
   have HG:=Qh (HF.out.2 _ _ C B);clear B C HF;go_wp2
   go_end0
   exact⟨r',L',rfl,HG.out.1,HG.out.2⟩
 ·rw [hs]at D;rw [if_neg ai];clear hs ai zp z0 aC;go_enter Tryz.func70,Tryz.ntmps70;go_wp2_with fail;refine a5.out.mono ?_;rintro e T ⟨v5,rfl,h5,X⟩;obtain⟨O,R,Q,S,H,rfl⟩:=h5.tm.shape;rw [←aB.out]at X;have P2:=pW.trans X;have pA:Pu T (T.alloc (.cells #[.bool O,.slice R Q S,.pointer H] 33)):=(Pu.refl _).alloc _;have kA:Blk (T.alloc (.cells #[.bool O,.slice R Q S,.pointer H] 33)) T.heap.size 33 #[.bool O,.slice R Q S,.pointer H]:=Blk.new _ _ _;have hA:=h5.pu pA;go_wp2_with fail;refine(aE.out _ _ hA.tm).mono ?_;rintro e F ⟨v6,rfl,h6,J⟩;obtain⟨g6,A6,Y,c6,rfl⟩:=h6.shape2;obtain⟨U,hU⟩:∃U,U=F.alloc (.cells #[.bool g6,.slice A6 Y c6] 30):=⟨_,rfl⟩
  have I:Pu F U:=by rw [hU];exact(Pu.refl _).alloc _
  have kN:Blk U F.heap.size 30 #[.bool g6,.slice A6 Y c6]:=by rw [hU];exact Blk.new _ _ _
  have kT:Blk U T.heap.size 33 #[.bool O,.slice R Q S,.pointer H]:=(kA.pu J).pu I;have PU:Pu w U:=((P2.trans pA).trans J).trans I;have ao:TMO U w.heap.size (.agg #[.bool O,.slice R Q S,.pointer H]) o i:=((hA.pu J).pu I).base_ (by rw [←aB.out];omega);have bc:=h6.pu I;have bR:base≤F.heap.size:=Nat.le_trans hb (Nat.le_trans P2.size (Nat.le_trans pA.size J.size));obtain⟨x0,x1,x2⟩:=kT.c3_;rw [hU]at x0 x1 x2;have aj:=Qh (D.out U _ ao.tm);rw [hU]at aj;have HU:=Qh hU;clear hU pA kA hA h5 h6 X J I P2;go_wp2_with fail;refine aj.out.mono ?_;rintro e w4 ⟨rfl,E⟩;rw [←HU.out]at E;have P4:=PU.trans E;obtain⟨y0,y1,y2⟩:=(kT.pu E).c3_;clear x0 x1 x2;go_wp2_with fail;refine(aD.out _ _ (Nat.le_trans hb P4.size) (ao.pu E).tm).mono ?_;rintro e w5 ⟨v7,rfl,h7,p5⟩;obtain⟨g7,A7,n7,c7,m7,rfl⟩:=h7.tm.shape;have P5:=P4.trans p5;clear y0 y1 y2;go_wp2_with fail;refine(b0.out _ _ P5 h7).mono ?_;rintro e Z ⟨q,r',L',rfl,N,hq,q6⟩;have kZ:=((kN.pu E).pu p5).qf q6 (by decide);have bn:=((bc.pu E).pu p5).qf q6;have hQ:Qf base w Z:=(P5.qf base).trans q6;have am:=zd3 G.2 i;have ak:=zew G.2 i;have aq:=zgn G.2 i;obtain⟨gq,Aq,nq,cq,mq,pu,pl,pe,j⟩:=N.get hq am;have aR:base≤Z.heap.size:=Nat.le_trans hb hQ.size;have au:∀V,Pu Z V→Calls Tryz.prog 109 #[pu,.agg #[.bool g6,.slice A6 Y c6]] V fun e w'=>∃a,e= .returned (.pointer a)∧NPt w' (fun b=>base≤b) (.pointer a) (za3 (zz ps i).up o)∧Pu V w':=fun V p=>by refine(zgy _ _ (zz ps i).up o (fun b=>base≤b) V (j.u.pu p) (bn.pu p) (fun b hb'=>Nat.le_trans aR (Nat.le_trans p.size hb')) (zej aG.out.2.2) (fun m hm=>zej (aG.out.1 m (.inl hm)))).mono ?_;rintro e w' ⟨p',e1,B,X⟩;obtain⟨a,rfl⟩:=B.ptr;exact⟨a,e1,B,X⟩
  have P:∀V a,Pu Z V→NPt V (fun b=>base≤b) (.pointer a) (za3 (zz ps i).up o)→zK (V.setCell ⟨q,3,none⟩ (.pointer a)) base (fun b=>base≤b) tb ok mb r' L' (zau ps (zy 0 i) {zz ps i with up:=za3 (zz ps i).up o})∧Qf base w (V.setCell ⟨q,3,none⟩ (.pointer a)):=fun V a p B=>by
   have M:zao V base (fun b=>base≤b) q gq Aq nq cq mq pu pl pe (zz ps i):=⟨j.blk.pu p,j.ge,j.tm.pu p,j.u.pu p,j.l.pu p,j.e.pu p⟩
   obtain⟨a1,a2⟩:=(N.pu p).set ak hq M.blk M.ge (M.set_up B);rw [aq]at a1;exact⟨a1,hQ.trans ((p.qf base).trans a2)⟩
  have HF:=Qh (AI au P);have kq:=j.blk;obtain⟨ap,aY⟩:=j.u.ptr;subst aY;have d0:Z.cell? ⟨q,3,none⟩=some (.pointer ap):=kq.cell 3;have d1:Z.cell? ⟨F.heap.size,0,none⟩=some (.bool g6):=kZ.cell 0;have d2:Z.cell? ⟨F.heap.size,1,none⟩=some (.slice A6 Y c6):=kZ.cell 1;have C:Pu Z Z.drew:=(Pu.refl Z).drew;clear au P j N aq ak am;go_wp2_with fail;go_region_with (first
   | (go_at_call 109;refine(HF.out.1 _ C).mono ?_;rintro e u7 ⟨a,rfl,B,p9⟩;replace C:=C.trans p9;have ka0:=(kq.pu C).cell 3;have kf0:=(kq.pu C).frozen 3))
  all_goals
   have HG:=Qh (HF.out.2 _ _ C B);clear B C HF;go_wp2;exact bodyPost_ret (v:= .tuple #[]) (by simp [results,Tryz.results70,go_sem]) rfl ⟨r',L',rfl,HG.out.1,HG.out.2⟩
end
section
open Go.RowKit
theorem zdb{z:Int}(h:z.natAbs<4294967296^E3):z.natAbs<4294967296^E4:=zC (n:=z.natAbs) (a:=E3) (b:=E4) h (by decide)
theorem zie(x y:Int):(zee x y≤0)↔x≤y:=by
 unfold zee;split
 ·exact⟨fun _=>by omega,fun _=>by omega⟩
 ·split
  ·exact⟨fun _=>by omega,fun _=>by omega⟩
  ·exact⟨fun _=>by omega,fun _=>by omega⟩
theorem zq4{w V:World}(h:Pu w V):∃Z,Z=V∧Pu w Z:=⟨V,rfl,h⟩
theorem zje{N:Nat→Prop}(base q:Nat)(g:Bool)(A:Option Addr)(n c:Nat)(m:Option Addr)(pu pl pe:Value)(p:Pr)(e:Int)(w:World)(h:zao w base N q g A n c m pu pl pe p)(he:p.eq=some e) (W:∀m,(p.up=some m∨p.lo=some m∨p.eq=some m)→m.natAbs<4294967296^E3):Calls Tryz.prog 72 #[ptr q] w fun x w'=>x= .returned (.bool (zdK p e))∧Pu w w':=by
 have k:=h.blk;have aI:=h.e;rw [he]at aI;rcases aI with⟨_,h0⟩|⟨j,J,M,L,K,z,aT,hz,-,R,aJ⟩
 ·cases h0
 injection hz with hz;subst hz aT;have a6:=Qh (AI (W e (.inr (.inr he))) trivial);have aD:∀V,Pu w V→Calls Tryz.prog 84 #[.agg #[.bool J,.slice M L K]] V fun x w'=>∃g A n c,x= .returned (.agg #[.bool g,.slice A n c])∧ZR w' (.agg #[.bool g,.slice A n c]) (-e)∧Pu V w':=fun V pv=>(zdp _ e V (aJ.pu pv) (zdb a6.out.1)).mono fun x w' ⟨v,h1,h2,h3⟩=>by obtain⟨g,A,n,c,rfl⟩:=h2.shape2;exact⟨g,A,n,c,h1,h2,h3⟩
 have a9:=Qh aD;have d5:=k.cell 5;obtain⟨e0,e1⟩:=R.c2_;have hu:=h.u;have hl:=h.l;obtain⟨aZ,bb,ba,aY⟩:=p;dsimp only at hu hl W he;unfold zdK;dsimp only;clear h aD;rcases hu with⟨rfl,rfl⟩|⟨y,gu,Au,nu,cu,zu,rfl,rfl,-,ku,aS⟩
 ·rcases hl with⟨rfl,rfl⟩|⟨B,gl,Y,Z,cl,Q,rfl,rfl,-,kl,ap⟩
  ·have O:=k.cell 3;have c4:=k.cell 4;have i:Pu w w.drew:=(Pu.refl w).drew;clear W;go_enter Tryz.func72,Tryz.ntmps72;go_wp2_with fail;have P:=Qh i;clear i;go_region;have i:=P.out;clear P
   all_goals
    have b3:=(k.pu i).cell 3;have b4:=(k.pu i).cell 4;have b5:=(k.pu i).cell 5;obtain⟨y0,y1⟩:=(R.pu i).c2_;clear O c4 d5 e0 e1;go_wp2_with fail;have P:=Qh i;clear i;go_region;have i:=P.out.drew;clear P
    all_goals
     go_wp2;go_ret;exact⟨by simp,i⟩
  ·have U:∀V v,Pu w V→ZR V v (-e)→Calls Tryz.prog 106 #[.agg #[.bool gl,.slice Y Z cl],v] V fun x w'=>x= .returned (.int .i64 (zee Q (-e)))∧Pu V w':=fun V v pv hv=>zbF _ _ Q (-e) V (ap.pu pv) hv (zdb (W Q (.inr (.inl rfl)))) (zdb (by rw [Int.natAbs_neg];exact a6.out.1));have az:=Qh U;have av:=Qh (zie Q (-e));clear U;have O:=k.cell 3;have c4:=k.cell 4;have i:Pu w w.drew:=(Pu.refl w).drew;clear W;go_enter Tryz.func72,Tryz.ntmps72;go_wp2_with fail;have P:=Qh i;clear i;go_region;have i:=P.out;clear P
   all_goals
    have b3:=(k.pu i).cell 3;have b4:=(k.pu i).cell 4;have b5:=(k.pu i).cell 5;obtain⟨y0,y1⟩:=(R.pu i).c2_;obtain⟨v0,v1⟩:=(kl.pu i).c2_;clear O c4 d5 e0 e1;obtain⟨V,hV,o⟩:=zq4 i;rw [←hV];clear b3 b4 b5 y0 y1 v0 v1 hV i;have i:Pu w V.drew:=o.drew;have H:V.cell? ⟨q,4,none⟩=some (.pointer (some ⟨B,0,none⟩)):=(k.pu o).cell 4;have G:V.cell? ⟨q,5,none⟩=some (.pointer (some ⟨j,0,none⟩)):=(k.pu o).cell 5;have F:V.cell? ⟨B,0,none⟩=some (.bool gl):=(kl.pu o).cell 0;have C:V.cell? ⟨B,1,none⟩=some (.slice Y Z cl):=(kl.pu o).cell 1;have D:V.cell? ⟨j,0,none⟩=some (.bool J):=(R.pu o).cell 0;have I:V.cell? ⟨j,1,none⟩=some (.slice M L K):=(R.pu o).cell 1;have E:Pu V V.drew:=(Pu.refl V).drew;go_wp2_with fail;go_region_held3 (fun t=>t.cell? ⟨q,4,none⟩=some (.pointer (some ⟨B,0,none⟩))∧t.cell? ⟨q,5,none⟩=some (.pointer (some ⟨j,0,none⟩))∧t.cell? ⟨B,0,none⟩=some (.bool gl)∧t.cell? ⟨B,1,none⟩=some (.slice Y Z cl)∧t.cell? ⟨j,0,none⟩=some (.bool J)∧t.cell? ⟨j,1,none⟩=some (.slice M L K))
     (first|exact zcq H G F C D I (by repeat' (first|with_reducible exact E|with_reducible exact Pu.refl _|with_reducible refine Pu.drew ?_|with_reducible refine Pu.alloc ?_ _))|go_keep)
     (first
     | (go_at_call 84;refine(a9.out _ i).mono ?_;rintro x u3 ⟨gx,Ax,nx,cx,rfl,hx,S⟩;replace i:=i.trans S;replace E:=E.trans S)
     | (go_at_call 106;refine(az.out _ _ i hx).mono ?_;rintro x u4 ⟨rfl,T⟩;replace i:=i.trans T;replace E:=E.trans T))
    all_goals
     go_wp2;go_ret;exact⟨by simp [av.out],i⟩
 ·have aB:∀V,Pu w V→Calls Tryz.prog 106 #[.agg #[.bool gu,.slice Au nu cu],.agg #[.bool J,.slice M L K]] V fun x w'=>x= .returned (.int .i64 (zee zu e))∧Pu V w':=fun V pv=>zbF _ _ zu e V (aS.pu pv) (aJ.pu pv) (zdb (W zu (.inl rfl))) (zdb a6.out.1);obtain⟨s,hs,hcase⟩:∃s:Int,zee zu e=s∧((s≤0∧zu≤e)∨(¬s≤0∧¬zu≤e)):=⟨_,rfl,by
   have:=zie zu e;rcases Decidable.em (zu≤e)with c|c
   ·exact .inl ⟨this.2 c,c⟩
   ·exact .inr ⟨fun x=>c (this.1 x),c⟩⟩
  rw [hs]at aB;clear hs;have aA:=Qh aB;clear aB;rcases hcase with⟨aO,X⟩|⟨aO,X⟩
  ·have a5:=Qh X;clear X;rcases hl with⟨rfl,rfl⟩|⟨B,gl,Y,Z,cl,Q,rfl,rfl,-,kl,ap⟩
   ·have O:=k.cell 3;have c4:=k.cell 4;obtain⟨u0,u1⟩:=ku.c2_;have i:Pu w w.drew:=(Pu.refl w).drew;clear W;go_enter Tryz.func72,Tryz.ntmps72;go_wp2_with fail;have H:w.cell? ⟨q,3,none⟩=some (.pointer (some ⟨y,0,none⟩)):=O;have G:w.cell? ⟨q,5,none⟩=some (.pointer (some ⟨j,0,none⟩)):=d5;have F:w.cell? ⟨y,0,none⟩=some (.bool gu):=u0;have C:w.cell? ⟨y,1,none⟩=some (.slice Au nu cu):=u1;have D:w.cell? ⟨j,0,none⟩=some (.bool J):=e0;have I:w.cell? ⟨j,1,none⟩=some (.slice M L K):=e1;go_region_held3 (fun t=>t.cell? ⟨q,3,none⟩=some (.pointer (some ⟨y,0,none⟩))∧t.cell? ⟨q,5,none⟩=some (.pointer (some ⟨j,0,none⟩))∧t.cell? ⟨y,0,none⟩=some (.bool gu)∧t.cell? ⟨y,1,none⟩=some (.slice Au nu cu)∧t.cell? ⟨j,0,none⟩=some (.bool J)∧t.cell? ⟨j,1,none⟩=some (.slice M L K))
     (first|exact zcq H G F C D I (by repeat' (first|with_reducible exact i|with_reducible exact Pu.refl _|with_reducible refine Pu.drew ?_|with_reducible refine Pu.alloc ?_ _))|go_keep)
     (first
     | (go_at_call 106;refine(aA.out _ i).mono ?_;rintro x u2 ⟨rfl,p9⟩;replace i:=i.trans p9))
    all_goals clear H G F C D I
    all_goals
     have b3:=(k.pu i).cell 3;have b4:=(k.pu i).cell 4;have b5:=(k.pu i).cell 5;obtain⟨y0,y1⟩:=(R.pu i).c2_;clear O c4 d5 e0 e1;go_wp2_with fail;have P:=Qh i;clear i;go_region;have i:=P.out.drew;clear P
     all_goals
      go_wp2;go_ret;exact⟨by simp [a5.out],i⟩
   ·have U:∀V v,Pu w V→ZR V v (-e)→Calls Tryz.prog 106 #[.agg #[.bool gl,.slice Y Z cl],v] V fun x w'=>x= .returned (.int .i64 (zee Q (-e)))∧Pu V w':=fun V v pv hv=>zbF _ _ Q (-e) V (ap.pu pv) hv (zdb (W Q (.inr (.inl rfl)))) (zdb (by rw [Int.natAbs_neg];exact a6.out.1));have az:=Qh U;have av:=Qh (zie Q (-e));clear U;have O:=k.cell 3;have c4:=k.cell 4;obtain⟨u0,u1⟩:=ku.c2_;have i:Pu w w.drew:=(Pu.refl w).drew;clear W;go_enter Tryz.func72,Tryz.ntmps72;go_wp2_with fail;have H:w.cell? ⟨q,3,none⟩=some (.pointer (some ⟨y,0,none⟩)):=O;have G:w.cell? ⟨q,5,none⟩=some (.pointer (some ⟨j,0,none⟩)):=d5;have F:w.cell? ⟨y,0,none⟩=some (.bool gu):=u0;have C:w.cell? ⟨y,1,none⟩=some (.slice Au nu cu):=u1;have D:w.cell? ⟨j,0,none⟩=some (.bool J):=e0;have I:w.cell? ⟨j,1,none⟩=some (.slice M L K):=e1;go_region_held3 (fun t=>t.cell? ⟨q,3,none⟩=some (.pointer (some ⟨y,0,none⟩))∧t.cell? ⟨q,5,none⟩=some (.pointer (some ⟨j,0,none⟩))∧t.cell? ⟨y,0,none⟩=some (.bool gu)∧t.cell? ⟨y,1,none⟩=some (.slice Au nu cu)∧t.cell? ⟨j,0,none⟩=some (.bool J)∧t.cell? ⟨j,1,none⟩=some (.slice M L K))
     (first|exact zcq H G F C D I (by repeat' (first|with_reducible exact i|with_reducible exact Pu.refl _|with_reducible refine Pu.drew ?_|with_reducible refine Pu.alloc ?_ _))|go_keep)
     (first
     | (go_at_call 106;refine(aA.out _ i).mono ?_;rintro x u2 ⟨rfl,p9⟩;replace i:=i.trans p9))
    all_goals clear H G F C D I
    all_goals
     have b3:=(k.pu i).cell 3;have b4:=(k.pu i).cell 4;have b5:=(k.pu i).cell 5;obtain⟨y0,y1⟩:=(R.pu i).c2_;obtain⟨v0,v1⟩:=(kl.pu i).c2_;clear O c4 d5 e0 e1;obtain⟨V,hV,o⟩:=zq4 i;rw [←hV];clear b3 b4 b5 y0 y1 v0 v1 hV i;have i:Pu w V.drew:=o.drew;have H:V.cell? ⟨q,4,none⟩=some (.pointer (some ⟨B,0,none⟩)):=(k.pu o).cell 4;have G:V.cell? ⟨q,5,none⟩=some (.pointer (some ⟨j,0,none⟩)):=(k.pu o).cell 5;have F:V.cell? ⟨B,0,none⟩=some (.bool gl):=(kl.pu o).cell 0;have C:V.cell? ⟨B,1,none⟩=some (.slice Y Z cl):=(kl.pu o).cell 1;have D:V.cell? ⟨j,0,none⟩=some (.bool J):=(R.pu o).cell 0;have I:V.cell? ⟨j,1,none⟩=some (.slice M L K):=(R.pu o).cell 1;have E:Pu V V.drew:=(Pu.refl V).drew;go_wp2_with fail;go_region_held3 (fun t=>t.cell? ⟨q,4,none⟩=some (.pointer (some ⟨B,0,none⟩))∧t.cell? ⟨q,5,none⟩=some (.pointer (some ⟨j,0,none⟩))∧t.cell? ⟨B,0,none⟩=some (.bool gl)∧t.cell? ⟨B,1,none⟩=some (.slice Y Z cl)∧t.cell? ⟨j,0,none⟩=some (.bool J)∧t.cell? ⟨j,1,none⟩=some (.slice M L K))
      (first|exact zcq H G F C D I (by repeat' (first|with_reducible exact E|with_reducible exact Pu.refl _|with_reducible refine Pu.drew ?_|with_reducible refine Pu.alloc ?_ _))|go_keep)
      (first
      | (go_at_call 84;refine(a9.out _ i).mono ?_;rintro x u3 ⟨gx,Ax,nx,cx,rfl,hx,S⟩;replace i:=i.trans S;replace E:=E.trans S)
      | (go_at_call 106;refine(az.out _ _ i hx).mono ?_;rintro x u4 ⟨rfl,T⟩;replace i:=i.trans T;replace E:=E.trans T))
     all_goals
      go_wp2;go_ret;exact⟨by simp [a5.out,av.out],i⟩
  ·have a5:=Qh X;clear X;rcases hl with⟨rfl,rfl⟩|⟨B,gl,Y,Z,cl,Q,rfl,rfl,-,kl,ap⟩
   ·have O:=k.cell 3;have c4:=k.cell 4;obtain⟨u0,u1⟩:=ku.c2_;have i:Pu w w.drew:=(Pu.refl w).drew;clear W;go_enter Tryz.func72,Tryz.ntmps72;go_wp2_with fail;have H:w.cell? ⟨q,3,none⟩=some (.pointer (some ⟨y,0,none⟩)):=O;have G:w.cell? ⟨q,5,none⟩=some (.pointer (some ⟨j,0,none⟩)):=d5;have F:w.cell? ⟨y,0,none⟩=some (.bool gu):=u0;have C:w.cell? ⟨y,1,none⟩=some (.slice Au nu cu):=u1;have D:w.cell? ⟨j,0,none⟩=some (.bool J):=e0;have I:w.cell? ⟨j,1,none⟩=some (.slice M L K):=e1;go_region_held3 (fun t=>t.cell? ⟨q,3,none⟩=some (.pointer (some ⟨y,0,none⟩))∧t.cell? ⟨q,5,none⟩=some (.pointer (some ⟨j,0,none⟩))∧t.cell? ⟨y,0,none⟩=some (.bool gu)∧t.cell? ⟨y,1,none⟩=some (.slice Au nu cu)∧t.cell? ⟨j,0,none⟩=some (.bool J)∧t.cell? ⟨j,1,none⟩=some (.slice M L K))
     (first|exact zcq H G F C D I (by repeat' (first|with_reducible exact i|with_reducible exact Pu.refl _|with_reducible refine Pu.drew ?_|with_reducible refine Pu.alloc ?_ _))|go_keep)
     (first
     | (go_at_call 106;refine(aA.out _ i).mono ?_;rintro x u2 ⟨rfl,p9⟩;replace i:=i.trans p9))
    all_goals clear H G F C D I
    all_goals
     have b3:=(k.pu i).cell 3;have b4:=(k.pu i).cell 4;have b5:=(k.pu i).cell 5;obtain⟨y0,y1⟩:=(R.pu i).c2_;clear O c4 d5 e0 e1;go_wp2_with fail;have P:=Qh i;clear i;go_region;have i:=P.out.drew;clear P
     all_goals
      go_wp2;go_ret;exact⟨by simp [a5.out],i⟩
   ·have U:∀V v,Pu w V→ZR V v (-e)→Calls Tryz.prog 106 #[.agg #[.bool gl,.slice Y Z cl],v] V fun x w'=>x= .returned (.int .i64 (zee Q (-e)))∧Pu V w':=fun V v pv hv=>zbF _ _ Q (-e) V (ap.pu pv) hv (zdb (W Q (.inr (.inl rfl)))) (zdb (by rw [Int.natAbs_neg];exact a6.out.1));have az:=Qh U;have av:=Qh (zie Q (-e));clear U;have O:=k.cell 3;have c4:=k.cell 4;obtain⟨u0,u1⟩:=ku.c2_;have i:Pu w w.drew:=(Pu.refl w).drew;clear W;go_enter Tryz.func72,Tryz.ntmps72;go_wp2_with fail;have H:w.cell? ⟨q,3,none⟩=some (.pointer (some ⟨y,0,none⟩)):=O;have G:w.cell? ⟨q,5,none⟩=some (.pointer (some ⟨j,0,none⟩)):=d5;have F:w.cell? ⟨y,0,none⟩=some (.bool gu):=u0;have C:w.cell? ⟨y,1,none⟩=some (.slice Au nu cu):=u1;have D:w.cell? ⟨j,0,none⟩=some (.bool J):=e0;have I:w.cell? ⟨j,1,none⟩=some (.slice M L K):=e1;go_region_held3 (fun t=>t.cell? ⟨q,3,none⟩=some (.pointer (some ⟨y,0,none⟩))∧t.cell? ⟨q,5,none⟩=some (.pointer (some ⟨j,0,none⟩))∧t.cell? ⟨y,0,none⟩=some (.bool gu)∧t.cell? ⟨y,1,none⟩=some (.slice Au nu cu)∧t.cell? ⟨j,0,none⟩=some (.bool J)∧t.cell? ⟨j,1,none⟩=some (.slice M L K))
     (first|exact zcq H G F C D I (by repeat' (first|with_reducible exact i|with_reducible exact Pu.refl _|with_reducible refine Pu.drew ?_|with_reducible refine Pu.alloc ?_ _))|go_keep)
     (first
     | (go_at_call 106;refine(aA.out _ i).mono ?_;rintro x u2 ⟨rfl,p9⟩;replace i:=i.trans p9))
    all_goals clear H G F C D I
    all_goals
     have b3:=(k.pu i).cell 3;have b4:=(k.pu i).cell 4;have b5:=(k.pu i).cell 5;obtain⟨y0,y1⟩:=(R.pu i).c2_;obtain⟨v0,v1⟩:=(kl.pu i).c2_;clear O c4 d5 e0 e1;obtain⟨V,hV,o⟩:=zq4 i;rw [←hV];clear b3 b4 b5 y0 y1 v0 v1 hV i;have i:Pu w V.drew:=o.drew;have H:V.cell? ⟨q,4,none⟩=some (.pointer (some ⟨B,0,none⟩)):=(k.pu o).cell 4;have G:V.cell? ⟨q,5,none⟩=some (.pointer (some ⟨j,0,none⟩)):=(k.pu o).cell 5;have F:V.cell? ⟨B,0,none⟩=some (.bool gl):=(kl.pu o).cell 0;have C:V.cell? ⟨B,1,none⟩=some (.slice Y Z cl):=(kl.pu o).cell 1;have D:V.cell? ⟨j,0,none⟩=some (.bool J):=(R.pu o).cell 0;have I:V.cell? ⟨j,1,none⟩=some (.slice M L K):=(R.pu o).cell 1;have E:Pu V V.drew:=(Pu.refl V).drew;go_wp2_with fail;go_region_held3 (fun t=>t.cell? ⟨q,4,none⟩=some (.pointer (some ⟨B,0,none⟩))∧t.cell? ⟨q,5,none⟩=some (.pointer (some ⟨j,0,none⟩))∧t.cell? ⟨B,0,none⟩=some (.bool gl)∧t.cell? ⟨B,1,none⟩=some (.slice Y Z cl)∧t.cell? ⟨j,0,none⟩=some (.bool J)∧t.cell? ⟨j,1,none⟩=some (.slice M L K))
      (first|exact zcq H G F C D I (by repeat' (first|with_reducible exact E|with_reducible exact Pu.refl _|with_reducible refine Pu.drew ?_|with_reducible refine Pu.alloc ?_ _))|go_keep)
      (first
      | (go_at_call 84;refine(a9.out _ i).mono ?_;rintro x u3 ⟨gx,Ax,nx,cx,rfl,hx,S⟩;replace i:=i.trans S;replace E:=E.trans S)
      | (go_at_call 106;refine(az.out _ _ i hx).mono ?_;rintro x u4 ⟨rfl,T⟩;replace i:=i.trans T;replace E:=E.trans T))
     all_goals
      go_wp2;go_ret;exact⟨(by simp [av.out];intro h;have:=a5.out;omega),i⟩
end
section
open Go.RowKit
theorem zk0(j:List Int):∀z∈j,zmF j∣z:=by
 have o:∀(l:List Int) (g:Int),(l.foldl (fun g z=>((Int.gcd g z:Nat):Int)) g)∣g∧∀z∈l,(l.foldl (fun g z=>((Int.gcd g z:Nat):Int)) g)∣z:=by
  intro l
  induction l with
  |nil=>exact fun g=>⟨Int.dvd_refl g,fun z i=>by cases i⟩
  |cons y l ih=>
   intro g;obtain⟨k,p⟩:=ih ((Int.gcd g y:Nat):Int);refine⟨Int.dvd_trans k (Int.gcd_dvd_left g y),fun z i=>?_⟩;rcases List.mem_cons.1 i with rfl|i
   ·exact Int.dvd_trans k (Int.gcd_dvd_right g z)
   ·exact p z i
 exact(o j 0).2
theorem zes(i:List Int):0≤zmF i:=by
 have j:∀(l:List Int) (g:Int),0≤g→0≤(l.foldl (fun g z=>((Int.gcd g z:Nat):Int)) g):=by
  intro l
  induction l with
  |nil=>exact fun g h=>h
  |cons y l ih=>exact fun g h=>ih _ (Int.natCast_nonneg _)
 exact j i 0 (Int.le_refl 0)
theorem zhK{r:Int}{eq:Bool}(h:r>0∨(eq=true∧r<0)):zP ⟨r,[],eq⟩= .bad:=by unfold zP;have i:zbZ ([]:List (Key×Int))=0:=rfl;dsimp only;rw [if_pos i,if_pos h]
theorem zen{r:Int}{eq:Bool}(h:¬(r>0∨(eq=true∧r<0))):zP ⟨r,[],eq⟩= .nothing:=by unfold zP;have i:zbZ ([]:List (Key×Int))=0:=rfl;dsimp only;rw [if_pos i,if_neg h]
theorem zoV{k:Key}{z:Int}{fs:List (Key×Int)}(p:NZ ((k,z)::fs)):0<zbZ ((k,z)::fs):=by
 have j:=zes (((k,z)::fs).map (·.2));have i:=zk0 (((k,z)::fs).map (·.2)) z (by simp);have o:=p (k,z) (List.mem_cons_self ..);unfold zbZ;rcases Int.lt_or_eq_of_le j with h|h
 ·exact h
 ·rw [←h]at i;exact absurd (Int.zero_dvd.1 i) o
theorem zb3{fs:List (Key×Int)}:∀f∈fs,f.2%zbZ fs=0:=fun f hf=>Int.emod_eq_zero_of_dvd (zk0 _ f.2 (List.mem_map_of_mem (f:=(·.2)) hf))
theorem zqx{r:Int}{k:Key}{z:Int}{fs:List (Key×Int)}(d:Int)(o:d=if z<0 then -(zbZ ((k,z)::fs))else zbZ ((k,z)::fs)):exM r ((k,z)::fs) d=decide (r%d=0):=by
 unfold exM;have h:(((k,z)::fs).all fun f=>decide (f.2%d=0))=true:=by
  rw [List.all_eq_true];intro f j;have i:=zb3 f j;rw [decide_eq_true_iff,o];split
  ·rw [Int.emod_neg];exact i
  ·exact i
 rw [h,Bool.and_true]
theorem zon(base tb mb:Nat)(ok:Bool)(r:Option Nat)(L:List (Key×Nat))(ps:List (Key×Pr))(q:RawR)(ao:RowM)(K:Nat)(w:World) (h:zK w base (fun b=>base≤b) tb ok mb r L ps) (hq:zeP w q ao) (hz:NZ ao.fs) (hb:base≤w.heap.size) (hR:zrW ps ao.fs K) (hr:ao.rest.natAbs<4294967296^E3):Calls Tryz.prog 35 #[ptr tb,q.val] w (zkz base tb mb (zbP (ok,ps) ao) w):=by
 obtain⟨g1,A1,n1,c1,m1,eq⟩:=q;obtain⟨rest,fs,b0⟩:=ao;obtain⟨he,h1⟩:=hq;dsimp only at he h1 hz hR hr;subst he;unfold RawR.term at h1;dsimp only at h1;unfold RawR.val;dsimp only;obtain⟨W,hWe⟩:∃W,W=w.alloc (.cells #[.bool g1,.slice A1 n1 c1,.pointer m1,.bool eq] 35):=⟨_,rfl⟩
 have pW:Pu w W:=by rw [hWe];exact(Pu.refl w).alloc _
 have kR:Blk W w.heap.size 35 #[.bool g1,.slice A1 n1 c1,.pointer m1,.bool eq]:=by rw [hWe];exact Blk.new _ _ _
 have aD:=zke _ rest fs W (h1.pu pW) (hR.up.big2 hR.big);have ad:=Qh aD;rw [hWe]at ad;have aB:(zbZ fs).natAbs<4294967296^E3:=zhG (zk6 E3) (fun z hz=>by obtain⟨f,hf,rfl⟩:=List.mem_map.1 hz;exact hR.up.big hR.big f hf);have Z:=Qh (fun V (p:Pu w V)=>zco _ rest fs V (h1.pu p));have af:=Qh (fun V v (hv:ZR V v rest)=>zaN v rest V hv (zej hr));have J:=Qh (fun V v (hv:ZR V v (zbZ fs))=>zaN v (zbZ fs) V hv (zej aB));have am:=Qh hWe;have ak:=Qh h;have HR:=Qh hR;have Hr:=Qh (AI hr trivial);have Hz:=Qh hz;have H1:=Qh h1;have aS:=Qh (AI aB trivial);clear hWe aD h1 h hR hr hz aB;change Hid (Calls _ _ _ _ fun e w'=>∃v',e= .returned v'∧ZR w' v' (zbZ fs)∧_)at ad;unfold zbP
 cases fs with
 |nil=>
  have aQ:(zbZ ([]:List (Key×Int))).sign=0:=rfl;rw [aQ]at J;clear aQ;rcases Int.lt_trichotomy rest 0 with hs|hs|hs
  ·have h2:rest.sign= -1:=Int.sign_eq_neg_one_of_neg hs;rw [h2]at af
   cases eq with
   |true=>
    have hf:zP ⟨rest,[],true⟩= .bad:=by exact zhK (.inr ⟨rfl,hs⟩)
    rw [hf];clear hf h2 hs;go_enter Tryz.func35,Tryz.ntmps35;go_wp2_with fail;refine ad.out.mono ?_;rintro e D ⟨v5,rfl,C,o⟩;rw [←am.out]at o;obtain⟨O,R,Q,T,rfl⟩:=C.shape2;obtain⟨U,hU⟩:∃U,U=D.alloc (.cells #[.bool O,.slice R Q T] 30):=⟨_,rfl⟩
    have j:Pu D U:=by rw [hU];exact(Pu.refl _).alloc _
    have H:Blk U D.heap.size 30 #[.bool O,.slice R Q T]:=by rw [hU];exact Blk.new _ _ _
    have t:=(kR.pu o).pu j;have PU:Pu w U:=(pW.trans o).trans j;have Y:=C.pu j;obtain⟨N,S,X⟩:=t.c3_;rw [hU]at N S X;have y:=Qh (Z.out U PU);rw [hU]at y;have HU:=Qh hU;clear hU o j C;go_wp2_with fail;refine y.out.mono ?_;rintro e w2 ⟨v6,rfl,h6,E⟩;rw [←HU.out]at E;clear N S X;go_wp2_with fail;refine(af.out _ _ h6).mono ?_;rintro e w3 ⟨rfl,M⟩;have B:=E.trans M;obtain⟨G,I⟩:=(H.pu B).c2_;go_wp2_with fail;refine(J.out _ _ (Y.pu B)).mono ?_;rintro e w4 ⟨rfl,P⟩;have i:=B.trans P;clear G I E M P;obtain⟨G,I⟩:=(H.pu i).c2_;obtain⟨y2,y3,y4,y5⟩:=(t.pu i).c4_;have F:=PU.trans i;have ah:=ak.out.pu F;have t1:=ah.blk.cell 1;have f1:=ah.blk.frozen 1;have HQ:=Qh (ah.set_ok false);have aK:=Qh F;clear ah B i PU F;go_wp2
    go_end0
    exact⟨r,L,rfl,HQ.out.1,(aK.out.qf base).trans HQ.out.2⟩
   |false=>
    have hf:zP ⟨rest,[],false⟩= .nothing:=by exact zen (fun x=>x.elim (fun x=>by omega) (fun x=>by cases x.1))
    rw [hf];clear hf h2 hs;go_enter Tryz.func35,Tryz.ntmps35;go_wp2_with fail;refine ad.out.mono ?_;rintro e D ⟨v5,rfl,C,o⟩;rw [←am.out]at o;obtain⟨O,R,Q,T,rfl⟩:=C.shape2;obtain⟨U,hU⟩:∃U,U=D.alloc (.cells #[.bool O,.slice R Q T] 30):=⟨_,rfl⟩
    have j:Pu D U:=by rw [hU];exact(Pu.refl _).alloc _
    have H:Blk U D.heap.size 30 #[.bool O,.slice R Q T]:=by rw [hU];exact Blk.new _ _ _
    have t:=(kR.pu o).pu j;have PU:Pu w U:=(pW.trans o).trans j;have Y:=C.pu j;obtain⟨N,S,X⟩:=t.c3_;rw [hU]at N S X;have y:=Qh (Z.out U PU);rw [hU]at y;have HU:=Qh hU;clear hU o j C;go_wp2_with fail;refine y.out.mono ?_;rintro e w2 ⟨v6,rfl,h6,E⟩;rw [←HU.out]at E;clear N S X;go_wp2_with fail;refine(af.out _ _ h6).mono ?_;rintro e w3 ⟨rfl,M⟩;have B:=E.trans M;obtain⟨G,I⟩:=(H.pu B).c2_;go_wp2_with fail;refine(J.out _ _ (Y.pu B)).mono ?_;rintro e w4 ⟨rfl,P⟩;have i:=B.trans P;clear G I E M P;obtain⟨G,I⟩:=(H.pu i).c2_;obtain⟨y2,y3,y4,y5⟩:=(t.pu i).c4_;have F:=PU.trans i;go_wp2_with fail;refine(J.out _ _ (Y.pu i)).mono ?_;rintro e w5 ⟨rfl,p5⟩;have P5:=F.trans p5;go_wp2
    go_end0
    exact⟨r,L,rfl,ak.out.pu P5,P5.qf base⟩
  ·have h2:rest.sign=0:=by rw [hs];rfl
   rw [h2]at af;have hf:zP ⟨rest,[],eq⟩= .nothing:=by exact zen (fun x=>x.elim (fun x=>by omega) (fun x=>by have:=x.2;omega))
   rw [hf];clear hf h2 hs
   cases eq with
   |true=>
    go_enter Tryz.func35,Tryz.ntmps35;go_wp2_with fail;refine ad.out.mono ?_;rintro e D ⟨v5,rfl,C,o⟩;rw [←am.out]at o;obtain⟨O,R,Q,T,rfl⟩:=C.shape2;obtain⟨U,hU⟩:∃U,U=D.alloc (.cells #[.bool O,.slice R Q T] 30):=⟨_,rfl⟩
    have j:Pu D U:=by rw [hU];exact(Pu.refl _).alloc _
    have H:Blk U D.heap.size 30 #[.bool O,.slice R Q T]:=by rw [hU];exact Blk.new _ _ _
    have t:=(kR.pu o).pu j;have PU:Pu w U:=(pW.trans o).trans j;have Y:=C.pu j;obtain⟨N,S,X⟩:=t.c3_;rw [hU]at N S X;have y:=Qh (Z.out U PU);rw [hU]at y;have HU:=Qh hU;clear hU o j C;go_wp2_with fail;refine y.out.mono ?_;rintro e w2 ⟨v6,rfl,h6,E⟩;rw [←HU.out]at E;clear N S X;go_wp2_with fail;refine(af.out _ _ h6).mono ?_;rintro e w3 ⟨rfl,M⟩;have B:=E.trans M;obtain⟨G,I⟩:=(H.pu B).c2_;go_wp2_with fail;refine(J.out _ _ (Y.pu B)).mono ?_;rintro e w4 ⟨rfl,P⟩;have i:=B.trans P;clear G I E M P;obtain⟨G,I⟩:=(H.pu i).c2_;obtain⟨y2,y3,y4,y5⟩:=(t.pu i).c4_;have F:=PU.trans i;go_wp2_with fail;refine(J.out _ _ (Y.pu i)).mono ?_;rintro e w5 ⟨rfl,p5⟩;have P5:=F.trans p5;go_wp2
    go_end0
    exact⟨r,L,rfl,ak.out.pu P5,P5.qf base⟩
   |false=>
    go_enter Tryz.func35,Tryz.ntmps35;go_wp2_with fail;refine ad.out.mono ?_;rintro e D ⟨v5,rfl,C,o⟩;rw [←am.out]at o;obtain⟨O,R,Q,T,rfl⟩:=C.shape2;obtain⟨U,hU⟩:∃U,U=D.alloc (.cells #[.bool O,.slice R Q T] 30):=⟨_,rfl⟩
    have j:Pu D U:=by rw [hU];exact(Pu.refl _).alloc _
    have H:Blk U D.heap.size 30 #[.bool O,.slice R Q T]:=by rw [hU];exact Blk.new _ _ _
    have t:=(kR.pu o).pu j;have PU:Pu w U:=(pW.trans o).trans j;have Y:=C.pu j;obtain⟨N,S,X⟩:=t.c3_;rw [hU]at N S X;have y:=Qh (Z.out U PU);rw [hU]at y;have HU:=Qh hU;clear hU o j C;go_wp2_with fail;refine y.out.mono ?_;rintro e w2 ⟨v6,rfl,h6,E⟩;rw [←HU.out]at E;clear N S X;go_wp2_with fail;refine(af.out _ _ h6).mono ?_;rintro e w3 ⟨rfl,M⟩;have B:=E.trans M;obtain⟨G,I⟩:=(H.pu B).c2_;go_wp2_with fail;refine(J.out _ _ (Y.pu B)).mono ?_;rintro e w4 ⟨rfl,P⟩;have i:=B.trans P;clear G I E M P;obtain⟨G,I⟩:=(H.pu i).c2_;obtain⟨y2,y3,y4,y5⟩:=(t.pu i).c4_;have F:=PU.trans i;go_wp2_with fail;refine(J.out _ _ (Y.pu i)).mono ?_;rintro e w5 ⟨rfl,p5⟩;have P5:=F.trans p5;go_wp2
    go_end0
    exact⟨r,L,rfl,ak.out.pu P5,P5.qf base⟩
  ·have h2:rest.sign=1:=Int.sign_eq_one_of_pos hs;rw [h2]at af;have hf:zP ⟨rest,[],eq⟩= .bad:=by exact zhK (.inl hs)
   rw [hf];clear hf h2 hs;go_enter Tryz.func35,Tryz.ntmps35;go_wp2_with fail;refine ad.out.mono ?_;rintro e D ⟨v5,rfl,C,o⟩;rw [←am.out]at o;obtain⟨O,R,Q,T,rfl⟩:=C.shape2;obtain⟨U,hU⟩:∃U,U=D.alloc (.cells #[.bool O,.slice R Q T] 30):=⟨_,rfl⟩
   have j:Pu D U:=by rw [hU];exact(Pu.refl _).alloc _
   have H:Blk U D.heap.size 30 #[.bool O,.slice R Q T]:=by rw [hU];exact Blk.new _ _ _
   have t:=(kR.pu o).pu j;have PU:Pu w U:=(pW.trans o).trans j;have Y:=C.pu j;obtain⟨N,S,X⟩:=t.c3_;rw [hU]at N S X;have y:=Qh (Z.out U PU);rw [hU]at y;have HU:=Qh hU;clear hU o j C;go_wp2_with fail;refine y.out.mono ?_;rintro e w2 ⟨v6,rfl,h6,E⟩;rw [←HU.out]at E;clear N S X;go_wp2_with fail;refine(af.out _ _ h6).mono ?_;rintro e w3 ⟨rfl,M⟩;have B:=E.trans M;obtain⟨G,I⟩:=(H.pu B).c2_;go_wp2_with fail;refine(J.out _ _ (Y.pu B)).mono ?_;rintro e w4 ⟨rfl,P⟩;have i:=B.trans P;clear G I E M P;obtain⟨G,I⟩:=(H.pu i).c2_;obtain⟨y2,y3,y4,y5⟩:=(t.pu i).c4_;have F:=PU.trans i;have ah:=ak.out.pu F;have t1:=ah.blk.cell 1;have f1:=ah.blk.frozen 1;have HQ:=Qh (ah.set_ok false);have aK:=Qh F;clear ah B i PU F;go_wp2
   go_end0
   exact⟨r,L,rfl,HQ.out.1,(aK.out.qf base).trans HQ.out.2⟩
 |cons f fs=>
  obtain⟨k,z⟩:=f;have aR:=zoV Hz.out;have aP:(zbZ ((k,z)::fs)).sign=1:=Int.sign_eq_one_of_pos aR;have aC:¬zbZ ((k,z)::fs)=0:=by omega
  rw [aP]at J;have ba:=Qh aR;clear aP
  cases eq with
  |true=>
   have hf:zP ⟨rest,(k,z)::fs,true⟩=if exM rest ((k,z)::fs) (if z<0 then -(zbZ ((k,z)::fs))else zbZ ((k,z)::fs))=true then .eq (zbI ((k,z)::fs) (if z<0 then -(zbZ ((k,z)::fs))else zbZ ((k,z)::fs))) (rest/(if z<0 then -(zbZ ((k,z)::fs))else zbZ ((k,z)::fs)))else .bad:=by rw [zqx _ rfl];unfold zP;dsimp only;rw [if_neg aC,if_pos rfl];unfold zaa zrY;simp only [decide_eq_true_eq]
   have aq:=Qh hf;clear hf;go_enter Tryz.func35,Tryz.ntmps35;go_wp2_with fail;refine ad.out.mono ?_;rintro e D ⟨v5,rfl,C,o⟩;rw [←am.out]at o;obtain⟨O,R,Q,T,rfl⟩:=C.shape2;obtain⟨U,hU⟩:∃U,U=D.alloc (.cells #[.bool O,.slice R Q T] 30):=⟨_,rfl⟩
   have j:Pu D U:=by rw [hU];exact(Pu.refl _).alloc _
   have H:Blk U D.heap.size 30 #[.bool O,.slice R Q T]:=by rw [hU];exact Blk.new _ _ _
   have t:=(kR.pu o).pu j;have PU:Pu w U:=(pW.trans o).trans j;have Y:=C.pu j;obtain⟨N,S,X⟩:=t.c3_;rw [hU]at N S X;have y:=Qh (Z.out U PU);rw [hU]at y;have HU:=Qh hU;clear hU o j C;go_wp2_with fail;refine y.out.mono ?_;rintro e w2 ⟨v6,rfl,h6,E⟩;rw [←HU.out]at E;clear N S X;go_wp2_with fail;refine(af.out _ _ h6).mono ?_;rintro e w3 ⟨rfl,M⟩;have B:=E.trans M;obtain⟨G,I⟩:=(H.pu B).c2_;go_wp2_with fail;refine(J.out _ _ (Y.pu B)).mono ?_;rintro e w4 ⟨rfl,P⟩;have i:=B.trans P;clear G I E M P;obtain⟨G,I⟩:=(H.pu i).c2_;obtain⟨y2,y3,y4,y5⟩:=(t.pu i).c4_;have F:=PU.trans i;go_wp2_with fail;refine(J.out _ _ (Y.pu i)).mono ?_;rintro e w5 ⟨rfl,p5⟩;have P5:=F.trans p5;obtain⟨z0,z1⟩:=(H.pu (i.trans p5)).c2_;obtain⟨z2,z3,z4,z5⟩:=(t.pu (i.trans p5)).c4_;have aE:=Y.pu (i.trans p5);have aF:=Qh P5;clear G I y2 y3 y4 y5;go_wp2_with fail;refine(zmh base tb mb ok r L ps _ _ rest (zbZ ((k,z)::fs)) k z fs K _ (ak.out.pu P5) (H1.out.pu P5) aE (by omega) (Nat.le_trans hb P5.size) HR.out Hr.out.1 aS.out.1 _ rfl).mono ?_;rintro e w6 ⟨r',L',rfl,aI,q6⟩;go_wp2
   go_end0
   rw [aq.out];exact⟨r',L',rfl,aI,(aF.out.qf base).trans q6⟩
  |false=>
   have hf:zP ⟨rest,(k,z)::fs,false⟩=if z<0 then .lo (za9 (zbI ((k,z)::fs) (zbZ ((k,z)::fs))) (-1)) (-((-rest)/zbZ ((k,z)::fs)))else .up (zbI ((k,z)::fs) (zbZ ((k,z)::fs))) (-((-rest)/zbZ ((k,z)::fs))):=by unfold zP;dsimp only;rw [if_neg aC,if_neg (by simp)];unfold zrY;simp only [decide_eq_true_eq]
   have aq:=Qh hf;clear hf;go_enter Tryz.func35,Tryz.ntmps35;go_wp2_with fail;refine ad.out.mono ?_;rintro e D ⟨v5,rfl,C,o⟩;rw [←am.out]at o;obtain⟨O,R,Q,T,rfl⟩:=C.shape2;obtain⟨U,hU⟩:∃U,U=D.alloc (.cells #[.bool O,.slice R Q T] 30):=⟨_,rfl⟩
   have j:Pu D U:=by rw [hU];exact(Pu.refl _).alloc _
   have H:Blk U D.heap.size 30 #[.bool O,.slice R Q T]:=by rw [hU];exact Blk.new _ _ _
   have t:=(kR.pu o).pu j;have PU:Pu w U:=(pW.trans o).trans j;have Y:=C.pu j;obtain⟨N,S,X⟩:=t.c3_;rw [hU]at N S X;have y:=Qh (Z.out U PU);rw [hU]at y;have HU:=Qh hU;clear hU o j C;go_wp2_with fail;refine y.out.mono ?_;rintro e w2 ⟨v6,rfl,h6,E⟩;rw [←HU.out]at E;clear N S X;go_wp2_with fail;refine(af.out _ _ h6).mono ?_;rintro e w3 ⟨rfl,M⟩;have B:=E.trans M;obtain⟨G,I⟩:=(H.pu B).c2_;go_wp2_with fail;refine(J.out _ _ (Y.pu B)).mono ?_;rintro e w4 ⟨rfl,P⟩;have i:=B.trans P;clear G I E M P;obtain⟨G,I⟩:=(H.pu i).c2_;obtain⟨y2,y3,y4,y5⟩:=(t.pu i).c4_;have F:=PU.trans i;go_wp2_with fail;refine(J.out _ _ (Y.pu i)).mono ?_;rintro e w5 ⟨rfl,p5⟩;have P5:=F.trans p5;obtain⟨z0,z1⟩:=(H.pu (i.trans p5)).c2_;obtain⟨z2,z3,z4,z5⟩:=(t.pu (i.trans p5)).c4_;have aE:=Y.pu (i.trans p5);have aF:=Qh P5;clear G I y2 y3 y4 y5;go_wp2_with fail;refine(znp base tb mb ok r L ps _ _ rest (zbZ ((k,z)::fs)) k z fs K _ (ak.out.pu P5) (H1.out.pu P5) aE ba.out zb3 Hz.out (Nat.le_trans hb P5.size) HR.out Hr.out.1 aS.out.1).mono ?_;rintro e w6 ⟨r',L',rfl,aI,q6⟩;go_wp2
   go_end0
   rw [aq.out];exact⟨r',L',rfl,aI,(aF.out.qf base).trans q6⟩
end
end Go.Proofs.YtckfnbckoclhpaaGreatDoor

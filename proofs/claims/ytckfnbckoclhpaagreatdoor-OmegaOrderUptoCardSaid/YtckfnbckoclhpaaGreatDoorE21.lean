/- Rows. -/
import Derived.Test.YtckfnbckoclhpaaGreatDoorE20
import Derived.Test.YtckfnbckoclhpaaGreatDoorE19
import Derived.Test.YtckfnbckoclhpaaGreatDoorE15
import Derived.Test.YtckfnbckoclhpaaGreatDoorC05
import Derived.Deep.RegionHeld3
import Derived.Deep.RegionLaw
namespace Go.Proofs.YtckfnbckoclhpaaGreatDoor
set_option linter.unusedVariables false
set_option linter.unusedSimpArgs false
set_option maxRecDepth 100000
set_option maxHeartbeats 8000000
section
open Go.RowKit
theorem zao.seteq{N:Nat→Prop}{w:World}{base q:Nat}{g:Bool}{A:Option Addr}{n c:Nat}{m:Option Addr}{k j t:Value}{p:Pr}(h:zao w base N q g A n c m k j t p){u:Value}{o:Option Int}(v:NPt w N u o):zao (w.setCell ⟨q,5,none⟩ u) base N q g A n c m k j u {p with eq:=o}:=
 have Q:=h.qfset (i:=5) u
 ⟨h.blk.set_ 5 u,h.ge,h.tm.qf Q,h.u.qf Q,h.l.qf Q,v.qf Q⟩
def zfS(w:World)(base q:Nat)(l:List RowM)(ok:Bool)(x:Ending)(w':World):Prop:=∃A n c L,x= .returned (.tuple #[.slice A n c,.bool ok])∧n≤2∧SlR w' A n c L∧zal w' base L l∧zbi w.heap.size A∧Fr (fun k=>k=q) w w'
theorem up4{z:Int}(h:z.natAbs<4294967296^E3):z.natAbs<4294967296^E4:=zC (n:=z.natAbs) (a:=E3) (b:=E4) h (by decide)
theorem up9{z:Int}(h:z.natAbs<4294967296^E3):z.natAbs<4294967296^E9:=zC (n:=z.natAbs) (a:=E3) (b:=E9) h (by decide)
theorem zns{a b:Int}(k:a.natAbs<4294967296^E3)(j:b.natAbs<4294967296^E3):(a+b).natAbs<4294967296^E4:=by
 have i:∀n:Nat,a.natAbs<4294967296^n→b.natAbs<4294967296^n→(a+b).natAbs<4294967296^(n+1):=fun n h1 h2=>by
  rw [Nat.pow_succ];have:=Int.natAbs_add_le a b;generalize 4294967296^n=x at*
  omega
 exact zC (n:=(a+b).natAbs) (a:=E3+1) (b:=E4) (i _ k j) (by decide)
theorem zeY{k b:Nat}(h:k≤b):zbi k (some ⟨b,0,none⟩):=fun b' off e=>by injection e with e;injection e with e;rw [←e];exact h
theorem zia{g:Bool}{A:Option Addr}{n c:Nat}{m:Option Addr}{e:Bool}:∀u∈(#[.bool g,.slice A n c,.pointer m,.bool e]:Array Value).toList,u.oneCell'=true:=RawR.cells_one ⟨g,A,n,c,m,e⟩
section
variable{base q:Nat}{p:Pr}{K:Nat}
theorem zaP(fs:List (Key×Int))(z:Int)(F:zad K fs)(y:K+1100000*K<4294967296^E3)(w:fs.length<300)(J:z.natAbs<4294967296^E3)(V:World)(i:Value)(a:Nat)(k:Bool)(o:Option Addr)(x j:Nat)(t:Option Addr)(E:TM V i 0 fs)(D:Blk V a 33 #[.bool k,.slice o x j,.pointer t])(C:TM V (.agg #[.bool k,.slice o x j,.pointer t]) z [])(G:base≤V.heap.size):Calls Tryz.prog 31 #[i,.slice (some ⟨a,0,none⟩) 1 1] V fun e w'=>∃g A n c m,e= .returned (.agg #[.bool g,.slice A n c,.pointer m])∧TMO w' base (.agg #[.bool g,.slice A n c,.pointer m]) z fs∧Pu V w':=by refine(zcd i 0 z fs [] K 0 V a k o x j t E D C F (zad.nil 0) (by simpa using w) (by rw [Nat.mul_zero,Nat.add_zero];exact Nat.lt_of_le_of_lt (Nat.le_add_right _ _) y) zan J).mono ?_;rintro e w' ⟨v,H,h,I⟩;rw [show(0:Int)+z*1=z by omega]at h;have B:TMO w' V.heap.size v z fs:=h;obtain⟨g,A,n,c,m,rfl⟩:=B.tm.shape;exact⟨g,A,n,c,m,H,B.base_ G,I⟩
theorem zpR(w:World)(g:Bool)(A:Option Addr)(n c:Nat)(m:Option Addr)(pu pl pe:Value)(h:zao w base (fun b=>base≤b) q g A n c m pu pl pe p)(hb:base≤w.heap.size)(H:zad K p.fs)(o:K+1100000*K<4294967296^E3)(j:p.fs.length<300)(C:NZ p.fs) (O:∀m,(p.up=some m∨p.lo=some m∨p.eq=some m)→m.natAbs<4294967296^E3) (e:Int) (y:p.eq=some e):Calls Tryz.prog 37 #[ptr q] w (zfS w base q [⟨e,p.fs,true⟩] (zdK p e)):=by
 have hr:=h.tm.tm.rise.1;have G:=Qh (fun z (C:z.natAbs<4294967296^E3)=>zaP (base:=base) p.fs z H o j C);have aa:=Qh (fun z (C:z.natAbs<4294967296^E3)=>zaP (base:=base) (za9 p.fs (-1)) z (za5 H) o (by rw [zdg];exact j) C);have ao:=Qh (show∀V v,base≤V.heap.size→TM V v 0 p.fs→Calls Tryz.prog 73 #[v] V fun e w'=>∃g A n c m,e= .returned (.agg #[.bool g,.slice A n c,.pointer m])∧TMO w' base (.agg #[.bool g,.slice A n c,.pointer m]) 0 (za9 p.fs (-1))∧Pu V w' from fun V v hV D=>by refine(zbm v 0 p.fs K V D H j (by exact Nat.lt_of_le_of_lt (Nat.le_add_left _ _) o) zan).mono ?_;rintro e w' ⟨v,Q,D,p'⟩;rw [Int.zero_mul,zbv hr C (by omega)]at D;obtain⟨g,A,n,c,m,rfl⟩:=D.tm.shape;exact⟨g,A,n,c,m,Q,D.base_ hV,p'⟩);have a7:=hb;have U:=Qh O;clear H o j C hr;have he:=h.e;rw [y]at he;rcases he with⟨_,h0⟩|⟨B,T,Y,X,ce,z,Q,S,a8,J,am⟩
 ·cases h0
 injection S with S;subst S Q;have ag:=Qh (AI (O e (.inr (.inr y))) trivial);have ad:=Qh y;have c5:=h.blk.cell 5;clear y O;go_enter Tryz.func37,Tryz.ntmps37;go_wp2_with fail;have k0:w.cell? ⟨q,0,none⟩=some (.bool g):=h.blk.cell 0;have k1:w.cell? ⟨q,1,none⟩=some (.slice A n c):=h.blk.cell 1;have k2:w.cell? ⟨q,2,none⟩=some (.pointer m):=h.blk.cell 2;have k3:w.cell? ⟨q,5,none⟩=some (.pointer (some ⟨B,0,none⟩)):=h.blk.cell 5;have k4:w.cell? ⟨B,0,none⟩=some (.bool T):=J.cell 0;have k5:w.cell? ⟨B,1,none⟩=some (.slice Y X ce):=J.cell 1;have i:Pu w w.drew:=(Pu.refl w).drew;have af:base≤w.heap.size:=Nat.le_trans hb (Fr.refl (fun k=>k=q) w).size;go_region_held3 (fun t=>t.cell? ⟨q,0,none⟩=some (.bool g)∧t.cell? ⟨q,1,none⟩=some (.slice A n c)∧t.cell? ⟨q,2,none⟩=some (.pointer m)∧t.cell? ⟨q,5,none⟩=some (.pointer (some ⟨B,0,none⟩))∧t.cell? ⟨B,0,none⟩=some (.bool T)∧t.cell? ⟨B,1,none⟩=some (.slice Y X ce))
  (first|exact zcq k0 k1 k2 k3 k4 k5 (by repeat' (first|with_reducible exact i|with_reducible exact Pu.refl _|with_reducible refine Pu.drew ?_|with_reducible refine Pu.alloc ?_ _))|go_keep)
  (first
  | (go_at_call 32;refine(zbd _ _ _ (am.pu i)).mono ?_;rintro x u3 ⟨v6,rfl,h6,W⟩;replace i:=i.trans W;obtain⟨g6,A6,m6,c6,q6,rfl⟩:=h6.shape)
  | (go_at_call 31;refine(G.out e ag.out.1 _ _ u3.heap.size g6 A6 m6 c6 q6 (h.tm.pu (i.alloc _)).tm (Blk.new _ _ _) (h6.pu ((Pu.refl _).alloc _)) (Nat.le_trans af (i.alloc _).size)).mono ?_;rintro x u4 ⟨R,M,P,L,N,rfl,I,Z⟩;replace i:=(i.alloc _).trans Z;have z4:=i.size)
  | (go_at_call 72;refine(zje base q g A n c m _ _ _ p e _ (h.pu (by with_reducible first|exact i|exact i.alloc _)) ad.out U.out).mono ?_;rintro x u5 ⟨rfl,E⟩;with_reducible (first| (have bR:=(Blk.new u4 35 #[.bool R,.slice M P L,.pointer N,.bool true]).pu E)|skip);replace I:=(I.pu (by with_reducible first|exact Pu.refl _|exact(Pu.refl _).alloc _)).pu E;replace i:=Pu.trans (a:=w) (by with_reducible first|exact i|exact i.alloc _) E))
 all_goals
  have F:=Qh (AI I i);clear I i;go_wp2;go_ret2
  first
   |exact⟨_,1,1,[⟨R,M,P,L,N,true⟩],rfl,by omega,Sl.of_blk bR 4 1 1 rfl (by omega),zal.one ⟨rfl,F.out.1⟩,zeY (Nat.le_trans (Fr.refl (fun k=>k=q) w).size z4),(Fr.refl (fun k=>k=q) w).pu F.out.2⟩
   |exact⟨_,1,1,[⟨R,M,P,L,N,true⟩],rfl,by omega,Sl.new _ _ _ 4 1 1 rfl (by omega),zal.one ⟨rfl,F.out.1.pu ((Pu.refl _).alloc _)⟩,zeY (Nat.le_trans (Fr.refl (fun k=>k=q) w).size F.out.2.size),(Fr.refl (fun k=>k=q) w).pu (F.out.2.alloc _)⟩
theorem zlw(w:World)(g:Bool)(A:Option Addr)(n c:Nat)(m:Option Addr)(P Q N:Value)(h:zao w base (fun b=>base≤b) q g A n c m P Q N p)(R:base≤w.heap.size)(y:zad K p.fs)(k:K+1100000*K<4294967296^E3)(j:p.fs.length<300)(o:NZ p.fs) (F:∀m,(p.up=some m∨p.lo=some m∨p.eq=some m)→m.natAbs<4294967296^E3) (B:p.eq=none) (C:p.up=none) (D:p.lo=none):Calls Tryz.prog 37 #[ptr q] w (zfS w base q [] true):=by
 have J:=h.tm.tm.rise.1;have L:=Qh (fun z (o:z.natAbs<4294967296^E3)=>zaP (base:=base) p.fs z y k j o);have E:=Qh (fun z (o:z.natAbs<4294967296^E3)=>zaP (base:=base) (za9 p.fs (-1)) z (za5 y) k (by rw [zdg];exact j) o);have M:=Qh (show∀V v,base≤V.heap.size→TM V v 0 p.fs→Calls Tryz.prog 73 #[v] V fun e w'=>∃g A n c m,e= .returned (.agg #[.bool g,.slice A n c,.pointer m])∧TMO w' base (.agg #[.bool g,.slice A n c,.pointer m]) 0 (za9 p.fs (-1))∧Pu V w' from fun V v hV x=>by refine(zbm v 0 p.fs K V x y j (by exact Nat.lt_of_le_of_lt (Nat.le_add_left _ _) k) zan).mono ?_;rintro e w' ⟨v,i,x,O⟩;rw [Int.zero_mul,zbv J o (by omega)]at x;obtain⟨g,A,n,c,m,rfl⟩:=x.tm.shape;exact⟨g,A,n,c,m,i,x.base_ hV,O⟩);have aa:=R;have S:=Qh F;clear y k j o J;have I:=h.e;rw [B]at I;rcases I with⟨i,_⟩|⟨be,ge,Ae,ne,ce,z,i,t,ad,af,U⟩;rotate_left
 ·cases t
 subst i;have H:=h.u;rw [C]at H;rcases H with⟨i,_⟩|⟨bu,gu,Au,nu,cu,z,i,t,ae,T,X⟩;rotate_left
 ·cases t
 subst i;have G:=h.l;rw [D]at G;rcases G with⟨i,_⟩|⟨bl,gl,Al,nl,cl,z,i,t,Z,W,Y⟩;rotate_left
 ·cases t
 subst i;have c3:=h.blk.cell 3;have c4:=h.blk.cell 4;have c5:=h.blk.cell 5;clear B C D F;go_enter Tryz.func37,Tryz.ntmps37;go_wp2;go_ret2;exact⟨none,0,0,[],rfl,by omega,Sl.nil _ _ _ _,zal.nil _ _,zbi.none _,Fr.refl _ _⟩
theorem zow(w:World)(g:Bool)(A:Option Addr)(n c:Nat)(m:Option Addr)(pu pl pe:Value)(h:zao w base (fun b=>base≤b) q g A n c m pu pl pe p)(Q:base≤w.heap.size)(G:zad K p.fs)(k:K+1100000*K<4294967296^E3)(j:p.fs.length<300)(C:NZ p.fs) (P:∀m,(p.up=some m∨p.lo=some m∨p.eq=some m)→m.natAbs<4294967296^E3) (a:Int) (N:p.eq=none) (E:p.up=some a) (L:p.lo=none):Calls Tryz.prog 37 #[ptr q] w (zfS w base q [⟨a,p.fs,false⟩] true):=by
 have hr:=h.tm.tm.rise.1;have F:=Qh (fun z (C:z.natAbs<4294967296^E3)=>zaP (base:=base) p.fs z G k j C);have Y:=Qh (fun z (C:z.natAbs<4294967296^E3)=>zaP (base:=base) (za9 p.fs (-1)) z (za5 G) k (by rw [zdg];exact j) C);have aq:=Qh (show∀V v,base≤V.heap.size→TM V v 0 p.fs→Calls Tryz.prog 73 #[v] V fun e w'=>∃g A n c m,e= .returned (.agg #[.bool g,.slice A n c,.pointer m])∧TMO w' base (.agg #[.bool g,.slice A n c,.pointer m]) 0 (za9 p.fs (-1))∧Pu V w' from fun V v hV D=>by refine(zbm v 0 p.fs K V D G j (by exact Nat.lt_of_le_of_lt (Nat.le_add_left _ _) k) zan).mono ?_;rintro e w' ⟨v,o,D,p'⟩;rw [Int.zero_mul,zbv hr C (by omega)]at D;obtain⟨g,A,n,c,m,rfl⟩:=D.tm.shape;exact⟨g,A,n,c,m,o,D.base_ hV,p'⟩);have aE:=Q;have aK:=Qh P;clear G k j C hr;have he:=h.e;rw [N]at he;rcases he with⟨o,_⟩|⟨be,ge,Ae,ne,ce,z,o,y,aI,aG,aJ⟩;rotate_left
 ·cases y
 subst o;have S:=h.u;rw [E]at S;rcases S with⟨_,h0⟩|⟨B,gu,W,U,cu,z,o,y,aF,O,ad⟩
 ·cases h0
 injection y with y;subst y o;have Z:=h.l;rw [L]at Z;rcases Z with⟨o,_⟩|⟨bl,gl,Al,nl,cl,z,o,y,aD,aH,aC⟩;rotate_left
 ·cases y
 subst o;have am:=Qh (AI (P a (.inl E)) trivial);have c3:=h.blk.cell 3;have c4:=h.blk.cell 4;have c5:=h.blk.cell 5;clear N E L P;go_enter Tryz.func37,Tryz.ntmps37;go_wp2_with fail;have k0:w.cell? ⟨q,0,none⟩=some (.bool g):=h.blk.cell 0;have k1:w.cell? ⟨q,1,none⟩=some (.slice A n c):=h.blk.cell 1;have k2:w.cell? ⟨q,2,none⟩=some (.pointer m):=h.blk.cell 2;have k3:w.cell? ⟨q,3,none⟩=some (.pointer (some ⟨B,0,none⟩)):=h.blk.cell 3;have k4:w.cell? ⟨B,0,none⟩=some (.bool gu):=O.cell 0;have k5:w.cell? ⟨B,1,none⟩=some (.slice W U cu):=O.cell 1;have i:Pu w w.drew:=(Pu.refl w).drew;have ae:=Q;go_region_held3 (fun t=>t.cell? ⟨q,0,none⟩=some (.bool g)∧t.cell? ⟨q,1,none⟩=some (.slice A n c)∧t.cell? ⟨q,2,none⟩=some (.pointer m)∧t.cell? ⟨q,3,none⟩=some (.pointer (some ⟨B,0,none⟩))∧t.cell? ⟨B,0,none⟩=some (.bool gu)∧t.cell? ⟨B,1,none⟩=some (.slice W U cu))
  (first|exact zcq k0 k1 k2 k3 k4 k5 (by repeat' (first|with_reducible exact i|with_reducible exact Pu.refl _|with_reducible refine Pu.drew ?_|with_reducible refine Pu.alloc ?_ _))|go_keep)
  (first
  | (go_at_call 32;refine(zbd _ _ _ (ad.pu i)).mono ?_;rintro x u3 ⟨v6,rfl,T,ai⟩;replace i:=i.trans ai;obtain⟨g6,A6,m6,c6,q6,rfl⟩:=T.shape)
  | (go_at_call 31;refine(F.out a am.out.1 _ _ u3.heap.size g6 A6 m6 c6 q6 (h.tm.pu (i.alloc _)).tm (Blk.new _ _ _) (T.pu ((Pu.refl _).alloc _)) (Nat.le_trans ae (i.alloc _).size)).mono ?_;rintro x u4 ⟨g7,X,R,c7,q7,rfl,H,aj⟩;replace i:=(i.alloc _).trans aj;have z4:=i.size;have ho0:=World.ownsRow_nil u4 w.heap.size 35 4)
  | (refine zfd zcX rfl (.tmp 77) (.tmp 92) rfl #[.bool g7,.slice X R c7,.pointer q7,.bool false] rfl zia (by simp [Act.eval]) (by simp [Act.eval]) ho0 (by simp [maxLen]) (by omega) i.size ?_;intro A8 c8 w8 J M;replace H:=H.qf (zcC ho0 Q M);replace i:=zam i ho0 (Nat.le_refl _) M))
 all_goals
  have aL:=i.cellv c4;have I:=Qh (AI H (AI J i));clear H J i;go_wp2;go_ret2;exact⟨A8,_,c8,[⟨g7,X,R,c7,q7,false⟩],rfl,by omega,Sl.of_own I.out.2.1,zal.one ⟨rfl,I.out.1⟩,zbi.own I.out.2.1,I.out.2.2.fr⟩
theorem zpx(w:World)(g:Bool)(A:Option Addr)(n c:Nat)(m:Option Addr)(pu pl pe:Value)(h:zao w base (fun b=>base≤b) q g A n c m pu pl pe p)(I:base≤w.heap.size)(G:zad K p.fs)(k:K+1100000*K<4294967296^E3)(j:p.fs.length<300)(B:NZ p.fs) (T:∀m,(p.up=some m∨p.lo=some m∨p.eq=some m)→m.natAbs<4294967296^E3) (b:Int) (Q:p.eq=none) (M:p.up=none) (F:p.lo=some b):Calls Tryz.prog 37 #[ptr q] w (zfS w base q [⟨b,za9 p.fs (-1),false⟩] true):=by
 have hr:=h.tm.tm.rise.1;have au:=Qh (fun z (B:z.natAbs<4294967296^E3)=>zaP (base:=base) p.fs z G k j B);have E:=Qh (fun z (B:z.natAbs<4294967296^E3)=>zaP (base:=base) (za9 p.fs (-1)) z (za5 G) k (by rw [zdg];exact j) B);have H:=Qh (show∀V v,base≤V.heap.size→TM V v 0 p.fs→Calls Tryz.prog 73 #[v] V fun e w'=>∃g A n c m,e= .returned (.agg #[.bool g,.slice A n c,.pointer m])∧TMO w' base (.agg #[.bool g,.slice A n c,.pointer m]) 0 (za9 p.fs (-1))∧Pu V w' from fun V v hV D=>by refine(zbm v 0 p.fs K V D G j (by exact Nat.lt_of_le_of_lt (Nat.le_add_left _ _) k) zan).mono ?_;rintro e w' ⟨v,o,D,p'⟩;rw [Int.zero_mul,zbv hr B (by omega)]at D;obtain⟨g,A,n,c,m,rfl⟩:=D.tm.shape;exact⟨g,A,n,c,m,o,D.base_ hV,p'⟩);have aF:=I;have aM:=Qh T;clear G k j B hr;have he:=h.e;rw [Q]at he;rcases he with⟨o,_⟩|⟨be,ge,Ae,ne,ce,z,o,y,aI,aH,aK⟩;rotate_left
 ·cases y
 subst o;have X:=h.u;rw [M]at X;rcases X with⟨o,_⟩|⟨bu,gu,Au,nu,cu,z,o,y,aG,aL,aJ⟩;rotate_left
 ·cases y
 subst o;have hl:=h.l;rw [F]at hl;rcases hl with⟨_,h0⟩|⟨C,gl,Z,nl,cl,z,o,y,aE,O,U⟩
 ·cases h0
 injection y with y;subst y o;have ap:=Qh (AI (T b (.inr (.inl F))) trivial);have c3:=h.blk.cell 3;have c4:=h.blk.cell 4;have c5:=h.blk.cell 5;clear Q M F T;go_enter Tryz.func37,Tryz.ntmps37;go_wp2_with fail;have k0:w.cell? ⟨q,0,none⟩=some (.bool g):=h.blk.cell 0;have k1:w.cell? ⟨q,1,none⟩=some (.slice A n c):=h.blk.cell 1;have k2:w.cell? ⟨q,2,none⟩=some (.pointer m):=h.blk.cell 2;have k3:w.cell? ⟨q,4,none⟩=some (.pointer (some ⟨C,0,none⟩)):=h.blk.cell 4;have k4:w.cell? ⟨C,0,none⟩=some (.bool gl):=O.cell 0;have k5:w.cell? ⟨C,1,none⟩=some (.slice Z nl cl):=O.cell 1;have i:Pu w w.drew:=(Pu.refl w).drew;have ah:=I;go_region_held3 (fun t=>t.cell? ⟨q,0,none⟩=some (.bool g)∧t.cell? ⟨q,1,none⟩=some (.slice A n c)∧t.cell? ⟨q,2,none⟩=some (.pointer m)∧t.cell? ⟨q,4,none⟩=some (.pointer (some ⟨C,0,none⟩))∧t.cell? ⟨C,0,none⟩=some (.bool gl)∧t.cell? ⟨C,1,none⟩=some (.slice Z nl cl))
  (first|exact zcq k0 k1 k2 k3 k4 k5 (by repeat' (first|with_reducible exact i|with_reducible exact Pu.refl _|with_reducible refine Pu.drew ?_|with_reducible refine Pu.alloc ?_ _))|go_keep)
  (first
  | (go_at_call 73;refine(H.out _ _ (Nat.le_trans I i.size) (h.tm.pu i).tm).mono ?_;rintro x u2 ⟨g5,A5,n5,c5,q5,rfl,S,p9⟩;replace i:=i.trans p9)
  | (go_at_call 32;refine(zbd _ _ _ (U.pu i)).mono ?_;rintro x u3 ⟨v6,rfl,Y,R⟩;replace i:=i.trans R;replace S:=S.pu R;obtain⟨g6,A6,m6,c6,q6,rfl⟩:=Y.shape)
  | (go_at_call 31;refine(E.out b ap.out.1 _ _ u3.heap.size g6 A6 m6 c6 q6 (S.pu ((Pu.refl _).alloc _)).tm (Blk.new _ _ _) (Y.pu ((Pu.refl _).alloc _)) (Nat.le_trans ah (i.alloc _).size)).mono ?_;rintro x u4 ⟨g7,A7,W,c7,q7,rfl,J,am⟩;replace i:=(i.alloc _).trans am;have ho0:=World.ownsRow_nil u4 w.heap.size 35 4)
  | (refine zfd zcX rfl (.tmp 99) (.tmp 115) rfl #[.bool g7,.slice A7 W c7,.pointer q7,.bool false] rfl zia (by simp [Act.eval]) (by simp [Act.eval]) ho0 (by simp [maxLen]) (by omega) i.size ?_;intro A9 c9 w9 P N;replace J:=J.qf (zcC ho0 I N);replace i:=zam i ho0 (Nat.le_refl _) N))
 all_goals
  have L:=Qh (AI J (AI P i));clear J P i;go_wp2;go_ret2;exact⟨A9,_,c9,[⟨g7,A7,W,c7,q7,false⟩],rfl,by omega,Sl.of_own L.out.2.1,zal.one ⟨rfl,L.out.1⟩,zbi.own L.out.2.1,L.out.2.2.fr⟩
theorem zmY(w:World)(g:Bool)(A:Option Addr)(n c:Nat)(m:Option Addr)(pu pl pe:Value)(h:zao w base (fun b=>base≤b) q g A n c m pu pl pe p)(hb:base≤w.heap.size)(J:zad K p.fs)(j:K+1100000*K<4294967296^E3)(i:p.fs.length<300)(D:NZ p.fs) (N:∀m,(p.up=some m∨p.lo=some m∨p.eq=some m)→m.natAbs<4294967296^E3) (a b:Int) (I:p.eq=none) (G:p.up=some a) (H:p.lo=some b) (W:a+b>0):Calls Tryz.prog 37 #[ptr q] w (zfS w base q [] false):=by
 have hr:=h.tm.tm.rise.1;have a4:=Qh (fun z (D:z.natAbs<4294967296^E3)=>zaP (base:=base) p.fs z J j i D);have am:=Qh (fun z (D:z.natAbs<4294967296^E3)=>zaP (base:=base) (za9 p.fs (-1)) z (za5 J) j (by rw [zdg];exact i) D);have a5:=Qh (show∀V v,base≤V.heap.size→TM V v 0 p.fs→Calls Tryz.prog 73 #[v] V fun e w'=>∃g A n c m,e= .returned (.agg #[.bool g,.slice A n c,.pointer m])∧TMO w' base (.agg #[.bool g,.slice A n c,.pointer m]) 0 (za9 p.fs (-1))∧Pu V w' from fun V v hV F=>by refine(zbm v 0 p.fs K V F J i (by exact Nat.lt_of_le_of_lt (Nat.le_add_left _ _) j) zan).mono ?_;rintro e w' ⟨v,o,F,p'⟩;rw [Int.zero_mul,zbv hr D (by omega)]at F;obtain⟨g,A,n,c,m,rfl⟩:=F.tm.shape;exact⟨g,A,n,c,m,o,F.base_ hV,p'⟩);have aG:=hb;have aM:=Qh N;clear J j i D hr;have he:=h.e;rw [I]at he;rcases he with⟨o,_⟩|⟨be,ge,Ae,ne,ce,z,o,k,aJ,aI,aL⟩;rotate_left
 ·cases k
 subst o;have hu:=h.u;rw [G]at hu;rcases hu with⟨_,h0⟩|⟨C,gu,Z,X,cu,z,o,k,aH,S,aq⟩
 ·cases h0
 injection k with k;subst k o;have hl:=h.l;rw [H]at hl;rcases hl with⟨_,h0⟩|⟨E,P,L,M,O,z,o,k,aF,Q,ag⟩
 ·cases h0
 injection k with k;subst k o;have U:=Qh (AI (N a (.inl G)) trivial);have T:=Qh (AI (N b (.inr (.inl H))) trivial);have aK:=Qh I;have R:(a+b).sign=1:=Int.sign_eq_one_of_pos W;have ae:=Qh (fun V r (kr:Blk V r 30 #[.bool P,.slice L M O]) (pp:Pu w V)=>zcB (.agg #[.bool gu,.slice Z X cu]) (.agg #[.bool P,.slice L M O]) a b r V (aq.pu pp) (ag.pu pp) (up9 U.out.1) (up9 T.out.1) kr);have B:=Qh (fun V v (hv:ZR V v (a+b))=>zaN v (a+b) V hv (zns U.out.1 T.out.1));rw [R]at B;have Hs:=Qh W;have c3:=h.blk.cell 3;have c4:=h.blk.cell 4;have c5:=h.blk.cell 5;clear I G H N R W;go_enter Tryz.func37,Tryz.ntmps37;go_wp2_with fail;have k0:w.cell? ⟨q,3,none⟩=some (.pointer (some ⟨C,0,none⟩)):=h.blk.cell 3;have k1:w.cell? ⟨C,0,none⟩=some (.bool gu):=S.cell 0;have k2:w.cell? ⟨C,1,none⟩=some (.slice Z X cu):=S.cell 1;have k3:w.cell? ⟨q,4,none⟩=some (.pointer (some ⟨E,0,none⟩)):=h.blk.cell 4;have k4:w.cell? ⟨E,0,none⟩=some (.bool P):=Q.cell 0;have k5:w.cell? ⟨E,1,none⟩=some (.slice L M O):=Q.cell 1;have y:Pu w w.drew:=(Pu.refl w).drew;go_region_held3 (fun t=>t.cell? ⟨q,3,none⟩=some (.pointer (some ⟨C,0,none⟩))∧t.cell? ⟨C,0,none⟩=some (.bool gu)∧t.cell? ⟨C,1,none⟩=some (.slice Z X cu)∧t.cell? ⟨q,4,none⟩=some (.pointer (some ⟨E,0,none⟩))∧t.cell? ⟨E,0,none⟩=some (.bool P)∧t.cell? ⟨E,1,none⟩=some (.slice L M O))
  (first|exact zcq k0 k1 k2 k3 k4 k5 (by repeat' (first|with_reducible exact y|with_reducible exact Pu.refl _|with_reducible refine Pu.drew ?_|with_reducible refine Pu.alloc ?_ _))|go_keep)
  (first
  | (go_at_call 49;refine(ae.out _ _ (Blk.new _ _ _) (y.alloc _)).mono ?_;rintro x u1 ⟨v5,rfl,Y,p9⟩;replace y:=(y.alloc _).trans p9;obtain⟨g5,A5,n5,c5',rfl⟩:=Y.shape2)
  | (go_at_call 15;refine(B.out _ _ Y).mono ?_;rintro x u8 ⟨rfl,ax⟩;replace y:=y.trans ax))
 all_goals
  clear Y k0 k1 k2 k3 k4 k5;have HP:=Qh y;clear y;go_wp2;go_ret2;exact⟨none,0,0,[],rfl,by omega,Sl.nil _ _ _ _,zal.nil _ _,zbi.none _,HP.out.fr⟩
theorem zmB(w:World)(g:Bool)(A:Option Addr)(n c:Nat)(m:Option Addr)(pu pl pe:Value)(h:zao w base (fun b=>base≤b) q g A n c m pu pl pe p)(hb:base≤w.heap.size)(D:zad K p.fs)(F:K+1100000*K<4294967296^E3)(E:p.fs.length<300)(O:NZ p.fs) (hB:∀m,(p.up=some m∨p.lo=some m∨p.eq=some m)→m.natAbs<4294967296^E3) (a b:Int) (ad:p.eq=none) (X:p.up=some a) (Y:p.lo=some b) (hs:a+b=0):Calls Tryz.prog 37 #[ptr q] w (zfS w base q [⟨a,p.fs,true⟩] (zdK p a)):=by
 have hr:=h.tm.tm.rise.1;have ag:=Qh (fun z (O:z.natAbs<4294967296^E3)=>zaP (base:=base) p.fs z D F E O);have aJ:=Qh (fun z (O:z.natAbs<4294967296^E3)=>zaP (base:=base) (za9 p.fs (-1)) z (za5 D) F (by rw [zdg];exact E) O);have aQ:=Qh (show∀V v,base≤V.heap.size→TM V v 0 p.fs→Calls Tryz.prog 73 #[v] V fun e w'=>∃g A n c m,e= .returned (.agg #[.bool g,.slice A n c,.pointer m])∧TMO w' base (.agg #[.bool g,.slice A n c,.pointer m]) 0 (za9 p.fs (-1))∧Pu V w' from fun V v hV W=>by refine(zbm v 0 p.fs K V W D E (by exact Nat.lt_of_le_of_lt (Nat.le_add_left _ _) F) zan).mono ?_;rintro e w' ⟨v,I,W,p'⟩;rw [Int.zero_mul,zbv hr O (by omega)]at W;obtain⟨g,A,n,c,m,rfl⟩:=W.tm.shape;exact⟨g,A,n,c,m,I,W.base_ hV,p'⟩);have bc:=hb;have L:=Qh hB;clear D F E O hr;have he:=h.e;rw [ad]at he;rcases he with⟨I,_⟩|⟨be,ge,Ae,ne,ce,z,I,G,bg,bf,bi⟩;rotate_left
 ·cases G
 subst I;have hu:=h.u;rw [X]at hu;rcases hu with⟨_,h0⟩|⟨k,R,Q,P,T,z,I,G,aF,B,H⟩
 ·cases h0
 injection G with G;subst G I;have hl:=h.l;rw [Y]at hl;rcases hl with⟨_,h0⟩|⟨S,gl,Al,nl,cl,z,I,G,bb,az,aE⟩
 ·cases h0
 injection G with G;subst G I;have M:=Qh (AI (hB a (.inl X)) trivial);have a4:=Qh (AI (hB b (.inr (.inl Y))) trivial);have bh:=Qh ad;have a0:(a+b).sign=0:=by rw [hs];rfl
 have aA:=Qh (fun V r (kr:Blk V r 30 #[.bool gl,.slice Al nl cl]) (pp:Pu w V)=>zcB (.agg #[.bool R,.slice Q P T]) (.agg #[.bool gl,.slice Al nl cl]) a b r V (H.pu pp) (aE.pu pp) (up9 M.out.1) (up9 a4.out.1) kr);have J:=Qh (fun V v (hv:ZR V v (a+b))=>zaN v (a+b) V hv (zns M.out.1 a4.out.1));rw [a0]at J;have Hs:=Qh hs;have c3:=h.blk.cell 3;have c4:=h.blk.cell 4;have c5:=h.blk.cell 5;clear ad X Y hB a0 hs;go_enter Tryz.func37,Tryz.ntmps37;go_wp2_with fail;have k0:w.cell? ⟨q,3,none⟩=some (.pointer (some ⟨k,0,none⟩)):=h.blk.cell 3;have k1:w.cell? ⟨k,0,none⟩=some (.bool R):=B.cell 0;have k2:w.cell? ⟨k,1,none⟩=some (.slice Q P T):=B.cell 1;have k3:w.cell? ⟨q,4,none⟩=some (.pointer (some ⟨S,0,none⟩)):=h.blk.cell 4;have k4:w.cell? ⟨S,0,none⟩=some (.bool gl):=az.cell 0;have k5:w.cell? ⟨S,1,none⟩=some (.slice Al nl cl):=az.cell 1;have j:Pu w w.drew:=(Pu.refl w).drew;go_region_held3 (fun t=>t.cell? ⟨q,3,none⟩=some (.pointer (some ⟨k,0,none⟩))∧t.cell? ⟨k,0,none⟩=some (.bool R)∧t.cell? ⟨k,1,none⟩=some (.slice Q P T)∧t.cell? ⟨q,4,none⟩=some (.pointer (some ⟨S,0,none⟩))∧t.cell? ⟨S,0,none⟩=some (.bool gl)∧t.cell? ⟨S,1,none⟩=some (.slice Al nl cl))
  (first|exact zcq k0 k1 k2 k3 k4 k5 (by repeat' (first|with_reducible exact j|with_reducible exact Pu.refl _|with_reducible refine Pu.drew ?_|with_reducible refine Pu.alloc ?_ _))|go_keep)
  (first
  | (go_at_call 49;refine(aA.out _ _ (Blk.new _ _ _) (j.alloc _)).mono ?_;rintro x u1 ⟨v5,rfl,h5,p9⟩;replace j:=(j.alloc _).trans p9;obtain⟨g5,A5,n5,c5',rfl⟩:=h5.shape2)
  | (go_at_call 15;refine(J.out _ _ h5).mono ?_;rintro x u8 ⟨rfl,ae⟩;replace j:=j.trans ae))
 all_goals
  clear h5 k0 k1 k2 k3 k4 k5;have C:=h.pu j;have y5:=C.blk.cell 5;have f5:=C.blk.frozen 5;have y3:=C.blk.cell 3;have y:=C.seteq (u:= .pointer (some ⟨k,0,none⟩)) (o:=some a) (.inr ⟨k,R,Q,P,T,a,rfl,rfl,aF,B.pu j,H.pu j⟩);have N:=(Pu.fr j).trans (Fr.one u8 q 5 (.pointer (some ⟨k,0,none⟩)));have aa:=C.qfset (i:=5) (.pointer (some ⟨k,0,none⟩));obtain⟨U,D⟩:∃U,U=u8.setCell ⟨q,5,none⟩ (.pointer (some ⟨k,0,none⟩)):=⟨_,rfl⟩
  rw [←D]at y N aa;have H:=(H.pu j).qf aa;have B:=(B.pu j).qf aa (by decide);have d5:=y.blk.cell 5;rw [D]at d5;have HU:=Qh D;have aT:=Qh (show({p with eq:=some a}:Pr).eq=some a from rfl);have L:Hid (∀m,(({p with eq:=some a}:Pr).up=some m∨({p with eq:=some a}:Pr).lo=some m∨({p with eq:=some a}:Pr).eq=some m)→m.natAbs<4294967296^E3):=Qh (fun m hm=>by
   rcases hm with h1|h1|h1
   ·exact L.out m (.inl h1)
   ·exact L.out m (.inr (.inl h1))
   ·injection h1 with h1;rw [←h1];exact M.out.1)
  clear C D j;go_wp2_with fail;rw [←HU.out];have k0:U.cell? ⟨q,0,none⟩=some (.bool g):=y.blk.cell 0;have k1:U.cell? ⟨q,1,none⟩=some (.slice A n c):=y.blk.cell 1;have k2:U.cell? ⟨q,2,none⟩=some (.pointer m):=y.blk.cell 2;have k3:U.cell? ⟨q,5,none⟩=some (.pointer (some ⟨k,0,none⟩)):=y.blk.cell 5;have k4:U.cell? ⟨k,0,none⟩=some (.bool R):=B.cell 0;have k5:U.cell? ⟨k,1,none⟩=some (.slice Q P T):=B.cell 1;have j:Pu U U.drew:=(Pu.refl U).drew;have aL:base≤U.heap.size:=Nat.le_trans hb (N).size;go_region_held3 (fun t=>t.cell? ⟨q,0,none⟩=some (.bool g)∧t.cell? ⟨q,1,none⟩=some (.slice A n c)∧t.cell? ⟨q,2,none⟩=some (.pointer m)∧t.cell? ⟨q,5,none⟩=some (.pointer (some ⟨k,0,none⟩))∧t.cell? ⟨k,0,none⟩=some (.bool R)∧t.cell? ⟨k,1,none⟩=some (.slice Q P T))
   (first|exact zcq k0 k1 k2 k3 k4 k5 (by repeat' (first|with_reducible exact j|with_reducible exact Pu.refl _|with_reducible refine Pu.drew ?_|with_reducible refine Pu.alloc ?_ _))|go_keep)
   (first
   | (go_at_call 32;refine(zbd _ _ _ (H.pu j)).mono ?_;rintro x u3 ⟨v6,rfl,h6,ae⟩;replace j:=j.trans ae;obtain⟨g6,A6,m6,c6,q6,rfl⟩:=h6.shape)
   | (go_at_call 31;refine(ag.out a M.out.1 _ _ u3.heap.size g6 A6 m6 c6 q6 (y.tm.pu (j.alloc _)).tm (Blk.new _ _ _) (h6.pu ((Pu.refl _).alloc _)) (Nat.le_trans aL (j.alloc _).size)).mono ?_;rintro x u4 ⟨g7,A7,n7,c7,q7,rfl,h7,aP⟩;replace j:=(j.alloc _).trans aP;have z4:=j.size)
   | (go_at_call 72;refine(zje base q g A n c m _ _ _ {p with eq:=some a} a _ (y.pu (by with_reducible first|exact j|exact j.alloc _)) rfl L.out).mono ?_;rintro x u5 ⟨rfl,Z⟩;with_reducible (first| (have bR:=(Blk.new u4 35 #[.bool g7,.slice A7 n7 c7,.pointer q7,.bool true]).pu Z)|skip);replace h7:=(h7.pu (by with_reducible first|exact Pu.refl _|exact(Pu.refl _).alloc _)).pu Z;replace j:=Pu.trans (a:=U) (by with_reducible first|exact j|exact j.alloc _) Z))
  all_goals
   have HH:=Qh (AI h7 j);clear h7 j;go_wp2;go_ret2
   first
    |exact⟨_,1,1,[⟨g7,A7,n7,c7,q7,true⟩],rfl,by omega,Sl.of_blk bR 4 1 1 rfl (by omega),zal.one ⟨rfl,HH.out.1⟩,zeY (Nat.le_trans (N).size z4),(N).pu HH.out.2⟩
    |exact⟨_,1,1,[⟨g7,A7,n7,c7,q7,true⟩],rfl,by omega,Sl.new _ _ _ 4 1 1 rfl (by omega),zal.one ⟨rfl,HH.out.1.pu ((Pu.refl _).alloc _)⟩,zeY (Nat.le_trans (N).size HH.out.2.size),(N).pu (HH.out.2.alloc _)⟩
theorem znZ(w:World)(g:Bool)(A:Option Addr)(n c:Nat)(m:Option Addr)(pu pl pe:Value)(h:zao w base (fun b=>base≤b) q g A n c m pu pl pe p)(T:base≤w.heap.size)(hU:zad K p.fs)(C:K+1100000*K<4294967296^E3)(y:p.fs.length<300)(hz:NZ p.fs) (hB:∀m,(p.up=some m∨p.lo=some m∨p.eq=some m)→m.natAbs<4294967296^E3) (a b:Int) (ap:p.eq=none) (ai:p.up=some a) (am:p.lo=some b) (hs:a+b<0):Calls Tryz.prog 37 #[ptr q] w (zfS w base q [⟨a,p.fs,false⟩,⟨b,za9 p.fs (-1),false⟩] true):=by
 have hr:=h.tm.tm.rise.1;have aw:=Qh (fun z (hz:z.natAbs<4294967296^E3)=>zaP (base:=base) p.fs z hU C y hz);have ak:=Qh (fun z (hz:z.natAbs<4294967296^E3)=>zaP (base:=base) (za9 p.fs (-1)) z (za5 hU) C (by rw [zdg];exact y) hz);have a0:=Qh (show∀V v,base≤V.heap.size→TM V v 0 p.fs→Calls Tryz.prog 73 #[v] V fun e w'=>∃g A n c m,e= .returned (.agg #[.bool g,.slice A n c,.pointer m])∧TMO w' base (.agg #[.bool g,.slice A n c,.pointer m]) 0 (za9 p.fs (-1))∧Pu V w' from fun V v hV ht=>by refine(zbm v 0 p.fs K V ht hU y (by exact Nat.lt_of_le_of_lt (Nat.le_add_left _ _) C) zan).mono ?_;rintro e w' ⟨v,N,ht,p'⟩;rw [Int.zero_mul,zbv hr hz (by omega)]at ht;obtain⟨g,A,n,c,m,rfl⟩:=ht.tm.shape;exact⟨g,A,n,c,m,N,ht.base_ hV,p'⟩);have bs:=T;have b5:=Qh hB;clear hU C y hz hr;have he:=h.e;rw [ap]at he;rcases he with⟨N,_⟩|⟨be,ge,Ae,ne,ce,z,N,H,bz,bw,b4⟩;rotate_left
 ·cases H
 subst N;have hu:=h.u;rw [ai]at hu;rcases hu with⟨_,h0⟩|⟨j,gu,Au,nu,cu,z,N,H,bt,X,aE⟩
 ·cases h0
 injection H with H;subst H N;have hl:=h.l;rw [am]at hl;rcases hl with⟨_,h0⟩|⟨k,S,O,P,R,z,N,H,bq,U,aC⟩
 ·cases h0
 injection H with H;subst H N;have au:=Qh (AI (hB a (.inl ai)) trivial);have aq:=Qh (AI (hB b (.inr (.inl am))) trivial);have b0:=Qh ap;have aD:(a+b).sign= -1:=Int.sign_eq_neg_one_of_neg hs;have aJ:=Qh (fun V r (kr:Blk V r 30 #[.bool S,.slice O P R]) (pp:Pu w V)=>zcB (.agg #[.bool gu,.slice Au nu cu]) (.agg #[.bool S,.slice O P R]) a b r V (aE.pu pp) (aC.pu pp) (up9 au.out.1) (up9 aq.out.1) kr);have W:=Qh (fun V v (hv:ZR V v (a+b))=>zaN v (a+b) V hv (zns au.out.1 aq.out.1));rw [aD]at W;have Hs:=Qh hs;have c3:=h.blk.cell 3;have c4:=h.blk.cell 4;have c5:=h.blk.cell 5;clear ap ai am hB aD hs;go_enter Tryz.func37,Tryz.ntmps37;go_wp2_with fail;have J:w.cell? ⟨q,3,none⟩=some (.pointer (some ⟨j,0,none⟩)):=h.blk.cell 3;have I:w.cell? ⟨j,0,none⟩=some (.bool gu):=X.cell 0;have F:w.cell? ⟨j,1,none⟩=some (.slice Au nu cu):=X.cell 1;have B:w.cell? ⟨q,4,none⟩=some (.pointer (some ⟨k,0,none⟩)):=h.blk.cell 4;have D:w.cell? ⟨k,0,none⟩=some (.bool S):=U.cell 0;have L:w.cell? ⟨k,1,none⟩=some (.slice O P R):=U.cell 1;have i:Pu w w.drew:=(Pu.refl w).drew;go_region_held3 (fun t=>t.cell? ⟨q,3,none⟩=some (.pointer (some ⟨j,0,none⟩))∧t.cell? ⟨j,0,none⟩=some (.bool gu)∧t.cell? ⟨j,1,none⟩=some (.slice Au nu cu)∧t.cell? ⟨q,4,none⟩=some (.pointer (some ⟨k,0,none⟩))∧t.cell? ⟨k,0,none⟩=some (.bool S)∧t.cell? ⟨k,1,none⟩=some (.slice O P R))
  (first|exact zcq J I F B D L (by repeat' (first|with_reducible exact i|with_reducible exact Pu.refl _|with_reducible refine Pu.drew ?_|with_reducible refine Pu.alloc ?_ _))|go_keep)
  (first
  | (go_at_call 49;refine(aJ.out _ _ (Blk.new _ _ _) (i.alloc _)).mono ?_;rintro x u1 ⟨v5,rfl,Q,p9⟩;replace i:=(i.alloc _).trans p9;obtain⟨g5,A5,n5,c5',rfl⟩:=Q.shape2)
  | (go_at_call 15;refine(W.out _ _ Q).mono ?_;rintro x u8 ⟨rfl,o⟩;replace i:=i.trans o))
 all_goals
  clear Q J I F B D L;have y3:=i.cellv c3;have y5:=i.cellv c5;go_wp2_with fail;have J:w.cell? ⟨q,0,none⟩=some (.bool g):=h.blk.cell 0;have I:w.cell? ⟨q,1,none⟩=some (.slice A n c):=h.blk.cell 1;have F:w.cell? ⟨q,2,none⟩=some (.pointer m):=h.blk.cell 2;have B:w.cell? ⟨q,3,none⟩=some (.pointer (some ⟨j,0,none⟩)):=h.blk.cell 3;have D:w.cell? ⟨j,0,none⟩=some (.bool gu):=X.cell 0;have L:w.cell? ⟨j,1,none⟩=some (.slice Au nu cu):=X.cell 1;have x0:u8.cell? ⟨q,0,none⟩=some (.bool g):=i.cellv J;have x1:u8.cell? ⟨q,1,none⟩=some (.slice A n c):=i.cellv I;have x2:u8.cell? ⟨q,2,none⟩=some (.pointer m):=i.cellv F;have x3:u8.cell? ⟨q,3,none⟩=some (.pointer (some ⟨j,0,none⟩)):=i.cellv B;have x4:u8.cell? ⟨j,0,none⟩=some (.bool gu):=i.cellv D;have x5:u8.cell? ⟨j,1,none⟩=some (.slice Au nu cu):=i.cellv L;replace i:=i.drew;have ao:=T;go_region_held3 (fun t=>t.cell? ⟨q,0,none⟩=some (.bool g)∧t.cell? ⟨q,1,none⟩=some (.slice A n c)∧t.cell? ⟨q,2,none⟩=some (.pointer m)∧t.cell? ⟨q,3,none⟩=some (.pointer (some ⟨j,0,none⟩))∧t.cell? ⟨j,0,none⟩=some (.bool gu)∧t.cell? ⟨j,1,none⟩=some (.slice Au nu cu))
   (first|exact zcq J I F B D L (by repeat' (first|with_reducible exact i|with_reducible exact Pu.refl _|with_reducible refine Pu.drew ?_|with_reducible refine Pu.alloc ?_ _))|go_keep)
   (first
   | (go_at_call 32;refine(zbd _ _ _ (aE.pu i)).mono ?_;rintro x u3 ⟨v6,rfl,Z,o⟩;replace i:=i.trans o;obtain⟨g6,A6,m6,c6,q6,rfl⟩:=Z.shape)
   | (go_at_call 31;refine(aw.out a au.out.1 _ _ u3.heap.size g6 A6 m6 c6 q6 (h.tm.pu (i.alloc _)).tm (Blk.new _ _ _) (Z.pu ((Pu.refl _).alloc _)) (Nat.le_trans ao (i.alloc _).size)).mono ?_;rintro x u4 ⟨g7,A7,n7,c7,q7,rfl,G,Y⟩;replace i:=(i.alloc _).trans Y;have z4:=i.size;have ho0:=World.ownsRow_nil u4 w.heap.size 35 4)
   | (refine zfd zcX rfl (.tmp 77) (.tmp 92) rfl #[.bool g7,.slice A7 n7 c7,.pointer q7,.bool false] rfl zia (by simp [Act.eval]) (by simp [Act.eval]) ho0 (by simp [maxLen]) (by omega) i.size ?_;intro A8 c8 E aB aG;replace G:=G.qf (zcC ho0 T aG);replace i:=zam i ho0 (Nat.le_refl _) aG))
  all_goals
   clear J I F B D L x0 x1 x2 x3 x4 x5 y3 y5;have y4:=i.cellv c4;have h8:ziu E base ⟨g7,A7,n7,c7,q7,false⟩ ⟨a,p.fs,false⟩:=⟨rfl,G⟩
   clear G Z;go_wp2_with fail;have J:w.cell? ⟨q,0,none⟩=some (.bool g):=h.blk.cell 0;have I:w.cell? ⟨q,1,none⟩=some (.slice A n c):=h.blk.cell 1;have F:w.cell? ⟨q,2,none⟩=some (.pointer m):=h.blk.cell 2;have B:w.cell? ⟨q,4,none⟩=some (.pointer (some ⟨k,0,none⟩)):=h.blk.cell 4;have D:w.cell? ⟨k,0,none⟩=some (.bool S):=U.cell 0;have L:w.cell? ⟨k,1,none⟩=some (.slice O P R):=U.cell 1;have x0:E.cell? ⟨q,0,none⟩=some (.bool g):=i.cellv J;have x1:E.cell? ⟨q,1,none⟩=some (.slice A n c):=i.cellv I;have x2:E.cell? ⟨q,2,none⟩=some (.pointer m):=i.cellv F;have x3:E.cell? ⟨q,4,none⟩=some (.pointer (some ⟨k,0,none⟩)):=i.cellv B;have x4:E.cell? ⟨k,0,none⟩=some (.bool S):=i.cellv D;have x5:E.cell? ⟨k,1,none⟩=some (.slice O P R):=i.cellv L;replace i:=i.drew;have ao:=T;have M:Pu E E.drew:=(Pu.refl _).drew;go_region_held3 (fun t=>t.cell? ⟨q,0,none⟩=some (.bool g)∧t.cell? ⟨q,1,none⟩=some (.slice A n c)∧t.cell? ⟨q,2,none⟩=some (.pointer m)∧t.cell? ⟨q,4,none⟩=some (.pointer (some ⟨k,0,none⟩))∧t.cell? ⟨k,0,none⟩=some (.bool S)∧t.cell? ⟨k,1,none⟩=some (.slice O P R))
    (first|exact zcq J I F B D L (by repeat' (first|with_reducible exact i|with_reducible exact Pu.refl _|with_reducible refine Pu.drew ?_|with_reducible refine Pu.alloc ?_ _))|go_keep)
    (first
    | (go_at_call 73;refine(a0.out _ _ (Nat.le_trans T i.size) (h.tm.pu i).tm).mono ?_;rintro x u2 ⟨g5,A5,n5,c5,q5,rfl,Q,p9⟩;replace i:=i.trans p9;replace M:=M.trans p9)
    | (go_at_call 32;refine(zbd _ _ _ (aC.pu i)).mono ?_;rintro x u3 ⟨v6,rfl,Z,o⟩;replace i:=i.trans o;replace Q:=Q.pu o;replace M:=M.trans o;obtain⟨g6,A6,m6,c6,q6,rfl⟩:=Z.shape)
    | (go_at_call 31;refine(ak.out b aq.out.1 _ _ u3.heap.size g6 A6 m6 c6 q6 (Q.pu ((Pu.refl _).alloc _)).tm (Blk.new _ _ _) (Z.pu ((Pu.refl _).alloc _)) (Nat.le_trans ao (i.alloc _).size)).mono ?_;rintro x u4 ⟨g7,A7,n7,c7,q7,rfl,G,Y⟩;replace i:=(i.alloc _).trans Y;replace M:=(M.alloc _).trans Y;have ho0:=zaw aB M)
    | (refine zfd zcX rfl (.tmp 99) (.tmp 115) rfl #[.bool g7,.slice A7 n7 c7,.pointer q7,.bool false] rfl zia (by simp [Act.eval]) (by simp [Act.eval]) ho0 (by simp [maxLen]) (by omega) i.size ?_;intro A9 c9 w9 aF aj;replace G:=G.qf (zcC ho0 T aj);replace h8:=(h8.pu M).qf (zcC ho0 T aj);replace i:=zam i ho0 (Nat.le_refl _) aj))
   all_goals
    have HH:=Qh (AI (AI h8 G) (AI aF i));clear G h8 aF i aB;go_wp2;go_ret2;exact⟨A9,_,c9,_,rfl,by omega,Sl.of_own HH.out.2.1,(zal.one HH.out.1.1).append (zal.one (q:=⟨_,_,_,_,_,false⟩) (r:=⟨b,za9 p.fs (-1),false⟩) ⟨rfl,HH.out.1.2⟩),zbi.own HH.out.2.1,HH.out.2.2.fr⟩
theorem zn4(w:World)(h:zaE w base (fun b=>base≤b) q p)(B:base≤w.heap.size)(i:zfH K p)(y:Big K):Calls Tryz.prog 37 #[ptr q] w (zfS w base q (zaV p).1 (zaV p).2):=by
 obtain⟨g,A,n,c,m,v,x,t,h⟩:=h;rcases zaS p with⟨e,j,z⟩|⟨a,b,k,j,o,C,z⟩|⟨a,b,k,j,o,C,z⟩|⟨a,b,k,j,o,C,z⟩|⟨a,k,j,o,z⟩|⟨b,k,j,o,z⟩|⟨k,j,o,z⟩
 all_goals rw [z]
 ·exact zpR w g A n c m v x t h B i.fs.up y i.fs.few i.fs.nz i.num e j
 ·exact zmY w g A n c m v x t h B i.fs.up y i.fs.few i.fs.nz i.num a b k j o C
 ·exact zmB w g A n c m v x t h B i.fs.up y i.fs.few i.fs.nz i.num a b k j o C
 ·exact znZ w g A n c m v x t h B i.fs.up y i.fs.few i.fs.nz i.num a b k j o C
 ·exact zow w g A n c m v x t h B i.fs.up y i.fs.few i.fs.nz i.num a k j o
 ·exact zpx w g A n c m v x t h B i.fs.up y i.fs.few i.fs.nz i.num b k j o
 ·exact zlw w g A n c m v x t h B i.fs.up y i.fs.few i.fs.nz i.num k j o
end
end
end Go.Proofs.YtckfnbckoclhpaaGreatDoor

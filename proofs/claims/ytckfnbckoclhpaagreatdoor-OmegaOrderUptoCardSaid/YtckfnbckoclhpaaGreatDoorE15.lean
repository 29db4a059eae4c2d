/- Rows. -/
import Derived.Test.YtckfnbckoclhpaaGreatDoorE14
import Derived.Deep.RegionHeld3
import Derived.Test.YtckfnbckoclhpaaGreatDoorE12
import Derived.Test.YtckfnbckoclhpaaGreatDoorE10
import Derived.Test.YtckfnbckoclhpaaGreatDoorC01
namespace Go.Proofs.YtckfnbckoclhpaaGreatDoor
set_option linter.unusedVariables false
set_option linter.unusedSimpArgs false
set_option maxRecDepth 100000
set_option maxHeartbeats 1600000
section
open Go.RowKit
theorem zbm(K:Value)(r1:Int)(fs:List (Key×Int))(M:Nat)(w:World)(G:TM w K r1 fs) (I:zad M fs) (hL:fs.length<300) (k:1100000*M<4294967296^E3) (C:r1.natAbs<4294967296^E3):Calls Tryz.prog 73 #[K] w fun e w'=>∃v,e= .returned v∧TMO w' w.heap.size v (r1*(-1)) (zG [] fs (-1))∧Pu w w':=by
 obtain⟨t,z,B,y,x,rfl⟩:=G.shape;have o:∀W v3,Pu w W→ZR W v3 (-1)→Calls Tryz.prog 29 #[.agg #[.bool t,.slice z B y,.pointer x],v3] W fun e w'=>∃v,e= .returned v∧TMO w' W.heap.size v (r1*(-1)) (zG [] fs (-1))∧Pu W w':=fun W v3 p hz=>zaW _ _ r1 (-1) fs M W (G.pu p) hz (fun g E=>by have:=I g E;omega) hL k (zds (by decide)) (fun g E=>Nat.lt_of_le_of_lt (Nat.le_trans (I g E) (by omega)) k) C;have H:=Qh o;obtain⟨W,hWe⟩:∃W,W=(w.alloc (.cells #[.bool t,.slice z B y,.pointer x] 33)).alloc (.cells #[.bool false,.slice none 0 0,.pointer none] 33):=⟨_,rfl⟩
 have V:Pu w W:=by rw [hWe];exact((Pu.refl w).alloc _).alloc _
 have D:Blk W w.heap.size 33 #[.bool t,.slice z B y,.pointer x]:=by rw [hWe];exact(Blk.new w _ _).alloc _
 have k4:Blk W (w.heap.size+1) 33 #[.bool false,.slice none 0 0,.pointer none]:=by rw [hWe];exact Blk.at_new _ _ _ (by simp)
 have ak:W.heap.size=w.heap.size+2:=by rw [hWe];simp
 have d0:W.cell? ⟨w.heap.size,0,none⟩=some (.bool t):=D.cell 0;have Z:W.cell? ⟨w.heap.size,1,none⟩=some (.slice z B y):=D.cell 1;have S:W.cell? ⟨w.heap.size,2,none⟩=some (.pointer x):=D.cell 2;have j:Pu W W.drew:=(Pu.refl W).drew;have O:=Qh hWe;clear hWe o G I k C;go_enter Tryz.func73,Tryz.ntmps73;go_wp2_with fail;rw [←O.out];go_region_with (first
  | (go_at_call 30;refine(zaG (-1) _ (by decide) (by decide)).mono ?_;rintro e u2 ⟨v5,rfl,N,p9⟩;replace j:=j.trans p9;have z12:=j.size;obtain⟨g5,A5,m5,c5,rfl⟩:=N.shape2;replace d0:=j.cellv d0;replace Z:=j.cellv Z;replace S:=j.cellv S)
  | (go_at_call 29;refine(H.out _ _ (V.trans j) N).mono ?_;rintro e u3 ⟨v6,rfl,J,R⟩;replace j:=j.trans R;obtain⟨g6,A6,m6,c6,q6,rfl⟩:=J.tm.shape;have l4':=k4.pu j;have ka0:=l4'.cell 0;have ka1:=l4'.cell 1;have ka2:=l4'.cell 2;have kf0:=l4'.frozen 0;have kf1:=l4'.frozen 1;have kf2:=l4'.frozen 2))
 all_goals
  obtain⟨Q,F,tB⟩:=zcf l4' g6 A6 m6 c6 q6;have h7:=(J.frT F (fun i e=>by have e':i=w.heap.size+1:=e;omega) tB).base_ (base':=w.heap.size) (by omega);have U:=(V.trans j).step F (fun i e=>by have e':i=w.heap.size+1:=e;omega);obtain⟨X,T,Y⟩:=Q.c3_;have H7:=Qh (AI h7 U);clear Q F tB h7 U J;go_wp2;exact bodyPost_ret (v:= .agg #[.bool g6,.slice A6 m6 c6,.pointer q6]) (by simp [results,Tryz.results73,go_sem,X,T,Y]) rfl ⟨_,rfl,H7.out.1,H7.out.2⟩
end
section
open Go.RowKit
theorem zh1(J:Value)(r1:Int)(fs:List (Key×Int))(M:Nat)(w:World)(C:TM w J r1 fs) (hM:zad M fs) (hL:fs.length<300) (t:M+1100000*M<4294967296^E3) (x:r1.natAbs<4294967296^E3):Calls Tryz.prog 105 #[J] w fun e w'=>∃v,e= .returned v∧TMO w' w.heap.size v (r1+r1*(-1)) (zG fs [] (-1))∧Pu w w':=by
 obtain⟨y,D,E,B,z,rfl⟩:=C.shape;have o:∀W v3,Pu w W→TM W v3 r1 []→Calls Tryz.prog 55 #[.agg #[.bool y,.slice D E B,.pointer z],v3] W fun e w'=>∃v,e= .returned v∧TMO w' W.heap.size v (r1+r1*(-1)) (zG fs [] (-1))∧Pu W w':=fun W v3 p hz=>zcN _ _ r1 r1 fs [] M M W (C.pu p) hz hM (zad.nil M) (by simpa using hL) t x x;have H1:=Qh C;have H:=Qh o;obtain⟨W,hWe⟩:∃W,W=(w.alloc (.cells #[.bool y,.slice D E B,.pointer z] 33)).alloc (.cells #[.bool false,.slice none 0 0,.pointer none] 33):=⟨_,rfl⟩
 have G:Pu w W:=by rw [hWe];exact((Pu.refl w).alloc _).alloc _
 have k:Blk W w.heap.size 33 #[.bool y,.slice D E B,.pointer z]:=by rw [hWe];exact(Blk.new w _ _).alloc _
 have k4:Blk W (w.heap.size+1) 33 #[.bool false,.slice none 0 0,.pointer none]:=by rw [hWe];exact Blk.at_new _ _ _ (by simp)
 have ao:W.heap.size=w.heap.size+2:=by rw [hWe];simp
 have d0:W.cell? ⟨w.heap.size,0,none⟩=some (.bool y):=k.cell 0;have Z:W.cell? ⟨w.heap.size,1,none⟩=some (.slice D E B):=k.cell 1;have T:W.cell? ⟨w.heap.size,2,none⟩=some (.pointer z):=k.cell 2;have j:Pu W W.drew:=(Pu.refl W).drew;have N:=Qh hWe;clear hWe o C hM t x;go_enter Tryz.func105,Tryz.ntmps105;go_wp2_with fail;rw [←N.out];go_region_with (first
  | (go_at_call 68;refine(zco _ _ _ _ (H1.out.pu (G.trans j))).mono ?_;rintro e u2 ⟨v5,rfl,K,p9⟩;replace j:=j.trans p9;obtain⟨g5,A5,m5,c5,rfl⟩:=K.shape2;replace d0:=(k.pu j).cell 0;replace Z:=(k.pu j).cell 1;replace T:=(k.pu j).cell 2)
  | (go_at_call 32;refine(zbd _ _ _ K).mono ?_;rintro e u4 ⟨v7,rfl,Q,S⟩;replace j:=j.trans S;have z12:=j.size;obtain⟨g7,A7,m7,c7,q7,rfl⟩:=Q.shape;replace d0:=(k.pu j).cell 0;replace Z:=(k.pu j).cell 1;replace T:=(k.pu j).cell 2)
  | (go_at_call 55;refine(H.out _ _ (G.trans j) Q).mono ?_;rintro e u3 ⟨v6,rfl,I,R⟩;replace j:=j.trans R;obtain⟨g6,A6,m6,c6,q6,rfl⟩:=I.tm.shape;have l4':=k4.pu j;have ka0:=l4'.cell 0;have ka1:=l4'.cell 1;have ka2:=l4'.cell 2;have kf0:=l4'.frozen 0;have kf1:=l4'.frozen 1;have kf2:=l4'.frozen 2))
 all_goals
  obtain⟨O,F,tB⟩:=zcf l4' g6 A6 m6 c6 q6;have h7:=(I.frT F (fun i e=>by have e':i=w.heap.size+1:=e;omega) tB).base_ (base':=w.heap.size) (by omega);have V:=(G.trans j).step F (fun i e=>by have e':i=w.heap.size+1:=e;omega);obtain⟨X,U,Y⟩:=O.c3_;have H7:=Qh (AI h7 V);clear O F tB h7 V I;go_wp2;exact bodyPost_ret (v:= .agg #[.bool g6,.slice A6 m6 c6,.pointer q6]) (by simp [results,Tryz.results105,go_sem,X,U,Y]) rfl ⟨_,rfl,H7.out.1,H7.out.2⟩
end
section
open Go.RowKit
theorem zrS{w:World}{A:Option Addr}{n c:Nat}{k:Key}{l:List Key}(h:Sl w 1 A n c (kts (k::l))):∃b:Nat×Nat,A=some ⟨b.1,b.2,none⟩∧b.1<w.heap.size∧w.cell? ⟨b.1,b.2,none⟩=some (.string ⟨k.toArray⟩)∧0<n:=by
 have o:=h.1;have i:0<n:=by simp [kts]at o;omega
 obtain⟨b,off,rfl,p,j⟩:=h.2.2 i;exact⟨(b,off),rfl,p,j 0 _ (by simp [kts]),i⟩
theorem zjn(D:Value)(r1:Int)(k:Key)(z:Int)(fs:List (Key×Int))(w:World)(x:TM w D r1 ((k,z)::fs))(O:z.natAbs<4294967296^E4)(G:factor ((k,z)::fs) k=z):Calls Tryz.prog 108 #[D] w fun e w'=>e= .returned (.int .i64 z.sign)∧Pu w w':=by
 obtain⟨p,B,C,y,t,rfl⟩:=x.shape;have F:=Qh x;obtain⟨W,hWe⟩:∃W,W=w.alloc (.cells #[.bool p,.slice B C y,.pointer t] 33):=⟨_,rfl⟩
 have v:Pu w W:=by rw [hWe];exact(Pu.refl w).alloc _
 have j:Blk W w.heap.size 33 #[.bool p,.slice B C y,.pointer t]:=by rw [hWe];exact Blk.new w _ _
 have N:W.cell? ⟨w.heap.size,0,none⟩=some (.bool p):=j.cell 0;have K:W.cell? ⟨w.heap.size,1,none⟩=some (.slice B C y):=j.cell 1;have I:W.cell? ⟨w.heap.size,2,none⟩=some (.pointer t):=j.cell 2;have i:Pu W W.drew:=(Pu.refl W).drew;have E:=Qh hWe;have M:=Qh (AI O G);clear hWe x O G;go_enter Tryz.func108,Tryz.ntmps108;go_wp2_with fail;rw [←E.out];go_region_with (first
  | (go_at_call 58;refine(zcM _ _ _ _ (F.out.pu (v.trans i))).mono ?_;rintro e u2 ⟨V,T,X,rfl,Q,S,R⟩;replace i:=i.trans R;obtain⟨⟨nb,no⟩,rfl,y1,y2,y3⟩:=zrS (Sl.of_own Q);replace N:=(j.pu i).cell 0;replace K:=(j.pu i).cell 1;replace I:=(j.pu i).cell 2)
  | (go_at_call 14;refine(zY _ _ k _ _ (F.out.pu (v.trans i))).mono ?_;rintro e u4 ⟨U,rfl,o,H⟩;replace i:=i.trans H;rw [M.out.2]at o;obtain⟨g7,A7,m7,c7,rfl⟩:=o.shape2;replace N:=(j.pu i).cell 0;replace K:=(j.pu i).cell 1;replace I:=(j.pu i).cell 2)
  | (go_at_call 15;refine(zaN _ _ _ o M.out.1).mono ?_;rintro e u5 ⟨rfl,J⟩;replace i:=i.trans J))
 all_goals
  go_wp2;go_ret;exact⟨rfl,v.trans i⟩
end
section
open Go.RowKit
def Tt(t:TypeId):Prop:=t=153∨t=102∨t=159∨t=97∨t=35
instance(t:TypeId):Decidable (Tt t):=by unfold Tt;infer_instance
def Qf(base:Nat)(w w':World):Prop:=∃S:Nat→Prop,Fr S w w'∧∀g,S g→base≤g∧∃t cs fz,w.heap[g]?=some (.cells cs t fz)∧Tt t
theorem Pu.qf{w w':World}(h:Pu w w')(base:Nat):Qf base w w':=⟨_,h,fun g i=>i.elim⟩
theorem Qf.of{base:Nat}{S:Nat→Prop}{w w':World}(h:Fr S w w')(i:∀g,S g→base≤g∧∃t cs fz,w.heap[g]?=some (.cells cs t fz)∧Tt t):Qf base w w':=⟨S,h,i⟩
theorem Qf.le{base base':Nat}{w w':World}(h:Qf base w w')(o:base'≤base):Qf base' w w':=by obtain⟨S,k,j⟩:=h;exact⟨S,k,fun g i=>⟨Nat.le_trans o (j g i).1,(j g i).2⟩⟩
theorem Qf.trans{base:Nat}{a b c:World}(h:Qf base a b)(k:Qf base b c):Qf base a c:=by
 obtain⟨S,o,p⟩:=h;obtain⟨B,v,y⟩:=k;refine⟨fun g=>g<a.heap.size∧(S g∨B g),o.trans' v (fun g j i=>⟨j,.inl i⟩) (fun g j i=>⟨j,.inr i⟩),?_⟩;rintro g ⟨j,i⟩;by_cases c:S g
 ·exact p g c
 ·rcases i with i|i
  ·exact p g i
  ·obtain⟨C,t,z,D,e,x⟩:=y g i;rw [o.block g j c]at e;exact⟨C,t,z,D,e,x⟩
theorem Qf.size{base:Nat}{w w':World}(h:Qf base w w'):w.heap.size≤w'.heap.size:=by obtain⟨S,i,j⟩:=h;exact i.size
theorem Qf.pu{base:Nat}{a w w':World}(p:Pu a w)(h:Qf base w w')(o:a.heap.size≤base):Pu a w':=by obtain⟨S,i,k⟩:=h;exact p.step i (fun g j=>Nat.le_trans o (k g j).1)
theorem Blk.qf{base g:Nat}{t:TypeId}{j:Array Value}{w w':World}(h:Blk w g t j)(q:Qf base w w')(o:¬Tt t):Blk w' g t j:=by obtain⟨S,k,v⟩:=q;refine h.fr k (fun p=>?_);obtain⟨_,t',x,y,e,i⟩:=v g p;unfold Blk at h;rw [h]at e;injection e with e;injection e with _ e;rw [←e]at i;exact o i
theorem ZR.qf{base:Nat}{w w':World}{v:Value}{z:Int}(h:ZR w v z)(q:Qf base w w'):ZR w' v z:=by obtain⟨S,j,o⟩:=q;refine h.frT j (fun g k=>?_);obtain⟨_,t,x,p,e,i⟩:=o g k;refine⟨t,x,p,e,fun y=>?_⟩;rw [y]at i;exact absurd i (by decide)
theorem zH.qf{base:Nat}{w w':World}{L:List (Key×Part)}{fs:List (Key×Int)}(h:zH w L fs)(q:Qf base w w'):zH w' L fs:=⟨h.1,fun i p f j k=>⟨(h.2 i p f j k).1,(h.2 i p f j k).2.qf q⟩⟩
theorem MOZ.qf{base base' b:Nat}{r:Option Nat}{L:List (Key×Part)}{w w':World}(h:MOZ w base' b r L)(q:Qf base w w'):MOZ w' base' b r L:=by
 have K:=q;obtain⟨S,C,E⟩:=q;have o:∀g t cs fz,w.heap[g]?=some (.cells cs t fz)→¬Tt t→¬S g:=fun g t cs fz e hn hs=>by obtain⟨_,t',H,F,i,p⟩:=E g hs;rw [e]at i;injection i with i;injection i with _ i;rw [←i]at p;exact hn p
 have D:=h;obtain⟨A,n,c,z,B,k,J⟩:=h;refine D.fr C (o b _ _ _ z (by decide)) (fun g j=>?_);rcases B.2 with⟨v,_⟩|⟨y,I,G,v,_,x,_⟩
 ·rw [v]at k;rw [←k]at j
  cases j
 ·rw [v]at k;rw [←k]at j;have e:y=g:=by injection j
  subst e;exact o y _ _ _ x (by decide)
theorem TMO.qf{base base':Nat}{v:Value}{r:Int}{fs:List (Key×Int)}{w w':World}(h:TMO w base' v r fs)(q:Qf base w w'):TMO w' base' v r fs:=by obtain⟨g,A,n,c,b,k,L,e,o,j,i⟩:=h;exact⟨g,A,n,c,b,k,L,e,o.qf q,j.qf q,i.qf q⟩
theorem TMO.pu{base':Nat}{v:Value}{r:Int}{fs:List (Key×Int)}{w w':World}(h:TMO w base' v r fs)(p:Pu w w'):TMO w' base' v r fs:=h.qf (p.qf 0)
def NPt(w:World)(N:Nat→Prop)(p:Value)(o:Option Int):Prop:=(p= .pointer none∧o=none)∨∃(b:Nat) (g:Bool) (A:Option Addr) (n c:Nat) (z:Int),p= .pointer (some ⟨b,0,none⟩)∧o=some z∧N b∧Blk w b 30 #[.bool g,.slice A n c]∧ZR w (.agg #[.bool g,.slice A n c]) z
theorem NPt.none(w:World)(N:Nat→Prop):NPt w N (.pointer none) none:= .inl ⟨rfl,rfl⟩
theorem NPt.qf{base:Nat}{N:Nat→Prop}{p:Value}{o:Option Int}{w w':World}(h:NPt w N p o)(q:Qf base w w'):NPt w' N p o:=by
 rcases h with h|⟨b,g,A,n,c,z,j,k,t,i,v⟩
 ·exact .inl h
 ·exact .inr ⟨b,g,A,n,c,z,j,k,t,i.qf q (by decide),v.qf q⟩
theorem NPt.pu{N:Nat→Prop}{p:Value}{o:Option Int}{w w':World}(h:NPt w N p o)(q:Pu w w'):NPt w' N p o:=h.qf (q.qf 0)
theorem NPt.mono{N N':Nat→Prop}{p:Value}{o:Option Int}{w:World}(h:NPt w N p o)(t:∀b,b<w.heap.size→N b→N' b):NPt w N' p o:=by
 rcases h with h|⟨b,g,A,n,c,z,j,k,v,i⟩
 ·exact .inl h
 ·exact .inr ⟨b,g,A,n,c,z,j,k,t b i.1.lt v,i⟩
theorem NPt.ptr{N:Nat→Prop}{p:Value}{o:Option Int}{w:World}(h:NPt w N p o):∃a,p= .pointer a:=by
 rcases h with h|⟨b,g,A,n,c,z,i,j⟩
 ·exact⟨_,h.1⟩
 ·exact⟨_,i⟩
structure Pr where
 fs:List (Key×Int)
 up:Option Int
 lo:Option Int
 eq:Option Int
structure zao(w:World)(base:Nat)(N:Nat→Prop)(q:Nat)(g:Bool)(A:Option Addr)(n c:Nat)(m:Option Addr)(pu pl pe:Value)(p:Pr):Prop where
 blk:Blk w q 159 #[.bool g,.slice A n c,.pointer m,pu,pl,pe]
 ge:base≤q
 tm:TMO w base (.agg #[.bool g,.slice A n c,.pointer m]) 0 p.fs
 u:NPt w N pu p.up
 l:NPt w N pl p.lo
 e:NPt w N pe p.eq
def zaE(w:World)(base:Nat)(N:Nat→Prop)(q:Nat)(p:Pr):Prop:=∃g A n c m pu pl pe,zao w base N q g A n c m pu pl pe p
theorem zao.is{N:Nat→Prop}{w:World}{base q:Nat}{g:Bool}{A:Option Addr}{n c:Nat}{m:Option Addr}{k j i:Value}{p:Pr}(h:zao w base N q g A n c m k j i p):zaE w base N q p:=⟨g,A,n,c,m,k,j,i,h⟩
theorem zaE.pu{N:Nat→Prop}{w w':World}{base q:Nat}{p:Pr}(h:zaE w base N q p)(k:Pu w w'):zaE w' base N q p:=by obtain⟨g,A,n,c,m,pu,j,i,h⟩:=h;exact⟨g,A,n,c,m,pu,j,i,h.blk.pu k,h.ge,h.tm.pu k,h.u.pu k,h.l.pu k,h.e.pu k⟩
theorem zaE.lt{N:Nat→Prop}{w:World}{base q:Nat}{p:Pr}(h:zaE w base N q p):base≤q∧q<w.heap.size:=by obtain⟨g,A,n,c,m,k,j,i,h⟩:=h;exact⟨h.ge,h.blk.lt⟩
theorem zaE.fr{N:Nat→Prop}{S:Nat→Prop}{w w':World}{base base' q:Nat}{p:Pr}(h:zaE w base N q p)(k:Fr S w w')(x:∀g,S g→base'≤g∧∃t cs fz,w.heap[g]?=some (.cells cs t fz)∧Tt t)(o:¬S q):zaE w' base N q p:=by obtain⟨g,A,n,c,m,j,v,i,h⟩:=h;have Q:=Qf.of k x;exact⟨g,A,n,c,m,j,v,i,h.blk.fr k o,h.ge,h.tm.qf Q,h.u.qf Q,h.l.qf Q,h.e.qf Q⟩
def zcc(w:World)(base:Nat)(N:Nat→Prop)(L:List (Key×Nat))(ps:List (Key×Pr)):Prop:=L.length=ps.length∧(∀(i:Nat) (x:Key×Nat) (y:Key×Pr),L[i]?=some x→ps[i]?=some y→x.1=y.1∧zaE w base N x.2 y.2)∧(L.map (·.2)).Nodup
theorem zcc.nil(w:World)(base:Nat)(N:Nat→Prop):zcc w base N [] []:=⟨rfl,fun i x y h=>by simp at h,List.Pairwise.nil⟩
theorem zcc.pu{N:Nat→Prop}{w w':World}{base:Nat}{L:List (Key×Nat)}{ps:List (Key×Pr)}(h:zcc w base N L ps)(k:Pu w w'):zcc w' base N L ps:=⟨h.1,fun i x y o j=>⟨(h.2.1 i x y o j).1,(h.2.1 i x y o j).2.pu k⟩,h.2.2⟩
theorem zcc.keys{N:Nat→Prop}{w:World}{base:Nat}{L:List (Key×Nat)}{ps:List (Key×Pr)}(h:zcc w base N L ps):L.map (·.1)=ps.map (·.1):=by
 refine List.ext_getElem? fun i=>?_;rw [List.getElem?_map,List.getElem?_map];rcases Nat.lt_or_ge i L.length with hi|hi
 ·rw [List.getElem?_eq_getElem hi,List.getElem?_eq_getElem (by rw [←h.1];exact hi)];have:=(h.2.1 i _ _ (List.getElem?_eq_getElem hi) (List.getElem?_eq_getElem (by rw [←h.1];exact hi))).1;simp [this]
 ·rw [List.getElem?_eq_none hi,List.getElem?_eq_none (by rw [←h.1];exact hi)];rfl
theorem zcc.lt{N:Nat→Prop}{w:World}{base:Nat}{L:List (Key×Nat)}{ps:List (Key×Pr)}(h:zcc w base N L ps):∀x∈L,base≤x.2∧x.2<w.heap.size:=fun x hx=>by obtain⟨i,j⟩:=List.getElem?_of_mem hx;have k:=(List.getElem?_eq_some_iff.1 j).1;exact(h.2.1 i x _ j (List.getElem?_eq_getElem (by rw [←h.1];exact k))).2.lt
theorem zcc.fr{N:Nat→Prop}{S:Nat→Prop}{w w':World}{base base':Nat}{L:List (Key×Nat)}{ps:List (Key×Pr)}(h:zcc w base N L ps)(k:Fr S w w')(v:∀g,S g→base'≤g∧∃t cs fz,w.heap[g]?=some (.cells cs t fz)∧Tt t)(p:∀x∈L,¬S x.2):zcc w' base N L ps:=⟨h.1,fun i x y j o=>⟨(h.2.1 i x y j o).1,(h.2.1 i x y j o).2.fr k v (p x (List.mem_of_getElem? j))⟩,h.2.2⟩
theorem zcc.get{N:Nat→Prop}{w:World}{base:Nat}{L:List (Key×Nat)}{ps:List (Key×Pr)}(h:zcc w base N L ps)(v:zx L){k:Key}(i:there ps k=true):∃q p,L[place ps k]?=some (k,q)∧zae ps k=some p∧ps[place ps k]?=some (k,p)∧zaE w base N q p∧there L k=true∧place L k=place ps k:=by have y:=ze9 h.keys v;have t:=zbk L ps k h.keys;have x:=zbD L ps k h.keys;obtain⟨p,o⟩:=(zD y k).1 i;obtain⟨q,j⟩:=(zD v k).1 (t.trans i);rw [x]at j;refine⟨q,p,j,?_,o,(h.2.1 _ _ _ j o).2,t.trans i,x⟩;unfold zae;rw [i,if_pos rfl,o];rfl
theorem zcc.put{N:Nat→Prop}{w:World}{base:Nat}{L:List (Key×Nat)}{ps:List (Key×Pr)}(h:zcc w base N L ps){k:Key}(C:there ps k=false){q:Nat}{p:Pr}(z:zaE w base N q p)(B:∀x∈L,x.2≠q):zcc w base N (zau L k q) (zau ps k p):=by
 have F:=zbk L ps k h.keys;have H:=zbD L ps k h.keys;have I:=zbb ps k;have v:=h.1;unfold zau;rw [F,C,H];simp only [Bool.false_eq_true,if_false];refine⟨by simp [v],fun i x y o t=>?_,?_⟩
 ·rcases Nat.lt_trichotomy i (place ps k)with c|c|c
  ·rw [List.getElem?_append_left (by rw [List.length_take];omega),List.getElem?_take,if_pos c]at o t;exact h.2.1 i x y o t
  ·subst c;rw [List.getElem?_append_right (by rw [List.length_take];omega),List.length_take,Nat.min_eq_left (by omega),Nat.sub_self,List.getElem?_cons_zero]at o t;injection o with o;injection t with t;subst o t;exact⟨rfl,z⟩
  ·obtain⟨j,rfl⟩:∃j,i=place ps k+(j+1):=⟨i - place ps k - 1,by omega⟩
   rw [List.getElem?_append_right (by rw [List.length_take];omega),List.length_take,Nat.min_eq_left (by omega),Nat.add_sub_cancel_left,List.getElem?_cons_succ,List.getElem?_drop]at o t;exact h.2.1 _ x y o t
 ·have D:((L.take (place ps k)++L.drop (place ps k)).map (·.2)).Nodup:=by rw [List.take_append_drop];exact h.2.2
  have G:q∉L.map (·.2):=fun hm=>by obtain⟨x,o,e⟩:=List.mem_map.1 hm;exact B x o e
  have E:((L.take (place ps k)++(k,q)::L.drop (place ps k)).map (·.2)).Perm (q::(L.take (place ps k)++L.drop (place ps k)).map (·.2)):=by simp only [List.map_append,List.map_cons];exact List.perm_middle
  refine E.nodup_iff.2 (List.nodup_cons.2 ⟨?_,D⟩);rw [List.take_append_drop];exact G
theorem zcc.set{N:Nat→Prop}{w w':World}{base base':Nat}{L:List (Key×Nat)}{ps:List (Key×Pr)}{S:Nat→Prop}(h:zcc w base N L ps)(U:zx L){k:Key}(K:there ps k=true){q:Nat}{p:Pr}(B:L[place ps k]?=some (k,q))(C:Fr S w w')(H:∀g,S g→base'≤g∧∃t cs fz,w.heap[g]?=some (.cells cs t fz)∧Tt t)(F:∀x∈L,x.2≠q→¬S x.2)(J:zaE w' base N q p):zcc w' base N L (zau ps k p):=by
 have T:=zbb ps k;have R:=h.1;have Q:=(List.getElem?_eq_some_iff.1 B).1;unfold zau;rw [K];simp only [if_true];refine⟨by simp;omega,fun i x y o v=>?_,h.2.2⟩;have z:i≠place ps k→x.2≠q:=fun hi e=>by
  have M:(L.map (·.2))[i]?=some q:=by rw [List.getElem?_map,o,←e];rfl
  have O:(L.map (·.2))[place ps k]?=some q:=by rw [List.getElem?_map,B];rfl
  obtain⟨D,I⟩:=List.getElem?_eq_some_iff.1 M;obtain⟨E,G⟩:=List.getElem?_eq_some_iff.1 O;rcases Nat.lt_or_gt_of_ne hi with c|c
  ·exact List.pairwise_iff_getElem.1 h.2.2 _ _ D E c (I.trans G.symm)
  ·exact List.pairwise_iff_getElem.1 h.2.2 _ _ E D c (G.trans I.symm)
 rcases Nat.lt_trichotomy i (place ps k)with c|c|c
 ·rw [List.getElem?_append_left (by rw [List.length_take];omega),List.getElem?_take,if_pos c]at v;obtain⟨a,b⟩:=h.2.1 i x y o v;exact⟨a,b.fr C H (F x (List.mem_of_getElem? o) (z (by omega)))⟩
 ·subst c;rw [List.getElem?_append_right (by rw [List.length_take];omega),List.length_take,Nat.min_eq_left (by omega),Nat.sub_self,List.getElem?_cons_zero]at v;injection v with v;subst v;rw [B]at o;injection o with o;subst o;exact⟨rfl,J⟩
 ·obtain⟨j,rfl⟩:∃j,i=place ps k+(j+1):=⟨i - place ps k - 1,by omega⟩
  rw [List.getElem?_append_right (by rw [List.length_take];omega),List.length_take,Nat.min_eq_left (by omega),Nat.add_sub_cancel_left,List.getElem?_cons_succ,List.getElem?_drop,show place ps k+1+j=place ps k+(j+1) by omega]at v;obtain⟨a,b⟩:=h.2.1 _ x y o v;exact⟨a,b.fr C H (F x (List.mem_of_getElem? o) (z (by omega)))⟩
structure zK(w:World)(base:Nat)(N:Nat→Prop)(tb:Nat)(ok:Bool)(mb:Nat)(r:Option Nat)(L:List (Key×Nat))(ps:List (Key×Pr)):Prop where
 blk:Blk w tb 97 #[.pointer (some ⟨mb,0,none⟩),.bool ok]
 ge:base≤tb
 mo:MOP w base mb r L
 hp:zcc w base N L ps
theorem zK.pu{N:Nat→Prop}{w w':World}{base o j:Nat}{i:Bool}{r:Option Nat}{L:List (Key×Nat)}{ps:List (Key×Pr)}(h:zK w base N o i j r L ps)(k:Pu w w'):zK w' base N o i j r L ps:=⟨h.blk.pu k,h.ge,h.mo.pu k,h.hp.pu k⟩
theorem zK.rise{N:Nat→Prop}{w:World}{base k j:Nat}{i:Bool}{r:Option Nat}{L:List (Key×Nat)}{ps:List (Key×Pr)}(h:zK w base N k i j r L ps):zx L∧zx ps:=by have:=h.mo.mr.rise;exact⟨this,ze9 h.hp.keys this⟩
theorem zao.nlt{N:Nat→Prop}{w:World}{base q:Nat}{g:Bool}{A:Option Addr}{n c:Nat}{m:Option Addr}{o k j:Value}{p:Pr}(h:zao w base N q g A n c m o k j p){N':Nat→Prop}(i:∀b,b<w.heap.size→N b→N' b):zao w base N' q g A n c m o k j p:=⟨h.blk,h.ge,h.tm,h.u.mono i,h.l.mono i,h.e.mono i⟩
theorem zaE.mono{N N':Nat→Prop}{w:World}{base q:Nat}{p:Pr}(h:zaE w base N q p)(k:∀b,b<w.heap.size→N b→N' b):zaE w base N' q p:=by obtain⟨g,A,n,c,m,o,j,i,h⟩:=h;exact⟨g,A,n,c,m,o,j,i,h.nlt k⟩
theorem zK.mono{N N':Nat→Prop}{w:World}{base p o:Nat}{j:Bool}{r:Option Nat}{L:List (Key×Nat)}{ps:List (Key×Pr)}(h:zK w base N p j o r L ps)(v:∀b,b<w.heap.size→N b→N' b):zK w base N' p j o r L ps:=⟨h.blk,h.ge,h.mo,h.hp.1,fun i x y t k=>⟨(h.hp.2.1 i x y t k).1,(h.hp.2.1 i x y t k).2.mono v⟩,h.hp.2.2⟩
end
section
open Go.RowKit
def zy(r:Int)(fs:List (Key×Int)):Key:=(fs.flatMap fun f=>za7 f.2++(42::(f.1++[43])))++za7 r
structure RowM where
 rest:Int
 fs:List (Key×Int)
 eq:Bool
def za3:Option Int→Int→Option Int
 |none,n=>some n
 |some m,n=>some (if n>m then n else m)
def zrY:List (Key×Int)→Bool
 | []=>false
 |f::_=>decide (f.2<0)
inductive zcs where
 |bad
 |nothing
 |eq (fs:List (Key×Int)) (n:Int)
 |up (fs:List (Key×Int)) (n:Int)
 |lo (fs:List (Key×Int)) (n:Int)
def zbZ(fs:List (Key×Int)):Int:=zmF (fs.map (·.2))
def zaa(fs:List (Key×Int)):Int:=if zrY fs then -(zbZ fs)else zbZ fs
def zP(r:RowM):zcs:=
 if zbZ r.fs=0 then(if r.rest>0∨(r.eq=true∧r.rest<0)then .bad else .nothing)
 else if r.eq=true then
  (if r.rest%zaa r.fs=0 then .eq (zbI r.fs (zaa r.fs)) (r.rest/zaa r.fs)else .bad)
 else if zrY r.fs then .lo (za9 (zbI r.fs (zbZ r.fs)) (-1)) (-((-r.rest)/zbZ r.fs))
 else .up (zbI r.fs (zbZ r.fs)) (-((-r.rest)/zbZ r.fs))
def zz(ps:List (Key×Pr))(fs:List (Key×Int)):Pr:=(zae ps (zy 0 fs)).getD ⟨fs,none,none,none⟩
def zb0(s:Bool×List (Key×Pr)):zcs→Bool×List (Key×Pr)
 | .bad=>(false,s.2)
 | .nothing=>s
 | .eq fs n=>(s.1&&decide ((zz s.2 fs).eq=none∨(zz s.2 fs).eq=some n),zau s.2 (zy 0 fs) {zz s.2 fs with eq:=some n})
 | .up fs n=>(s.1,zau s.2 (zy 0 fs) {zz s.2 fs with up:=za3 (zz s.2 fs).up n})
 | .lo fs n=>(s.1,zau s.2 (zy 0 fs) {zz s.2 fs with lo:=za3 (zz s.2 fs).lo n})
def zbP(s:Bool×List (Key×Pr))(r:RowM):Bool×List (Key×Pr):=zb0 s (zP r)
def zdK(p:Pr)(e:Int):Bool:=(match p.up with|none=>true|some u=>decide (u≤e))&&(match p.lo with|none=>true|some l=>decide (l≤ -e))
def zkr(p:Pr):Option Int:=
 match p.eq,p.up,p.lo with
 |none,some a,some b=>if a+b=0 then some a else none
 |e,_,_=>e
def zaV(p:Pr):List RowM×Bool:=
 if(match p.eq,p.up,p.lo with|none,some a,some b=>decide (a+b>0)|_,_,_=>false)then([],false)
 else match zkr p with
  |some e=>([⟨e,p.fs,true⟩],zdK p e)
  |none=>((match p.up with|none=>[]|some a=>[⟨a,p.fs,false⟩])++(match p.lo with|none=>[]|some b=>[⟨b,za9 p.fs (-1),false⟩]),true)
theorem zgj(o:Option Int)(n:Int):∃m,za3 o n=some m∧n≤m∧(∀k,o=some k→k≤m)∧(m=n∨o=some m):=by
 cases o with
 |none=>exact⟨n,rfl,Int.le_refl _,fun k h=>(by cases h),.inl rfl⟩
 |some k=>
  by_cases h:n>k
  ·exact⟨n,by simp [za3,h],Int.le_refl _,fun j e=>(by cases e;omega),.inl rfl⟩
  ·exact⟨k,by simp [za3,h],by omega,fun j e=>(by cases e;omega),.inr rfl⟩
theorem zi5{P:Type}{l:List (Key×P)}(i:zx l)(k:Key)(u v:P):zau (zau l k u) k v=zau l k v:=by refine zkZ (zN (zN i k u) k v) (zN i k v) (fun x=>?_);rw [zbu (zN i k u),zbu i,zbu i];split<;>rfl
end
section
open Go.RowKit
def zcs.of:zcs→Option (List (Key×Int))
 | .bad=>none
 | .nothing=>none
 | .eq fs _=>some fs
 | .up fs _=>some fs
 | .lo fs _=>some fs
def Top(S:Int→Prop):Option Int→Prop
 |none=>∀n,¬S n
 |some m=>S m∧∀n,S n→n≤m
theorem Top.uniq{S:Int→Prop}{a b:Option Int}(j:Top S a)(i:Top S b):a=b:=by
 cases a with
 |none=>
  cases b with
  |none=>rfl
  |some b=>exact absurd i.1 (j b)
 |some a=>
  cases b with
  |none=>exact absurd j.1 (i a)
  |some b=>have k:=j.2 b i.1;have o:=i.2 a j.1;rw [show a=b by omega]
theorem Top.great{S v:Int→Prop}{o:Option Int}{n:Int}(h:Top S o)(t:∀m,v m↔S m∨m=n):Top v (za3 o n):=by
 obtain⟨m,e,y,x,i⟩:=zgj o n;rw [e];refine⟨?_,fun k p=>?_⟩
 ·rcases i with i|i
  ·exact(t m).2 (.inr i)
  ·rw [i]at h;exact(t m).2 (.inl h.1)
 ·rcases(t k).1 p with p|p
  ·cases o with
   |none=>exact absurd p (h k)
   |some j=>exact Int.le_trans (h.2 k p) (x j rfl)
  ·omega
theorem Top.congr{S k:Int→Prop}{o:Option Int}(h:Top S o)(i:∀m,k m↔S m):Top k o:=by
 cases o with
 |none=>exact fun n j=>h n ((i n).1 j)
 |some m=>exact⟨(i m).2 h.1,fun n j=>h.2 n ((i n).1 j)⟩
def zg2(F:List zcs):Prop:=∀f∈F,∀g∈F,∀a b,f.of=some a→g.of=some b→zy 0 a=zy 0 b→a=b
def zqv(F:List zcs):Prop:=(∀f∈F,f≠ .bad)∧∀fs n m,zcs.eq fs n∈F→zcs.eq fs m∈F→n=m
structure ziH(F:List zcs)(s:Bool×List (Key×Pr)):Prop where
 rise:zx s.2
 ok:s.1=true↔zqv F
 key:∀k p,zae s.2 k=some p→zy 0 p.fs=k∧∃f∈F,f.of=some p.fs
 there:∀f∈F,∀fs,f.of=some fs→∃p,zae s.2 (zy 0 fs)=some p
 up:∀k p,zae s.2 k=some p→Top (fun n=>zcs.up p.fs n∈F) p.up
 lo:∀k p,zae s.2 k=some p→Top (fun n=>zcs.lo p.fs n∈F) p.lo
 eq0:∀k p,zae s.2 k=some p→∀n,p.eq=some n→zcs.eq p.fs n∈F
 eq1:∀k p,zae s.2 k=some p→∀n,zcs.eq p.fs n∈F→p.eq≠none
theorem zlk:ziH [] (true,[]) where
 rise:=List.Pairwise.nil
 ok:=⟨fun _=>⟨fun f i=>(by cases i),fun fs n m h=>(by cases h)⟩,fun _=>rfl⟩
 key:=fun k p h=>by cases h
 there:=fun f i=>by cases i
 up:=fun k p h=>by cases h
 lo:=fun k p h=>by cases h
 eq0:=fun k p h=>by cases h
 eq1:=fun k p h=>by cases h
theorem zg2.sub{F G:List zcs}(h:zg2 F)(i:∀f∈G,f∈F):zg2 G:=fun f hf g hg=>h f (i f hf) g (i g hg)
theorem ziH.pair{F:List zcs}{s:Bool×List (Key×Pr)}(h:ziH F s){f:zcs}{fs:List (Key×Int)}(B:f.of=some fs)(D:zg2 (F++[f])):(zz s.2 fs).fs=fs∧Top (fun n=>zcs.up fs n∈F) (zz s.2 fs).up∧Top (fun n=>zcs.lo fs n∈F) (zz s.2 fs).lo∧(∀n,(zz s.2 fs).eq=some n→zcs.eq fs n∈F)∧(∀n,zcs.eq fs n∈F→(zz s.2 fs).eq≠none):=by
 unfold zz
 cases e:zae s.2 (zy 0 fs)with
 |some p=>obtain⟨C,g,k,E⟩:=h.key _ p e;have y:p.fs=fs:=D g (List.mem_append_left _ k) f (List.mem_append_right _ (List.mem_singleton.2 rfl)) _ _ E B C;have z:=h.up _ p e;have x:=h.lo _ p e;have o:=h.eq0 _ p e;have v:=h.eq1 _ p e;rw [y]at z x o v;exact⟨y,z,x,o,v⟩
 |none=>
  have j:∀g∈F,g.of≠some fs:=fun g k e2=>by
   obtain⟨p,t⟩:=h.there g k fs e2;rw [e]at t
   cases t
  exact⟨rfl,fun n i=>j _ i rfl,fun n i=>j _ i rfl,fun n i=>(by cases i),fun n i=>absurd rfl (j _ i)⟩
theorem ziH.put{F:List zcs}{s:Bool×List (Key×Pr)}(h:ziH F s){f:zcs}{fs:List (Key×Int)}(G:f.of=some fs)(U:zg2 (F++[f])){p:Pr}{b:Bool}(B:p.fs=fs) (T:b=true↔zqv (F++[f])) (R:Top (fun n=>zcs.up fs n∈F++[f]) p.up) (Q:Top (fun n=>zcs.lo fs n∈F++[f]) p.lo) (N:∀n,p.eq=some n→zcs.eq fs n∈F++[f]) (O:∀n,zcs.eq fs n∈F++[f]→p.eq≠none):ziH (F++[f]) (b,zau s.2 (zy 0 fs) p):=by
 have I:f∈F++[f]:=List.mem_append_right _ (List.mem_singleton.2 rfl);have C:=fun x=>zbu h.rise (zy 0 fs) p x;have j:∀k q,zae (zau s.2 (zy 0 fs) p) k=some q→(k=zy 0 fs∧q=p)∨(k≠zy 0 fs∧zae s.2 k=some q):=fun k q i=>by
  rw [C]at i;split at i
  ·rename_i e;injection i with i;exact .inl ⟨e,i.symm⟩
  ·rename_i e;exact .inr ⟨e,i⟩
 have v:∀k q,k≠zy 0 fs→zae s.2 k=some q→∀g:zcs,g.of=some q.fs→(g∈F++[f]↔g∈F):=fun k q y i g o=>by rw [List.mem_append,List.mem_singleton];refine⟨fun S=>S.elim id (fun e=>?_),.inl⟩;rw [e,G]at o;injection o with o;have:=(h.key k q i).1;rw [←o]at this;exact absurd this.symm y
 refine⟨zN h.rise _ _,T,fun k q i=>?_,fun g o gs e=>?_,fun k q i=>?_,fun k q i=>?_,fun k q i=>?_,fun k q i=>?_⟩
 ·rcases j k q i with⟨D,z⟩|⟨_,t⟩
  ·rw [D,z,B];exact⟨rfl,f,I,G⟩
  ·obtain⟨J,g,o,M⟩:=h.key k q t;exact⟨J,g,List.mem_append_left _ o,M⟩
 ·show∃K,zae (zau s.2 (zy 0 fs) p) (zy 0 gs)=some K;rw [C];split
  ·exact⟨_,rfl⟩
  ·rename_i E;rcases List.mem_append.1 o with o|o
   ·exact h.there g o gs e
   ·rw [List.mem_singleton]at o;rw [o,G]at e;injection e with e;rw [e]at E;exact absurd rfl E
 ·rcases j k q i with⟨D,z⟩|⟨y,t⟩
  ·rw [z,B];exact R
  ·exact(h.up k q t).congr (fun m=>v k q y t _ rfl)
 ·rcases j k q i with⟨D,z⟩|⟨y,t⟩
  ·rw [z,B];exact Q
  ·exact(h.lo k q t).congr (fun m=>v k q y t _ rfl)
 ·rcases j k q i with⟨D,z⟩|⟨y,t⟩
  ·rw [z,B];exact N
  ·exact fun n H=>(v k q y t _ rfl).2 (h.eq0 k q t n H)
 ·rcases j k q i with⟨D,z⟩|⟨y,t⟩
  ·rw [z,B];exact O
  ·exact fun n H=>h.eq1 k q t n ((v k q y t _ rfl).1 H)
theorem zfC{F:List zcs}{f:zcs}(k:f≠ .bad)(j:∀fs n,f≠ .eq fs n):zqv (F++[f])↔zqv F:=by
 constructor
 ·exact fun h=>⟨fun g i=>h.1 g (List.mem_append_left _ i),fun fs n m hn hm=>h.2 fs n m (List.mem_append_left _ hn) (List.mem_append_left _ hm)⟩
 ·intro h;refine⟨fun g i=>?_,fun fs n m hn hm=>?_⟩
  ·rcases List.mem_append.1 i with i|i
   ·exact h.1 g i
   ·rw [List.mem_singleton]at i;rw [i];exact k
  ·rcases List.mem_append.1 hn with hn|hn
   ·rcases List.mem_append.1 hm with hm|hm
    ·exact h.2 fs n m hn hm
    ·exact absurd (List.mem_singleton.1 hm).symm (j fs m)
   ·exact absurd (List.mem_singleton.1 hn).symm (j fs n)
theorem ziH.next{F:List zcs}{s:Bool×List (Key×Pr)}(h:ziH F s)(f:zcs)(B:zg2 (F++[f])):ziH (F++[f]) (zb0 s f):=by
 have y:∀g:zcs,f.of=none→g.of≠none→(g∈F++[f]↔g∈F):=fun g hf j=>by rw [List.mem_append,List.mem_singleton];refine⟨fun t=>t.elim id (fun e=>?_),.inl⟩;rw [e,hf]at j;exact absurd rfl j
 have H:f.of=none→∀b:Bool,(b=true↔zqv (F++[f]))→ziH (F++[f]) (b,s.2):=fun hf b hb=>
  {rise:=h.rise
   ok:=hb
   key:=fun k p o=>by obtain⟨v,g,j,t⟩:=h.key k p o;exact⟨v,g,List.mem_append_left _ j,t⟩
   there:=fun g j fs e=>by have J:=(y g hf (by rw [e];simp)).1 j;exact h.there g J fs e
   up:=fun k p o=>(h.up k p o).congr (fun m=>y _ hf (by simp [zcs.of]))
   lo:=fun k p o=>(h.lo k p o).congr (fun m=>y _ hf (by simp [zcs.of]))
   eq0:=fun k p o n I=>List.mem_append_left _ (h.eq0 k p o n I)
   eq1:=fun k p o n I=>h.eq1 k p o n ((y _ hf (by simp [zcs.of])).1 I)}
 cases f with
 |bad=>exact H rfl false ⟨fun e=>(by cases e),fun hf=>absurd rfl (hf.1 _ (List.mem_append_right _ (List.mem_singleton.2 rfl)))⟩
 |nothing=>exact H rfl s.1 (h.ok.trans (zfC (by simp) (by simp)).symm)
 |up fs n=>obtain⟨v,t,E,z,C⟩:=h.pair (f:= .up fs n) rfl B;exact h.put (f:= .up fs n) rfl B v (h.ok.trans (zfC (by simp) (by simp)).symm) (t.great (fun m=>by simp)) (E.congr (fun m=>by simp)) (fun m i=>List.mem_append_left _ (z m i)) (fun m i=>C m (by simpa using i))
 |lo fs n=>obtain⟨v,t,E,z,C⟩:=h.pair (f:= .lo fs n) rfl B;exact h.put (f:= .lo fs n) rfl B v (h.ok.trans (zfC (by simp) (by simp)).symm) (t.congr (fun m=>by simp)) (E.great (fun m=>by simp)) (fun m i=>List.mem_append_left _ (z m i)) (fun m i=>C m (by simpa using i))
 |eq fs n=>
  obtain⟨v,t,E,z,C⟩:=h.pair (f:= .eq fs n) rfl B;refine h.put (f:= .eq fs n) rfl B (p:={zz s.2 fs with eq:=some n}) v ?_ (t.congr (fun m=>by simp)) (E.congr (fun m=>by simp)) (fun m i=>by injection i with i;rw [i];exact List.mem_append_right _ (List.mem_singleton.2 rfl)) (fun m i e=>by cases e);rw [Bool.and_eq_true,h.ok,decide_eq_true_iff];constructor
  ·rintro⟨x,D⟩;have G:∀m,zcs.eq fs m∈F→m=n:=fun m i=>by
    rcases D with D|D
    ·exact absurd D (C m i)
    ·exact x.2 fs m n i (z n D)
   refine⟨fun g j=>?_,fun gs a b h6 h7=>?_⟩
   ·rcases List.mem_append.1 j with j|j
    ·exact x.1 g j
    ·rw [List.mem_singleton.1 j];simp
   ·rcases List.mem_append.1 h6 with h6|h6
    ·rcases List.mem_append.1 h7 with h7|h7
     ·exact x.2 gs a b h6 h7
     ·rw [List.mem_singleton]at h7;injection h7 with e1 e2;rw [e1]at h6;rw [e2];exact G a h6
    ·rw [List.mem_singleton]at h6;injection h6 with e1 e2;rw [e1]at h7;rcases List.mem_append.1 h7 with h7|h7
     ·rw [e2];exact(G b h7).symm
     ·rw [List.mem_singleton]at h7;injection h7 with _ e3;rw [e2,e3]
  ·intro x;refine⟨⟨fun g j=>x.1 g (List.mem_append_left _ j),fun gs a b h6 h7=>x.2 gs a b (List.mem_append_left _ h6) (List.mem_append_left _ h7)⟩,?_⟩
   cases e:(zz s.2 fs).eq with
   |none=>exact .inl rfl
   |some m=>have:=x.2 fs m n (List.mem_append_left _ (z m e)) (List.mem_append_right _ (List.mem_singleton.2 rfl));rw [this];exact .inr rfl
theorem zk5:∀(F G:List zcs) (s:Bool×List (Key×Pr)),ziH F s→zg2 (F++G)→ziH (F++G) (G.foldl zb0 s)
 |F,[],s,h,_=>by simpa using h
 |F,f::G,s,h,ha=>by
  have e:F++f::G=(F++[f])++G:=by simp
  rw [e]at ha⊢;exact zk5 (F++[f]) G _ (h.next f (ha.sub fun g i=>List.mem_append_left _ i)) ha
theorem ziH.same{F G:List zcs}{s t:Bool×List (Key×Pr)}(h:ziH F s)(k:ziH G t)(Q:zg2 F)(i:∀f,f∈F↔f∈G):s.1=t.1∧(s.1=true→s.2=t.2):=by
 have B:zqv F↔zqv G:=by
  constructor
  ·exact fun x=>⟨fun f v=>x.1 f ((i f).2 v),fun fs n m a b=>x.2 fs n m ((i _).2 a) ((i _).2 b)⟩
  ·exact fun x=>⟨fun f v=>x.1 f ((i f).1 v),fun fs n m a b=>x.2 fs n m ((i _).1 a) ((i _).1 b)⟩
 have R:s.1=t.1:=by rw [Bool.eq_iff_iff,h.ok,k.ok,B]
 refine⟨R,fun O=>zkZ h.rise k.rise (fun x=>?_)⟩;have S:=h.ok.1 O;have M:∀p q,zae s.2 x=some p→zae t.2 x=some q→p=q:=fun p q o j=>by
  obtain⟨I,f,v,E⟩:=h.key x p o;obtain⟨H,g,C,D⟩:=k.key x q j;have e:p.fs=q.fs:=Q f v g ((i g).2 C) _ _ E D (I.trans H.symm);have N:p.up=q.up:=(h.up x p o).uniq ((k.up x q j).congr (fun m=>by rw [e,i]));have K:p.lo=q.lo:=(h.lo x p o).uniq ((k.lo x q j).congr (fun m=>by rw [e,i]));have J:p.eq=q.eq:=by
   cases ep:p.eq with
   |none=>
    cases eq:q.eq with
    |none=>rfl
    |some n=>have y:=k.eq0 x q j n eq;rw [←e,←i]at y;exact absurd ep (h.eq1 x p o n y)
   |some n=>
    have y:=h.eq0 x p o n ep
    cases eq:q.eq with
    |none=>have z:=y;rw [i,e]at z;exact absurd eq (k.eq1 x q j n z)
    |some m=>have z:=k.eq0 x q j m eq;rw [←e,←i]at z;rw [S.2 _ n m y z]
  obtain⟨T,Y,V,U⟩:=p;obtain⟨q1,q2,W,X⟩:=q;dsimp only at e N K J;subst e N K J;rfl
 cases e:zae s.2 x with
 |some p=>obtain⟨I,f,v,E⟩:=h.key x p e;obtain⟨q,j⟩:=k.there f ((i f).1 v) _ E;rw [I]at j;rw [j,M p q e j]
 |none=>
  cases e':zae t.2 x with
  |none=>rfl
  |some q=>
   obtain⟨H,g,C,D⟩:=k.key x q e';obtain⟨p,o⟩:=h.there g ((i g).2 C) _ D;rw [H,e]at o
   cases o
end
section
open Go.RowKit
theorem zf4{d:Nat}(h:d<10):(UInt8.ofNat (48+d)).toNat=48+d:=by rw [UInt8.toNat_ofNat'];omega
theorem zfD:∀{l k:List Nat},zg 10 l→zg 10 k→(l.map fun d=>UInt8.ofNat (48+d))=(k.map fun d=>UInt8.ofNat (48+d))→l=k
 | [],[],_,_,_=>rfl
 | [],_::_,_,_,h=>by simp at h
 |_::_,[],_,_,h=>by simp at h
 |x::l,y::k,hl,hk,h=>by
  simp only [List.map_cons,List.cons.injEq]at h;have j:=zf4 (hl x (by simp));have o:=zf4 (hk y (by simp));rw [h.1]at j;have e:x=y:=by omega
  rw [e,zfD (fun z i=>hl z (by simp [i])) (fun z i=>hk z (by simp [i])) h.2]
theorem zc6(z:Int):∀b∈za7 z,b≠42∧b≠43:=by
 intro b i;unfold za7 at i;split at i
 ·rw [List.mem_singleton]at i;subst i;decide
 ·rcases List.mem_append.1 i with i|i
  ·split at i
   ·rw [List.mem_singleton]at i;subst i;decide
   ·cases i
  ·obtain⟨d,k,rfl⟩:=List.mem_map.1 i;have j:=zf4 (zgT _ d (List.mem_reverse.1 k));constructor
   ·intro e;rw [e]at j;have:(42:UInt8).toNat=42:=rfl;omega
   ·intro e;rw [e]at j;have:(43:UInt8).toNat=43:=rfl;omega
theorem zjB(n:Nat):∀t,((zeK n).reverse.map fun d=>UInt8.ofNat (48+d))≠45::t:=by
 intro t h;have k:(45:UInt8)∈((zeK n).reverse.map fun d=>UInt8.ofNat (48+d)):=by rw [h];simp
 obtain⟨d,i,e⟩:=List.mem_map.1 k;have j:=zf4 (zgT _ d (List.mem_reverse.1 i));rw [e]at j;have:(45:UInt8).toNat=45:=rfl;omega
theorem zpS{n m:Nat}(h:zeK n=zeK m):n=m:=by rw [←zhV n,←zhV m,h]
theorem ziL{x y:Int}(h:za7 x=za7 y):x=y:=by
 have p:∀{n m:Nat},((zeK n).reverse.map fun d=>UInt8.ofNat (48+d))=((zeK m).reverse.map fun d=>UInt8.ofNat (48+d))→n=m:=fun {n m} e=>by have:=zfD (fun z hz=>zgT n z (List.mem_reverse.1 hz)) (fun z hz=>zgT m z (List.mem_reverse.1 hz)) e;exact zpS (List.reverse_inj.1 this)
 have t:∀{z:Int},z≠0→((zeK z.natAbs).reverse.map fun d=>UInt8.ofNat (48+d))≠[48]:=fun {z} hz e=>by
  have C:((zeK z.natAbs).reverse.map fun d=>UInt8.ofNat (48+d))=([0].map fun d=>UInt8.ofNat (48+d)):=e;have:=zfD (fun z hz=>zgT _ z (List.mem_reverse.1 hz)) (fun z hz=>by rw [List.mem_singleton]at hz;omega) C;have B:zeK z.natAbs= [0]:=by rw [←List.reverse_reverse (zeK z.natAbs),this];rfl
  have v:=zhV z.natAbs;rw [B]at v;have:zd 10 [0]=0:=rfl;omega
 unfold za7 at h;by_cases o:x=0
 ·by_cases k:y=0
  ·rw [o,k]
  ·rw [if_pos o,if_neg k]at h;by_cases i:y<0
   ·rw [if_pos i]at h;simp at h
   ·rw [if_neg i]at h;exact absurd h.symm (t k)
 ·by_cases k:y=0
  ·rw [if_neg o,if_pos k]at h;by_cases j:x<0
   ·rw [if_pos j]at h;simp at h
   ·rw [if_neg j]at h;exact absurd h (t o)
  ·rw [if_neg o,if_neg k]at h;by_cases j:x<0
   ·by_cases i:y<0
    ·rw [if_pos j,if_pos i]at h;have:=p (List.append_cancel_left h);omega
    ·rw [if_pos j,if_neg i]at h;exact absurd h.symm (zjB _ _)
   ·by_cases i:y<0
    ·rw [if_neg j,if_pos i]at h;exact absurd h (zjB _ _)
    ·rw [if_neg j,if_neg i]at h;have:=p (List.append_cancel_left h);omega
theorem zgJ{c:UInt8}:∀{a b x y:List UInt8},(∀u∈a,u≠c)→(∀u∈b,u≠c)→a++c::x=b++c::y→a=b∧x=y
 | [],[],x,y,_,_,h=>⟨rfl,by simpa using h⟩
 | [],v::b,x,y,_,hb,h=>by simp only [List.nil_append,List.cons_append,List.cons.injEq]at h;exact absurd h.1.symm (hb v (by simp))
 |u::a,[],x,y,ha,_,h=>by simp only [List.nil_append,List.cons_append,List.cons.injEq]at h;exact absurd h.1 (ha u (by simp))
 |u::a,v::b,x,y,ha,hb,h=>by simp only [List.cons_append,List.cons.injEq]at h;obtain⟨j,k⟩:=zgJ (fun z i=>ha z (by simp [i])) (fun z i=>hb z (by simp [i])) h.2;exact⟨by rw [h.1,j],k⟩
def Plain(fs:List (Key×Int)):Prop:=∀f∈fs,∀u∈f.1,u≠43
theorem zjL:∀{a b:List (Key×Int)} {r s:Int},Plain a→Plain b→zy r a=zy s b→a=b∧r=s
 | [],[],r,s,_,_,h=>⟨rfl,ziL (by simpa [zy]using h)⟩
 | [],g::b,r,s,_,_,h=>by
  exfalso;have i:(42:UInt8)∈zy s (g::b):=by simp [zy]
  rw [←h]at i;exact(zc6 r 42 (by simpa [zy]using i)).1 rfl
 |f::a,[],r,s,_,_,h=>by
  exfalso;have i:(42:UInt8)∈zy r (f::a):=by simp [zy]
  rw [h]at i;exact(zc6 s 42 (by simpa [zy]using i)).1 rfl
 |f::a,g::b,r,s,ha,hb,h=>by
  have e:∀(f:Key×Int) (a:List (Key×Int)) (r:Int),zy r (f::a)=za7 f.2++42::(f.1++43::zy r a):=fun f a r=>by simp [zy]
  rw [e,e]at h;obtain⟨p,v⟩:=zgJ (fun u j=>(zc6 _ u j).1) (fun u j=>(zc6 _ u j).1) h;obtain⟨x,o⟩:=zgJ (ha f (by simp)) (hb g (by simp)) v;obtain⟨y,t⟩:=zjL (fun z k=>ha z (by simp [k])) (fun z k=>hb z (by simp [k])) o;refine⟨?_,t⟩;rw [y,show f=g from Prod.ext x (ziL p)]
theorem ze1{fs:List (Key×Int)}(h:Plain fs)(f:Key×Int→Int):Plain (fs.map fun q=>(q.1,f q)):=by intro g j;obtain⟨q,i,rfl⟩:=List.mem_map.1 j;exact h q i
theorem zfN{r:RowM}(h:Plain r.fs){fs:List (Key×Int)}(i:(zP r).of=some fs):Plain fs:=by
 unfold zP at i;split at i
 ·split at i<;>cases i
 ·split at i
  ·split at i
   ·injection i with i;rw [←i];exact ze1 h _
   ·cases i
  ·split at i
   ·injection i with i;rw [←i];exact ze1 (ze1 h _) _
   ·injection i with i;rw [←i];exact ze1 h _
theorem zeO{l:List RowM}(h:∀r∈l,Plain r.fs):zg2 (l.map zP):=by intro f i g j a b p o e;obtain⟨r,t,rfl⟩:=List.mem_map.1 i;obtain⟨s,k,rfl⟩:=List.mem_map.1 j;exact(zjL (zfN (h r t) p) (zfN (h s k) o) e).1
def zi(l:List RowM):Bool×List (Key×Pr):=l.foldl zbP (true,[])
theorem zbq{l:List RowM}(h:∀r∈l,Plain r.fs):ziH (l.map zP) (zi l):=by have i:=zk5 [] (l.map zP) (true,[]) zlk (by simpa using zeO h);rw [List.foldl_map,List.nil_append]at i;exact i
end
section
open Go.RowKit
def zhz(a b:RowM):Int:=
 if zy a.rest a.fs=zy b.rest b.fs then(if a.eq=b.eq then 0 else if a.eq then -1 else 1)
 else if zy a.rest a.fs<zy b.rest b.fs then -1 else 1
def zfr(a:RowM):Key×Bool:=(zy a.rest a.fs,a.eq)
def zjS(a b:RowM):Prop:=zhz a b<0
theorem zdc{a b:RowM}:zjS a b↔(zfr a).1<(zfr b).1∨((zfr a).1=(zfr b).1∧a.eq=true∧b.eq=false):=by
 unfold zjS zhz zfr;dsimp only;by_cases h:zy a.rest a.fs=zy b.rest b.fs
 ·rw [if_pos h,h]
  cases a.eq<;>cases b.eq<;>simp [zev]
 ·rw [if_neg h];by_cases k:zy a.rest a.fs<zy b.rest b.fs
  ·simp [k,h]
  ·simp [k,h]
theorem zo9(a:RowM):¬zjS a a:=by
 rw [zdc];rintro(h|⟨_,j,i⟩)
 ·exact zev _ h
 ·rw [j]at i
  cases i
theorem zhH{a b c:RowM}(h:zjS a b)(k:zjS b c):zjS a c:=by
 rw [zdc]at*
 rcases h with h|⟨h,p,j⟩
 ·rcases k with k|⟨k,i,o⟩
  ·exact .inl (zdC h k)
  ·rw [k]at h;exact .inl h
 ·rcases k with k|⟨k,i,o⟩
  ·rw [←h]at k;exact .inl k
  ·rw [i]at j
   cases j
theorem zm1(a b:RowM):zjS a b∨zfr a=zfr b∨zjS b a:=by
 rcases zij (zfr a).1 (zfr b).1 with h|h|h
 ·exact .inl (zdc.2 (.inl h))
 ·by_cases e:a.eq=b.eq
  ·exact .inr (.inl (Prod.ext h e))
  ·cases ea:a.eq with
   |true=>
    cases eb:b.eq with
    |true=>rw [ea,eb]at e;exact absurd rfl e
    |false=>exact .inl (zdc.2 (.inr ⟨h,ea,eb⟩))
   |false=>
    cases eb:b.eq with
    |false=>rw [ea,eb]at e;exact absurd rfl e
    |true=>exact .inr (.inr (zdc.2 (.inr ⟨h.symm,eb,ea⟩)))
 ·exact .inr (.inr (zdc.2 (.inl h)))
def zn2(l:List RowM):Prop:=l.Pairwise fun a b=>¬zjS b a
theorem znO{a i b b':RowM}(k:zfr a=zfr i)(j:zfr b=zfr b')(h:zjS a b):zjS i b':=by
 have o:a.eq=i.eq:=congrArg (·.2) k;have p:b.eq=b'.eq:=congrArg (·.2) j;rw [zdc]at*
 rw [←k,←j,←o,←p];exact h
theorem zrd{a b c:RowM}(h:¬zjS b a)(k:¬zjS c b):¬zjS c a:=fun x=>by
 rcases zm1 b c with c1|c1|c1
 ·exact h (zhH c1 x)
 ·exact h (znO c1.symm rfl x)
 ·exact k c1
def zO(ps:List (Key×Pr)):List RowM:=ps.flatMap fun e=>(zaV e.2).1
def zcH(ps:List (Key×Pr)):Bool:=ps.all fun e=>(zaV e.2).2
def zk(v:Key→Int):List (Key×Int)→Int
 | []=>0
 |f::fs=>f.2*v f.1+zk v fs
theorem zaQ(v:Key→Int):∀(a b:List (Key×Int)),zk v (a++b)=zk v a+zk v b
 | [],b=>by simp [zk]
 |f::a,b=>by rw [List.cons_append,zk,zk,zaQ v a b];omega
theorem zkV{l:List (Key×Int)}(p:zx l){k:Key}{u:Int}(i:l[place l k]?=some (k,u)):l=l.take (place l k)++(k,u)::l.drop (place l k+1):=by obtain⟨o,j⟩:=List.getElem?_eq_some_iff.1 i;rw [←j,List.getElem_cons_drop,List.take_append_drop]
theorem zmG(v:Key→Int){l:List (Key×Int)}(j:zx l)(k:Key)(z:Int):zk v (zau l k z)=zk v l+(z - factor l k)*v k:=by
 unfold zau factor;split
 ·rename_i h;obtain⟨u,i⟩:=(zD j k).1 h;have e:=congrArg (zk v) (zkV j i);rw [zaQ,zk]at e;rw [zaQ,zk,e,i];show _=_+(z - u)*v k;rw [Int.sub_mul];dsimp only;omega
 ·rename_i h;have e:zk v l=zk v (l.take (place l k))+zk v (l.drop (place l k)):=by rw [←zaQ,List.take_append_drop]
  rw [zaQ,zk,e,Int.sub_zero];dsimp only;omega
theorem zlC(v:Key→Int){l:List (Key×Int)}(j:zx l)(k:Key):zk v (dropM l k)=zk v l - factor l k*v k:=by
 unfold dropM factor;split
 ·rename_i h;obtain⟨u,i⟩:=(zD j k).1 h;have e:=congrArg (zk v) (zkV j i);rw [zaQ,zk]at e;rw [zaQ,e,i];show _=_ - u*v k;dsimp only;omega
 ·rw [Int.zero_mul,Int.sub_zero]
theorem zmk(v:Key→Int){n:Int}{acc:List (Key×Int)}(i:zx acc)(g:Key×Int):zk v (zX n acc g)=zk v acc+n*(g.2*v g.1):=by
 unfold zX;split
 ·rename_i h;rw [zlC v i];have:factor acc g.1= -(g.2*n):=by omega
  rw [this,Int.neg_mul,Int.mul_comm g.2 n,Int.mul_assoc];omega
 ·rw [zmG v i];have:factor acc g.1+g.2*n - factor acc g.1=n*g.2:=by rw [Int.mul_comm n];omega
  rw [this,Int.mul_assoc]
theorem zbw(v:Key→Int){n:Int}:∀(gs fs:List (Key×Int)),zx fs→zk v (zG fs gs n)=zk v fs+n*zk v gs
 | [],fs,_=>by simp [zG,zk]
 |g::gs,fs,hr=>by show zk v (zG (zX n fs g) gs n)=_;rw [zbw v gs _ (zbN hr),zmk v hr,zk,Int.mul_add];omega
def zrX(fs:List (Key×Int))(k:Key)(gs:List (Key×Int)):List (Key×Int):=zG (zG fs [(k,1)] (-(factor fs k))) gs (factor fs k)
theorem zmy{v:Key→Int}{fs gs:List (Key×Int)}(z:zx fs)(k:Key)(r x:Int){u:Key→Int}(C:x=r+zk v gs)(E:∀j,u j=if j=k then x else v j):factor fs k*r+zk v (zrX fs k gs)=zk u fs:=by
 have D:zk v (zrX fs k gs)=zk v fs+ -(factor fs k)*(1*v k+0)+factor fs k*zk v gs:=by unfold zrX;rw [zbw v _ _ (zac _ _ z),zbw v _ _ z];rfl
 have F:∀(l:List (Key×Int)),zx l→zk u l=zk v l+factor l k*(x - v k):=fun l hl=>by
  induction l with
  |nil=>simp [zk,factor,there]
  |cons f l ih=>
   have i:=List.pairwise_cons.1 hl;rw [zk,zk,ih i.2,E];by_cases c:f.1=k
   ·have y:factor (f::l) k=f.2:=zl hl (by rw [←c];exact List.mem_cons_self ..);have o:factor l k=0:=zI i.2 (fun g t e=>by
     have:=i.1 g t;rw [e,c]at this;exact zev _ this)
    rw [if_pos c,y,o,c,Int.zero_mul,Int.mul_sub];omega
   ·have y:factor (f::l) k=factor l k:=by
     have:=zak (n:=1) [] (f::l) hl List.Pairwise.nil k
     cases e:zae l k with
     |some u'=>have p:=(zv i.2).1 e;rw [zl i.2 p];exact zl hl (List.mem_cons_of_mem _ p)
     |none=>
      rw [zaz l,e];refine zI hl (fun g t o=>?_);rcases List.mem_cons.1 t with h3|h3
      ·rw [h3]at o;exact c o
      ·have B:=(zv i.2 (k:=k) (v:=g.2)).2 (by rw [←o];exact h3);rw [e]at B
       cases B
    rw [if_neg c,y];omega
 rw [D,F fs z,C,Int.one_mul,Int.add_zero,Int.mul_sub,Int.mul_add,Int.neg_mul];omega
end
section
open Go.RowKit
section
variable{P:Type}{vc:P→List Value}{s:Nat}
def cat(vc:P→List Value)(l:List P):List Value:=l.flatMap vc
theorem zhY(q:P)(l:List P):cat vc (q::l)=vc q++cat vc l:=rfl
theorem zaX(l l':List P):cat vc (l++l')=cat vc l++cat vc l':=by simp [cat]
theorem zfz(i:∀p,(vc p).length=s):∀(l:List P),(cat vc l).length=l.length*s
 | []=>by simp [cat]
 |q::l=>by rw [zhY,List.length_append,zfz i l,List.length_cons,i,Nat.succ_mul,Nat.add_comm]
theorem zgs(i:∀p,(vc p).length=s):∀{l:List P} {j:Nat} {q:P},l[j]?=some q→∀t,t<s→(cat vc l)[j*s+t]?=(vc q)[t]?
 | [],j,q,h,t,ht=>by simp at h
 |p::l,0,q,h,t,ht=>by simp at h;subst h;rw [zhY,Nat.zero_mul,Nat.zero_add,List.getElem?_append_left (by rw [i];exact ht)]
 |p::l,j+1,q,h,t,ht=>by
  have:=zgs i (l:=l) (j:=j) (q:=q) (by simpa using h) t ht;rw [zhY,List.getElem?_append_right (by rw [i,Nat.succ_mul];omega),i,←this,Nat.succ_mul]
  congr 1
  omega
theorem Sl.clen{w:World}{A:Option Addr}{n c:Nat}{l:List P}(j:∀p,(vc p).length=s)(k:0<s)(h:Sl w s A n c (cat vc l)):l.length=n:=by have i:=h.1;rw [zfz j]at i;exact Nat.eq_of_mul_eq_mul_right k i
theorem zjH{w:World}{A:Option Addr}{n c:Nat}{l:List P}(i:∀p,(vc p).length=s)(z:0<s)(h:Sl w s A n c (cat vc l)){j:Nat}{q:P}(x:l[j]?=some q):∃b off,A=some ⟨b,off,none⟩∧b<w.heap.size∧∀t u,(vc q)[t]?=some u→w.cell? ⟨b,off+j*s+t,none⟩=some u:=by have D:=h.clen i z;have C:=(List.getElem?_eq_some_iff.1 x).1;obtain⟨b,off,rfl,B,y⟩:=h.2.2 (by omega);refine⟨b,off,rfl,B,fun t u o=>?_⟩;have k:=(List.getElem?_eq_some_iff.1 o).1;rw [i]at k;have v:=zgs i x t k;rw [o]at v;have:=y _ _ v;rwa [←Nat.add_assoc]at this
end
structure RawR where
 g:Bool
 A:Option Addr
 n:Nat
 c:Nat
 m:Option Addr
 eq:Bool
def RawR.cells(q:RawR):List Value:=[.bool q.g,.slice q.A q.n q.c,.pointer q.m,.bool q.eq]
def RawR.term(q:RawR):Value:= .agg #[.bool q.g,.slice q.A q.n q.c,.pointer q.m]
def RawR.val(q:RawR):Value:= .agg #[.bool q.g,.slice q.A q.n q.c,.pointer q.m,.bool q.eq]
theorem RawR.cells_len(q:RawR):q.cells.length=4:=rfl
theorem RawR.cells_one(q:RawR):∀u∈q.cells,u.oneCell'=true:=by intro u i;simp [RawR.cells]at i;rcases i with rfl|rfl|rfl|rfl<;>rfl
def zeP(w:World)(q:RawR)(r:RowM):Prop:=q.eq=r.eq∧TM w q.term r.rest r.fs
theorem zeP.pu{w w':World}{q:RawR}{r:RowM}(h:zeP w q r)(p:Pu w w'):zeP w' q r:=⟨h.1,h.2.pu p⟩
def zF(w:World)(L:List RawR)(l:List RowM):Prop:=L.length=l.length∧∀(i:Nat) (q:RawR) (r:RowM),L[i]?=some q→l[i]?=some r→zeP w q r
theorem zF.pu{w w':World}{L:List RawR}{l:List RowM}(h:zF w L l)(p:Pu w w'):zF w' L l:=⟨h.1,fun i q r j k=>(h.2 i q r j k).pu p⟩
theorem zF.nil(w:World):zF w [] []:=⟨rfl,fun i q r h=>by simp at h⟩
theorem zF.append{w:World}{L L':List RawR}{l l':List RowM}(h:zF w L l)(o:zF w L' l'):zF w (L++L') (l++l'):=by
 refine⟨by simp [h.1,o.1],fun j p f i k=>?_⟩;rcases Nat.lt_or_ge j L.length with hj|hj
 ·rw [List.getElem?_append_left hj]at i;rw [List.getElem?_append_left (by rw [←h.1];exact hj)]at k;exact h.2 j p f i k
 ·rw [List.getElem?_append_right hj]at i;rw [List.getElem?_append_right (by rw [←h.1];exact hj),←h.1]at k;exact o.2 _ p f i k
theorem zF.one{w:World}{q:RawR}{r:RowM}(h:zeP w q r):zF w [q] [r]:=by
 refine⟨rfl,fun i p o j k=>?_⟩
 cases i with
 |zero=>simp at j k;subst j k;exact h
 |succ i=>simp at j
theorem zF.drop{w:World}{L:List RawR}{l:List RowM}(h:zF w L l)(i:Nat):zF w (L.drop i) (l.drop i):=by refine⟨by simp [h.1],fun j p f k o=>?_⟩;rw [List.getElem?_drop]at k o;exact h.2 _ p f k o
theorem zF.at_{w:World}{L:List RawR}{l:List RowM}(h:zF w L l){i:Nat}{q:RawR}(k:L[i]?=some q):∃r,l[i]?=some r∧zeP w q r:=by have j:=(List.getElem?_eq_some_iff.1 k).1;have o:l[i]?=some (l[i]'(by rw [←h.1];exact j)):=List.getElem?_eq_getElem (by rw [←h.1];exact j);exact⟨_,o,h.2 i q _ k o⟩
abbrev SlR(w:World)(A:Option Addr)(n c:Nat)(L:List RawR):Prop:=Sl w 4 A n c (cat RawR.cells L)
theorem SlR.at_{w:World}{A:Option Addr}{n c:Nat}{L:List RawR}(h:SlR w A n c L){j:Nat}{q:RawR}(o:L[j]?=some q):∃b off,A=some ⟨b,off,none⟩∧b<w.heap.size∧w.cell? ⟨b,off+j*4,none⟩=some (.bool q.g)∧w.cell? ⟨b,off+j*4+1,none⟩=some (.slice q.A q.n q.c)∧w.cell? ⟨b,off+j*4+2,none⟩=some (.pointer q.m)∧w.cell? ⟨b,off+j*4+3,none⟩=some (.bool q.eq):=by obtain⟨b,off,rfl,k,i⟩:=zjH RawR.cells_len (by decide) h o;exact⟨b,off,rfl,k,i 0 _ rfl,i 1 _ rfl,i 2 _ rfl,i 3 _ rfl⟩
theorem SlR.len{w:World}{A:Option Addr}{n c:Nat}{L:List RawR}(h:SlR w A n c L):L.length=n:=Sl.clen RawR.cells_len (by decide) h
theorem zcX:zcE Tryz.prog 24 35 (.agg #[.bool false,.slice none 0 0,.pointer none,.bool false]) 4 48:=⟨Tryz.underlying24,by kernel_rfl,rfl,by decide⟩
end
section
open Go.RowKit
def ziu(w:World)(base:Nat)(q:RawR)(r:RowM):Prop:=q.eq=r.eq∧TMO w base q.term r.rest r.fs
theorem ziu.is{w:World}{base:Nat}{q:RawR}{r:RowM}(h:ziu w base q r):zeP w q r:=⟨h.1,h.2.tm⟩
theorem ziu.qf{w w':World}{base base':Nat}{q:RawR}{r:RowM}(h:ziu w base' q r)(k:Qf base w w'):ziu w' base' q r:=⟨h.1,h.2.qf k⟩
theorem ziu.pu{w w':World}{base':Nat}{q:RawR}{r:RowM}(h:ziu w base' q r)(k:Pu w w'):ziu w' base' q r:=⟨h.1,h.2.pu k⟩
theorem ziu.base_{w:World}{base base':Nat}{q:RawR}{r:RowM}(h:ziu w base q r)(i:base'≤base):ziu w base' q r:=⟨h.1,h.2.base_ i⟩
def zal(w:World)(base:Nat)(L:List RawR)(l:List RowM):Prop:=L.length=l.length∧∀(i:Nat) (q:RawR) (r:RowM),L[i]?=some q→l[i]?=some r→ziu w base q r
section
variable{w w':World}{base base':Nat}{L L':List RawR}{l l':List RowM}
theorem zal.hold(h:zal w base L l):zF w L l:=⟨h.1,fun i q r j k=>(h.2 i q r j k).is⟩
theorem zal.qf(h:zal w base' L l)(k:Qf base w w'):zal w' base' L l:=⟨h.1,fun i q r j o=>(h.2 i q r j o).qf k⟩
theorem zal.pu(h:zal w base' L l)(k:Pu w w'):zal w' base' L l:=⟨h.1,fun i q r j o=>(h.2 i q r j o).pu k⟩
theorem zal.base_(h:zal w base L l)(k:base'≤base):zal w base' L l:=⟨h.1,fun i q r j o=>(h.2 i q r j o).base_ k⟩
theorem zal.nil(w:World)(base:Nat):zal w base [] []:=⟨rfl,fun i q r h=>by simp at h⟩
theorem zal.append(h:zal w base L l)(o:zal w base L' l'):zal w base (L++L') (l++l'):=by
 refine⟨by simp [h.1,o.1],fun j p f i k=>?_⟩;rcases Nat.lt_or_ge j L.length with hj|hj
 ·rw [List.getElem?_append_left hj]at i;rw [List.getElem?_append_left (by rw [←h.1];exact hj)]at k;exact h.2 j p f i k
 ·rw [List.getElem?_append_right hj]at i;rw [List.getElem?_append_right (by rw [←h.1];exact hj),←h.1]at k;exact o.2 _ p f i k
theorem zal.one{q:RawR}{r:RowM}(h:ziu w base q r):zal w base [q] [r]:=by
 refine⟨rfl,fun i p o j k=>?_⟩
 cases i with
 |zero=>simp at j k;subst j k;exact h
 |succ i=>simp at j
theorem zal.at_(h:zal w base L l){i:Nat}{q:RawR}(k:L[i]?=some q):∃r,l[i]?=some r∧ziu w base q r:=by have j:=(List.getElem?_eq_some_iff.1 k).1;have o:l[i]?=some (l[i]'(by rw [←h.1];exact j)):=List.getElem?_eq_getElem (by rw [←h.1];exact j);exact⟨_,o,h.2 i q _ k o⟩
end
theorem zao.pu{N:Nat→Prop}{w w':World}{base q:Nat}{g:Bool}{A:Option Addr}{n c:Nat}{m:Option Addr}{pu j i:Value}{p:Pr}(h:zao w base N q g A n c m pu j i p)(k:Pu w w'):zao w' base N q g A n c m pu j i p:=⟨h.blk.pu k,h.ge,h.tm.pu k,h.u.pu k,h.l.pu k,h.e.pu k⟩
theorem zgI(q:RawR):cat RawR.cells [q]=q.cells:=by simp [cat]
theorem zcC{w w':World}{base base' n c:Nat}{A:Option Addr}{t:List Value}(x:w.ownsRow base 35 4 (.slice A n c) n t)(z:base'≤base)(v:w.grownBy w' (Value.slice A n c).ownBlock):Qf base' w w':=by
 refine Qf.of (Fr.of_grown v) (fun g i=>?_);rcases x.2 with⟨j,_⟩|⟨p,C,B,j,k,o,_⟩
 ·rw [j]at i
  cases i
 ·rw [j]at i;have e:p=g:=by
   have y:some p=some g:=i;injection y
  subst e;exact⟨Nat.le_trans z k,_,_,_,o,by decide⟩
theorem zbs{w:World}{base n c k g:Nat}{e t:TypeId}{A:Option Addr}{v:List Value}{B:Array Value}(x:w.ownsRow base e k (.slice A n c) n v)(p:Blk w g t B)(y:t≠e):¬(Value.slice A n c).ownBlock=some g:=fun h=>by
 rcases x.2 with⟨j,_⟩|⟨o,E,D,j,_,i,_⟩
 ·rw [j]at h
  cases h
 ·rw [j]at h;have C:o=g:=by
   have z:some o=some g:=h;injection z
  subst C;unfold Blk at p;rw [p]at i;injection i with i;injection i with _ i;exact y i
theorem zah{w:World}{base n c k:Nat}{e:TypeId}{A:Option Addr}{p:List Value}(v:w.ownsRow base e k (.slice A n c) n p):∀g,(Value.slice A n c).ownBlock=some g→base≤g∧∃t cs fz,w.heap[g]?=some (.cells cs t fz)∧t=e:=fun g h=>by
 rcases v.2 with⟨i,_⟩|⟨o,C,B,i,z,j,_⟩
 ·rw [i]at h
  cases h
 ·rw [i]at h;have y:o=g:=by
   have x:some o=some g:=h;injection x
  subst y;exact⟨z,_,_,_,j,rfl⟩
end
end Go.Proofs.YtckfnbckoclhpaaGreatDoor

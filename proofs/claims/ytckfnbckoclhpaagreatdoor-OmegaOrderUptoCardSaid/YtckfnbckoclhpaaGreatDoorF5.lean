/- The solver. -/
import Derived.Test.YtckfnbckoclhpaaGreatDoorF4
import Derived.Lib.AppendZeros
namespace Go.Proofs.YtckfnbckoclhpaaGreatDoor
set_option linter.unusedVariables false
set_option linter.unusedSimpArgs false
set_option maxRecDepth 100000
set_option maxHeartbeats 16000000
section
open Go.RowKit
theorem zpb(l:List RowM)(k:Key)(A0:Option Addr)(y c0:Nat)(A1:Option Addr)(n1 c1:Nat)(A2:Option Addr)(n2 c2:Nat)(x:Bool)(base D:Nat)(rr:Option Nat)(N:List (Key×Part))(o:List (Key×Int))(K R0 G:Nat)(w:World) (hc:ze3 w l k A0 y c0 A1 n1 c1 A2 n2 c2 x) (W:MOZ w base D rr N) (hh:zH w N o) (ok:∀r∈l,zeM k r≠2→zk1 K R0 G o k r) (hl:l.length≤2200) (aE:N.length<1100000):Calls Tryz.prog 145 #[.agg #[.string ⟨k.toArray⟩,.slice A0 y c0,.slice A1 n1 c1,.slice A2 n2 c2,.bool x],.pointer (some ⟨D,0,none⟩)] w fun e w'=>e= .returned (.pointer (some ⟨D,0,none⟩))∧∃r' L',MOZ w' base D r' L'∧zH w' L' (zau o k (zdv (factor o) k l))∧Fr (fun j=>j=D∨rr=some j) w w':=by
 obtain⟨L0,a0,b0⟩:=hc.lo;obtain⟨L1,a1,b1⟩:=hc.up;have hf:=hc.few;have aU:=zaZ k 0 l;have aX:=zaZ k 1 l;obtain⟨X,hXe⟩:∃X,X=w.alloc (.cells #[.string ⟨k.toArray⟩,.slice A0 y c0,.slice A1 n1 c1,.slice A2 n2 c2,.bool x] 222):=⟨_,rfl⟩
 have pX:Pu w X:=by rw [hXe];exact(Pu.refl w).alloc _
 have k2:Blk X w.heap.size 222 #[.string ⟨k.toArray⟩,.slice A0 y c0,.slice A1 n1 c1,.slice A2 n2 c2,.bool x]:=by rw [hXe];exact Blk.new _ _ _
 have He:=fun V (p:Pu w V)=>zld A0 y c0 L0 (zm k 0 l) k D o K R0 G V (Sl.pu a0 p) (b0.pu p) ⟨N,(W.pu p).mr,hh.pu p⟩ (fun r P=>ok r (List.mem_filter.1 P).1 (by have:=(List.mem_filter.1 P).2;intro e;rw [e]at this;cases this)) (by omega);have ba:=Qh (fun V (p:Pu w V)=>zld A1 n1 c1 L1 (zm k 1 l) k D o K R0 G V (Sl.pu a1 p) (b1.pu p) ⟨N,(W.pu p).mr,hh.pu p⟩ (fun r P=>ok r (List.mem_filter.1 P).1 (by have:=(List.mem_filter.1 P).2;intro e;rw [e]at this;cases this)) (by omega));have aF:=Qh (He X pX);rw [hXe]at aF;obtain⟨y0,y1⟩:=k2.c2_;rw [hXe]at y0 y1;have aW:=Qh hXe;have L:y=0→zdv (factor o) k l=(zeL (factor o) k (zm k 1 l)).getD 0:=fun h=>by have e:zm k 0 l= []:=List.length_eq_zero_iff.1 (by omega);unfold zdv;rw [e];rfl
 have I:0<y→zdv (factor o) k l=(zeL (factor o) k (zm k 0 l)).getD 0:=fun h=>by
  unfold zdv
  cases e:zeL (factor o) k (zm k 0 l)with
  |some z=>rfl
  |none=>
   exfalso;have e2:zm k 0 l≠[]:=fun e2=>by rw [e2]at hf;simp at hf;omega
   obtain⟨r,P⟩:=List.exists_mem_of_ne_nil _ e2;obtain⟨i,hi⟩:=List.getElem?_of_mem P;have bp:=(List.getElem?_eq_some_iff.1 hi).1;obtain⟨q,hq⟩:∃q,(zm k 0 l)[(zm k 0 l).length - 1]?=some q:=⟨_,List.getElem?_eq_getElem (by omega)⟩
   have h3:=zhO (v:=factor o) (k:=k) hq;rw [show(zm k 0 l).length - 1+1=(zm k 0 l).length by omega,List.take_length]at h3;have h4:zeL (factor o) k (zm k 0 l)=List.foldl (zdG (factor o) k) none (zm k 0 l):=rfl;rw [h4,h3]at e
   cases e
 have bh:=Qh L;have bi:=Qh I;clear hXe He L I hf aU aX a0 b0 a1 b1;go_enter Tryz.func145,Tryz.ntmps145;go_wp2_with fail;refine aF.out.mono ?_;rintro e U ⟨gq,Aq,nq,cq,rfl,hq,p1⟩;rw [←aW.out]at p1;obtain⟨V,hVe⟩:∃V,V=U.alloc (.cells #[.bool gq,.slice Aq nq cq] 30):=⟨_,rfl⟩
 have pV:Pu X V:=by rw [hVe];exact p1.alloc _
 have k5:Blk V U.heap.size 30 #[.bool gq,.slice Aq nq cq]:=by rw [hVe];exact Blk.new _ _ _
 have Z:=k2.pu pV;have ao:ZR V (.agg #[.bool gq,.slice Aq nq cq]) ((zeL (factor o) k (zm k 0 l)).getD 0):=by rw [hVe];exact hq.pu ((Pu.refl _).alloc _)
 have S:=pX.trans pV;have b7:=p1.size;have b5:=pX.size;have aG:=Qh hVe;have kX:=k2.lt;clear k2 pX pV p1 hq;rcases Nat.eq_zero_or_pos y with h0|h0
 ·have aT:decide (0<y)=false:=by simp;omega
  have hd:decide (0<(y:Int))=false:=by simp;omega
  have z0:=Z.cell 0;have z2:=Z.cell 2;have aa:=Qh (ba.out V S);rw [hVe]at z0 z2 aa;have C:=bh.out h0;have aH:=Qh C;clear hVe C;go_wp2_with fail;refine aa.out.mono ?_;rintro e T ⟨gs,As,ns,cs,rfl,hs,p2⟩;rw [←aG.out]at p2;have t5:=k5.pu p2;have t2:=Z.pu p2;obtain⟨x0,x1⟩:=t5.c2_;obtain⟨f0,f1⟩:=t5.z2_;obtain⟨kR,eR⟩:=zas t5 (.bool gs) (.slice As ns cs);have Q:=hs.frT eR (zh t5 (by decide));have aK:¬w.heap.size=U.heap.size:=by omega
  have s2:=t2.fr eR aK;have PR:=(S.trans p2).step eR (fun j hj=>by have e':j=U.heap.size:=hj;omega);obtain⟨R,hR⟩:∃R,R=(T.setCell ⟨U.heap.size,0,none⟩ (.bool gs)).setCell ⟨U.heap.size,1,none⟩ (.slice As ns cs):=⟨_,rfl⟩
  rw [←hR]at kR Q s2 PR;have w0:=s2.cell 0;obtain⟨w1,w2⟩:=kR.c2_;rw [←aH.out]at Q;have B:=Qh (zp7 base D rr N k (gs,As,ns,cs) R (W.pu PR) aE);have F:=hh.pu PR;have E:=(W.pu PR).typed;rw [hR]at w0 w1 w2 B;have HR:=Qh hR;clear hR t5 t2 Z k5 hs eR kR s2;go_wp2_with fail;refine B.out.mono ?_;rintro e Y ⟨rfl,r',H,bb,t⟩;rw [←HR.out]at t;have M:=(F.frT t E).put (k:=k) (q:=(gs,As,ns,cs)) (Q.frT t E);have J:=PR.fr' t;have O:=Qh (AI H (AI M J));clear H M J t Q F;go_wp2;go_ret;exact⟨rfl,r',_,O.out.1,O.out.2.1,O.out.2.2⟩
 ·have aT:decide (0<y)=true:=by simp;omega
  have C:=bi.out h0;have aH:=Qh C;rw [←C]at ao;have z0:=Z.cell 0;obtain⟨w1,w2⟩:=k5.c2_;have B:=Qh (zp7 base D rr N k (gq,Aq,nq,cq) V (W.pu S) aE);have F:=hh.pu S;have E:=(W.pu S).typed;rw [hVe]at z0 w1 w2 B;clear hVe C Z k5;go_wp2_with fail;refine B.out.mono ?_;rintro e Y ⟨rfl,r',H,bb,t⟩;rw [←aG.out]at t;have M:=(F.frT t E).put (k:=k) (q:=(gq,Aq,nq,cq)) (ao.frT t E);have J:=S.fr' t;have O:=Qh (AI H (AI M J));clear H M J t ao F;go_wp2;go_ret;exact⟨rfl,r',_,O.out.1,O.out.2.1,O.out.2.2⟩
theorem zek(z:Array Value)(n:Nat):(Builtin.zeroCells z n).size=n*z.size:=by
 unfold Builtin.zeroCells
 induction n with
 |zero=>simp
 |succ n ih=>simp [List.replicate_succ,Nat.succ_mul]
theorem zn3(x:Int)(w:World)(C:0≤x)(H:x≤2000000):Calls Tryz.prog 185 #[.slice none 0 0,.int .i64 x] w fun e w'=>∃A' c',e= .returned (.slice A' 0 c')∧w'.ownsRow w.heap.size 35 4 (.slice A' 0 c') 0 []∧Pu w w':=by
 obtain⟨s,rfl⟩:=Int.eq_ofNat_of_zero_le C;have K:s≤2000000:=by omega
 rcases Nat.eq_zero_or_pos s with h0|h0
 ·subst h0;go_enter Tryz.func185,Tryz.ntmps185;go_wp2;go_ret;exact⟨none,0,rfl,World.ownsRow_nil _ _ _ _,Pu.refl _⟩
 ·obtain⟨i,z,B,y,p⟩:=info_parts zcX.info;have j:=Lib.run_append_nil_zeros (P:=Tryz.prog) w 24 3 24 35 i _ .i64 .i64 Tryz.underlying24 Tryz.underlying3 z B s h0 (by omega) (by omega) (by rw [p];omega);have L:decide ((s:Int)<0)=false:=decide_eq_false (by omega);have J:decide ((s:Int)>0)=true:=decide_eq_true (by omega);have I:decide (0<(s:Int))=true:=decide_eq_true (by omega);have v:=grownCap_ge w s 0 35;have k:=grownCap_le_maxLen w s 0 35 (by simp [maxLen];omega);have o:(w.drew.alloc (.cells (Builtin.zeroCells (Value.agg #[.bool false,.slice none 0 0,.pointer none,.bool false]).cells s++Builtin.zeroCells (Value.agg #[.bool false,.slice none 0 0,.pointer none,.bool false]).cells (grownCap w s 0 35 - s)) 35)).ownsRow w.heap.size 35 4 (.slice (some ⟨w.heap.size,0,none⟩) 0 (grownCap w s 0 35)) 0 []:=by
   refine⟨rfl,.inr ⟨w.heap.size,_,_,rfl,Nat.le_refl _,Blk.new _ _ _,Nat.zero_le _,k,?_,by simp⟩⟩;rw [Array.size_append,zek,zek];have F:(Value.agg #[.bool false,.slice none 0 0,.pointer none,.bool false]).cells.size=4:=rfl;rw [F];omega
  have Fin:=Qh o;have D:0≤grownCap w s 0 35:=Nat.zero_le _;generalize hG:grownCap w s 0 35=G at j Fin v k;have t:=Qh j;have E:G≤9223372036854775807:=k;clear j o hG z B y p;go_enter Tryz.func185,Tryz.ntmps185;go_wp2_with (at_builtin;refine Lib.wpList_append_run _ rfl _ _ _ _ rfl _ _ rfl rfl _ _ t.out ?_);go_wp2;go_ret;exact⟨_,_,rfl,Fin.out,(Pu.refl w).drew.alloc _⟩
theorem zg1(A B:Option Addr)(n c m d:Nat)(L M:List RawR)(q:Nat)(w:World)(h:SlR w A n c L)(U:SlR w B m d M)(Z:n≤1000000)(hm:m≤1000000)(E:Blk w q 24 #[.slice A n c,.slice B m d]):Calls Tryz.prog 170 #[.slice (some ⟨q,0,none⟩) 2 2] w fun e w'=>∃j k,e= .returned (.slice j (n+m) k)∧SlR w' j (n+m) k (L++M)∧Pu w w':=by
 have V:w.cell? ⟨q,0,none⟩=some (.slice A n c):=E.cell 0;have q1:w.cell? ⟨q,1,none⟩=some (.slice B m d):=E.cell 1;have C:∀Q:List RawR,∀u∈cat RawR.cells Q,u.oneCell'=true:=fun Q u hu=>by obtain⟨p,_,T⟩:=List.mem_flatMap.1 hu;exact p.cells_one u T
 have y:=Qh C;clear C;go_enter Tryz.func170,Tryz.ntmps170;go_wp2_with fail
 go_loop [3,11] (fun v i=>(i= .int .i64 0∧v= .int .i64 0)∨(i= .int .i64 1∧v= .int .i64 n)∨(i= .int .i64 2∧v= .int .i64 ((n:Int)+m))) (fun _ i=>2 - (intOf i).toNat)
 case atStart=>exact .inl ⟨rfl,rfl⟩
 case round=>
  rcases hrel with⟨rfl,rfl⟩|⟨rfl,rfl⟩|⟨rfl,rfl⟩
  ·go_wp2_with fail
   go_round
   case rel=>exact .inr (.inl ⟨rfl,rfl⟩)
   case measure=>simp [intOf]
  ·go_wp2_with fail
   go_round
   case rel=>exact .inr (.inr ⟨rfl,rfl⟩)
   case measure=>simp [intOf]
  ·go_wp2_with fail;refine(zn3 ((n:Int)+m) _ (by omega) (by omega)).mono ?_;rintro e P ⟨Y,W,rfl,S,R⟩;have O:=E.pu R;have G:P.cell? ⟨q,0,none⟩=some (.slice A n c):=O.cell 0;have H:P.cell? ⟨q,1,none⟩=some (.slice B m d):=O.cell 1;go_wp2_with fail;clear V q1 G H O
   go_loopw [6,27] (fun v i wr=>∃(j:Option Addr) (k:Nat),((i= .int .i64 0∧v= .slice j 0 k∧wr.ownsRow w.heap.size 35 4 (.slice j 0 k) 0 [])∨(i= .int .i64 1∧v= .slice j n k∧wr.ownsRow w.heap.size 35 4 (.slice j n k) n (cat RawR.cells L))∨(i= .int .i64 2∧v= .slice j (n+m) k∧wr.ownsRow w.heap.size 35 4 (.slice j (n+m) k) (n+m) (cat RawR.cells (L++M))))∧Pu w wr) (fun _ i _=>2 - (intOf i).toNat)
   case atStart=>exact⟨Y,W,.inl ⟨rfl,rfl,S⟩,R⟩
   case round=>
    obtain⟨j,k,I,t⟩:=hrel;have F:=E.pu t;have G:wr.cell? ⟨q,0,none⟩=some (.slice A n c):=F.cell 0;have H:wr.cell? ⟨q,1,none⟩=some (.slice B m d):=F.cell 1;have J:=t.size;rcases I with⟨rfl,rfl,o⟩|⟨rfl,rfl,o⟩|⟨rfl,rfl,o⟩
    ·go_wp2_with (at_builtin;refine zaY zcX rfl _ _ rfl rfl rfl o (h.pu t) (y.out _) (by simp [maxLen];omega) (by omega) J ?_);intro K N X x z;have D:=zam t o (Nat.le_refl _) z;clear G H F;go_wp2;go_roundw
     case rel=>exact⟨K,N,.inr (.inl ⟨rfl,by simp,by simpa using x⟩),D⟩
     case measure=>simp [intOf]
    ·go_wp2_with (at_builtin;refine zaY zcX rfl _ _ rfl rfl rfl o (U.pu t) (y.out _) (by simp [maxLen];omega) (by omega) J ?_);intro K N X x z;have D:=zam t o (Nat.le_refl _) z;clear G H F;go_wp2;go_roundw
     case rel=>exact⟨K,N,.inr (.inr ⟨rfl,rfl,by rw [zaX];exact x⟩),D⟩
     case measure=>simp [intOf]
    ·go_wp2;go_ret;exact⟨j,k,rfl,Sl.of_own o,t⟩
end
section
open Go.RowKit
theorem zqe{w:World}{b:Nat}{t:TypeId}{i:Array Value}(k:Blk w b t i)(j:Ty t):∀g,g=b→∃t i fz,w.heap[g]?=some (.cells i t fz)∧Ty t:=fun g hg=>by subst hg;exact⟨_,_,_,k,j⟩
structure zha(K Rb:Nat)(r:RowM):Prop where
 rise:zx r.fs
 nz:NZ r.fs
 up:zad K r.fs
 few:r.fs.length≤60
 rest:r.rest.natAbs≤Rb
structure zq7(K Rb:Nat):Prop where
 k1:0<K
 kk:4000000*(K*K)<4294967296^E3
 rb:4*(Rb*K)<4294967296^E3
theorem zq6{n:Int}{M:Nat}{gs fs:List (Key×Int)}{K:Nat}(h:zad K fs)(i:∀g∈gs,(g.2*n).natAbs≤M)(j:gs.length≤60):zad (K+60*M) (zG fs gs n):=(zg7 gs fs K h i).le (Nat.add_le_add_left (Nat.mul_le_mul_right _ j) _)
theorem zmw{K o:Nat}{k:Key}{a b:RowM}(j:zha K o a)(i:zha K o b)(t:factor a.fs k≠0)(p:factor b.fs k≠0)(dark:Bool):za2 k dark a b=⟨a.rest*factor b.fs k+b.rest*((factor a.fs k).natAbs:Int)*1+(if dark=true then(((factor a.fs k).natAbs:Int) - 1)*(factor b.fs k - 1)else 0),zG (zG [] a.fs (factor b.fs k)) (zG [] b.fs ((factor a.fs k).natAbs:Int)) 1,false⟩:=by rw [zbv j.rise j.nz p,zbv i.rise i.nz (by omega)];rfl
structure zr2(K:Nat)(a b:RowM)(x y:Int):Prop where
 x1:x.natAbs≤K
 y1:y.natAbs≤K
 x3:x.natAbs<4294967296^E3
 y3:y.natAbs<4294967296^E3
 ay:∀g∈a.fs,(g.2*y).natAbs≤K*K
 bx:∀g∈b.fs,(g.2*x).natAbs≤K*K
 a3:∀g∈a.fs,g.2.natAbs<4294967296^E3
 b3:∀g∈b.fs,g.2.natAbs<4294967296^E3
 ar:a.rest.natAbs<4294967296^E3
 br:b.rest.natAbs<4294967296^E3
 ary:(a.rest*y).natAbs<4294967296^E3
 brx:(b.rest*x).natAbs<4294967296^E3
 sum:(a.rest*y+b.rest*x*1).natAbs<4294967296^E3
 xy:((x - 1)*(y - 1)).natAbs<4294967296^E3
 m1:1100000*(K*K)<4294967296^E3
 ua:zad (K*K) (zG [] a.fs y)
 ub:zad (K*K) (zG [] b.fs x)
 la:(zG [] a.fs y).length≤60
 lb:(zG [] b.fs x).length≤60
 m2:K*K+1100000*(K*K)<4294967296^E3
 u2:zad (K*K+60*(K*K)) (zG (zG [] a.fs y) (zG [] b.fs x) 1)
 l2:(zG (zG [] a.fs y) (zG [] b.fs x) 1).length≤120
 m3:K*K+60*(K*K)+1100000*0<4294967296^E3
 sx:(x - 1).natAbs<4294967296^E3
 sy:(y - 1).natAbs<4294967296^E3
theorem zhm{K M:Nat}{fs:List (Key×Int)}{n:Int}(k:zx fs)(t:NZ fs)(o:n≠0)(h:∀g∈fs,(g.2*n).natAbs≤M):zad M (zG [] fs n)∧(zG [] fs n).length=fs.length:=by rw [zbv k t o];refine⟨fun p j=>?_,by simp [za9]⟩;obtain⟨q,i,rfl⟩:=List.mem_map.1 j;exact h q i
theorem zkD{K j:Nat}{a b:RowM}{x y:Int}(o:zq7 K j)(p:zha K j a)(t:zha K j b)(z:x.natAbs≤K)(B:y.natAbs≤K)(T:x≠0)(U:y≠0):zr2 K a b x y:=by
 have e1:K≤K*K:=Nat.le_mul_of_pos_left K o.k1;have v:K<4294967296^E3:=Nat.lt_of_le_of_lt (by omega) o.kk;have Y:j≤j*K:=Nat.le_mul_of_pos_right j o.k1;have E:j<4294967296^E3:=Nat.lt_of_le_of_lt (by omega) o.rb;have O:(a.rest*y).natAbs≤j*K:=by rw [Int.natAbs_mul];exact Nat.mul_le_mul p.rest B
 have Q:(b.rest*x).natAbs≤j*K:=by rw [Int.natAbs_mul];exact Nat.mul_le_mul t.rest z
 have D:∀g∈a.fs,(g.2*y).natAbs≤K*K:=fun g hg=>by rw [Int.natAbs_mul];exact Nat.mul_le_mul (p.up g hg) B
 have G:∀g∈b.fs,(g.2*x).natAbs≤K*K:=fun g hg=>by rw [Int.natAbs_mul];exact Nat.mul_le_mul (t.up g hg) z
 have C:=zhm (K:=K) p.rise p.nz U D;have F:=zhm (K:=K) t.rise t.nz T G;have aa:=p.few;have V:=t.few;have J:(x - 1).natAbs≤K+1:=by omega
 have P:(y - 1).natAbs≤K+1:=by omega
 have W:((x - 1)*(y - 1)).natAbs≤(K+1)*(K+1):=by rw [Int.natAbs_mul];exact Nat.mul_le_mul J P
 have e2:(K+1)*(K+1)=K*K+2*K+1:=by rw [Nat.add_mul,Nat.mul_add];omega
 have Z:=zcA (n:=1) (zG [] b.fs x) (zG [] a.fs y);have i:∀n m:Nat,n≤m→m<4294967296^E3→n<4294967296^E3:=fun n m O Q=>Nat.lt_of_le_of_lt O Q;have k:=o.kk;have w:=o.rb;have X:=o.k1;have L:∀g∈a.fs,g.2.natAbs<4294967296^E3:=fun g hg=>i _ _ (p.up g hg) v;have I:∀g∈b.fs,g.2.natAbs<4294967296^E3:=fun g hg=>i _ _ (t.up g hg) v;have R:=zq6 (n:=1) (M:=K*K) C.1 (fun g hg=>by rw [Int.mul_one];exact F.1 g hg) (by omega);have S:(a.rest*y+b.rest*x*1).natAbs≤j*K+j*K:=by rw [Int.mul_one];omega
 have N:=p.rest;have H:=t.rest;clear o p t;exact⟨z,B,i _ _ z v,i _ _ B v,D,G,L,I,i _ _ N E,i _ _ H E,i _ (4*(j*K)) (by omega) w,i _ (4*(j*K)) (by omega) w,i _ (4*(j*K)) (by omega) w,i _ (4000000*(K*K)) (by omega) k,i _ (4000000*(K*K)) (by omega) k,C.1,F.1,by omega,by omega,i _ (4000000*(K*K)) (by omega) k,R,by omega,i _ (4000000*(K*K)) (by omega) k,i _ (4000000*(K*K)) (by omega) k,i _ (4000000*(K*K)) (by omega) k⟩
theorem zkg{k:Key}{dark:Bool}{lo up:List RowM}{i:Nat}{a:RowM}(h:lo[i]?=some a):za1 k dark (lo.take (i+1)) up=za1 k dark (lo.take i) up++up.map (za2 k dark a):=by unfold za1;rw [List.take_add_one,h,List.flatMap_append];simp
theorem zo3{β γ:Type}{f:β→γ}{l:List β}{j:Nat}{b:β}(h:l[j]?=some b):(l.take (j+1)).map f=(l.take j).map f++[f b]:=by rw [List.take_add_one,h];simp
theorem zol(A0:Option Addr)(n0 c0:Nat)(L0:List RawR)(lo:List RowM)(A1:Option Addr)(n1 c1:Nat)(L1:List RawR)(up:List RowM)(k:Key)(dark:Bool)(K Rb:Nat)(w:World)(h0:SlR w A0 n0 c0 L0)(d7:zF w L0 lo)(h1:SlR w A1 n1 c1 L1)(dA:zF w L1 up) (hB:zq7 K Rb) (dF:∀r∈lo,zha K Rb r∧factor r.fs k≠0) (d8:∀r∈up,zha K Rb r∧factor r.fs k≠0) (hn:n0*n1≤2200) (gd:n0≤2200) (fU:n1≤2200):Calls Tryz.prog 171 #[.slice A0 n0 c0,.slice A1 n1 c1,.string ⟨k.toArray⟩,.bool dark] w fun e w'=>∃A' n' c' L',e= .returned (.slice A' n' c')∧SlR w' A' n' c' L'∧zF w' L' (za1 k dark lo up)∧n'≤2200∧Pu w w':=by
 have HL:=Qh (show(L0.length=n0∧L0.length=lo.length)∧(L1.length=n1∧L1.length=up.length)from⟨⟨h0.len,d7.1⟩,⟨h1.len,dA.1⟩⟩);have OK:=Qh (AI dF (AI d8 hB));have HN:=Qh hn;clear dF d8 hB hn;go_enter Tryz.func171,Tryz.ntmps171;go_wp2_with fail
 go_loopw [9,20] (fun ov iv wr=>∃(i no:Nat) (Ao:Option Addr) (co:Nat) (Lo:List RawR),i≤n0∧iv= .int .i64 (i:Int)∧ov= .slice Ao no co∧wr.ownsRow w.heap.size 35 4 (.slice Ao no co) no (cat RawR.cells Lo)∧zal wr w.heap.size Lo (za1 k dark (lo.take i) up)∧Hid (no=i*n1)∧Pu w wr) (fun _ iv _=>n0 - (intOf iv).toNat)
 case atStart=>exact⟨0,0,none,0,[],Nat.zero_le _,rfl,rfl,World.ownsRow_nil _ _ _ _,by simpa [za1]using zal.nil w w.heap.size,Qh (by simp),Pu.refl _⟩
 case round=>
  obtain⟨i,no,Ao,co,Lo,hi,rfl,rfl,ho,hH,d4,hP⟩:=hrel;by_cases ff:i<n0
  ·obtain⟨q,hq⟩:∃q,L0[i]?=some q:=⟨_,List.getElem?_eq_getElem (by rw [HL.out.1.1];exact ff)⟩
   obtain⟨a,ha,dQ⟩:=d7.at_ hq;obtain⟨b,off,rfl,fg,N,O,x2,x3⟩:=SlR.at_ (Sl.pu h0 hP) hq;obtain⟨W1,hW1⟩:∃W1,W1=wr.alloc (.cells #[.bool q.g,.slice q.A q.n q.c,.pointer q.m,.bool q.eq] 35):=⟨_,rfl⟩
   have bN:Pu wr W1:=by rw [hW1];exact(Pu.refl wr).alloc _
   have a7:Blk W1 wr.heap.size 35 #[.bool q.g,.slice q.A q.n q.c,.pointer q.m,.bool q.eq]:=by rw [hW1];exact Blk.new _ _ _
   have dz:=dQ.2;have dk:=Qh (fun g hg=>(ho.lt g hg).2);have aj:=Qh (OK.out.1 a (List.mem_of_getElem? ha));have eQ:=Qh (zkg (k:=k) (dark:=dark) (up:=up) ha);have eF:=hP.trans bN;have fu:=zaw ho bN;have eW:=hH.pu bN;have dO:=Qh hW1;have gh:IntKind.i64.wrap ((i:Int)+1)=(i:Int)+1:=IntWalk.i64_in _ (by omega);have gb:=hP.size;have fz:=bN.size;obtain⟨I,hb11⟩:∃I,I=wr.heap.size:=⟨_,rfl⟩
   rw [←hb11]at a7;have cS:=Qh hb11;clear hb11;obtain⟨ag,aA,an,ac,am,ae⟩:=q;dsimp only at N O x2 x3 dO a7;dsimp only [RawR.term]at dz;clear hW1 hq ha dQ fg ho hH bN hP;go_wp2_with fail;rw [←dO.out,←cS.out]
   go_loopw [9,26] (fun ov jv ws=>∃(j no:Nat) (Ao:Option Addr) (co:Nat) (Lo:List RawR),j≤n1∧jv= .int .i64 (j:Int)∧ov= .slice Ao no co∧ws.ownsRow w.heap.size 35 4 (.slice Ao no co) no (cat RawR.cells Lo)∧zal ws w.heap.size Lo (za1 k dark (lo.take i) up++(up.take j).map (za2 k dark a))∧Hid (no=i*n1+j)∧Pu w ws∧Blk ws I 35 #[.bool ag,.slice aA an ac,.pointer am,.bool ae]∧Hid (∀g,(Value.slice Ao no co).ownBlock=some g→g≠I)) (fun _ jv _=>n1 - (intOf jv).toNat)
   case atStart=>exact⟨0,no,Ao,co,Lo,Nat.zero_le _,rfl,rfl,fu,by simpa using eW,Qh (by rw [d4.out];omega),eF,a7,Qh (fun g hg=>by have:=dk.out g hg;have:=cS.out;omega)⟩
   case round=>
    obtain⟨j,a6,eT,eI,cQ,hj,rfl,rfl,cf,bw,a4,av,a7,aM⟩:=hrel;by_cases eG:j<n1
    ·obtain⟨q,hq⟩:∃q,L1[j]?=some q:=⟨_,List.getElem?_eq_getElem (by rw [HL.out.2.1];exact eG)⟩
     obtain⟨C,hb,d0⟩:=dA.at_ hq;obtain⟨b',fO,rfl,eg,N,O,x2,x3⟩:=SlR.at_ (Sl.pu h1 av) hq;obtain⟨P,hVe⟩:∃P,P=wr.alloc (.cells #[.bool q.g,.slice q.A q.n q.c,.pointer q.m,.bool q.eq] 35):=⟨_,rfl⟩
     have pV:Pu wr P:=by rw [hVe];exact(Pu.refl wr).alloc _
     have aG:Blk P wr.heap.size 35 #[.bool q.g,.slice q.A q.n q.c,.pointer q.m,.bool q.eq]:=by rw [hVe];exact Blk.new _ _ _
     have cC:=a7.pu pV;have tA:=dz.pu (av.trans pV);have tB:=d0.2.pu (av.trans pV);have ap:=Qh (OK.out.2.1 C (List.mem_of_getElem? hb));have E:=Qh (zkD (x:=((factor a.fs k).natAbs:Int)) (y:=factor C.fs k) OK.out.2.2 aj.out.1 ap.out.1 (by rw [Int.natAbs_natCast];exact aj.out.1.up.factor k) (ap.out.1.up.factor k) (by have:=aj.out.2;omega) ap.out.2);have d5:=Qh (zmw (dark:=dark) aj.out.1 ap.out.1 aj.out.2 ap.out.2);have dR:=Qh (zo3 (f:=za2 k dark a) hb);have fa:=Qh (AI (show(factor a.fs k).natAbs<4294967296^E4 by have:=E.out.x3;rw [Int.natAbs_natCast]at this;exact up4 this) trivial);have ga:IntKind.i64.wrap ((j:Int)+1)=(j:Int)+1:=IntWalk.i64_in _ (by omega);have gf:=av.size;have fW:=pV.size;have fq:=av.trans pV;have d2:=Qh hVe;have fE:=aG.lt;obtain⟨aE,hb13⟩:∃aE,aE=wr.heap.size:=⟨_,rfl⟩
     rw [←hb13]at aG;have eb:=Qh hb13;clear hb13;obtain⟨bg,bA,bn,bc,bm,be⟩:=q;dsimp only at N O x2 x3 d2 aG;dsimp only [RawR.term]at tB;clear hVe hq hb d0 eg;go_wp2_with fail;rw [←d2.out,←eb.out];have pd:Pu P P.drew:=(Pu.refl P).drew;have R:∀j x u u',(fun io=>match io with|0=>fun v _=>v= .pointer (some ⟨I,0,none⟩)|1=>fun v _=>v= .agg #[.bool ag,.slice aA an ac,.pointer am]|2=>fun v _=>v= .string ⟨k.toArray⟩|3=>fZ (factor a.fs k)|4=>fZ ((((factor a.fs k).natAbs:Int)))|5=>fun v _=>v= .pointer (some ⟨aE,0,none⟩)|6=>fun v _=>v= .agg #[.bool bg,.slice bA bn bc,.pointer bm]|7=>fun v _=>v= .string ⟨k.toArray⟩|8=>fZ (factor C.fs k)|9=>fun v w=>∃b,v= .pointer (some ⟨b,0,none⟩)∧P.heap.size≤b∧Blk w b 30 #[.bool false,.slice none 0 0]|10=>fun v w=>∃b,v= .pointer (some ⟨b,0,none⟩)∧P.heap.size≤b∧Blk w b 30 #[.bool false,.slice none 0 0]|_=>fun _ _=>True:Nat→Value→World→Prop) j x u→Pu u u'→(fun io=>match io with|0=>fun v _=>v= .pointer (some ⟨I,0,none⟩)|1=>fun v _=>v= .agg #[.bool ag,.slice aA an ac,.pointer am]|2=>fun v _=>v= .string ⟨k.toArray⟩|3=>fZ (factor a.fs k)|4=>fZ ((((factor a.fs k).natAbs:Int)))|5=>fun v _=>v= .pointer (some ⟨aE,0,none⟩)|6=>fun v _=>v= .agg #[.bool bg,.slice bA bn bc,.pointer bm]|7=>fun v _=>v= .string ⟨k.toArray⟩|8=>fZ (factor C.fs k)|9=>fun v w=>∃b,v= .pointer (some ⟨b,0,none⟩)∧P.heap.size≤b∧Blk w b 30 #[.bool false,.slice none 0 0]|10=>fun v w=>∃b,v= .pointer (some ⟨b,0,none⟩)∧P.heap.size≤b∧Blk w b 30 #[.bool false,.slice none 0 0]|_=>fun _ _=>True:Nat→Value→World→Prop) j x u':=by
      intro j x u u' h hP
      match j,h with
      |0,h=>exact h
      |1,h=>exact h
      |2,h=>exact h
      |3,h=>exact fZ.pu h hP
      |4,h=>exact fZ.pu h hP
      |5,h=>exact h
      |6,h=>exact h
      |7,h=>exact h
      |8,h=>exact fZ.pu h hP
      |9,h=>replace h:∃b,x= .pointer (some ⟨b,0,none⟩)∧P.heap.size≤b∧Blk u b 30 #[.bool false,.slice none 0 0]:=h;obtain⟨b,e,h,h'⟩:=h;exact⟨b,e,h,h'.pu hP⟩
      |10,h=>replace h:∃b,x= .pointer (some ⟨b,0,none⟩)∧P.heap.size≤b∧Blk u b 30 #[.bool false,.slice none 0 0]:=h;obtain⟨b,e,h,h'⟩:=h;exact⟨b,e,h,h'.pu hP⟩
      |_+11,_=>exact trivial
     refine zhg 11 (AJ P (fun io=>match io with|0=>fun v _=>v= .pointer (some ⟨I,0,none⟩)|1=>fun v _=>v= .agg #[.bool ag,.slice aA an ac,.pointer am]|2=>fun v _=>v= .string ⟨k.toArray⟩|3=>fZ (factor a.fs k)|4=>fZ ((((factor a.fs k).natAbs:Int)))|5=>fun v _=>v= .pointer (some ⟨aE,0,none⟩)|6=>fun v _=>v= .agg #[.bool bg,.slice bA bn bc,.pointer bm]|7=>fun v _=>v= .string ⟨k.toArray⟩|8=>fZ (factor C.fs k)|9=>fun v w=>∃b,v= .pointer (some ⟨b,0,none⟩)∧P.heap.size≤b∧Blk w b 30 #[.bool false,.slice none 0 0]|10=>fun v w=>∃b,v= .pointer (some ⟨b,0,none⟩)∧P.heap.size≤b∧Blk w b 30 #[.bool false,.slice none 0 0]|_=>fun _ _=>True) 9 10) [some 30,some 31,some 32,some 33,some 34,some 35,some 36,some 37,some 38,some 14,some 15] (by kernel_rfl) (by kernel_rfl) rfl (fun _=>AJ.start pd) ?_ ?_
     ·refine ze.cons [] rfl (by kernel_rfl) (fun y Lb V B p D K o=>?_) ?_
      ·simp only [PU,Nat.reduceEqDiff,Nat.reduceAdd,reduceIte]at o⊢;have t:=D.pu;go_simp;exact o.out _ _ (D.keep R (by decide) 0 B (Pu.refl _) (rfl) (fun e=>absurd e (by decide)))
      refine ze.cons [0] rfl (by kernel_rfl) (fun y Lb V B p D K o=>?_) ?_
      ·simp only [PU,Nat.reduceEqDiff,Nat.reduceAdd,reduceIte]at o⊢;have t:=D.pu;have v0:y 0=_:=D.f 0 (p 0 (by simp));simp only [v0]at o⊢;obtain⟨N,O,x2,x3⟩:=((cC).pu t).c4_;go_simp;exact o.out _ _ (D.keep R (by decide) 1 B (Pu.refl _) (rfl) (fun e=>absurd e (by decide)))
      refine ze.cons [] rfl (by kernel_rfl) (fun y Lb V B p D K o=>?_) ?_
      ·simp only [PU,Nat.reduceEqDiff,Nat.reduceAdd,reduceIte]at o⊢;have t:=D.pu;go_simp;exact o.out _ _ (D.keep R (by decide) 2 B (Pu.refl _) (rfl) (fun e=>absurd e (by decide)))
      refine ze.cons [1,2] rfl (by kernel_rfl) (fun y Lb V B p D K o=>?_) ?_
      ·simp only [PU,Nat.reduceEqDiff,Nat.reduceAdd,reduceIte]at o⊢;have t:=D.pu;have v1:y 1=_:=D.f 1 (p 1 (by simp));have v2:y 2=_:=D.f 2 (p 2 (by simp));simp only [v1,v2]at o⊢;go_simp;go_at_call 14;refine(zY _ a.rest k a.fs V (tA.pu t)).mono ?_;rintro e u1 ⟨v,rfl,H,L⟩;obtain⟨g,A,n,c,rfl⟩:=H.shape2;go_wp2_with fail;exact o.out _ _ (D.keep R (by decide) 3 B L (⟨g,A,n,c,rfl,H⟩) (fun e=>absurd e (by decide)))
      refine ze.cons [3] rfl (by kernel_rfl) (fun y Lb V B p D K o=>?_) ?_
      ·simp only [PU,Nat.reduceEqDiff,Nat.reduceAdd,reduceIte]at o⊢;have t:=D.pu;obtain⟨g3,A3,n3,c3,v3,cO⟩:=D.f 3 (p 3 (by simp));simp only [v3]at o⊢;go_simp;go_at_call 141;refine(zdn _ (factor a.fs k) V cO fa.out.1).mono ?_;rintro e u1 ⟨v,rfl,H,L⟩;obtain⟨g,A,n,c,rfl⟩:=H.shape2;go_wp2_with fail;exact o.out _ _ (D.keep R (by decide) 4 B L (⟨g,A,n,c,rfl,H⟩) (fun e=>absurd e (by decide)))
      refine ze.cons [] rfl (by kernel_rfl) (fun y Lb V B p D K o=>?_) ?_
      ·simp only [PU,Nat.reduceEqDiff,Nat.reduceAdd,reduceIte]at o⊢;have t:=D.pu;go_simp;exact o.out _ _ (D.keep R (by decide) 5 B (Pu.refl _) (rfl) (fun e=>absurd e (by decide)))
      refine ze.cons [5] rfl (by kernel_rfl) (fun y Lb V B p D K o=>?_) ?_
      ·simp only [PU,Nat.reduceEqDiff,Nat.reduceAdd,reduceIte]at o⊢;have t:=D.pu;have v5:y 5=_:=D.f 5 (p 5 (by simp));simp only [v5]at o⊢;obtain⟨N,O,x2,x3⟩:=((aG).pu t).c4_;go_simp;exact o.out _ _ (D.keep R (by decide) 6 B (Pu.refl _) (rfl) (fun e=>absurd e (by decide)))
      refine ze.cons [] rfl (by kernel_rfl) (fun y Lb V B p D K o=>?_) ?_
      ·simp only [PU,Nat.reduceEqDiff,Nat.reduceAdd,reduceIte]at o⊢;have t:=D.pu;go_simp;exact o.out _ _ (D.keep R (by decide) 7 B (Pu.refl _) (rfl) (fun e=>absurd e (by decide)))
      refine ze.cons [6,7] rfl (by kernel_rfl) (fun y Lb V B p D K o=>?_) ?_
      ·simp only [PU,Nat.reduceEqDiff,Nat.reduceAdd,reduceIte]at o⊢;have t:=D.pu;have v6:y 6=_:=D.f 6 (p 6 (by simp));have v7:y 7=_:=D.f 7 (p 7 (by simp));simp only [v6,v7]at o⊢;go_simp;go_at_call 14;refine(zY _ C.rest k C.fs V (tB.pu t)).mono ?_;rintro e u1 ⟨v,rfl,H,L⟩;obtain⟨g,A,n,c,rfl⟩:=H.shape2;go_wp2_with fail;exact o.out _ _ (D.keep R (by decide) 8 B L (⟨g,A,n,c,rfl,H⟩) (fun e=>absurd e (by decide)))
      refine ze.cons [] rfl (by kernel_rfl) (fun y Lb V B p D K o=>?_) ?_
      ·simp only [PU,Nat.reduceEqDiff,Nat.reduceAdd,reduceIte]at o⊢;have t:=D.pu;go_simp;exact o.out _ _ (D.keep R (by decide) 9 B ((Pu.refl _).alloc _) (⟨_,rfl,t.size,Blk.new _ _ _⟩) (fun _=>⟨rfl,by simp⟩))
      refine ze.cons [] rfl (by kernel_rfl) (fun y Lb V B p D K o=>?_) ?_
      ·simp only [PU,Nat.reduceEqDiff,Nat.reduceAdd,reduceIte]at o⊢;have t:=D.pu;go_simp;exact o.out _ _ (D.keep R (by decide) 10 B ((Pu.refl _).alloc _) (⟨_,rfl,t.size,Blk.new _ _ _⟩) (fun _=>⟨rfl,by simp⟩))
      exact ze.nil
     ·intro y U Lb X D;have f0:=D.f 0 (X 0 (by decide));have f1:=D.f 1 (X 1 (by decide));have f2:=D.f 2 (X 2 (by decide));have f3:=D.f 3 (X 3 (by decide));have f4:=D.f 4 (X 4 (by decide));have f5:=D.f 5 (X 5 (by decide));have f6:=D.f 6 (X 6 (by decide));have f7:=D.f 7 (X 7 (by decide));have f8:=D.f 8 (X 8 (by decide));have f9:=D.f 9 (X 9 (by decide));have aD:=D.f 10 (X 10 (by decide));have G:=D.ne (X 9 (by decide)) (X 10 (by decide));have t:=D.pu;clear D R
      try dsimp only at f0 f1 f2 f3 f4 f5 f6 f7 f8 f9 aD
      simp only [PU,Nat.reduceEqDiff,Nat.reduceAdd,reduceIte];generalize y 0=z0 at f0 G⊢;generalize y 1=z1 at f1 G⊢;generalize y 2=z2 at f2 G⊢;generalize y 3=z3 at f3 G⊢;generalize y 4=z4 at f4 G⊢;generalize y 5=z5 at f5 G⊢;generalize y 6=z6 at f6 G⊢;generalize y 7=z7 at f7 G⊢;generalize y 8=z8 at f8 G⊢;generalize y 9=z9 at f9 G⊢;generalize y 10=eM at aD G⊢;subst f0;subst f1;subst f2;subst f5;subst f6;subst f7;clear f3;obtain⟨gx,Ax,nx,cx,rfl,dK⟩:=f4;obtain⟨gy,Ay,ny,cy,rfl,d1⟩:=f8;obtain⟨bx,rfl,fS,kx⟩:=f9;obtain⟨bz,rfl,gc,ky⟩:=aD;have cB:¬bz=bx:=fun e=>G (by rw [e]);obtain⟨N,O⟩:=kx.c2_;obtain⟨ci,ce⟩:=kx.z2_;obtain⟨dJ,ex⟩:=zas kx (.bool gx) (.slice Ax nx cx);have aF:=ky.fr ex cB;obtain⟨y0,y1⟩:=aF.c2_;obtain⟨eU,fk⟩:=aF.z2_;obtain⟨bC,ey⟩:=zas aF (.bool gy) (.slice Ay ny cy);have bD:=dJ.fr ey (fun e=>cB e.symm);have bi:=(dK.frT ex (zh kx (by decide))).frT ey (zh aF (by decide));have aV:=(d1.frT ex (zh kx (by decide))).frT ey (zh aF (by decide));have au:Pu P _:=(t.step ex (fun j hj=>by
        have e':j=bx:=hj;omega)).step ey (fun j hj=>by
        have e':j=bz:=hj;omega)
      obtain⟨U2,hU2⟩:∃U2,U2=(((U.setCell ⟨bx,0,none⟩ (.bool gx)).setCell ⟨bx,1,none⟩ (.slice Ax nx cx)).setCell ⟨bz,0,none⟩ (.bool gy)).setCell ⟨bz,1,none⟩ (.slice Ay ny cy):=⟨_,rfl⟩
      rw [←hU2]at bD bC bi aV au;have eS:=Qh hU2;clear hU2 ex ey dJ kx ky dK d1 G t;go_wp2_with fail;rw [←eS.out];clear N O ci ce y0 y1 eU fk aF;have eH:Pu U2 U2.drew:=(Pu.refl U2).drew;have fX:=au.size;obtain⟨J,hwb,hwb2⟩:∃J,J=w.heap.size∧J≤U2.heap.size:=⟨_,rfl,by have:=fq.size;omega⟩
      have dL:=cC.pu au;have dM:=aG.pu au;have dN:=tA.pu au;have dG:=tB.pu au;clear cC aG tA tB;refine zav 11 (fun _ w=>Pu U2 w) (fun _=>Pu) (fun io=>match io with|0=>fun vv_ _=>vv_= .pointer (some ⟨I,0,none⟩)|1=>fun vv_ _=>vv_= .agg #[.bool ag,.slice aA an ac,.pointer am]|2=>fun vv_ _=>vv_= .agg #[.bool gy,.slice Ay ny cy]|3=>fT (a.rest*(factor C.fs k)) (zG [] a.fs (factor C.fs k))|4=>fun vv_ _=>vv_= .pointer (some ⟨aE,0,none⟩)|5=>fun vv_ _=>vv_= .agg #[.bool bg,.slice bA bn bc,.pointer bm]|6=>fun vv_ _=>vv_= .agg #[.bool gx,.slice Ax nx cx]|7=>fT (C.rest*(((factor a.fs k).natAbs:Int))) (zG [] C.fs (((factor a.fs k).natAbs:Int)))|8=>fST (C.rest*(((factor a.fs k).natAbs:Int))) (zG [] C.fs (((factor a.fs k).natAbs:Int)))|9=>fun v w=>∃g A n c m,v= .agg #[.bool g,.slice A n c,.pointer m]∧TMO w J (.agg #[.bool g,.slice A n c,.pointer m]) (a.rest*(factor C.fs k)+C.rest*(((factor a.fs k).natAbs:Int))*1) (zG (zG [] a.fs (factor C.fs k)) (zG [] C.fs (((factor a.fs k).natAbs:Int))) 1)|10=>fun v w=>∃b,v= .pointer (some ⟨b,0,none⟩)∧U2.heap.size≤b∧Blk w b 33 #[.bool false,.slice none 0 0,.pointer none]|_=>fun _ _=>True) [some 39,some 40,some 41,some 42,some 43,some 44,some 45,some 46,some 47,some 48,some 16] (by kernel_rfl) (by kernel_rfl) rfl eH ?_ ?_ ?_ ?_
      ·intro ko F u u' hk B hI hR;exact hI.trans hR
      ·intro io ko v u u' hi hk b7 h cl;have hR:=cl
       match io,hi,b7,h with
       |0,_,_,h=>exact h
       |1,_,_,h=>exact h
       |2,_,_,h=>exact h
       |3,_,_,h=>exact fT.pu h hR
       |4,_,_,h=>exact h
       |5,_,_,h=>exact h
       |6,_,_,h=>exact h
       |7,_,_,h=>exact fT.pu h hR
       |8,_,_,h=>exact fST.pu h hR
       |9,_,b7,h=>replace h:∃g A n c m,v= .agg #[.bool g,.slice A n c,.pointer m]∧TMO u J (.agg #[.bool g,.slice A n c,.pointer m]) (a.rest*(factor C.fs k)+C.rest*(((factor a.fs k).natAbs:Int))*1) (zG (zG [] a.fs (factor C.fs k)) (zG [] C.fs (((factor a.fs k).natAbs:Int))) 1):=h;obtain⟨g,A,n,c,m,e,h⟩:=h;exact⟨g,A,n,c,m,e,h.pu hR⟩
       |10,_,b7,h=>replace h:∃b,v= .pointer (some ⟨b,0,none⟩)∧U2.heap.size≤b∧Blk u b 33 #[.bool false,.slice none 0 0,.pointer none]:=h;obtain⟨b,e,h,h'⟩:=h;exact⟨b,e,h,h'.pu hR⟩
       |_+11,hi,_,_=>exact absurd hi (by omega)
      ·refine zc.cons [] rfl (by kernel_rfl) (fun y F V B t p K o=>?_) ?_
       ·simp only [PU,Nat.reduceEqDiff,Nat.reduceAdd,reduceIte]at o⊢;clear p;go_simp;exact o.out _ _ (Pu.refl _) rfl
       refine zc.cons [0] rfl (by kernel_rfl) (fun y F V B t p K o=>?_) ?_
       ·simp only [PU,Nat.reduceEqDiff,Nat.reduceAdd,reduceIte]at o⊢;have e0:=p 0 (by simp);clear p;generalize y 0=z0 at o e0⊢;obtain rfl:=e0;obtain⟨N,O,x2,x3⟩:=((dL).pu t).c4_;go_simp;exact o.out _ _ (Pu.refl _) rfl
       refine zc.cons [] rfl (by kernel_rfl) (fun y F V B t p K o=>?_) ?_
       ·simp only [PU,Nat.reduceEqDiff,Nat.reduceAdd,reduceIte]at o⊢;clear p;obtain⟨N,O⟩:=((bC).pu t).c2_;go_simp;exact o.out _ _ (Pu.refl _) rfl
       refine zc.cons [1,2] rfl (by kernel_rfl) (fun y F V B t p K o=>?_) ?_
       ·simp only [PU,Nat.reduceEqDiff,Nat.reduceAdd,reduceIte]at o⊢;have e1:=p 1 (by simp);have e2:=p 2 (by simp);clear p;generalize y 1=z1 at o e1⊢;generalize y 2=z2 at o e2⊢;obtain rfl:=e1;obtain rfl:=e2;go_simp;go_at_call 29;refine(zaW _ _ a.rest (factor C.fs k) a.fs _ V (dN.pu t) (aV.pu t) E.out.ay (by have:=aj.out.1.few;omega) E.out.m1 E.out.y3 E.out.a3 E.out.ar).mono ?_;rintro e u1 ⟨v,rfl,H,L⟩;obtain⟨g,A,n,c,m,rfl⟩:=H.tm.shape;go_wp2_with fail;exact o.out _ _ L ⟨g,A,n,c,m,rfl,H.tm⟩
       refine zc.cons [] rfl (by kernel_rfl) (fun y F V B t p K o=>?_) ?_
       ·simp only [PU,Nat.reduceEqDiff,Nat.reduceAdd,reduceIte]at o⊢;clear p;go_simp;exact o.out _ _ (Pu.refl _) rfl
       refine zc.cons [4] rfl (by kernel_rfl) (fun y F V B t p K o=>?_) ?_
       ·simp only [PU,Nat.reduceEqDiff,Nat.reduceAdd,reduceIte]at o⊢;have e4:=p 4 (by simp);clear p;generalize y 4=z4 at o e4⊢;obtain rfl:=e4;obtain⟨N,O,x2,x3⟩:=((dM).pu t).c4_;go_simp;exact o.out _ _ (Pu.refl _) rfl
       refine zc.cons [] rfl (by kernel_rfl) (fun y F V B t p K o=>?_) ?_
       ·simp only [PU,Nat.reduceEqDiff,Nat.reduceAdd,reduceIte]at o⊢;clear p;obtain⟨N,O⟩:=((bD).pu t).c2_;go_simp;exact o.out _ _ (Pu.refl _) rfl
       refine zc.cons [5,6] rfl (by kernel_rfl) (fun y F V B t p K o=>?_) ?_
       ·simp only [PU,Nat.reduceEqDiff,Nat.reduceAdd,reduceIte]at o⊢;have e5:=p 5 (by simp);have e6:=p 6 (by simp);clear p;generalize y 5=z5 at o e5⊢;generalize y 6=z6 at o e6⊢;obtain rfl:=e5;obtain rfl:=e6;go_simp;go_at_call 29;refine(zaW _ _ C.rest (((factor a.fs k).natAbs:Int)) C.fs _ V (dG.pu t) (bi.pu t) E.out.bx (by have:=ap.out.1.few;omega) E.out.m1 E.out.x3 E.out.b3 E.out.br).mono ?_;rintro e u1 ⟨v,rfl,H,L⟩;obtain⟨g,A,n,c,m,rfl⟩:=H.tm.shape;go_wp2_with fail;exact o.out _ _ L ⟨g,A,n,c,m,rfl,H.tm⟩
       refine zc.cons [7] rfl (by kernel_rfl) (fun y F V B t p K o=>?_) ?_
       ·simp only [PU,Nat.reduceEqDiff,Nat.reduceAdd,reduceIte]at o⊢;have e7:=p 7 (by simp);clear p;generalize y 7=z7 at o e7⊢;obtain⟨g7,A7,n7,c7,m7,rfl,ft⟩:=e7;go_simp;exact o.out _ _ ((Pu.refl _).alloc _) ⟨_,g7,A7,n7,c7,m7,rfl,Blk.new _ _ _,ft.pu ((Pu.refl _).alloc _)⟩
       refine zc.cons [3,8] rfl (by kernel_rfl) (fun y F V B t p K o=>?_) ?_
       ·simp only [PU,Nat.reduceEqDiff,Nat.reduceAdd,reduceIte]at o⊢;have e3:=p 3 (by simp);have e8:=p 8 (by simp);clear p;generalize y 3=z3 at o e3⊢;generalize y 8=z8 at o e8⊢;obtain⟨g3,A3,n3,c3,m3,rfl,cm⟩:=e3;obtain⟨q8,g8,A8,n8,c8,m8,rfl,eB,cI⟩:=e8;go_simp;go_at_call 31;refine(zcd _ (a.rest*(factor C.fs k)) (C.rest*(((factor a.fs k).natAbs:Int))) (zG [] a.fs (factor C.fs k)) (zG [] C.fs (((factor a.fs k).natAbs:Int))) _ _ V q8 g8 A8 n8 c8 m8 cm eB cI E.out.ua E.out.ub (by have:=E.out.la;have:=E.out.lb;omega) E.out.m2 E.out.ary E.out.brx).mono ?_;rintro e u1 ⟨v,rfl,H,L⟩;obtain⟨g,A,n,c,m,rfl⟩:=H.tm.shape;go_wp2_with fail;exact o.out _ _ L ⟨g,A,n,c,m,rfl,H.base_ (by have:=t.size;omega)⟩
       refine zc.cons [] rfl (by kernel_rfl) (fun y F V B t p K o=>?_) ?_
       ·simp only [PU,Nat.reduceEqDiff,Nat.reduceAdd,reduceIte]at o⊢;clear p;go_simp;exact o.out _ _ ((Pu.refl _).alloc _) ⟨_,rfl,t.size,Blk.new _ _ _⟩
       exact zc.nil
      ·intro y V F X t p;have f0:=p 0 (by decide);have f1:=p 1 (by decide);have f2:=p 2 (by decide);have f3:=p 3 (by decide);have f4:=p 4 (by decide);have f5:=p 5 (by decide);have f6:=p 6 (by decide);have f7:=p 7 (by decide);have f8:=p 8 (by decide);have f9:=p 9 (by decide);have aD:=p 10 (by decide);clear p;simp only [PU,Nat.reduceEqDiff,Nat.reduceAdd,reduceIte];generalize y 0=z0 at f0⊢;generalize y 1=z1 at f1⊢;generalize y 2=z2 at f2⊢;generalize y 3=z3 at f3⊢;generalize y 4=z4 at f4⊢;generalize y 5=z5 at f5⊢;generalize y 6=z6 at f6⊢;generalize y 7=z7 at f7⊢;generalize y 8=z8 at f8⊢;generalize y 9=z9 at f9⊢;generalize y 10=eM at aD⊢;obtain rfl:=f0;obtain rfl:=f1;obtain rfl:=f2;obtain rfl:=f4;obtain rfl:=f5;obtain rfl:=f6;clear f3 f7 f8;obtain⟨gt,At,nt,ct,mt,rfl,ht⟩:=f9;obtain⟨bt,rfl,fY,kt⟩:=aD;obtain⟨N,O,x2⟩:=kt.c3_;obtain⟨ci,ce,d6⟩:=kt.z3_;obtain⟨bE,et⟩:=zb1 kt (.bool gt) (.slice At nt ct) (.pointer mt);have cg:=ht.frY et (zqe kt ⟨by decide,by decide,by decide⟩);have aC:Pu U2 _:=t.step et (fun j hj=>by have e':j=bt:=hj;omega);have eC:¬bx=bt:=fun e=>by have:=bD.lt;omega
       have fh:¬bz=bt:=fun e=>by have:=bC.lt;omega
       have cp:=(bD.pu t).fr et eC;have cn:=(bC.pu t).fr et fh;have bQ:=bi.pu aC;have ca:=aV.pu aC;obtain⟨T,hT⟩:∃T,T=((V.setCell ⟨bt,0,none⟩ (.bool gt)).setCell ⟨bt,1,none⟩ (.slice At nt ct)).setCell ⟨bt,2,none⟩ (.pointer mt):=⟨_,rfl⟩
       rw [←hT]at bE cg aC cp cn bQ ca;have HT:=Qh hT;clear hT et kt ht bD bC bi aV t dL dM dN dG;have fV:=aC.size
       cases dark with
       |false=>
        have bO:Pu P T:=au.trans aC;have bF:TMO T J (.agg #[.bool gt,.slice At nt ct,.pointer mt]) (a.rest*(factor C.fs k)+C.rest*(((factor a.fs k).natAbs:Int))*1+(if false=true then((((factor a.fs k).natAbs:Int)) - 1)*(factor C.fs k - 1)else 0)) (zG (zG [] a.fs (factor C.fs k)) (zG [] C.fs (((factor a.fs k).natAbs:Int))) 1):=by rw [if_neg (by decide),Int.add_zero];exact cg
        have pZ:Pu wr T:=pV.trans bO;have M:=zaw cf pZ;have ai:=bw.pu pZ;obtain⟨N,O,x2⟩:=bE.c3_;have az:w.heap.size≤T.heap.size:=by have:=pZ.size;omega
        have bZ:=av.trans pZ;have ad:=a7.pu pZ;rw [HT.out]at N O x2 M az;have dW:a6<2200:=by have h3:=Nat.mul_le_mul_right n1 (show i+1≤n0 by omega);rw [Nat.succ_mul]at h3;have:=HN.out;have:=a4.out;omega
        clear bE;go_wp2_with (at_builtin;refine zbo zcX rfl _ _ rfl #[.bool gt,.slice At nt ct,.pointer mt,.bool false] rfl (RawR.cells_one ⟨gt,At,nt,ct,mt,false⟩) rfl rfl (by simp [World.setCell]) M (by simp [maxLen];omega) (by omega) az ?_);intro g4 c4 w4 bL S b4;rw [←HT.out]at M S;have Q:=M.alloc (.cells #[.bool gt,.slice At nt ct,.pointer mt,.bool false] 35);have hQ:=zcC Q (Nat.le_refl _) S;have bM:ziu w4 w.heap.size ⟨gt,At,nt,ct,mt,false⟩ (za2 k false a C):=by rw [d5.out,←hwb];exact⟨rfl,(bF.pu ((Pu.refl _).alloc _)).qf hQ⟩
        have bH:=((ai.pu ((Pu.refl _).alloc _)).qf hQ).append (zal.one bM);have bs:Pu w w4:=(bZ.alloc _).grown S (fun k hk=>(Q.lt k hk).1);have bS:Blk w4 I 35 #[.bool ag,.slice aA an ac,.pointer am,.bool ae]:=(S.block I (ad.alloc _).lt (fun e=>aM.out I e.symm rfl)).trans (ad.alloc _);have bo:Hid (∀g,(Value.slice (some ⟨g4,0,none⟩) (a6+1) c4).ownBlock=some g→g≠I):=Qh fun g hg=>by
         have e9:g4=g:=by have h9:some g4=some g:=hg;injection h9
         subst e9;rcases b4 with h9|h9
         ·exact aM.out _ h9
         ·have cU:=ad.lt;have cz:=congrArg (fun x:World=>x.heap.size) HT.out;simp [World.setCell]at cz cU;omega
        have W:=Qh (AI bL (AI bH (AI bs bS)));clear bL S b4 hQ bM bH bs Q M ai bF;go_wp2;go_roundw
        case rel=>exact⟨j+1,a6+1,some ⟨g4,0,none⟩,c4,cQ++[⟨gt,At,nt,ct,mt,false⟩],by omega,by go_num,rfl,by rw [zaX,zgI];exact W.out.1,by rw [dR.out,←List.append_assoc];exact W.out.2.1,Qh (by rw [a4.out];omega),W.out.2.2.1,W.out.2.2.2,bo⟩
        case measure=>simp [intOf];omega
       |true=>
        have bO:Pu P T:=au.trans aC;go_wp2_with fail;refine(zaG 1 _ (by decide) (by decide)).mono ?_;rintro e T1 ⟨v,rfl,cu,L⟩;rw [←HT.out]at L;obtain⟨b5,bI,b0,b6,rfl⟩:=cu.shape2;obtain⟨V3,hV3⟩:∃V3,V3=T1.alloc (.cells #[.bool b5,.slice bI b0 b6] 30):=⟨_,rfl⟩
        have aq:Pu T V3:=by rw [hV3];exact L.alloc _
        have cF:Blk V3 T1.heap.size 30 #[.bool b5,.slice bI b0 b6]:=by rw [hV3];exact Blk.new _ _ _
        have dP:ZR V3 (.agg #[.bool b5,.slice bI b0 b6]) 1:=by rw [hV3];exact cu.pu ((Pu.refl _).alloc _)
        have cG:=bE.pu aq;have dH:=cp.pu aq;have d9:=cn.pu aq;have el:=bQ.pu aq;have eA:=ca.pu aq;have cm:=cg.pu aq;have en:=bO.trans aq;have gg:=aq.size;have eZ:=Qh hV3;clear hV3 bE cp cn bQ ca cg L cu N O x2 ci ce d6;go_wp2_with fail;rw [←eZ.out];have eV:Pu V3 V3.drew:=(Pu.refl V3).drew;refine zw 10 (fun _ w=>Pu V3 w) (fun _=>Pu) (fun io=>match io with|0=>fun vv_ _=>vv_= .agg #[.bool gt,.slice At nt ct,.pointer mt]|1=>fun vv_ _=>vv_= .agg #[.bool gx,.slice Ax nx cx]|2=>fun vv_ _=>vv_= .agg #[.bool b5,.slice bI b0 b6]|3=>fZ ((((factor a.fs k).natAbs:Int)) - 1)|4=>fun vv_ _=>vv_= .agg #[.bool gy,.slice Ay ny cy]|5=>fun vv_ _=>vv_= .agg #[.bool b5,.slice bI b0 b6]|6=>fZ (factor C.fs k - 1)|7=>fZ (((((factor a.fs k).natAbs:Int)) - 1)*(factor C.fs k - 1))|8=>fT (((((factor a.fs k).natAbs:Int)) - 1)*(factor C.fs k - 1)) ([])|9=>fST (((((factor a.fs k).natAbs:Int)) - 1)*(factor C.fs k - 1)) ([])|_=>fun _ _=>True) [some 51,some 52,some 53,some 54,some 55,some 56,some 57,some 58,some 59,some 60] (by kernel_rfl) (by kernel_rfl) rfl eV ?_ ?_ ?_ ?_
        ·intro ko F u u' hk B hI hR;exact hI.trans hR
        ·intro io ko v u u' hi hk b7 h cl;have hR:=cl
         match io,hi,b7,h with
         |0,_,_,h=>exact h
         |1,_,_,h=>exact h
         |2,_,_,h=>exact h
         |3,_,_,h=>exact fZ.pu h hR
         |4,_,_,h=>exact h
         |5,_,_,h=>exact h
         |6,_,_,h=>exact fZ.pu h hR
         |7,_,_,h=>exact fZ.pu h hR
         |8,_,_,h=>exact fT.pu h hR
         |9,_,_,h=>exact fST.pu h hR
         |_+10,hi,_,_=>exact absurd hi (by omega)
        ·refine zc.cons [] rfl (by kernel_rfl) (fun y F V B t p K o=>?_) ?_
         ·simp only [PU,Nat.reduceEqDiff,Nat.reduceAdd,reduceIte]at o⊢;clear p;obtain⟨N,O,x2⟩:=((cG).pu t).c3_;go_simp;exact o.out _ _ (Pu.refl _) rfl
         refine zc.cons [] rfl (by kernel_rfl) (fun y F V B t p K o=>?_) ?_
         ·simp only [PU,Nat.reduceEqDiff,Nat.reduceAdd,reduceIte]at o⊢;clear p;obtain⟨N,O⟩:=((dH).pu t).c2_;go_simp;exact o.out _ _ (Pu.refl _) rfl
         refine zc.cons [] rfl (by kernel_rfl) (fun y F V B t p K o=>?_) ?_
         ·simp only [PU,Nat.reduceEqDiff,Nat.reduceAdd,reduceIte]at o⊢;clear p;obtain⟨N,O⟩:=((cF).pu t).c2_;go_simp;exact o.out _ _ (Pu.refl _) rfl
         refine zc.cons [1,2] rfl (by kernel_rfl) (fun y F V B t p K o=>?_) ?_
         ·simp only [PU,Nat.reduceEqDiff,Nat.reduceAdd,reduceIte]at o⊢;have e1:=p 1 (by simp);have e2:=p 2 (by simp);clear p;generalize y 1=z1 at o e1⊢;generalize y 2=z2 at o e2⊢;obtain rfl:=e1;obtain rfl:=e2;go_simp;go_at_call 174;refine(zgq _ _ (((factor a.fs k).natAbs:Int)) 1 V (el.pu t) (dP.pu t) (up4 E.out.x3) (up4 (zds (z:=1) (by decide)))).mono ?_;rintro e u1 ⟨v,rfl,H,L⟩;obtain⟨g,A,n,c,rfl⟩:=H.shape2;go_wp2_with fail;exact o.out _ _ L ⟨g,A,n,c,rfl,H⟩
         refine zc.cons [] rfl (by kernel_rfl) (fun y F V B t p K o=>?_) ?_
         ·simp only [PU,Nat.reduceEqDiff,Nat.reduceAdd,reduceIte]at o⊢;clear p;obtain⟨N,O⟩:=((d9).pu t).c2_;go_simp;exact o.out _ _ (Pu.refl _) rfl
         refine zc.cons [] rfl (by kernel_rfl) (fun y F V B t p K o=>?_) ?_
         ·simp only [PU,Nat.reduceEqDiff,Nat.reduceAdd,reduceIte]at o⊢;clear p;obtain⟨N,O⟩:=((cF).pu t).c2_;go_simp;exact o.out _ _ (Pu.refl _) rfl
         refine zc.cons [4,5] rfl (by kernel_rfl) (fun y F V B t p K o=>?_) ?_
         ·simp only [PU,Nat.reduceEqDiff,Nat.reduceAdd,reduceIte]at o⊢;have e4:=p 4 (by simp);have e5:=p 5 (by simp);clear p;generalize y 4=z4 at o e4⊢;generalize y 5=z5 at o e5⊢;obtain rfl:=e4;obtain rfl:=e5;go_simp;go_at_call 174;refine(zgq _ _ (factor C.fs k) 1 V (eA.pu t) (dP.pu t) (up4 E.out.y3) (up4 (zds (z:=1) (by decide)))).mono ?_;rintro e u1 ⟨v,rfl,H,L⟩;obtain⟨g,A,n,c,rfl⟩:=H.shape2;go_wp2_with fail;exact o.out _ _ L ⟨g,A,n,c,rfl,H⟩
         refine zc.cons [3,6] rfl (by kernel_rfl) (fun y F V B t p K o=>?_) ?_
         ·simp only [PU,Nat.reduceEqDiff,Nat.reduceAdd,reduceIte]at o⊢;have e3:=p 3 (by simp);have e6:=p 6 (by simp);clear p;generalize y 3=z3 at o e3⊢;generalize y 6=z6 at o e6⊢;obtain⟨g3,A3,n3,c3,rfl,cO⟩:=e3;obtain⟨g6,A6,n6,c6,rfl,eK⟩:=e6;go_simp;go_at_call 50;refine(zfK _ _ ((((factor a.fs k).natAbs:Int)) - 1) (factor C.fs k - 1) V cO eK (up9 E.out.sx) (up9 E.out.sy)).mono ?_;rintro e u1 ⟨v,rfl,H,L⟩;obtain⟨g,A,n,c,rfl⟩:=H.shape2;go_wp2_with fail;exact o.out _ _ L ⟨g,A,n,c,rfl,H⟩
         refine zc.cons [7] rfl (by kernel_rfl) (fun y F V B t p K o=>?_) ?_
         ·simp only [PU,Nat.reduceEqDiff,Nat.reduceAdd,reduceIte]at o⊢;have e7:=p 7 (by simp);clear p;generalize y 7=z7 at o e7⊢;obtain⟨g7,A7,n7,c7,rfl,eJ⟩:=e7;go_simp;go_at_call 32;refine(zbd _ _ V eJ).mono ?_;rintro e u1 ⟨v,rfl,H,L⟩;obtain⟨g,A,n,c,m,rfl⟩:=H.shape;go_wp2_with fail;exact o.out _ _ L ⟨g,A,n,c,m,rfl,H⟩
         refine zc.cons [8] rfl (by kernel_rfl) (fun y F V B t p K o=>?_) ?_
         ·simp only [PU,Nat.reduceEqDiff,Nat.reduceAdd,reduceIte]at o⊢;have e8:=p 8 (by simp);clear p;generalize y 8=z8 at o e8⊢;obtain⟨g8,A8,n8,c8,m8,rfl,cI⟩:=e8;go_simp;exact o.out _ _ ((Pu.refl _).alloc _) ⟨_,g8,A8,n8,c8,m8,rfl,Blk.new _ _ _,cI.pu ((Pu.refl _).alloc _)⟩
         exact zc.nil
        ·intro y V F X t p;have f0:=p 0 (by decide);have f1:=p 1 (by decide);have f2:=p 2 (by decide);have f3:=p 3 (by decide);have f4:=p 4 (by decide);have f5:=p 5 (by decide);have f6:=p 6 (by decide);have f7:=p 7 (by decide);have f8:=p 8 (by decide);have f9:=p 9 (by decide);clear p;simp only [PU,Nat.reduceEqDiff,Nat.reduceAdd,reduceIte];generalize y 0=z0 at f0⊢;generalize y 1=z1 at f1⊢;generalize y 2=z2 at f2⊢;generalize y 3=z3 at f3⊢;generalize y 4=z4 at f4⊢;generalize y 5=z5 at f5⊢;generalize y 6=z6 at f6⊢;generalize y 7=z7 at f7⊢;generalize y 8=z8 at f8⊢;generalize y 9=z9 at f9⊢;obtain rfl:=f0;obtain rfl:=f1;obtain rfl:=f2;obtain rfl:=f4;obtain rfl:=f5;clear f3 f6 f7 f8;obtain⟨q9,g9,A9,n9,c9,m9,rfl,dD,dE⟩:=f9;go_wp2_with fail;refine(zcd _ (a.rest*(factor C.fs k)+C.rest*(((factor a.fs k).natAbs:Int))*1) (((((factor a.fs k).natAbs:Int)) - 1)*(factor C.fs k - 1)) (zG (zG [] a.fs (factor C.fs k)) (zG [] C.fs (((factor a.fs k).natAbs:Int))) 1) [] _ 0 V q9 g9 A9 n9 c9 m9 (cm.tm.pu t) dD dE E.out.u2 (zad.nil 0) (by have:=E.out.l2;simp only [List.length_nil];omega) E.out.m3 E.out.sum E.out.xy).mono ?_;rintro e Y ⟨v,rfl,H,pY⟩;obtain⟨gw,Aw,nw,cw,mw,rfl⟩:=H.tm.shape;have b8:=cG.pu (t.trans pY);obtain⟨N,O,x2⟩:=b8.c3_;obtain⟨ci,ce,d6⟩:=b8.z3_;obtain⟨cE,e5⟩:=zb1 b8 (.bool gw) (.slice Aw nw cw) (.pointer mw);have dI:TMO Y J (.agg #[.bool gw,.slice Aw nw cw,.pointer mw]) (a.rest*(factor C.fs k)+C.rest*(((factor a.fs k).natAbs:Int))*1+(if true=true then((((factor a.fs k).natAbs:Int)) - 1)*(factor C.fs k - 1)else 0)) (zG (zG [] a.fs (factor C.fs k)) (zG [] C.fs (((factor a.fs k).natAbs:Int))) 1):=by have h9:=H.base_ (base':=J) (by have:=t.size;omega);rw [Int.mul_one (((((factor a.fs k).natAbs:Int)) - 1)*(factor C.fs k - 1))]at h9;rw [if_pos rfl];exact h9
         have dB:=dI.frY e5 (zqe b8 ⟨by decide,by decide,by decide⟩);have dC:Pu P _:=(en.trans (t.trans pY)).step e5 (fun j hj=>by have e':j=bt:=hj;omega);obtain⟨Z,hZ⟩:∃Z,Z=((Y.setCell ⟨bt,0,none⟩ (.bool gw)).setCell ⟨bt,1,none⟩ (.slice Aw nw cw)).setCell ⟨bt,2,none⟩ (.pointer mw):=⟨_,rfl⟩
         rw [←hZ]at cE dB dC;have HZ:=Qh hZ;clear hZ e5 b8 cG dH d9 cF H dI dD dE t pY;have bF:TMO Z J (.agg #[.bool gw,.slice Aw nw cw,.pointer mw]) (a.rest*(factor C.fs k)+C.rest*(((factor a.fs k).natAbs:Int))*1+(if true=true then((((factor a.fs k).natAbs:Int)) - 1)*(factor C.fs k - 1)else 0)) (zG (zG [] a.fs (factor C.fs k)) (zG [] C.fs (((factor a.fs k).natAbs:Int))) 1):=dB;have pZ:Pu wr Z:=pV.trans dC;have M:=zaw cf pZ;have ai:=bw.pu pZ;obtain⟨N,O,x2⟩:=cE.c3_;have az:w.heap.size≤Z.heap.size:=by have:=pZ.size;omega
         have bZ:=av.trans pZ;have ad:=a7.pu pZ;rw [HZ.out]at N O x2 M az;have dW:a6<2200:=by have h3:=Nat.mul_le_mul_right n1 (show i+1≤n0 by omega);rw [Nat.succ_mul]at h3;have:=HN.out;have:=a4.out;omega
         clear cE;go_wp2_with (at_builtin;refine zbo zcX rfl _ _ rfl #[.bool gw,.slice Aw nw cw,.pointer mw,.bool false] rfl (RawR.cells_one ⟨gw,Aw,nw,cw,mw,false⟩) rfl rfl (by simp [World.setCell]) M (by simp [maxLen];omega) (by omega) az ?_);intro g4 c4 w4 bL S b4;rw [←HZ.out]at M S;have Q:=M.alloc (.cells #[.bool gw,.slice Aw nw cw,.pointer mw,.bool false] 35);have hQ:=zcC Q (Nat.le_refl _) S;have bM:ziu w4 w.heap.size ⟨gw,Aw,nw,cw,mw,false⟩ (za2 k true a C):=by rw [d5.out,←hwb];exact⟨rfl,(bF.pu ((Pu.refl _).alloc _)).qf hQ⟩
         have bH:=((ai.pu ((Pu.refl _).alloc _)).qf hQ).append (zal.one bM);have bs:Pu w w4:=(bZ.alloc _).grown S (fun k hk=>(Q.lt k hk).1);have bS:Blk w4 I 35 #[.bool ag,.slice aA an ac,.pointer am,.bool ae]:=(S.block I (ad.alloc _).lt (fun e=>aM.out I e.symm rfl)).trans (ad.alloc _);have bo:Hid (∀g,(Value.slice (some ⟨g4,0,none⟩) (a6+1) c4).ownBlock=some g→g≠I):=Qh fun g hg=>by
          have e9:g4=g:=by have h9:some g4=some g:=hg;injection h9
          subst e9;rcases b4 with h9|h9
          ·exact aM.out _ h9
          ·have cU:=ad.lt;have cz:=congrArg (fun x:World=>x.heap.size) HZ.out;simp [World.setCell]at cz cU;omega
         have W:=Qh (AI bL (AI bH (AI bs bS)));clear bL S b4 hQ bM bH bs Q M ai bF;go_wp2;go_roundw
         case rel=>exact⟨j+1,a6+1,some ⟨g4,0,none⟩,c4,cQ++[⟨gw,Aw,nw,cw,mw,false⟩],by omega,by go_num,rfl,by rw [zaX,zgI];exact W.out.1,by rw [dR.out,←List.append_assoc];exact W.out.2.1,Qh (by rw [a4.out];omega),W.out.2.2.1,W.out.2.2.2,bo⟩
         case measure=>simp [intOf];omega
    ·obtain rfl:j=n1:=by omega
     have bB:up.take j=up:=List.take_of_length_le (by rw [←HL.out.2.2,HL.out.2.1];exact Nat.le_refl _);rw [bB,←eQ.out]at bw;have W:=Qh (AI cf (AI bw av));clear cf bw bB;go_wp2;go_roundw
     case rel=>exact⟨i+1,a6,eT,eI,cQ,by omega,by go_num,rfl,W.out.1,W.out.2.1,Qh (by rw [a4.out,Nat.succ_mul]),W.out.2.2⟩
     case measure=>simp [intOf];omega
  ·obtain rfl:i=n0:=by omega
   have bB:lo.take i=lo:=List.take_of_length_le (by rw [←HL.out.1.2,HL.out.1.1];exact Nat.le_refl _);rw [bB]at hH;have W:=Qh (AI (Sl.of_own ho) (AI hH.hold hP));have ec:=Qh (show no≤2200 by rw [d4.out];exact HN.out);clear ho hH bB hP;go_wp2;go_ret;exact⟨Ao,no,co,Lo,rfl,W.out.1,W.out.2.1,ec.out,W.out.2.2⟩
end
end Go.Proofs.YtckfnbckoclhpaaGreatDoor

/- zed. -/
import Derived.Test.YtckfnbckoclhpaaGreatDoorC02
import Derived.Test.YtckfnbckoclhpaaGreatDoorShelf
import Derived.Test.YtckfnbckoclhpaaGreatDoorC04
import Derived.Deep.RegionHeld3
namespace Go.Proofs.YtckfnbckoclhpaaGreatDoor
set_option linter.unusedVariables false
set_option linter.unusedSimpArgs false
set_option maxRecDepth 100000
set_option maxHeartbeats 4000000
section
open Go.RowKit
def zee(x y:Int):Int:=if x<y then -1 else if y<x then 1 else 0
theorem zri{x y:Int}(h:x<y):zee x y= -1:=by simp [zee,h]
theorem zqY{x y:Int}(h:y<x):zee x y=1:=by unfold zee;rw [if_neg (by omega),if_pos h]
theorem zo7(x y:Nat):zee (x:Int) (y:Int)=zfY x y:=by
 unfold zee zfY;by_cases h:x<y
 ·rw [if_pos (by omega),if_pos h]
 ·rw [if_neg (by omega),if_neg h];by_cases i:y<x
  ·rw [if_pos (by omega),if_pos i]
  ·rw [if_neg (by omega),if_neg i]
theorem zpm(x y:Nat):zee (-(x:Int)) (-(y:Int))=zfY y x:=by
 unfold zee zfY;by_cases h:y<x
 ·rw [if_pos (by omega),if_pos h]
 ·rw [if_neg (by omega),if_neg h];by_cases i:x<y
  ·rw [if_pos (by omega),if_pos i]
  ·rw [if_neg (by omega),if_neg i]
theorem zbF(Z v2:Value)(T V:Int)(w:World)(G:ZR w Z T)(h2:ZR w v2 V)(Y:T.natAbs<4294967296^E4)(X:V.natAbs<4294967296^E4):Calls Tryz.prog 106 #[Z,v2] w fun e w'=>e= .returned (.int .i64 (zee T V))∧Pu w w':=by
 obtain⟨F,P,Q,O,E,rfl,y,I,i,S,⟨ao,ai⟩,rfl⟩:=G;obtain⟨D,M,L,N,H,rfl,v,J,j,R,⟨ak,aj⟩,rfl⟩:=h2;rw [zaA]at Y X;have ad:=zaC (k:=E4) i Y;rw [show E4=4000000000 from rfl]at ad;have aa:=zaC (k:=E4) j X;rw [show E4=4000000000 from rfl]at aa;have am:=y.wlen;have ap:=v.wlen;have o:Pu w ((w.alloc (.cells #[.bool F,.slice P Q O] 30)).alloc (.cells #[.bool D,.slice M L N] 30)):=((Pu.refl w).alloc _).alloc _;have t:=zbh P M Q O L N E H _ (y.pu o) (v.pu o) (by omega) (by omega) I J i j;have x:=zbh M P L N Q O H E _ (v.pu o) (y.pu o) (by omega) (by omega) J I j i;have C:F=true→0<zd 4294967296 E:=fun h=>zdd i (S h);have K:D=true→0<zd 4294967296 H:=fun h=>zdd j (R h);have ae:∀r,zee (sgn F (zd 4294967296 E)) (sgn D (zd 4294967296 H))=r→Calls Tryz.prog 106 #[.agg #[.bool F,.slice P Q O],.agg #[.bool D,.slice M L N]] w fun e w'=>e= .returned (.int .i64 r)∧Pu w w':=by
  intro r p;generalize zd 4294967296 E=B at*
  generalize zd 4294967296 H=z at*
  clear I J i j S R y v Y X
  cases F<;>cases D
  ·have W:r=zfY B z:=by rw [←p];exact zo7 B z
   subst W;clear p C K x;go_enter Tryz.func106,Tryz.ntmps106;go_wp2_with fail;refine t.mono ?_;rintro e U ⟨rfl,G⟩;go_wp2;go_ret;exact⟨rfl,o.trans G⟩
  ·have h0:=K rfl;obtain rfl:r=1:=by rw [←p];exact zqY (by show -(z:Int)<(B:Int);omega)
   clear p C K t x;go_enter Tryz.func106,Tryz.ntmps106;go_wp2_with fail;refine(zdZ _ _).mono ?_;rintro e U ⟨rfl,rfl⟩;go_wp2;go_ret;exact⟨rfl,o⟩
  ·have h0:=C rfl;obtain rfl:r= -1:=by rw [←p];exact zri (by show -(B:Int)<(z:Int);omega)
   clear p C K t x;go_enter Tryz.func106,Tryz.ntmps106;go_wp2_with fail;refine(zdZ _ _).mono ?_;rintro e U ⟨rfl,rfl⟩;go_wp2;go_ret;exact⟨rfl,o⟩
  ·have W:r=zfY z B:=by rw [←p];exact zpm B z
   subst W;clear p C K t;go_enter Tryz.func106,Tryz.ntmps106;go_wp2_with fail;refine x.mono ?_;rintro e U ⟨rfl,G⟩;go_wp2;go_ret;exact⟨rfl,o.trans G⟩
 exact ae _ rfl
end
section
open Go.RowKit
theorem zcD:∀(f x:Nat),x<2^f→x<2^Lib.bitLenAux f x
 |0,x,h=>by simpa [Lib.bitLenAux]using h
 |f+1,x,h=>by
  unfold Lib.bitLenAux;split
  ·rename_i e;subst e;decide
  ·have:=zcD f (x/2) (by rw [Nat.pow_succ]at h;omega);rw [Nat.add_comm,Nat.pow_succ];omega
theorem zfW:∀(f x:Nat),x≠0→x<2^f→2^(Lib.bitLenAux f x - 1)≤x
 |0,x,h0,h=>by simp at h;omega
 |f+1,x,h0,h=>by
  unfold Lib.bitLenAux;rw [if_neg h0];rcases Nat.eq_zero_or_pos (x/2)with e|e
  ·rw [e];have:Lib.bitLenAux f 0=0:=by cases f<;>simp [Lib.bitLenAux]
   rw [this];simp;omega
  ·have i:=zfW f (x/2) (by omega) (by rw [Nat.pow_succ]at h;omega);have j:0<Lib.bitLenAux f (x/2):=by
    rcases Nat.eq_zero_or_pos (Lib.bitLenAux f (x/2))with e2|e2
    ·have:=zcD f (x/2) (by rw [Nat.pow_succ]at h;omega);rw [e2]at this;omega
    ·exact e2
   rw [show 1+Lib.bitLenAux f (x/2) - 1=(Lib.bitLenAux f (x/2) - 1)+1 by omega,Nat.pow_succ];omega
theorem zhA{x:Nat}(k:x≠0)(h:x<4294967296):1≤Lib.bitLen x∧Lib.bitLen x≤32∧x*2^(32 - Lib.bitLen x)<4294967296:=by
 have i:x<2^Lib.bitLen x:=zcD 64 x (by omega);have t:2^(Lib.bitLen x - 1)≤x:=zfW 64 x k (by omega);have p:1≤Lib.bitLen x:=by
  rcases Nat.eq_zero_or_pos (Lib.bitLen x)with e|e
  ·rw [e]at i;omega
  ·exact e
 have o:Lib.bitLen x≤32:=by
  rcases Nat.lt_or_ge 32 (Lib.bitLen x)with e|e
  ·have:=Nat.pow_le_pow_right (n:=2) (by omega) (show 32≤Lib.bitLen x - 1 by omega);omega
  ·exact e
 refine⟨p,o,?_⟩;have j:x*2^(32 - Lib.bitLen x)<2^Lib.bitLen x*2^(32 - Lib.bitLen x):=Nat.mul_lt_mul_of_pos_right i (Nat.pow_pos (by omega));rw [←Nat.pow_add,show Lib.bitLen x+(32 - Lib.bitLen x)=32 by omega]at j;exact j
structure zjo(X Y:Nat)(j N:Nat)(xs qs:List Nat):Prop where
 len:xs.length=N
 below:zg 4294967296 xs
 qbelow:zg 4294967296 qs
 val:zd 4294967296 xs+Y*(4294967296^j*zd 4294967296 qs)=X
 rest:zd 4294967296 (xs.drop j)<Y
theorem znw{X Y j N:Nat}{lo i t k v:List Nat}(D:0<Y)(p:zjo X Y (j+1) N (lo++(i++t)) v)(y:lo.length=j)(B:zd 4294967296 t=0)(F:k.length=i.length)(I:zg 4294967296 k)(z:zd 4294967296 k=zd 4294967296 i%Y)(C:zd 4294967296 i<4294967296*Y):zjo X Y j N (lo++(k++t)) (zd 4294967296 i/Y::v):=by
 have G:∀s:List Nat,(lo++(s++t)).drop j=s++t:=fun s=>by rw [←y];simp
 refine⟨?_,?_,?_,?_,?_⟩
 ·have:=p.len;simp at this⊢;omega
 ·intro x o;rcases List.mem_append.1 o with h|h
  ·exact p.below x (by simp [h])
  ·rcases List.mem_append.1 h with h|h
   ·exact I x h
   ·exact p.below x (by simp [h])
 ·intro x o;rcases List.mem_cons.1 o with rfl|o
  ·exact(Nat.div_lt_iff_lt_mul D).2 C
  ·exact p.qbelow x o
 ·have w:=p.val;have E:=Nat.div_add_mod (zd 4294967296 i) Y;rw [zaT,zaT,B,Nat.mul_zero,Nat.add_zero,y]at w⊢;rw [z];generalize zd 4294967296 i/Y=d at*
  generalize zd 4294967296 i%Y=r at*
  rw [←E]at w;simp only [zd,Nat.pow_succ,Nat.mul_add]at w⊢;rw [←w];have H:4294967296^j*(Y*d)=Y*(4294967296^j*d):=by rw [Nat.mul_left_comm]
  have J:4294967296^j*4294967296*zd 4294967296 v=4294967296^j*(4294967296*zd 4294967296 v):=by rw [Nat.mul_assoc]
  rw [H,J];omega
 ·rw [G,zaT,B,Nat.mul_zero,Nat.add_zero,z];exact Nat.mod_lt _ D
theorem zn0{x:Nat}(j:x≠0)(h:x<4294967296):(x+1)*2^(32 - Lib.bitLen x)≤4294967296:=by have k:x<2^Lib.bitLen x:=zcD 64 x (by omega);have o:=(zhA j h).2.1;have i:(x+1)*2^(32 - Lib.bitLen x)≤2^Lib.bitLen x*2^(32 - Lib.bitLen x):=Nat.mul_le_mul_right _ k;rw [←Nat.pow_add,show Lib.bitLen x+(32 - Lib.bitLen x)=32 by omega]at i;exact i
theorem zra{l:List Nat}{n s i:Nat}(z:l.length=n+1)(v:zg 4294967296 l)(o:l[n]?=some i)(x:i≠0)(p:(i+1)*2^s≤4294967296):zd 4294967296 l*2^s<4294967296^(n+1)∧2^s*4294967296^n≤zd 4294967296 l*2^s:=by
 have j:=zdW 4294967296 l n (by omega);have t:=zaL (v.take n);rw [List.length_take,Nat.min_eq_left (by omega)]at t;rw [zay o,List.drop_eq_nil_of_le (by omega)]at j;simp only [zd,Nat.mul_zero,Nat.add_zero]at j;constructor
 ·have w:zd 4294967296 l<4294967296^n*(i+1):=by rw [Nat.mul_add,Nat.mul_one];omega
  have k:zd 4294967296 l*2^s<4294967296^n*(i+1)*2^s:=Nat.mul_lt_mul_of_pos_right w (Nat.pow_pos (by omega));rw [Nat.mul_assoc]at k;have y:4294967296^n*((i+1)*2^s)≤4294967296^n*4294967296:=Nat.mul_le_mul_left _ p;rw [Nat.pow_succ];omega
 ·rw [Nat.mul_comm];refine Nat.mul_le_mul_right _ ?_;have:4294967296^n*1≤4294967296^n*i:=Nat.mul_le_mul_left _ (by omega);omega
theorem zoY(A1 A2:Option Addr)(v c1 n2 c2:Nat)(l1 U:List Nat)(w:World)(bc:Sl w 1 A1 v c1 (wds l1))(aN:Sl w 1 A2 n2 c2 (wds U))(bt:zg 4294967296 l1)(b6:zg 4294967296 U)(V:zdl l1)(co:zdl U)(es:v≤4000000000)(e9:n2≤4000000000)(h2:2≤n2)(e3:zd 4294967296 U≤zd 4294967296 l1):Calls Tryz.prog 190 #[.slice A1 v c1,.slice A2 n2 c2] w fun e w'=>∃A3 n3 c3 q A4 n4 c4 r,e= .returned (.tuple #[.slice A3 n3 c3,.slice A4 n4 c4])∧Sl w' 1 A3 n3 c3 (wds q)∧Sl w' 1 A4 n4 c4 (wds r)∧n3≤8000000000∧n4≤8000000000∧c3≤maxLen∧c4≤maxLen∧zg 4294967296 q∧zg 4294967296 r∧zd 4294967296 q=zd 4294967296 l1/zd 4294967296 U∧zd 4294967296 r=zd 4294967296 l1%zd 4294967296 U∧Pu w w':=by
 have d8:=bc.wlen;have bW:=aN.wlen;have dQ:n2≤v:=by
  rcases Nat.lt_or_ge v n2 with e|e
  ·have:=zbn (b:=4294967296) (by omega) bt co (by omega);omega
  ·exact e
 obtain⟨t,rfl⟩:∃t,n2=t+1:=⟨n2 - 1,by omega⟩
 obtain⟨J,htop0⟩:∃x,U[t]?=some x:=⟨_,List.getElem?_eq_getElem (by omega)⟩
 have cd:=b6 J (List.mem_of_getElem? htop0);have b7:J≠0:=by rintro rfl;refine co ?_;rw [List.getLast?_eq_getElem?,bW];exact htop0
 obtain⟨s,hse⟩:∃s,s=32 - Lib.bitLen J:=⟨_,rfl⟩
 have bS:=zhA b7 cd;have aF:s≤31:=by omega
 have aA:=zn0 b7 cd;rw [←hse]at aA;obtain⟨bQ,cb⟩:=zra bW b6 htop0 b7 aA;have aJ:∀W,Calls Tryz.prog 198 #[.int .u32 (J:Int)] W fun e w'=>e= .returned (.int .i64 (s:Int))∧W=w':=by
  intro W;have:=Tryz.bits_LeadingZeros32 (J:Int) W (by omega) (by omega);have e:(32:Int) - (Lib.bitLen (J:Int).toNat:Int)=(s:Int):=by rw [Int.toNat_natCast];omega
  rw [e]at this;exact this.mono fun e w' ⟨h1,h2⟩=>⟨h1,h2.symm⟩
 obtain⟨q2,o2,rfl,bq,dC⟩:=aN.wat htop0;have ed:((t+1:Nat):Int) - 1=(t:Int):=by omega
 have eL:(0:Int)≤(t:Int):=by omega
 have et:(t:Int)<((t+1:Nat):Int):=by omega
 have eO:IntKind.i64.wrap (t:Int)=(t:Int):=IntWalk.i64_in _ (by omega);have bE:=Qh aJ;have HS:=Qh (AI hse bS);have HY:=Qh (AI bQ cb);have dD:=Qh htop0;clear aJ hse bS aA bQ cb htop0;go_enter Tryz.func190,Tryz.ntmps190;go_wp2_with fail;refine(bE.out _).mono ?_;rintro e w1 ⟨rfl,rfl⟩;go_wp2_with fail;refine(ziQ A1 v c1 l1 s _ bc (by omega) bt aF).mono ?_;rintro e w5 ⟨A5,c5,af,rfl,e5,cs,dt,b0,p5,eN,bu,rfl⟩;obtain⟨E,rfl,cV,hX⟩:=XA.of_own bu (by omega);have d4:=cs.wlen;have aC:=zci bu;go_wp2_with fail;refine(ziQ _ (t+1) c2 U s _ (aN.pu p5) (by omega) b6 aF).mono ?_;rintro e p ⟨A6,c6,ct,rfl,dy,bg,dv,a7,p6,eF,ck,rfl⟩;obtain⟨gy,rfl,eE,cw⟩:=XA.of_own ck (by omega);have dM:=hX.lt;have ee:=cw.lt;have bl:=zch bg;have ax:=zdk _ (t+1+1) c6 ct _ bg (by omega) dy;obtain⟨H,hys⟩:∃H,H=zB ct:=⟨_,rfl⟩
 obtain⟨m,hm⟩:∃m,m=H.length:=⟨_,rfl⟩
 rw [←hys,←hm]at bl ax;have O:zg 4294967296 H:=by rw [hys];exact zaq dv
 have b5:zdl H:=by rw [hys];exact zaH _
 have a6:zd 4294967296 H=zd 4294967296 U*2^s:=by rw [hys,zar];exact a7
 have eu:m≤t+1:=by rw [hm];exact zaC b5 (by rw [a6];exact HY.out.1)
 have df:2≤m:=by
  rcases Nat.lt_or_ge m 2 with e|e
  ·exfalso;have h3:=zaL O;rw [a6,←hm]at h3;have h4:=HY.out.2;have h5:=Nat.pow_le_pow_right (n:=4294967296) (by decide) (show m≤1 by omega);have h6:=Nat.pow_le_pow_right (n:=4294967296) (by decide) (show 1≤t by omega);have h7:1*4294967296^t≤2^s*4294967296^t:=Nat.mul_le_mul_right _ (Nat.pow_pos (by decide));omega
  ·exact e
 obtain⟨K,hK⟩:∃K,K+m=v+1:=⟨v+1 - m,by omega⟩
 have dZ:max ((v:Int)+1 - (m:Int)) 0=(K:Int):=by omega
 have dB:IntKind.i64.wrap ((v:Int)+1 - (m:Int))=(v:Int)+1 - (m:Int):=IntWalk.i64_in _ (by omega);have bN:=fun W=>zap K K (by omega) (Nat.le_refl _) W;have cZ:=Qh bN;have eD:=Qh hys;have Hm:=Qh hm;clear bN hys hm;go_wp2_with fail;refine ax.mono ?_;rintro e w7 ⟨rfl,rfl⟩;obtain⟨top,y⟩:∃x,H[m - 1]?=some x:=⟨_,List.getElem?_eq_getElem (by have:=Hm.out;omega)⟩
 obtain⟨next,i⟩:∃x,H[m - 2]?=some x:=⟨_,List.getElem?_eq_getElem (by have:=Hm.out;omega)⟩
 have bJ:=O top (List.mem_of_getElem? y);have bz:=O next (List.mem_of_getElem? i)
 have aR:0<top:=by
  rcases Nat.eq_zero_or_pos top with e|e
  ·exfalso;subst e;refine b5 ?_;rw [List.getLast?_eq_getElem?,←Hm.out];exact y
  ·exact e
 obtain⟨L,hW3⟩:∃L,L=p.alloc (.cells (Array.replicate K (.int .u32 0)) 169):=⟨_,rfl⟩
 have q3:Pu p L:=by rw [hW3];exact(Pu.refl _).alloc _
 have hO:WA L p.heap.size (List.replicate K 0):=by rw [hW3];exact WA.made p K
 have bY:=(hX.pu p6).pu q3;have aH:=bl.pu q3;have cz:Pu w L:=(p5.trans p6).trans q3;obtain⟨m1,hm1⟩:∃m1,m1=m - 1:=⟨_,rfl⟩
 obtain⟨m2,hm2'⟩:∃m2,m2=m - 2:=⟨_,rfl⟩
 rw [←hm1]at y;rw [←hm2']at i;obtain⟨qa,oa,ea,dz,ah⟩:=aH.wat y;obtain⟨qb,ob,eb,cQ,aq⟩:=aH.wat i;injection ea with ea;injection ea with ea1 ea2;injection eb with eb;injection eb with eb1 eb2;subst ea1 ea2 eb1 eb2;have en:(m:Int) - 1=(m1:Int):=by omega
 have eH:(m:Int) - 2=(m2:Int):=by omega
 have dH:IntKind.i64.wrap ((m1:Int))=(m1:Int):=IntWalk.i64_in _ (by omega);have dY:IntKind.i64.wrap ((m2:Int))=(m2:Int):=IntWalk.i64_in _ (by omega);have dF:(0:Int)≤(m1:Int):=by omega
 have el:(m1:Int)<(m:Int):=by omega
 have dJ:(0:Int)≤(m2:Int):=by omega
 have dX:(m2:Int)<(m:Int):=by omega
 have dE:=zL (a:=top) (by omega);have dG:=zL (a:=next) (by omega);simp only [Nat.zero_add]at ah aq;have cB:=Qh y;have bH:=Qh i;have ao:=Qh (AI hm1 hm2');rw [hW3]at ah aq;have bO:=Qh hW3;clear y i hm1 hm2' hW3;go_wp2_with (simp only [cZ.out]);go_region;go_wp2_with fail;obtain⟨X,hXv⟩:∃X,X=zd 4294967296 af:=⟨_,rfl⟩
 obtain⟨Y,hYv⟩:∃Y,Y=zd 4294967296 H:=⟨_,rfl⟩
 have D:0<Y:=by rw [hYv];exact zdd b5 (fun e=>by have:=Hm.out;rw [e]at this;simp at this;omega)
 have a5:zjo X Y K (v+1) af []:=by
  refine⟨d4,dt,zg.nil _,by simp [zd,hXv],?_⟩;have h3:=zdW 4294967296 af K (by omega);have h4:zd 4294967296 af<2^s*4294967296^v:=by rw [b0,Nat.mul_comm];exact Nat.mul_lt_mul_of_pos_left (by have:=zaL bt;rwa [d8]at this) (Nat.pow_pos (by decide))
  have h5:4294967296^v=4294967296^K*4294967296^m1:=by
   rw [←Nat.pow_add]
   congr 1
   have:=ao.out;omega
  have h6:4294967296^K*zd 4294967296 (af.drop K)<4294967296^K*(2^s*4294967296^m1):=by rw [h5,Nat.mul_left_comm]at h4;omega
  have h7:=Nat.lt_of_mul_lt_mul_left h6;have h8:2^s*4294967296^m1≤2^s*4294967296^t:=Nat.mul_le_mul_left _ (Nat.pow_le_pow_right (by decide) (by have:=ao.out;omega));have h9:=HY.out.2;rw [hYv,a6];omega
 have dq:p.heap.size<L.heap.size:=by rw [bO.out];simp
 have aS:=Qh (AI (hXv.trans b0) (hYv.trans a6));have P:=Qh hYv;have z:=Qh a5;clear hX cs bg bu ck cw bl ax bc aN ah aq dz cQ hXv hYv a5 p5 p6 q3 b0 a7 a6;rw [←bO.out]
 go_loopw [10] (fun av ws=>∃(j:Nat) (N B:List Nat),j≤K∧av= .int .i64 ((j:Int) - 1)∧zjo X Y j (v+1) N B∧j+B.length=K∧XA ws E N∧WA ws p.heap.size (List.replicate j 0++B)∧Fr (fun k=>k=E∨k=p.heap.size) L ws) (fun av _=>(intOf av+1).toNat)
 case atStart=>exact⟨K,af,[],Nat.le_refl _,rfl,z.out,by simp,bY.pu (Pu.refl _).drew,by simpa using hO.drew,((Pu.refl L).drew).fr⟩
 case round=>
  clear bY hO z;obtain⟨j,N,B,hj,rfl,hL,ey,Z,aL,hF⟩:=hrel;have HL:=Qh hL;have au:=hL.len;have G:=hL.below;have ap:Sl wr 1 (some ⟨gy,0,none⟩) m c6 (wds H):=aH.fr hF (fun _ b off e hk=>by injection e with e;injection e with e1 _;subst e1;rcases hk with h|h<;>omega);have db:p.heap.size<wr.heap.size:=Nat.lt_of_lt_of_le dq hF.size;have cq:Pu w wr:=cz.step hF (fun k hk=>by
   rcases hk with rfl|rfl
   ·exact cV
   ·have:=cz.size;omega)
  clear hL;rcases j with _|j
  ·have ej:((0:Nat):Int) - 1= -1:=rfl;rw [ej];have eA:B.length=K:=by omega
   have aW:Sl wr 1 (some ⟨p.heap.size,0,none⟩) K K (wds B):=by have:=aL.sl (n:=K) (c:=K) (by simp;omega) (Nat.le_refl _);rwa [List.replicate_zero,List.nil_append,List.take_of_length_le (by omega)]at this
   have cP:=zdk _ K K B wr aW (by omega) (by simp [maxLen];omega);have bk:=zpY (some ⟨E,0,none⟩) (v+1) c5 N s wr (Z.sl au.symm aC.1) (by omega) G aF;have bw:zd 4294967296 N+Y*zd 4294967296 B=X:=by have:=HL.out.val;rwa [Nat.pow_zero,Nat.one_mul]at this
   have aZ:zd 4294967296 N<Y:=by simpa using HL.out.rest
   have bU:zd 4294967296 B=zd 4294967296 l1/zd 4294967296 U:=by
    have h3:X/Y=zd 4294967296 B:=by rw [←bw,Nat.add_comm,Nat.mul_add_div D,Nat.div_eq_of_lt aZ,Nat.add_zero]
    rw [←h3,aS.out.1,aS.out.2,Nat.mul_div_mul_right _ _ (Nat.pow_pos (by decide))]
   have bV:zd 4294967296 N/2^s=zd 4294967296 l1%zd 4294967296 U:=by
    have h3:X%Y=zd 4294967296 N:=by rw [←bw,Nat.add_comm,Nat.mul_add_mod,Nat.mod_eq_of_lt aZ]
    rw [←h3,aS.out.1,aS.out.2,Nat.mul_mod_mul_right,Nat.mul_div_cancel _ (Nat.pow_pos (by decide))]
   rw [bV]at bk;have hT:=zch aW;have ci:=Qh (AI (zaq HL.out.qbelow) ((zar 4294967296 B).trans bU));have eC:=zbE B;have dx:=Qh bk;have HT:=Qh hT;have di:K≤maxLen:=by simp [maxLen];omega
   clear bw aZ bU bV bk hT aW aL Z ap;go_wp2_with fail;refine cP.mono ?_;rintro e w8 ⟨rfl,rfl⟩;go_wp2_with fail;refine dx.out.mono ?_;rintro e w9 ⟨A9,n9,c9,r9,rfl,eM,de,dj,dn,e6,cp,p9⟩;have cU:=Qh cp;have cW:=HT.out.pu p9;have PF:=cq.trans p9;clear cp;go_wp2;go_ret2;exact⟨_,_,K,zB B,A9,n9,c9,r9,rfl,cW,dj,by omega,by omega,di,de,ci.out.1,dn,ci.out.2,cU.out,PF⟩
  ·have ej:((j+1:Nat):Int) - 1=(j:Int):=by omega
   rw [ej];obtain⟨k,hk⟩:∃k,k=j+m:=⟨_,rfl⟩
   obtain⟨k1,hk1⟩:∃k1,k1=j+m - 1:=⟨_,rfl⟩
   obtain⟨k2,hk2⟩:∃k2,k2=j+m - 2:=⟨_,rfl⟩
   obtain⟨hi,hhi⟩:∃x,N[k]?=some x:=⟨_,List.getElem?_eq_getElem (by omega)⟩
   obtain⟨a8,hmid⟩:∃x,N[k1]?=some x:=⟨_,List.getElem?_eq_getElem (by omega)⟩
   obtain⟨low,hlow⟩:∃x,N[k2]?=some x:=⟨_,List.getElem?_eq_getElem (by omega)⟩
   have dP:=G hi (List.mem_of_getElem? hhi);have bI:=G a8 (List.mem_of_getElem? hmid);have bF:=G low (List.mem_of_getElem? hlow);have x1:=Z.cell hhi;have x2:=Z.cell hmid;have x3:=Z.cell hlow;rw [hk]at hhi;rw [hk1]at hmid;rw [hk2]at hlow;have y:=cB.out;have i:=bH.out;rw [ao.out.1]at y;rw [ao.out.2]at i;obtain⟨lo,sg,h',dk,cx,b4,cO,bX,bB,bs,bo,dw,ca,aQ,cl,bT⟩:=zmc N H j m hi a8 low top next G O df Hm.out.symm (by omega) (by rw [←P.out];exact HL.out.rest) aR hhi hmid hlow y i
   subst dk;have eG:(j:Int)+(m:Int)=(k:Int):=by omega
   have eK:(k:Int) - 1=(k1:Int):=by omega
   have e8:(k:Int) - 2=(k2:Int):=by omega
   have eo:IntKind.i64.wrap (k:Int)=(k:Int):=IntWalk.i64_in _ (by omega);have dU:IntKind.i64.wrap (k1:Int)=(k1:Int):=IntWalk.i64_in _ (by omega);have ei:IntKind.i64.wrap (k2:Int)=(k2:Int):=IntWalk.i64_in _ (by omega);have ep:(0:Int)≤(k:Int):=by omega
   have e7:(k:Int)<(v:Int)+1:=by omega
   have dN:(0:Int)≤(k1:Int):=by omega
   have dK:(k1:Int)<(v:Int)+1:=by omega
   have dV:(0:Int)≤(k2:Int):=by omega
   have dO:(k2:Int)<(v:Int)+1:=by omega
   have u1:=zL (a:=hi) (by omega);have u2:=zL (a:=a8) (by omega);have u3:=zL (a:=low) (by omega);have ce:=fun W=>zop hi a8 low top next W dw bI bF bJ bz aR
   have d7:=Qh ce;have HP:=Qh (AI bs (AI bo (AI ca (AI aQ (AI cl bT)))));have o:=Qh (AI cx (AI b4 bX));have Hk:=Qh (AI hk (AI hk1 hk2));have I:Pu wr wr.drew:=(Pu.refl wr).drew;clear hk hk1 hk2 hhi hmid hlow y i ce bs bo ca aQ cl bT bB cx b4 bX ej;go_wp2_with fail;go_region_held3 (fun u=>u.cell? ⟨E,k,none⟩=some (.int .u32 (hi:Int))∧u.cell? ⟨E,k1,none⟩=some (.int .u32 (a8:Int))∧u.cell? ⟨E,k2,none⟩=some (.int .u32 (low:Int)))
    (first|exact⟨I.cellv x1,I.cellv x2,I.cellv x3⟩|go_keep)
    (first| (go_at_call 200;refine(d7.out _).mono ?_;rintro e u5 ⟨q,rfl,cr,bq,cy,p9⟩;replace I:=I.trans p9))
   have cc:0<4294967296^(m - 2):=Nat.pow_pos (by decide);obtain⟨cj,cu⟩:=zmC (Q:=0) cc HP.out.2.2.1 HP.out.2.2.2.1 HP.out.2.2.2.2.1 HP.out.2.2.2.2.2 (by omega) cr bq cy HP.out.1;have cf:=zoC E (v+1) c5 lo sg h' (some ⟨gy,0,none⟩) m c6 H j q u5 (Z.pu I) au.symm aC.1 (by omega) o.out.1 o.out.2.1 (ap.pu I) (fun b off e=>by injection e with e;injection e with e1 _;omega) cO O cr;have ew:=cq.trans I;have bR:=aL.pu I;have bZ:Fr (fun k=>k=E∨k=p.heap.size) L u5:=hF.trans I.fr;have ba:=ap.pu I;have cg:=Qh cf;have GG:=Qh (AI cj cu);have ef:p.heap.size<u5.heap.size:=Nat.lt_of_lt_of_le db I.size;clear cf cj cu bq cy I Z aL hF ap x1 x2 x3 cc;go_wp2_with fail;refine cg.out.mono ?_;rintro e u6 ⟨b,aK,rfl,aO,a0,aG,a7,aP⟩;have bh:=zaL aG;rw [a0]at bh;have ai:=zsl (Y:=zd 4294967296 H) (S:=zd 4294967296 sg) (q:=q) (n:=zd 4294967296 aK) (b:=b.toNat) (M:=4294967296^(m+1)) a7 (by cases b<;>decide) bh HP.out.2.1 GG.out.1 GG.out.2 (by rw [←P.out];exact D);rw [←P.out]at ai;have ag:zd 4294967296 sg<4294967296*Y:=by rw [P.out];exact HP.out.1
   have ez:zd 4294967296 sg/Y<4294967296:=(Nat.div_lt_iff_lt_mul D).2 ag;have ae:=bR.fr aP (by omega);have am:Fr (fun k=>k=E∨k=p.heap.size) L u6:=bZ.trans (aP.mono fun k _ h=> .inl h);have aE:=ba.fr aP (fun _ b off e h=>by injection e with e;injection e with e1 _;omega);have HT:=Qh ai;have d0:=Qh ag;have eJ:j<K:=by omega
   have eI:(0:Int)≤(j:Int):=by omega
   have dS:(j:Int)<(K:Int):=by omega
   have eB:IntKind.i64.wrap ((j:Int) - 1)=(j:Int) - 1:=IntWalk.i64_in _ (by omega);clear ai ag a7 bh aP bZ bR ba cg GG;have aM:∀(d:Nat) (C:List Nat) (u:World),d=zd 4294967296 sg/Y→zd 4294967296 C=zd 4294967296 sg%Y→C.length=m+1→zg 4294967296 C→XA u E (lo++(C++h'))→WA u p.heap.size (List.replicate (j+1) 0++B)→Fr (fun k=>k=E∨k=p.heap.size) L u→zjo X Y j (v+1) (lo++(C++h')) (d::B)∧XA (u.setCell ⟨p.heap.size,j,none⟩ (.int .u32 (d:Int))) E (lo++(C++h'))∧WA (u.setCell ⟨p.heap.size,j,none⟩ (.int .u32 (d:Int))) p.heap.size (List.replicate j 0++d::B)∧Fr (fun k=>k=E∨k=p.heap.size) L (u.setCell ⟨p.heap.size,j,none⟩ (.int .u32 (d:Int))):=by
    intro d C u hd aQ cR cA d1 dd du;refine⟨?_,d1.fr (Fr.one u p.heap.size j _) (by omega),?_,du.trans ((Fr.one u p.heap.size j _).mono fun k _ h=> .inr h)⟩
    ·rw [hd];exact znw D HL.out o.out.1 o.out.2.2 (by rw [cR,o.out.2.1]) cA aQ d0.out
    ·have:=dd.set_ j d;rwa [zin]at this
   have F:=Qh aM;clear aM
   cases b
   ·obtain⟨V,T⟩:=HT.out.1 rfl;have a4:=F.out q aK u6 V T a0 aG aO ae am;have dR:(q:Int)%4294967296=(q:Int):=by omega
    have da:u6.cell? ⟨p.heap.size,j,none⟩=some (.int .u32 0):=by have:=ae.cell (j:=j) (x:=0) (by rw [List.getElem?_append_left (by simp)];simp);simpa using this
    have dc:=ae.frozen j;have z:=Qh a4;clear a4 V T F aO ae am aE HT;go_wp2;go_roundw
    case rel=>exact⟨j,lo++(aK++h'),q::B,by omega,rfl,z.out.1,by simp;omega,z.out.2.1,z.out.2.2.1,z.out.2.2.2⟩
    case measure=>simp [intOf]
   ·obtain⟨er,V,T⟩:=HT.out.2 rfl;obtain⟨d,hd⟩:∃d,d=q - 1:=⟨_,rfl⟩
    have eP:IntKind.u64.wrap ((q:Int) - 1)=(d:Int):=by rw [IntKind.wrap_u64];omega
    have c0:=zpL E (v+1) c5 lo aK h' (some ⟨gy,0,none⟩) m c6 H j u6 aO (by
     have:=au;simp only [List.length_append]at this⊢;rw [a0];have h9:=o.out.2.1;omega) aC.1 (by omega) o.out.1 a0 aE (fun b off e=>by
     injection e with e;injection e with e1 _;omega) aG O
    have dW:(d:Int)%4294967296=(d:Int):=by omega
    rw [←hd]at V;have cv:=Qh (AI V T);have d9:=Qh c0;have dA:Hid (Y<4294967296^(m+1)):=Qh (by rw [P.out];have h8:=zaL O;rw [←Hm.out]at h8;exact Nat.lt_of_lt_of_le h8 (Nat.pow_le_pow_right (by decide) (by omega)));clear c0 hd V T aO aE HT;go_wp2_with fail;refine d9.out.mono ?_;rintro e u7 ⟨b2,C,rfl,bP,bn,bf,cn,bb⟩;have bi:=zaL bf;rw [bn]at bi;have cm:zd 4294967296 C=zd 4294967296 sg%Y:=by
     have h8:=cv.out.2;rw [P.out]at h8;rw [h8,←P.out]at cn;have h9:=Nat.mod_lt (zd 4294967296 sg) D;have e4:=dA.out;generalize zd 4294967296 sg%Y=R at*
     rcases Nat.lt_or_ge b2 1 with h|h
     ·have:b2=0:=by omega
      subst this;omega
     ·rcases Nat.lt_or_ge 1 b2 with h'|h'
      ·have:=Nat.mul_le_mul_left (4294967296^(m+1)) h';omega
      ·have:b2=1:=by omega
       subst this;omega
    have aI:=ae.fr bb (by omega);have bj:=am.trans (bb.mono fun k _ h=> .inl h);have a4:=F.out d C u7 cv.out.1 cm bn bf bP aI bj;have da:u7.cell? ⟨p.heap.size,j,none⟩=some (.int .u32 0):=by have:=aI.cell (j:=j) (x:=0) (by rw [List.getElem?_append_left (by simp)];simp);simpa using this
    have dc:=aI.frozen j;have z:=Qh a4;clear a4 F bP aI ae bj am bb cn cm bi;go_wp2;go_roundw
    case rel=>exact⟨j,lo++(C++h'),d::B,by omega,rfl,z.out.1,by simp;omega,z.out.2.1,z.out.2.2.1,z.out.2.2.2⟩
    case measure=>simp [intOf]
theorem zgN(X Y:Nat)(V:0<Y):zp0 X Y:=by
 rcases Nat.lt_or_ge X Y with hlt|hge
 ·exact zk2 X Y hlt
 rcases Nat.lt_or_ge Y 4294967296 with hsm|hbig
 ·exact znM X Y V hsm
 intro A1 E n1 S k N P R w z i y j o t Q M aw av B v;have K:=zbh A1 E n1 S k N P R w z i (by omega) (by omega) y j o t;obtain⟨s,T,d0⟩:=zoj hge;rw [B,v,T]at K;have C:2≤k:=by
  rcases Nat.lt_or_ge k 2 with e|e
  ·exfalso;have h3:=zaL j;rw [i.wlen,v]at h3;have h5:=Nat.pow_le_pow_right (n:=4294967296) (by decide) (show k≤1 by omega);omega
  ·exact e
 have d1:((k:Int)==1)=false:=by simp;omega
 have x:=fun W (p:Pu w W)=>zoY A1 E n1 S k N P R W (z.pu p) (i.pu p) y j o t Q M C (by rw [B,v];exact hge);rw [B,v]at x;have F:=Qh x;clear B v T x z i y j o t;go_enter Tryz.func177,Tryz.ntmps177;go_wp2_with fail;refine K.mono ?_;rintro e w1 ⟨rfl,D⟩;go_wp2_with fail;refine(F.out _ D).mono ?_;rintro e w2 ⟨A3,n3,c3,q,A4,n4,c4,r,rfl,G,aa,U,af,H,I,O,J,L,hr,p2⟩;have Z:=Qh (AI L hr);have PP:=D.trans p2;clear L hr;go_wp2;go_ret2;exact⟨A3,n3,c3,q,A4,n4,c4,r,rfl,G,aa,U,af,H,I,O,J,Z.out.1,Z.out.2,PP⟩
end
end Go.Proofs.YtckfnbckoclhpaaGreatDoor

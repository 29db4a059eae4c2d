/- zed. -/
import Derived.Test.YtckfnbckoclhpaaGreatDoorC07
import Derived.Test.YtckfnbckoclhpaaGreatDoorC06
import Derived.Test.YtckfnbckoclhpaaGreatDoorC02
import Derived.BigRegion
import Derived.Deep.LoopGhost
import Derived.Test.YtckfnbckoclhpaaGreatDoorC04
import Derived.Test.YtckfnbckoclhpaaGreatDoorShelf
import Derived.Test.YtckfnbckoclhpaaGreatDoorC01
import Derived.Lib.ConvBytes
import Derived.Laws.BytesString
namespace Go.Proofs.YtckfnbckoclhpaaGreatDoor
set_option linter.unusedVariables false
set_option linter.unusedSimpArgs false
set_option maxRecDepth 100000
set_option maxHeartbeats 4000000
section
open Go.RowKit
theorem zpU(a b:Int):Int.gcd b (a%b)=Int.gcd a b:=by have h:=Int.gcd_mul_left_add_right b (a%b) (a/b);rw [Int.mul_ediv_add_emod]at h;rw [←h,Int.gcd_comm]
theorem zpB(a:Int){b:Int}(h:b≠0):(a%b).natAbs<b.natAbs:=by have i:=Int.emod_nonneg a h;have j:=Int.emod_lt a h;omega
theorem ZR.shape{w:World}{v:Value}{z:Int}(h:ZR w v z):∃g A n c,v= .agg #[.bool g,.slice A n c]:=by obtain⟨g,A,n,c,l,rfl,-⟩:=h;exact⟨g,A,n,c,rfl⟩
theorem zfT{W:World}{b:Nat}{x:Bool}{y:Option Addr}{m d:Nat}(k:Blk W b 30 #[.bool x,.slice y m d])(s:Bool)(A:Option Addr)(n c:Nat):Blk ((W.setCell ⟨b,0,none⟩ (.bool s)).setCell ⟨b,1,none⟩ (.slice A n c)) b 30 #[.bool s,.slice A n c]∧Fr (fun i=>i=b) W ((W.setCell ⟨b,0,none⟩ (.bool s)).setCell ⟨b,1,none⟩ (.slice A n c)):=⟨(k.set_ 0 _).set_ 1 _,(Fr.one W b 0 _).trans (Fr.one _ b 1 _)⟩
theorem zqC(v1 v2:Value)(N H:Int)(w:World)(h1:ZR w v1 N)(h2:ZR w v2 H)(b1:N.natAbs<4294967296^E4)(b2:H.natAbs<4294967296^E4):Calls Tryz.prog 149 #[v1,v2] w fun e w'=>∃v,e= .returned v∧ZR w' v ((Int.gcd N H:Nat):Int)∧Pu w w':=by
 obtain⟨s1,D,C,B,rfl⟩:=h1.shape;obtain⟨s2,x,y,t,rfl⟩:=h2.shape;obtain⟨W,hWe⟩:∃W,W=((w.alloc (.cells #[.bool s1,.slice D C B] 30)).alloc (.cells #[.bool s2,.slice x y t] 30)).alloc (.cells #[.bool false,.slice none 0 0] 30):=⟨_,rfl⟩
 have V:Pu w W:=by rw [hWe];exact(((Pu.refl w).alloc _).alloc _).alloc _
 have i:Blk W w.heap.size 30 #[.bool s1,.slice D C B]:=by rw [hWe];exact((Blk.new w _ _).alloc _).alloc _
 have j:Blk W (w.heap.size+1) 30 #[.bool s2,.slice x y t]:=by rw [hWe];exact(Blk.at_new _ _ _ (by simp)).alloc _
 have z:Blk W (w.heap.size+2) 30 #[.bool false,.slice none 0 0]:=by rw [hWe];exact Blk.at_new _ _ _ (by simp)
 have g1:=h1.pu V;have g2:=h2.pu V;clear h1 h2;rw [hWe]at i j z g1 g2 V;clear hWe;go_enter Tryz.func149,Tryz.ntmps149;go_wp2_with fail
 go_loopg [] (H.natAbs) (fun k P=>∃(a b:Int) (Z F:Bool) (D x:Option Addr) (C B y t:Nat),Blk P w.heap.size 30 #[.bool Z,.slice D C B]∧Blk P (w.heap.size+1) 30 #[.bool F,.slice x y t]∧Blk P (w.heap.size+2) 30 #[.bool false,.slice none 0 0]∧ZR P (.agg #[.bool Z,.slice D C B]) a∧ZR P (.agg #[.bool F,.slice x y t]) b∧a.natAbs<4294967296^E4∧b.natAbs<4294967296^E4∧b.natAbs=k∧Int.gcd a b=Int.gcd N H∧Pu w P)
 case atStart=>exact⟨N,H,s1,s2,D,x,C,B,y,t,i,j,z,g1,g2,b1,b2,rfl,rfl,V⟩
 case round=>
  clear i j z g1 g2 b1 b2 V;obtain⟨a,b,Z,F,D,x,C,B,y,t,i,j,z,ha,I,Y,bb,hk,hg,hP⟩:=hrel;have az:wr.cell? ⟨w.heap.size+1,0,none⟩=some (.bool F):=j.cell 0;have aq:wr.cell? ⟨w.heap.size+1,1,none⟩=some (.slice x y t):=j.cell 1;have T:=zaN _ b wr I bb;have Hg:=Qh hg;clear hg;rcases Decidable.em (b=0)with hb0|hb0
  ·subst hb0;have S:=fun W p=>zdn _ a W (ha.pu (w':=W) p) Y;have a5:((a.natAbs:Nat):Int)=((Int.gcd N H:Nat):Int):=by rw [←Hg.out,Int.gcd_zero]
   rw [a5]at S;have aY:=Qh S;clear a5 hk S Y bb;go_wp2_with fail;refine T.mono ?_;rintro e u0 ⟨rfl,o⟩;have aw:u0.cell? ⟨w.heap.size,0,none⟩=some (.bool Z):=(i.pu o).cell 0;have ak:u0.cell? ⟨w.heap.size,1,none⟩=some (.slice D C B):=(i.pu o).cell 1;clear az aq;go_wp2_with fail;refine(aY.out _ o).mono ?_;rintro e u ⟨v,rfl,hz,p⟩;obtain⟨σ,A,n,c,rfl⟩:=hz.shape;have K:=(z.pu o).pu p;have t0:u.cell? ⟨w.heap.size+2,0,none⟩=some (.bool false):=K.cell 0;have t1:u.cell? ⟨w.heap.size+2,1,none⟩=some (.slice none 0 0):=K.cell 1;obtain⟨f0,f1⟩:=K.z2_;obtain⟨r0,r1,rf,rp⟩:=zA K σ A n c;have rz:=rf _ _ hz;have PP:=rp _ ((hP.trans o).trans p) (by omega);clear rf rp;go_wp2;exact bodyPost_ret (v:= .agg #[.bool σ,.slice A n c]) (by simp [results,Tryz.results149,go_sem,r0,r1]) rfl ⟨_,rfl,rz,PP⟩
  ·have bl:(b.sign==0)=false:=by
    have:b.sign≠0:=fun e=>hb0 (Int.sign_eq_zero_iff_zero.1 e);simpa using hb0
   have a0:=fun W p=>zbB _ _ a b W (ha.pu (w':=W) p) (I.pu p) Y bb hb0 (zgN _ _ (by omega));have ax:=zpB a hb0;have ae:=zpU a b;rw [Hg.out]at ae;have aZ:=Qh ae;have ap:=Qh (AI ax hk);have HB:=Qh (AI Y bb);have a4:=Qh a0;clear ae ax hk Y bb hb0 a0;generalize b.sign=σb at*
   go_wp2_with fail;refine T.mono ?_;rintro e u0 ⟨rfl,o⟩;have aw:u0.cell? ⟨w.heap.size,0,none⟩=some (.bool Z):=(i.pu o).cell 0;have ak:u0.cell? ⟨w.heap.size,1,none⟩=some (.slice D C B):=(i.pu o).cell 1;have bf:u0.cell? ⟨w.heap.size+1,0,none⟩=some (.bool F):=(j.pu o).cell 0;have aL:u0.cell? ⟨w.heap.size+1,1,none⟩=some (.slice x y t):=(j.pu o).cell 1;clear az aq;go_wp2_with fail;refine(a4.out _ o).mono ?_;rintro e u ⟨v3,v4,rfl,h3,L,p⟩;obtain⟨σ3,A3,n3,c3,rfl⟩:=h3.shape;obtain⟨M,Q,O,R,rfl⟩:=L.shape;obtain⟨U,hU⟩:∃U,U=(u.alloc (.cells #[.bool σ3,.slice A3 n3 c3] 30)).alloc (.cells #[.bool M,.slice Q O R] 30):=⟨_,rfl⟩
   have bp:w.heap.size+2<u.heap.size+1:=by have h1:=z.lt;have h2:=p.size;have h3:=o.size;omega
   have pU:Pu u U:=by rw [hU];exact((Pu.refl u).alloc _).alloc _
   have k6:Blk U (u.heap.size+1) 30 #[.bool M,.slice Q O R]:=by rw [hU];exact Blk.at_new _ _ _ (by simp)
   have PU:=(o.trans p).trans pU;replace i:=i.pu PU;replace j:=j.pu PU;replace z:=z.pu PU;replace L:=L.pu pU;replace I:=I.pu PU;have X:=hP.trans PU;rw [hU]at i j z k6 L I X;clear T a4 ha h3 o p pU PU hP aw ak bf aL hU;go_wp2_with fail;generalize (u.alloc (.cells #[.bool σ3,.slice A3 n3 c3] 30)).alloc (.cells #[.bool M,.slice Q O R] 30)=U at*
   obtain⟨y0,y1⟩:=j.c2_;obtain⟨x0,x1⟩:=i.c2_;obtain⟨bk,bj⟩:=i.z2_;obtain⟨m0,m1⟩:=k6.c2_;obtain⟨au,J⟩:=zfT i F x y t;obtain⟨_,_,aa,ao⟩:=zA i F x y t;have E:=j.fr J (by show¬w.heap.size+1=w.heap.size;omega);have av:=z.fr J (by show¬w.heap.size+2=w.heap.size;omega);have a6:=k6.fr J (by show¬u.heap.size+1=w.heap.size;omega);obtain⟨bt,bn⟩:=E.c2_;obtain⟨bs,bu⟩:=E.z2_;obtain⟨bo,bq⟩:=a6.c2_;obtain⟨G,ad⟩:=zfT E M Q O R;obtain⟨_,_,af,am⟩:=zA E M Q O R;have a9:=(au.fr ad (by show¬w.heap.size=w.heap.size+1;omega)).drew;have aF:=(av.fr ad (by show¬w.heap.size+2=w.heap.size+1;omega)).drew;replace G:=G.drew;have aA:=(af _ _ (aa _ _ I)).pu ((Pu.refl _).drew);have aB:=(af _ _ (aa _ _ L)).pu ((Pu.refl _).drew);have PP:=(am _ (ao _ X (Nat.le_refl _)) (by omega)).drew;clear ao aa am af i j z k6 au E av a6 J ad I L X;go_region;go_wp2
   go_roundg (a%b).natAbs
   case measure=>have:=ap.out;omega
   case rel=>exact⟨b,a%b,F,M,x,Q,y,t,O,R,a9,G,aF,aA,aB,HB.out.2,Nat.lt_trans ap.out.1 HB.out.2,rfl,aZ.out,PP⟩
def zmF(zs:List Int):Int:=zs.foldl (fun g z=>((Int.gcd g z:Nat):Int)) 0
theorem znf{j:List Int}{i:Nat}{z:Int}(h:j[i]?=some z):zmF (j.take (i+1))=((Int.gcd z (zmF (j.take i)):Nat):Int):=by rw [List.take_add_one,h,zmF,List.foldl_append,Int.gcd_comm];rfl
theorem znc{a b:Int}{K:Nat}(j:a.natAbs<K)(i:b.natAbs<K):((Int.gcd a b:Nat):Int).natAbs<K:=by
 rw [Int.natAbs_natCast];rcases Decidable.em (a=0)with e|e
 ·rw [e,Int.gcd_zero_left];exact i
 ·exact Nat.lt_of_le_of_lt (Int.gcd_le_natAbs_left b e) j
theorem zk6(k:Nat):0<(4294967296:Nat)^k:=Nat.pow_pos (by decide)
theorem zhG{j:List Int}{K:Nat}(t:0<K)(h:∀z∈j,z.natAbs<K):(zmF j).natAbs<K:=by
 have k:∀(l:List Int) (g:Int),g.natAbs<K→(∀z∈l,z.natAbs<K)→(l.foldl (fun g z=>((Int.gcd g z:Nat):Int)) g).natAbs<K:=by
  intro l
  induction l with
  |nil=>intro g i _;exact i
  |cons z l ih=>intro g i o;exact ih _ (znc i (o z (List.mem_cons_self ..))) (fun y p=>o y (List.mem_cons_of_mem _ p))
 exact k j 0 (by simpa using t) h
theorem zqt(A:Option Addr)(n c:Nat)(C:List Int)(w:World)(h:IL w A n c C)(hn:n≤4000000)(hb:∀z∈C,z.natAbs<4294967296^E4):Calls Tryz.prog 102 #[.slice A n c] w fun e w'=>∃v,e= .returned v∧ZR w' v (zmF C)∧Pu w w':=by
 have hl:=h.len;obtain⟨W,hWe⟩:∃W,W=(w.alloc (.cells #[.bool false,.slice none 0 0] 30)).alloc (.cells #[.bool false,.slice none 0 0] 30):=⟨_,rfl⟩
 have S:Pu w W:=by rw [hWe];exact((Pu.refl w).alloc _).alloc _
 have k:Blk W w.heap.size 30 #[.bool false,.slice none 0 0]:=by rw [hWe];exact(Blk.new w _ _).alloc _
 have j:Blk W (w.heap.size+1) 30 #[.bool false,.slice none 0 0]:=by rw [hWe];exact Blk.at_new _ _ _ (by simp)
 rw [hWe]at k j S;clear hWe;have z0:∀W,ZR W (.agg #[.bool false,.slice none 0 0]) (zmF (C.take 0)):=fun W=>⟨false,none,0,0,[],rfl,Sl.nil _ _ _ _,zg.nil _,zcz,(fun e=>by cases e),⟨by simp [maxLen],W32.none _ _⟩,rfl⟩
 have Z0:=Qh z0;have HB:=Qh hb;have L:=zk6 E4;have ah:=Qh L;clear z0 hb L;go_enter Tryz.func102,Tryz.ntmps102;go_wp2_with fail
 go_loopw [8] (fun O I=>∃(i:Nat) (g:Bool) (t:Option Addr) (x o:Nat),i≤n∧O= .int .i64 (i:Int)∧Blk I w.heap.size 30 #[.bool false,.slice none 0 0]∧Blk I (w.heap.size+1) 30 #[.bool g,.slice t x o]∧ZR I (.agg #[.bool g,.slice t x o]) (zmF (C.take i))∧Pu w I) (fun O _=>n - (intOf O).toNat)
 case atStart=>exact⟨0,false,none,0,0,Nat.zero_le _,rfl,k,j,Z0.out _,S⟩
 case round=>
  clear k j S;obtain⟨i,g,t,x,o,hi,rfl,k,j,hz,J⟩:=hrel;have Hz:=Qh hz;clear hz;have aj:wr.cell? ⟨w.heap.size+1,0,none⟩=some (.bool g):=j.cell 0;have af:wr.cell? ⟨w.heap.size+1,1,none⟩=some (.slice t x o):=j.cell 1;by_cases a8:i<n
  ·obtain⟨z,hzi⟩:∃z,C[i]?=some z:=⟨_,List.getElem?_eq_getElem (by omega)⟩
   obtain⟨b,off,T,M,N,P,rfl,a9,x0,x1,hx⟩:=(h.pu J).at_ hzi;have Hx:=Qh hx;have K:=Qh hzi;clear hx hzi;have aA:IntKind.i64.wrap ((i:Int)+1)=(i:Int)+1:=IntWalk.i64_in _ (by omega);have D:Pu wr (wr.alloc (.cells #[.bool T,.slice M N P] 30)):=(Pu.refl wr).alloc _;have y0:(wr.alloc (.cells #[.bool T,.slice M N P] 30)).cell? ⟨w.heap.size+1,0,none⟩=some (.bool g):=(j.pu D).cell 0;have y1:(wr.alloc (.cells #[.bool T,.slice M N P] 30)).cell? ⟨w.heap.size+1,1,none⟩=some (.slice t x o):=(j.pu D).cell 1;clear aj af;go_wp2_with fail;refine(zqC _ _ z (zmF (C.take i)) _ (Hx.out.pu D) (Hz.out.pu D) (HB.out z (List.mem_of_getElem? K.out)) (zhG ah.out fun y hy=>HB.out y (List.mem_of_mem_take hy))).mono ?_;rintro e u ⟨v,rfl,H,p⟩;rw [←znf K.out]at H;obtain⟨Y,U,X,Q,rfl⟩:=H.shape;have PU:=D.trans p;replace k:=k.pu PU;replace j:=j.pu PU;have t0:u.cell? ⟨w.heap.size+1,0,none⟩=some (.bool g):=j.cell 0;have t1:u.cell? ⟨w.heap.size+1,1,none⟩=some (.slice t x o):=j.cell 1;obtain⟨f0,f1⟩:=j.z2_;obtain⟨Z,fr⟩:=zfT j Y U X Q;obtain⟨_,_,E,G⟩:=zA j Y U X Q;have ai:=k.fr fr (by show¬w.heap.size=w.heap.size+1;omega);have B:=E _ _ H;have R:=G _ (J.trans PU) (by omega);have V:=Qh B;clear E G k j fr H B PU D y0 y1 J p x0 x1;go_wp2;go_roundw
   case rel=>exact⟨i+1,Y,U,X,Q,by omega,by go_num,ai,Z,V.out,R⟩
   case measure=>simp [intOf];omega
  ·obtain rfl:i=n:=by omega
   have F:=Hz.out;rw [List.take_of_length_le (by omega)]at F;have t0:wr.cell? ⟨w.heap.size,0,none⟩=some (.bool false):=k.cell 0;have t1:wr.cell? ⟨w.heap.size,1,none⟩=some (.slice none 0 0):=k.cell 1;obtain⟨f0,f1⟩:=k.z2_;obtain⟨r0,r1,E,G⟩:=zA k g t x o;have B:=E _ _ F;have R:=G _ J (Nat.le_refl _);have V:=Qh B;clear E G F B;go_wp2;exact bodyPost_ret (v:= .agg #[.bool g,.slice t x o]) (by simp [results,Tryz.results102,go_sem,r0,r1]) rfl ⟨_,rfl,V.out,R⟩
end
section
open Go.RowKit
theorem zk3:zcE Tryz.prog 74 5 (.int .u8 0) 1 1:=⟨Tryz.underlying74,by kernel_rfl,rfl,by decide⟩
def SlU(w:World)(A:Option Addr)(n c:Nat)(q:List Nat):Prop:=Sl w 1 A n c (wds q)∧∀b off,A=some ⟨b,off,none⟩→∃cs,Blk w b 169 cs
theorem SlU.push{w w':World}{A:Option Addr}{n c:Nat}{q:List Nat}{base k:Nat}{v:Value}{t:List Value}(h:SlU w A n c q)(x:w.ownsRow base 5 1 v k t)(o:w.grownBy w' v.ownBlock):SlU w' A n c q:=by
 have i:∀b off,A=some ⟨b,off,none⟩→v.ownBlock≠some b:=fun b off e=>by obtain⟨p,j⟩:=h.2 b off e;exact zrs x j (by decide)
 refine⟨h.1.fr (Fr.of_grown o) (fun _ b off e y=>i b off e y),fun b off e=>?_⟩;obtain⟨p,j⟩:=h.2 b off e;exact⟨p,j.fr (Fr.of_grown o) (i b off e)⟩
theorem zpa{a b:Nat}(h:a≤b)(n:Nat):a^n≤b^n:=Nat.pow_le_pow_left h n
theorem zqF(a b n:Nat):(a^b)^n=a^(b*n):=(Nat.pow_mul a b n).symm
theorem zqS{a b c d:Nat}(h:a^b<c^d){n:Nat}(i:c^d≤a^n)(j:1<a):b<n:=(Nat.pow_lt_pow_iff_right j).1 (Nat.lt_of_lt_of_le h i)
theorem zqq(N:Nat){L P:Nat}(h:10^L≤P)(i:P<4294967296^N):L<10*N:=by refine zqS (a:=10) (b:=L) (c:=4294967296) (d:=N) (Nat.lt_of_le_of_lt h i) ?_ (by omega);rw [←zqF];exact zpa (by omega) N
theorem zrR{L P:Nat}(h:10^L≤P)(j:P<4294967296^E4):L<40000000000:=by have i:=zqq E4 h j;rw [show E4=4000000000 from rfl]at i;omega
theorem zfJ(v:Value)(z:Int)(w:World)(h:ZR w v z)(hz:z.natAbs<4294967296^E4):Calls Tryz.prog 56 #[v] w fun e w'=>e= .returned (.string ⟨(za7 z).toArray⟩)∧Pu w w':=by
 obtain⟨g,A,n,c,l,rfl,hs,hb,ht,hg,⟨hc,hU⟩,rfl⟩:=h;rw [zaA]at hz;have hn:=zaC (k:=E4) ht hz;rw [show E4=4000000000 from rfl]at hn;have aC:=Qh hz;clear hz;have hl:=hs.wlen;have hW:Pu w (w.alloc (.cells #[.bool g,.slice A n c] 30)):=(Pu.refl w).alloc _;have hS:=hs.pu hW;rcases Decidable.em (l= [])with e|hne
 ·subst e;obtain rfl:n=0:=by simpa using hl.symm
  have e0:za7 (sgn g (zd 4294967296 []))= [48]:=by rw [show zd 4294967296 []=0 from rfl,zc2];rfl
  rw [e0];go_enter Tryz.func56,Tryz.ntmps56;go_wp2;go_ret;exact⟨rfl,hW⟩
 ·have cd:n≠0:=fun e=>hne (List.eq_nil_of_length_eq_zero (by omega));have e0:((n:Int)==0)=false:=by simp;omega
  have kA:Blk (w.alloc (.cells #[.bool g,.slice A n c] 30)) w.heap.size 30 #[.bool g,.slice A n c]:=Blk.new _ _ _;go_enter Tryz.func56,Tryz.ntmps56;go_wp2_with fail
  go_loopg [3,4] (zd 4294967296 l) (fun k ov mv wr=>∃(M:Option Addr) (t F:Nat) (j:List Nat) (A2:Option Addr) (I c2:Nat) (m:List Nat),ov= .slice M t F∧mv= .slice A2 I c2∧wr.ownsRow (w.heap.size+1) 5 1 (.slice M t F) t (dbs j)∧Sl wr 1 A2 I c2 (wds m)∧I≤4000000000∧zg 10 j∧zg 4294967296 m∧zdl m∧zd 10 j+10^j.length*zd 4294967296 m=zd 4294967296 l∧zd 4294967296 m≤k∧j.length<40000000010∧Pu (w.alloc (.cells #[.bool g,.slice A n c] 30)) wr)
  case atStart=>exact⟨none,0,0,[],A,n,c,l,rfl,rfl,World.ownsRow_nil _ _ _ _,hS,by omega,zg.nil _,hb,ht,by simp [zd],Nat.le_refl _,by simp,Pu.refl _⟩
  case round=>
   obtain⟨M,t,F,j,A2,I,c2,m,rfl,rfl,ho,O,ck,x,a4,a8,hv,hk,bM,hP⟩:=hrel;have HV:=Qh hv;clear hv;have a6:=O.wlen;have aE:j.length=t:=by have:=ho.1;simpa using this
   by_cases b0:I=0
   ·obtain rfl:m= []:=List.eq_nil_of_length_eq_zero (by omega);subst b0;have B:zd 10 j=zd 4294967296 l:=by simpa [zd]using HV.out
    have bl:=zdd ht hne;have ae:j≠[]:=fun e=>by rw [e]at B;simp [zd]at B;omega
    have aS:0<t:=by rw [←aE];exact List.length_pos_iff.2 ae
    have ci:=zir (P:=Tryz.prog) (src:=74) (dst:=9) (c:=F) (j.map dby) Tryz.underlying74 Tryz.underlying5 Tryz.underlying9 (by rw [←zqk x];exact Sl.of_own ho) aS;have e1:Lib.trimRightB ((j.map dby).toArray.toList) 48=(zeK (zd 4294967296 l)).map dby:=by rw [List.toList_toArray,zo4 x,zkf (zaq x) (zaH j),zar,B]
    have a0:Calls Tryz.prog 91 #[.string ⟨(j.map dby).toArray⟩,.string ⟨#[48]⟩] wr fun e w'=>e= .returned (.string ⟨((zeK (zd 4294967296 l)).map dby).toArray⟩)∧w'=wr:=by rw [←e1];exact Tryz.strings_TrimRight_one ⟨(j.map dby).toArray⟩ 48 (by decide) wr (by simp [ByteArray.size];omega)
    clear e1;have bH:0<((zeK (zd 4294967296 l)).map dby).length:=by rw [List.length_map,zdX (by omega)];simp
    have cf:((zeK (zd 4294967296 l)).map dby).length≤40000000010:=by
     have h1:=zbE j;have h2:zB j=zeK (zd 4294967296 l):=by rw [zkf (zaq x) (zaH j),zar,B]
     rw [h2]at h1;rw [List.length_map];omega
    have aK:=znW (g:=g) (V:=zd 4294967296 l) (by omega);have aO:za7 (sgn g (zd 4294967296 l))=(if g then [45]else [])++((zeK (zd 4294967296 l)).map dby).reverse:=by rw [←List.map_reverse];exact aK
    clear aK;have aP:=kA.pu hP;have c0:wr.cell? ⟨w.heap.size,0,none⟩=some (.bool g):=aP.cell 0;have X:=Qh aO;have HP:=Qh (hW.trans hP);clear aO B bl ae ho hP O x HV a4 a8 hk hs hS hb ht hg kA aP hW hne aS aE;have aH:∀S:List UInt8,S.reverse=za7 (sgn g (zd 4294967296 l))→0<S.length→S.length≤80000000000→∃N c W,(convert 9 74 (.string ⟨S.toArray⟩)).run Tryz.prog wr= .ok (.slice (some ⟨wr.heap.size,0,none⟩) N c) W∧Calls Tryz.prog 92 #[.slice (some ⟨wr.heap.size,0,none⟩) N c] W fun e w'=>e= .returned (.tuple #[])∧(convert 74 9 (.slice (some ⟨wr.heap.size,0,none⟩) N c)).run Tryz.prog w'= .ok (.string ⟨(za7 (sgn g (zd 4294967296 l))).toArray⟩) w'∧Pu wr w':=by
     intro S hS b4 cj;obtain⟨G,W5,h5,bL,aR⟩:=zom (P:=Tryz.prog) (src:=9) (dst:=74) wr S Tryz.underlying9 Tryz.underlying74 Tryz.underlying5;refine⟨S.length,G,W5,h5,?_⟩;have hH:Sort.Holds zmD W5 wr.heap.size 0 S.toArray:=by rw [aR];exact zgC _ _ _
     refine(AnyE.slices_Reverse Tryz.laysRev zmD (fun _=>rfl) wr.heap.size 0 G S W5 hH (by omega)).mono ?_;rintro e w6 ⟨rfl,n6,h6⟩;rw [aR]at h6;obtain⟨bp,C⟩:=zrV G h6 bL;refine⟨rfl,?_,C⟩;rw [←hS];exact zir S.reverse Tryz.underlying74 Tryz.underlying5 Tryz.underlying9 bp b4
    have Fin:=Qh aH;clear aH;generalize (zeK (zd 4294967296 l)).map dby=D at*
    have cl:(⟨D.toArray⟩:ByteArray).size+(⟨#[45]⟩:ByteArray).size≤9223372036854775807:=by simp [ByteArray.size];omega
    have bg:(⟨D.toArray⟩:ByteArray)++(⟨#[45]⟩:ByteArray)=⟨(D++[45]).toArray⟩:=zpC D [45]
    cases g
    ·obtain⟨N5,G,W5,bj,p⟩:=Fin.out D (by rw [X.out];rfl) bH (by omega);have J:=Qh p;clear p;go_wp2_with fail;refine a0.mono ?_;rintro e w2 ⟨rfl,rfl⟩;go_wp2_with fail;refine J.out.mono ?_;rintro e w3 ⟨rfl,aY,C⟩;have R:=HP.out.trans C;go_wp2;go_ret;exact⟨rfl,R⟩
    ·obtain⟨S5,hS5⟩:∃S5,S5=D++[45]:=⟨_,rfl⟩
     obtain⟨N5,G,W5,bj,p⟩:=Fin.out S5 (by rw [X.out,hS5];simp) (by rw [hS5];simp) (by rw [hS5];simp;omega);rw [←hS5]at bg;clear hS5 Fin X;have J:=Qh p;clear p;go_wp2_with fail;refine a0.mono ?_;rintro e w2 ⟨rfl,rfl⟩;go_wp2_with fail;refine J.out.mono ?_;rintro e w3 ⟨rfl,aY,C⟩;have R:=HP.out.trans C;go_wp2;go_ret;exact⟨rfl,R⟩
   ·have d1:decide ((I:Int)>0)=true:=by simp;omega
    have d2:decide ((0:Int)<(I:Int))=true:=by simp;omega
    have aB:=zdd a8 (fun e=>by rw [e]at a6;simp at a6;omega);have hL:=zrR (L:=j.length) (P:=zd 4294967296 l) (by have:10^j.length*1≤10^j.length*zd 4294967296 m:=Nat.mul_le_mul_left _ aB;have:=HV.out;omega) aC.out;clear aC;go_wp2_with fail;refine(zjx A2 I c2 m 1000000000 _ O (by omega) a4 (by omega) (by omega)).mono ?_;rintro e w1 ⟨A3,n3,c3,q,rfl,cp,co,az,b6,b7,af,p3,aT⟩;have a7:SlU w1 A3 n3 c3 q:=⟨az,aT⟩
    clear aT;go_wp2_with fail;have hM:=Nat.div_add_mod (zd 4294967296 m) 1000000000;have E:=Nat.mod_lt (zd 4294967296 m) (show 1000000000>0 by omega);have aJ:zd 4294967296 q<zd 4294967296 m:=by rw [af];exact Nat.div_lt_self aB (by omega)
    rw [←af]at hM;have ah:zd 10 j+10^j.length*(zd 4294967296 m%1000000000+10^9*zd 4294967296 q)=zd 4294967296 l:=by
     rw [←HV.out]
     congr 2
     rw [show(10:Nat)^9=1000000000 from rfl];omega
    have aI:=zaw ho p3;have aD:=hP.trans p3;clear af hM ho hP O;obtain⟨r0,hr00⟩:∃r0,r0=zd 4294967296 m%1000000000:=⟨_,rfl⟩
    have aL:(zd 4294967296 m:Int)%1000000000=(r0:Int):=by rw [hr00];omega
    rw [←hr00]at ah E;clear hr00;have b5:=Qh aJ;have aG:=Qh ah;clear aJ ah HV;rw [aL];clear aL
    go_loopw [3,5,22] (fun ov rv iv ws=>∃(M:Option Addr) (t F:Nat) (o:List Nat) (r i:Nat),i≤9∧ov= .slice M t F∧rv= .int .u64 (r:Int)∧iv= .int .i64 i∧ws.ownsRow (w.heap.size+1) 5 1 (.slice M t F) t (dbs o)∧o.length=j.length+i∧r<10^(9 - i)∧zg 10 o∧zd 10 o+10^o.length*(r+10^(9 - i)*zd 4294967296 q)=zd 4294967296 l∧SlU ws A3 n3 c3 q∧Pu (w.alloc (.cells #[.bool g,.slice A n c] 30)) ws) (fun _ _ iv _=>9 - (intOf iv).toNat)
    case atStart=>exact⟨M,t,F,j,r0,0,by omega,rfl,rfl,rfl,aI,rfl,E,x,aG.out,a7,aD⟩
    case round=>
     clear aI aD aG E a7 az;obtain⟨A4,Y,c4,o,r,i,hi,rfl,rfl,rfl,y,cm,aA,a5,a9,aU,Q⟩:=hrel;have aN:=Qh a9;have aa:=Qh aA;clear a9 aA;have cn:o.length=Y:=by have:=y.1;simpa using this
     by_cases ce:i<9
     ·have em:(r:Int)%10=((r%10:Nat):Int):=by omega
      have ed:(r:Int)/10=((r/10:Nat):Int):=by omega
      have ad:r%10<10:=Nat.mod_lt _ (by omega);have bc:w.heap.size+1≤wr.heap.size:=by simpa using Q.size
      obtain⟨K,hK⟩:∃K,10^(9 - (i+1))=K:=⟨_,rfl⟩
      have ak:10^(9 - i)=10*K:=by rw [show 9 - i=(9 - (i+1))+1 by omega,Nat.pow_succ,hK,Nat.mul_comm]
      have aQ:r/10<K:=by have:=aa.out;rw [ak]at this;omega
      have H:zd 10 (o++[r%10])+10^(o++[r%10]).length*(r/10+K*zd 4294967296 q)=zd 4294967296 l:=by
       rw [←aN.out,zM,ak,List.length_append,List.length_singleton,Nat.pow_succ,Nat.mul_assoc (10^o.length),Nat.add_assoc,←Nat.mul_add]
       congr 2
       rw [Nat.mul_add,Nat.mul_assoc];omega
      have bq:=Qh aQ;have T:=Qh H;have HK:=Qh hK;clear aQ H hK ak;have aM:∀W:World,(Instr.index 9 (.string ⟨#[48,49,50,51,52,53,54,55,56,57]⟩) (.int .u64 ((r:Int)%10))).run Tryz.prog W= .ok (.int .u8 ((48+r%10:Nat):Int)) W:=by
       intro W;rw [em];clear em;generalize r%10=d at*
       have Z:d=0∨d=1∨d=2∨d=3∨d=4∨d=5∨d=6∨d=7∨d=8∨d=9:=by omega
       rcases Z with hd|hd|hd|hd|hd|hd|hd|hd|hd|hd<;>subst hd<;>rfl
      have cg:r<10^9:=Nat.lt_of_lt_of_le aa.out (Nat.pow_le_pow_right (by omega) (by omega));have Hd:=Qh ad;have bB:=Qh ed;clear em ed;rw [show((48+r%10:Nat):Int)=Int.ofNat (48+r%10)from rfl]at aM;clear ad;go_wp2_with (at_builtin;refine zS zk3 rfl (.tmp 24) (.tmp 28) rfl _ rfl (by simp [Value.oneCell']) rfl rfl y (by simp [maxLen];omega) (by omega) bc ?_);intro A5 G w5 aF U;have bD:=Q.grown U (fun k hk=>by have:=(y.lt k hk).1;simpa using this);have bC:=aU.push y U;have bA:w5.ownsRow (w.heap.size+1) 5 1 (.slice A5 (Y+1) G) (Y+1) (dbs (o++[r%10])):=by show w5.ownsRow _ _ _ _ _ (List.map _ (_++_));rw [List.map_append];exact aF
      clear y U aF aM;go_wp2;go_roundw
      case rel=>exact⟨A5,Y+1,G,o++[r%10],r/10,i+1,by omega,rfl,by rw [bB.out],by go_num,bA,by simp;omega,by rw [HK.out];exact bq.out,a5.snoc Hd.out,by rw [HK.out];exact T.out,bC,bD⟩
      case measure=>simp [intOf];omega
     ·obtain rfl:i=9:=by omega
      have E:r=0:=by have:=aa.out;simp at this;exact this
      have H:zd 10 o+10^o.length*zd 4294967296 q=zd 4294967296 l:=by have:=aN.out;rw [E]at this;simpa using this
      have T:=Qh H;clear H;go_wp2
      go_roundg (zd 4294967296 q)
      case measure=>have:=b5.out;omega
      case rel=>exact⟨A4,Y,c4,o,A3,n3,c3,q,rfl,rfl,y,aU.1,by omega,a5,b6,b7,T.out,Nat.le_refl _,by omega,Q⟩
end
end Go.Proofs.YtckfnbckoclhpaaGreatDoor

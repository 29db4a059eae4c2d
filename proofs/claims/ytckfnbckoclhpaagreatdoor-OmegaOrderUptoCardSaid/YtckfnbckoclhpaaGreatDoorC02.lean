/- zed. -/
import Derived.Test.YtckfnbckoclhpaaGreatDoorProg
import Derived.Test.YtckfnbckoclhpaaGreatDoorC01
import Derived.Deep.QuietTactic
import Derived.Deep.RegionLaw
import Derived.PlainAid
namespace Go.Proofs.YtckfnbckoclhpaaGreatDoor
set_option linter.unusedVariables false
set_option linter.unusedSimpArgs false
set_option maxRecDepth 100000
set_option maxHeartbeats 1000000
section
open Go.RowKit
abbrev wds(l:List Nat):List Value:=l.map fun x:Nat=>Value.int .u32 (x:Int)
theorem Sl.wlen{w:World}{A:Option Addr}{n c:Nat}{l:List Nat}(h:Sl w 1 A n c (wds l)):l.length=n:=by have:=h.1;simpa using this
theorem Sl.wat{w:World}{A:Option Addr}{n c:Nat}{l:List Nat}(h:Sl w 1 A n c (wds l)){j x:Nat}(k:l[j]?=some x):∃b off,A=some ⟨b,off,none⟩∧b<w.heap.size∧w.cell? ⟨b,off+j,none⟩=some (.int .u32 (x:Int)):=by have v:=h.wlen;have:=(List.getElem?_eq_some_iff.1 k).1;obtain⟨b,off,u,e,t,i,p⟩:=h.at_ (j:=j) (by omega);refine⟨b,off,e,t,?_⟩;rw [List.getElem?_map,k]at i;injection i with i;rw [p,←i]
theorem Sl.pre{w:World}{A:Option Addr}{n c:Nat}{p:List Value}(h:Sl w 1 A n c p){k:Nat}(x:k≤n):Sl w 1 A k c (p.take k):=by
 have z:=h.1;refine⟨by simp;omega,Nat.le_trans x h.2.1,fun y=>?_⟩;obtain⟨b,off,e,v,t⟩:=h.2.2 (by omega);refine⟨b,off,e,v,fun j u i=>t j u ?_⟩;rw [List.getElem?_take]at i;split at i
 ·exact i
 ·cases i
theorem zpr(l:List Nat)(k:Nat):wds (l.take k)=(wds l).take k:=by simp [List.map_take]
theorem zbe{l:List Nat}{k x:Nat}(h:l[k]?=some x):zB (l.take (k+1))=if x=0 then zB (l.take k)else l.take (k+1):=by
 have i:l.take (k+1)=l.take k++[x]:=by rw [List.take_add_one,h];rfl
 rw [i];split
 ·rename_i e;rw [e,zcy]
 ·rename_i e;rw [zdh _ e]
theorem zdk(A:Option Addr)(n c:Nat)(l:List Nat)(w:World)(h:Sl w 1 A n c (wds l))(G:n≤100000000000)(t:c≤maxLen):Calls Tryz.prog 100 #[.slice A n c] w fun e w'=>e= .returned (.slice A (zB l).length c)∧w=w':=by
 have H:=h.wlen;have F:=h.2.1;go_enter Tryz.func100,Tryz.ntmps100;go_wp2_with fail
 go_loop [3] (fun i=>∃j:Nat,j≤n∧i= .int .i64 j∧zB l=zB (l.take j)) (fun i=>(intOf i).toNat)
 case atStart=>exact⟨n,Nat.le_refl _,rfl,by rw [List.take_of_length_le (by omega)]⟩
 case round=>
  obtain⟨j,I,rfl,v⟩:=hrel;have HT:=Qh v;clear v;rcases j with _|k
  ·have p:c≤9223372036854775807:=t;go_wp2
   all_goals
    go_ret;exact⟨by rw [HT.out];rfl,rfl⟩
  ·obtain⟨x,hx⟩:∃x,l[k]?=some x:=⟨_,List.getElem?_eq_getElem (by omega)⟩
   obtain⟨b,off,rfl,J,z⟩:=h.wat hx;have y:=Qh hx;clear hx;have C:IntKind.i64.wrap ((k:Int)+1)=(k:Int)+1:=IntWalk.i64_in _ (by omega);have p:c≤9223372036854775807:=t;by_cases e:x=0
   ·subst e;go_wp2
    go_round
    case rel=>exact⟨k,by omega,by go_num,by rw [HT.out,zbe y.out,if_pos rfl]⟩
    case measure=>simp [intOf]
   ·have D:((x:Int)==0)=false:=by simp;omega
    have E:=Qh e;clear e;go_wp2;go_ret;have B:zB l=l.take (k+1):=by rw [HT.out,zbe y.out,if_neg E.out]
    exact⟨by rw [B,List.length_take,Nat.min_eq_left (by omega)];rfl,rfl⟩
def sgn(g:Bool)(v:Nat):Int:=if g then -(v:Int)else(v:Int)
theorem zc2(g:Bool):sgn g 0=0:=by cases g<;>rfl
theorem zaA(g:Bool)(v:Nat):(sgn g v).natAbs=v:=by cases g<;>simp [sgn]
def W32(w:World)(A:Option Addr)(n:Nat):Prop:=0<n→∀b off,A=some ⟨b,off,none⟩→∃cs fz,w.heap[b]?=some (.cells cs 169 fz)
theorem W32.none(w:World)(n:Nat):W32 w none n:=fun _ b off e=>by cases e
theorem W32.fr{S:Nat→Prop}{w w':World}{A:Option Addr}{n:Nat}(h:W32 w A n)(j:Fr S w w')(k:0<n→∀b off,A=some ⟨b,off,.none⟩→¬S b):W32 w' A n:=fun hn b off e=>by obtain⟨t,p,i⟩:=h hn b off e;exact⟨t,p,(j.block b (Array.getElem?_eq_some_iff.1 i).1 (k hn b off e)).trans i⟩
theorem W32.pu{w w':World}{A:Option Addr}{n:Nat}(h:W32 w A n)(i:Pu w w'):W32 w' A n:=h.fr i (fun _ _ _ _ x=>x)
theorem W32.less{w:World}{A:Option Addr}{n m:Nat}(h:W32 w A n)(j:m≤n):W32 w A m:=fun i=>h (Nat.lt_of_lt_of_le i j)
theorem W32.of_blk{w:World}{b off n:Nat}{i:Array Value}(h:Blk w b 169 i):W32 w (some ⟨b,off,.none⟩) n:=fun _ b' j e=>by injection e with e;injection e with e1 _;subst e1;exact⟨i,_,h⟩
theorem W32.of_own{w:World}{base k n m c:Nat}{A:Option Addr}{p:List Value}(h:w.ownsRow base 169 k (.slice A n c) n p):W32 w A m:=fun _ b off e=>by
 rcases h.2 with⟨i,_⟩|⟨g,v,j,i,_,t,_⟩
 ·injection i with hA _ _;rw [hA]at e
  cases e
 ·injection i with hA _ _;rw [hA]at e;injection e with e;injection e with e1 _;subst e1;exact⟨j,_,t⟩
def ZR(w:World)(v:Value)(z:Int):Prop:=∃neg A n c l,v= .agg #[.bool neg,.slice A n c]∧Sl w 1 A n c (wds l)∧zg 4294967296 l∧zdl l∧(neg=true→l≠[])∧(c≤maxLen∧W32 w A n)∧z=sgn neg (zd 4294967296 l)
theorem ZR.pu{w w':World}{v:Value}{z:Int}(h:ZR w v z)(k:Pu w w'):ZR w' v z:=by obtain⟨j,A,n,c,l,t,x,y,p,B,i,C⟩:=h;exact⟨j,A,n,c,l,t,x.pu k,y,p,B,⟨i.1,i.2.pu k⟩,C⟩
theorem zaC{l:List Nat}(j:zdl l){k:Nat}(h:zd 4294967296 l<4294967296^k):l.length≤k:=by
 rcases Decidable.em (l= [])with e|e
 ·subst e;exact Nat.zero_le _
 ·have i:=zfy (b:=4294967296) (by omega) j e;have p:=(Nat.pow_lt_pow_iff_right (a:=4294967296) (by omega)).1 (Nat.lt_of_le_of_lt i h);omega
theorem zch{w:World}{A:Option Addr}{n c:Nat}{l:List Nat}(h:Sl w 1 A n c (wds l)):Sl w 1 A (zB l).length c (wds (zB l)):=by have p:=h.wlen;obtain⟨k,t,e⟩:=zb7 l;have i:=h.pre (k:=k) (by omega);rw [←zpr,←e]at i;have j:=i.wlen;rwa [←j]at i
theorem zoI(g:Bool)(l:List Nat):sgn g (zd 4294967296 l)=sgn (g&&decide (0<(zB l).length)) (zd 4294967296 (zB l)):=by
 rw [zar]
 cases g
 ·rfl
 ·by_cases h:0<(zB l).length
  ·simp [h]
  ·have e:zB l= []:=List.eq_nil_of_length_eq_zero (by omega);have i:zd 4294967296 l=0:=by rw [←zar,e];rfl
   rw [i,zc2,zc2]
def zbi(k:Nat)(A:Option Addr):Prop:=∀b off,A=some ⟨b,off,none⟩→k≤b
theorem zbi.none(k:Nat):zbi k none:=fun _ _ e=>by cases e
theorem zbi.own{w:World}{base k n c:Nat}{e:TypeId}{A:Option Addr}{i:List Value}(h:w.ownsRow base e k (.slice A n c) n i):zbi base A:=ziV h
theorem zbi.le{k j:Nat}{A:Option Addr}(h:zbi k A)(i:j≤k):zbi j A:=fun b off e=>Nat.le_trans i (h b off e)
def Bey(k:Nat)(v:Value):Prop:=∀g A n c,v= .agg #[.bool g,.slice A n c]→zbi k A
theorem Bey.mk{k:Nat}{g:Bool}{A:Option Addr}{n c:Nat}(h:zbi k A):Bey k (.agg #[.bool g,.slice A n c]):=by
 intro t p j v e;injection e with e;have i: [Value.bool g,.slice A n c]= [Value.bool t,.slice p j v]:=by injection e
 injection i with i e2;injection e2 with e2 _;injection e2 with eA _ _;rw [←eA];exact h
theorem zpf(g:Bool)(A:Option Addr)(n c:Nat)(l:List Nat)(w:World)(h:Sl w 1 A n c (wds l))(z:n≤100000000000)(x:c≤maxLen)(D:zg 4294967296 l)(B:W32 w A n):Calls Tryz.prog 63 #[.bool g,.slice A n c] w fun e w'=>∃v,e= .returned v∧ZR w' v (sgn g (zd 4294967296 l))∧(∀k,zbi k A→Bey k v)∧Pu w w':=by
 have C:Pu w (w.alloc (.cells #[.bool false,.slice none 0 0] 30)):=(Pu.refl w).alloc _;have F:=zbE l;have J:=h.wlen;have t:=zdk A n c l _ (h.pu C) z x;have p:∀neg,neg=(g&&decide (0<(zB l).length))→ZR (w.alloc (.cells #[.bool neg,.slice A (zB l).length c] 30)) (.agg #[.bool neg,.slice A (zB l).length c]) (sgn g (zd 4294967296 l)):=fun neg e=>by refine⟨neg,A,_,c,zB l,rfl,zch (h.pu ((Pu.refl w).alloc _)),zaq D,zaH l,fun y E=>?_,⟨x,(B.pu ((Pu.refl w).alloc _)).less (by omega)⟩,by rw [e];exact zoI g l⟩;rw [y,E]at e;simp at e
 have Fin:=Qh p;clear p;generalize (zB l).length=k at*
 go_enter Tryz.func63,Tryz.ntmps63;go_wp2_with fail;refine t.mono ?_;rintro e H ⟨rfl,rfl⟩
 cases g
 ·go_wp2;have i:(w.alloc (.cells #[.bool false,.slice A k c] 30)).cell? ⟨w.heap.size,0,none⟩=some (.bool false):=(Blk.new w _ _).cell 0;have j:(w.alloc (.cells #[.bool false,.slice A k c] 30)).cell? ⟨w.heap.size,1,none⟩=some (.slice A k c):=(Blk.new w _ _).cell 1;refine bodyPost_ret (v:= .agg #[.bool false,.slice A k c]) (by simp [results,Tryz.results63,go_sem,i,j]) rfl ⟨_,rfl,Fin.out false (by simp),fun _ h=>Bey.mk h,(Pu.refl w).alloc _⟩
 ·rcases Nat.eq_zero_or_pos k with h0|h0
  ·subst h0;go_wp2;have i:(w.alloc (.cells #[.bool false,.slice A 0 c] 30)).cell? ⟨w.heap.size,0,none⟩=some (.bool false):=(Blk.new w _ _).cell 0;have j:(w.alloc (.cells #[.bool false,.slice A 0 c] 30)).cell? ⟨w.heap.size,1,none⟩=some (.slice A 0 c):=(Blk.new w _ _).cell 1;refine bodyPost_ret (v:= .agg #[.bool false,.slice A 0 c]) (by simp [results,Tryz.results63,go_sem,i,j]) rfl ⟨_,rfl,Fin.out false (by simp),fun _ h=>Bey.mk h,(Pu.refl w).alloc _⟩
  ·have K:decide (0<k)=true:=by simp [h0]
   have I:decide (0<(k:Int))=true:=by simp;omega
   have G:decide ((k:Int)>0)=true:=by simp;omega
   go_wp2;have i:(w.alloc (.cells #[.bool true,.slice A k c] 30)).cell? ⟨w.heap.size,0,none⟩=some (.bool true):=(Blk.new w _ _).cell 0;have j:(w.alloc (.cells #[.bool true,.slice A k c] 30)).cell? ⟨w.heap.size,1,none⟩=some (.slice A k c):=(Blk.new w _ _).cell 1;refine bodyPost_ret (v:= .agg #[.bool true,.slice A k c]) (by simp [results,Tryz.results63,go_sem,i,j]) rfl ⟨_,rfl,Fin.out true (by simp [h0]),fun _ h=>Bey.mk h,(Pu.refl w).alloc _⟩
theorem zbJ(g:Bool)(A:Option Addr)(n c:Nat)(l:List Nat)(w:World)(h:Sl w 1 A n c (wds l))(x:n≤100000000000)(i:c≤maxLen)(t:zg 4294967296 l)(y:W32 w A n):Calls Tryz.prog 63 #[.bool g,.slice A n c] w fun e w'=>∃v,e= .returned v∧ZR w' v (sgn g (zd 4294967296 l))∧Pu w w':=(zpf g A n c l w h x i t y).mono fun _ _ ⟨v,j,k,_,p⟩=>⟨v,j,k,p⟩
theorem ZR.frBlk{w w':World}{v:Value}{z:Int}{j:Nat}{t:TypeId}{B:Array Value}(h:ZR w v z)(J:Blk w j t B)(C:∀x:Int,Value.int .u32 x∉B.toList)(p:Fr (fun k=>k=j) w w'):ZR w' v z:=by
 obtain⟨y,A,n,c,l,H,E,I,F,G,D,K⟩:=h;have i:0<n→∀b off,A=some ⟨b,off,.none⟩→¬b=j:=E.ne_blk (by omega) J fun u hu=>by simp only [wds,List.mem_map]at hu;obtain⟨x,_,rfl⟩:=hu;exact C _
 exact⟨y,A,n,c,l,H,E.fr p i,I,F,G,⟨D.1,D.2.fr p i⟩,K⟩
theorem ZR.frT{S:Nat→Prop}{w w':World}{v:Value}{z:Int}(h:ZR w v z)(p:Fr S w w')(G:∀g,S g→∃t y B,w.heap[g]?=some (.cells y t B)∧t≠169):ZR w' v z:=by
 obtain⟨x,A,n,c,l,F,I,H,C,D,k,K⟩:=h;have j:0<n→∀b off,A=some ⟨b,off,.none⟩→¬S b:=fun hn b off e hS=>by obtain⟨y,B,J⟩:=k.2 hn b off e;obtain⟨t,M,L,i,E⟩:=G b hS;rw [J]at i;injection i with i;injection i with _ e2;exact E e2.symm
 exact⟨x,A,n,c,l,F,I.fr p j,H,C,D,⟨k.1,k.2.fr p j⟩,K⟩
theorem zA{w:World}{i:Nat}{E:Bool}{D:Option Addr}{C B:Nat}(y:Blk w i 30 #[.bool E,.slice D C B])(j:Bool)(A:Option Addr)(n c:Nat):((w.setCell ⟨i,0,none⟩ (.bool j)).setCell ⟨i,1,none⟩ (.slice A n c)).cell? ⟨i,0,none⟩=some (.bool j)∧((w.setCell ⟨i,0,none⟩ (.bool j)).setCell ⟨i,1,none⟩ (.slice A n c)).cell? ⟨i,1,none⟩=some (.slice A n c)∧(∀v z,ZR w v z→ZR ((w.setCell ⟨i,0,none⟩ (.bool j)).setCell ⟨i,1,none⟩ (.slice A n c)) v z)∧(∀p,Pu p w→p.heap.size≤i→Pu p ((w.setCell ⟨i,0,none⟩ (.bool j)).setCell ⟨i,1,none⟩ (.slice A n c))):=by have t:=(y.set_ 0 (.bool j)).set_ 1 (.slice A n c);have x:Fr (fun k=>k=i) w ((w.setCell ⟨i,0,none⟩ (.bool j)).setCell ⟨i,1,none⟩ (.slice A n c)):=(Fr.one w i 0 _).trans (Fr.one _ i 1 _);refine⟨t.cell 0,t.cell 1,fun v z h=>h.frBlk y (by simp) x,fun p h h0=>h.step x (fun k e=>by omega)⟩
theorem zdp(v:Value)(z:Int)(w:World)(h:ZR w v z)(I:z.natAbs<4294967296^E4):Calls Tryz.prog 84 #[v] w fun e w'=>∃p,e= .returned p∧ZR w' p (-z)∧Pu w w':=by
 obtain⟨g,A,n,c,l,rfl,C,T,K,V,⟨J,N⟩,rfl⟩:=h;rw [zaA]at I;have M:=zaC (k:=E4) K I;rw [show E4=4000000000 from rfl]at M;have X:=C.wlen;have t:Pu w ((w.alloc (.cells #[.bool g,.slice A n c] 30)).alloc (.cells #[.bool false,.slice none 0 0] 30)):=((Pu.refl w).alloc _).alloc _;have S:Blk ((w.alloc (.cells #[.bool g,.slice A n c] 30)).alloc (.cells #[.bool false,.slice none 0 0] 30)) (w.heap.size+1) 30 #[.bool false,.slice none 0 0]:=Blk.at_new _ _ _ (by simp);have R:=zbJ (!g) A n c l _ (C.pu t) (by omega) J T (N.pu t);have D: -sgn g (zd 4294967296 l)=sgn (!g) (zd 4294967296 l):=by cases g<;>simp [sgn]
 rw [D];clear D;go_enter Tryz.func84,Tryz.ntmps84;go_wp2_with fail;refine R.mono ?_;rintro e j ⟨p,rfl,x,G⟩;have i:=S.pu G;have H:=x;obtain⟨F,y,E,B,Y,rfl,_⟩:=H;have W:j.cell? ⟨w.heap.size+1,0,none⟩=some (.bool false):=i.cell 0;have q1:j.cell? ⟨w.heap.size+1,1,none⟩=some (.slice none 0 0):=i.cell 1;have f0:j.frozen? ⟨w.heap.size+1,0,none⟩=false:=i.frozen 0;have Z:j.frozen? ⟨w.heap.size+1,1,none⟩=false:=i.frozen 1;obtain⟨O,r1,L,U⟩:=zA i F y E B;go_wp2;refine bodyPost_ret (v:= .agg #[.bool F,.slice y E B]) (by simp [results,Tryz.results84,go_sem,O,r1]) rfl ⟨_,rfl,L _ _ x,U _ (t.trans G) (by omega)⟩
theorem zdn(v:Value)(z:Int)(w:World)(h:ZR w v z)(H:z.natAbs<4294967296^E4):Calls Tryz.prog 141 #[v] w fun e w'=>∃p,e= .returned p∧ZR w' p (z.natAbs:Int)∧Pu w w':=by obtain⟨g,A,n,c,l,rfl,C,S,J,U,⟨I,M⟩,rfl⟩:=h;rw [zaA]at H⊢;have L:=zaC (k:=E4) J H;rw [show E4=4000000000 from rfl]at L;have W:=C.wlen;have t:Pu w ((w.alloc (.cells #[.bool g,.slice A n c] 30)).alloc (.cells #[.bool false,.slice none 0 0] 30)):=((Pu.refl w).alloc _).alloc _;have R:Blk ((w.alloc (.cells #[.bool g,.slice A n c] 30)).alloc (.cells #[.bool false,.slice none 0 0] 30)) (w.heap.size+1) 30 #[.bool false,.slice none 0 0]:=Blk.at_new _ _ _ (by simp);have O:=zbJ false A n c l _ (C.pu t) (by omega) I S (M.pu t);go_enter Tryz.func141,Tryz.ntmps141;go_wp2_with fail;refine O.mono ?_;rintro e j ⟨p,rfl,x,F⟩;have i:=R.pu F;have G:=x;obtain⟨E,y,D,B,X,rfl,_⟩:=G;have V:j.cell? ⟨w.heap.size+1,0,none⟩=some (.bool false):=i.cell 0;have q1:j.cell? ⟨w.heap.size+1,1,none⟩=some (.slice none 0 0):=i.cell 1;have Z:j.frozen? ⟨w.heap.size+1,0,none⟩=false:=i.frozen 0;have Y:j.frozen? ⟨w.heap.size+1,1,none⟩=false:=i.frozen 1;obtain⟨N,r1,K,T⟩:=zA i E y D B;go_wp2;refine bodyPost_ret (v:= .agg #[.bool E,.slice y D B]) (by simp [results,Tryz.results141,go_sem,N,r1]) rfl ⟨_,rfl,K _ _ x,T _ (t.trans F) (by omega)⟩
theorem zdd{l:List Nat}(i:zdl l)(j:l≠[]):0<zd 4294967296 l:=by have h:=zfy (b:=4294967296) (by omega) i j;have:=Nat.pow_pos (n:=l.length - 1) (show 0<4294967296 by omega);omega
theorem zaN(v:Value)(z:Int)(w:World)(h:ZR w v z)(y:z.natAbs<4294967296^E4):Calls Tryz.prog 15 #[v] w fun e w'=>e= .returned (.int .i64 z.sign)∧Pu w w':=by
 obtain⟨g,A,n,c,l,rfl,x,E,j,B,⟨G,H⟩,rfl⟩:=h;rw [zaA]at y;have D:=zaC (k:=E4) j y;rw [show E4=4000000000 from rfl]at D;have t:=x.wlen;have p:∀s,(sgn g (zd 4294967296 l)).sign=s→Calls Tryz.prog 15 #[.agg #[.bool g,.slice A n c]] w fun e w'=>e= .returned (.int .i64 s)∧Pu w w':=by
  intro s i;by_cases C:n=0
  ·obtain rfl:l= []:=List.eq_nil_of_length_eq_zero (by omega);obtain rfl:s=0:=by rw [←i,show zd 4294967296 []=0 from rfl,zc2];rfl
   subst C;go_enter Tryz.func15,Tryz.ntmps15;go_wp2;go_ret;exact⟨rfl,(Pu.refl w).alloc _⟩
  ·have F:=zdd j (fun e=>by rw [e]at t;simp at t;omega);have I:((n:Int)==0)=false:=by simp;omega
   generalize zd 4294967296 l=V at*
   clear E j B x
   cases g
   ·obtain rfl:s=1:=by rw [←i];exact Int.sign_eq_one_of_pos (by show(0:Int)<(V:Int);omega)
    go_enter Tryz.func15,Tryz.ntmps15;go_wp2;go_ret;exact⟨rfl,(Pu.refl w).alloc _⟩
   ·obtain rfl:s= -1:=by rw [←i];exact Int.sign_eq_neg_one_of_neg (by show -(V:Int)<0;omega)
    go_enter Tryz.func15,Tryz.ntmps15;go_wp2;go_ret;exact⟨rfl,(Pu.refl w).alloc _⟩
 exact p _ rfl
theorem zgK(x:Nat)(w:World)(F:x<18446744073709551616):Calls Tryz.prog 64 #[.int .u64 (x:Int)] w fun e w'=>∃A n c l,e= .returned (.slice A n c)∧n≤2∧c≤2∧Sl w' 1 A n c (wds l)∧zg 4294967296 l∧zdl l∧zd 4294967296 l=x∧W32 w' A n∧Pu w w':=by
 have z:IntKind.u32.wrap (x:Int)=((x%4294967296:Nat):Int):=by rw [IntKind.wrap_u32];omega
 have D:IntKind.u32.wrap ((x:Int)/4294967296)=((x/4294967296:Nat):Int):=by rw [IntKind.wrap_u32];omega
 go_enter Tryz.func64,Tryz.ntmps64;go_wp2_with fail;have j:=Sl.new w 169 #[.int .u32 ((x:Int)%4294967296),.int .u32 ((x:Int)/4294967296)] 1 2 2 rfl (Nat.le_refl _);have e:(#[Value.int .u32 ((x:Int)%4294967296),.int .u32 ((x:Int)/4294967296)]:Array Value).toList=wds [x%4294967296,x/4294967296]:=by simp
 rw [e]at j;refine(zdk _ 2 2 _ _ j (by omega) (by simp [maxLen])).mono ?_;rintro e E ⟨rfl,rfl⟩;have v:=zch j;have p:zg 4294967296 [x%4294967296,x/4294967296]:=by intro y C;simp at C;omega
 have k:zd 4294967296 (zB [x%4294967296,x/4294967296])=x:=by rw [zar];simp only [zd];omega
 have t:=zbE [x%4294967296,x/4294967296];have i:=Qh (AI (zaq p) (AI (zaH [x%4294967296,x/4294967296]) k));have B:=Qh v;clear v k p e j z D;go_wp2;go_ret;exact⟨_,_,2,_,rfl,t,Nat.le_refl _,B.out,i.out.1,i.out.2.1,i.out.2.2,W32.of_blk (Blk.new _ _ _),(Pu.refl w).alloc _⟩
theorem zaG(z:Int)(w:World)(h1: -9223372036854775808≤z)(h2:z≤9223372036854775807):Calls Tryz.prog 30 #[.int .i64 z] w fun e w'=>∃H,e= .returned H∧ZR w' H z∧Pu w w':=by
 have S:Pu w (w.alloc (.cells #[.bool false,.slice none 0 0] 30)):=(Pu.refl w).alloc _;have T:Blk (w.alloc (.cells #[.bool false,.slice none 0 0] 30)) w.heap.size 30 #[.bool false,.slice none 0 0]:=Blk.new _ _ _;rcases Int.lt_or_le z 0 with hz|hz
 ·obtain⟨x,hx⟩:∃x:Nat,z= -(x:Int):=⟨(-z).toNat,by omega⟩
  subst hx;have L:=zgK x (w.alloc (.cells #[.bool false,.slice none 0 0] 30)) (by omega);have d1:decide (-(x:Int)<0)=true:=by simp;omega
  have hu:IntKind.u64.wrap (-(x:Int))=18446744073709551616 - (x:Int):=by rw [IntKind.wrap_u64];omega
  have ag:IntKind.u64.wrap (-(18446744073709551616 - (x:Int)))=(x:Int):=by rw [IntKind.wrap_u64];omega
  go_enter Tryz.func30,Tryz.ntmps30;go_wp2_with fail;refine L.mono ?_;rintro e V ⟨A,n,c,l,rfl,X,U,J,N,hT,I,M,k⟩;have C:=zbJ true A n c l _ J (by omega) (by simp [maxLen];omega) N M;rw [I]at C;have B:=T.pu k;go_wp2_with fail;refine C.mono ?_;rintro e j ⟨H,rfl,p,F⟩;have i:=B.pu F;have G:=p;obtain⟨E,t,D,y,Y,rfl,_⟩:=G;have W:j.cell? ⟨w.heap.size,0,none⟩=some (.bool false):=i.cell 0;have q1:j.cell? ⟨w.heap.size,1,none⟩=some (.slice none 0 0):=i.cell 1;have f0:j.frozen? ⟨w.heap.size,0,none⟩=false:=i.frozen 0;have Z:j.frozen? ⟨w.heap.size,1,none⟩=false:=i.frozen 1;obtain⟨O,r1,K,R⟩:=zA i E t D y;go_wp2;refine bodyPost_ret (v:= .agg #[.bool E,.slice t D y]) (by simp [results,Tryz.results30,go_sem,O,r1]) rfl ⟨_,rfl,?_,R _ ((S.trans k).trans F) (Nat.le_refl _)⟩;exact K _ _ p
 ·obtain⟨x,hx⟩:∃x:Nat,z=(x:Int):=⟨z.toNat,by omega⟩
  subst hx;have L:=zgK x (w.alloc (.cells #[.bool false,.slice none 0 0] 30)) (by omega);have d1:decide ((x:Int)<0)=false:=by simp
  have hu:IntKind.u64.wrap (x:Int)=(x:Int):=by rw [IntKind.wrap_u64];omega
  go_enter Tryz.func30,Tryz.ntmps30;go_wp2_with fail;refine L.mono ?_;rintro e V ⟨A,n,c,l,rfl,X,U,J,N,hT,I,M,k⟩;have C:=zbJ false A n c l _ J (by omega) (by simp [maxLen];omega) N M;rw [I]at C;have B:=T.pu k;go_wp2_with fail;refine C.mono ?_;rintro e j ⟨H,rfl,p,F⟩;have i:=B.pu F;have G:=p;obtain⟨E,t,D,y,Y,rfl,_⟩:=G;have W:j.cell? ⟨w.heap.size,0,none⟩=some (.bool false):=i.cell 0;have q1:j.cell? ⟨w.heap.size,1,none⟩=some (.slice none 0 0):=i.cell 1;have f0:j.frozen? ⟨w.heap.size,0,none⟩=false:=i.frozen 0;have Z:j.frozen? ⟨w.heap.size,1,none⟩=false:=i.frozen 1;obtain⟨O,r1,K,R⟩:=zA i E t D y;go_wp2;refine bodyPost_ret (v:= .agg #[.bool E,.slice t D y]) (by simp [results,Tryz.results30,go_sem,O,r1]) rfl ⟨_,rfl,?_,R _ ((S.trans k).trans F) (Nat.le_refl _)⟩;exact K _ _ p
theorem zdZ(b:Bool)(w:World):Calls Tryz.prog 153 #[.bool b] w fun e w'=>e= .returned (.int .i64 (if b then -1 else 1))∧w=w':=by
 cases b
 ·go_enter Tryz.func153,Tryz.ntmps153;go_wp2;go_ret;exact⟨rfl,rfl⟩
 ·go_enter Tryz.func153,Tryz.ntmps153;go_wp2;go_ret;exact⟨rfl,rfl⟩
def zfY(x y:Nat):Int:=if x<y then -1 else if y<x then 1 else 0
theorem zfv{x y:Nat}(h:x<y):zfY x y= -1:=by simp [zfY,h]
theorem zfE{x y:Nat}(h:y<x):zfY x y=1:=by unfold zfY;rw [if_neg (by omega),if_pos h]
theorem zik(x:Nat):zfY x x=0:=by unfold zfY;rw [if_neg (by omega),if_neg (by omega)]
theorem zhT(b:Nat)(l:List Nat)(k:Nat){x:Nat}(h:l[k]?=some x):zd b l=zd b (l.take k)+b^k*(x+b*zd b (l.drop (k+1))):=by
 have j:=(List.getElem?_eq_some_iff.1 h).1;have e:l=l.take k++(x::l.drop (k+1)):=by
  have i:=List.take_append_drop k l;rw [List.drop_eq_getElem_cons j]at i;have p:l[k]=x:=by have:=List.getElem?_eq_getElem j;rw [h]at this;injection this with this;exact this.symm
  rw [p]at i;exact i.symm
 have i:zd b l=zd b (l.take k++(x::l.drop (k+1))):=by rw [←e]
 rw [i,zaT];simp [zd,Nat.min_eq_left (Nat.le_of_lt j)]
theorem ze8{b:Nat}{l m:List Nat}{k x y:Nat}(t:zg b l)(i:l[k]?=some x)(v:m[k]?=some y)(p:l.drop (k+1)=m.drop (k+1))(B:x<y):zd b l<zd b m:=by
 have z:=(List.getElem?_eq_some_iff.1 i).1;rw [zhT b l k i,zhT b m k v,p];have j:=zaL (t.take k);rw [List.length_take,Nat.min_eq_left (Nat.le_of_lt z)]at j;have C:b^k*(x+1+b*zd b (m.drop (k+1)))≤b^k*(y+b*zd b (m.drop (k+1))):=Nat.mul_le_mul_left _ (by omega);have D:b^k*(x+1+b*zd b (m.drop (k+1)))=b^k*(x+b*zd b (m.drop (k+1)))+b^k:=by rw [show x+1+b*zd b (m.drop (k+1))=(x+b*zd b (m.drop (k+1)))+1 by omega,Nat.mul_add,Nat.mul_one]
 omega
theorem zgr{l:List Nat}{j x:Nat}(h:l[j]?=some x):l.drop j=x::l.drop (j+1):=by
 have i:=(List.getElem?_eq_some_iff.1 h).1;rw [List.drop_eq_getElem_cons i]
 congr 1
 have:=List.getElem?_eq_getElem i;rw [h]at this;injection this with this;exact this.symm
theorem zbn{b:Nat}(i:0<b){l m:List Nat}(j:zg b l)(k:zdl m)(h:l.length<m.length):zd b l<zd b m:=by have p:=zaL j;have t:=zfy i k (fun e=>by rw [e]at h;simp at h);have v:b^l.length≤b^(m.length - 1):=Nat.pow_le_pow_right i (by omega);omega
theorem zbh(A C:Option Addr)(n c m d:Nat)(l k:List Nat)(w:World)(h:Sl w 1 A n c (wds l))(g:Sl w 1 C m d (wds k))(hn:n≤100000000000)(hm:m≤100000000000) (J:zg 4294967296 l) (M:zg 4294967296 k) (T:zdl l) (O:zdl k):Calls Tryz.prog 126 #[.slice A n c,.slice C m d] w fun e w'=>e= .returned (.int .i64 (zfY (zd 4294967296 l) (zd 4294967296 k)))∧Pu w w':=by
 have ll:=h.wlen;have lk:=g.wlen;have I:∀r,zfY (zd 4294967296 l) (zd 4294967296 k)=r→Calls Tryz.prog 126 #[.slice A n c,.slice C m d] w fun e w'=>e= .returned (.int .i64 r)∧Pu w w':=by
  intro r t;by_cases K:n=m
  ·subst K;have e0:((n:Int) !=(n:Int))=false:=by simp
   have G:=Qh t;clear t;go_enter Tryz.func126,Tryz.ntmps126;go_wp2_with fail
   go_loopw [5] (fun v U=>∃j:Nat,j≤n∧v= .int .i64 ((j:Int) - 1)∧l.drop j=k.drop j∧Pu w U) (fun v _=>(intOf v+1).toNat)
   case atStart=>exact⟨n,Nat.le_refl _,rfl,by rw [List.drop_eq_nil_of_le (by omega),List.drop_eq_nil_of_le (by omega)],Pu.refl _⟩
   case round=>
    obtain⟨j,hj,rfl,L,i⟩:=hrel;have p:=Qh L;clear L;rcases j with _|j
    ·have S:r=0:=by
      have:=p.out;simp only [List.drop_zero]at this;rw [←G.out,this,zik]
     subst S;go_wp2;go_ret;exact⟨rfl,i⟩
    ·obtain⟨x,hx⟩:∃x,l[j]?=some x:=⟨_,List.getElem?_eq_getElem (by omega)⟩
     obtain⟨y,hy⟩:∃y,k[j]?=some y:=⟨_,List.getElem?_eq_getElem (by omega)⟩
     obtain⟨b1,o1,F,Z,c1⟩:=(h.pu i).wat hx;obtain⟨b2,o2,V,aa,c2⟩:=(g.pu i).wat hy;subst F V;have E:=Qh hx;have D:=Qh hy;clear hx hy;have N:((j+1:Nat):Int) - 1=(j:Int):=by omega
     rw [N];have W:IntKind.i64.wrap ((j:Int) - 1)=(j:Int) - 1:=IntWalk.i64_in _ (by omega);have X:j<n:=by omega
     by_cases z:x=y
     ·subst z;have R:((x:Int) !=(x:Int))=false:=by simp
      go_wp2_with fail
      go_quiet (fail)
      go_wp2;go_roundw
      case rel=>exact⟨j,by omega,by go_num,by rw [zgr E.out,zgr D.out,p.out],i.drewN _⟩
      case measure=>simp [intOf]
     ·have R:((x:Int) !=(y:Int))=true:=by simp;omega
      rcases Nat.lt_or_gt_of_ne z with h1|h1
      ·have H:decide ((x:Int)<(y:Int))=true:=by simp;omega
       obtain rfl:r= -1:=by rw [←G.out];exact zfv (ze8 J E.out D.out p.out h1)
       go_wp2_with fail
       go_quiet (fail)
       go_wp2_with fail;go_region_with (go_at_call 153;refine(zdZ _ _).mono ?_;rintro e B ⟨rfl,rfl⟩)
       all_goals
        go_wp2;go_ret;exact⟨rfl,by repeat(first|exact i|apply Pu.drewN|apply Pu.drew)⟩
      ·have H:decide ((x:Int)<(y:Int))=false:=by simp;omega
       obtain rfl:r=1:=by rw [←G.out];exact zfE (ze8 M D.out E.out p.out.symm h1)
       go_wp2_with fail
       go_quiet (fail)
       go_wp2_with fail;go_region_with (go_at_call 153;refine(zdZ _ _).mono ?_;rintro e B ⟨rfl,rfl⟩)
       all_goals
        go_wp2;go_ret;exact⟨rfl,by repeat(first|exact i|apply Pu.drewN|apply Pu.drew)⟩
  ·have Y:((n:Int) !=(m:Int))=true:=by simp;omega
   rcases Nat.lt_or_ge n m with h1|h1
   ·obtain rfl:r= -1:=by rw [←t];exact zfv (zbn (by omega) J O (by omega))
    have F:decide ((n:Int)<(m:Int))=true:=by simp;omega
    go_enter Tryz.func126,Tryz.ntmps126;go_wp2_with fail;refine(zdZ _ _).mono ?_;rintro e B ⟨rfl,rfl⟩;go_wp2;go_ret;exact⟨rfl,Pu.refl _⟩
   ·obtain rfl:r=1:=by rw [←t];exact zfE (zbn (by omega) M T (by omega))
    have F:decide ((n:Int)<(m:Int))=false:=by simp;omega
    go_enter Tryz.func126,Tryz.ntmps126;go_wp2_with fail;refine(zdZ _ _).mono ?_;rintro e B ⟨rfl,rfl⟩;go_wp2;go_ret;exact⟨rfl,Pu.refl _⟩
 exact I _ rfl
end
section
open Go.RowKit
theorem eiZ:zcE Tryz.prog 167 30 (.agg #[.bool false,.slice none 0 0]) 2 32:=⟨Tryz.underlying167,by kernel_rfl,rfl,by decide⟩
abbrev Part:=Bool×Option Addr×Nat×Nat
abbrev Part.val(q:Part):Value:= .agg #[.bool q.1,.slice q.2.1 q.2.2.1 q.2.2.2]
abbrev ics(l:List Part):List Value:=l.flatMap fun q=>[.bool q.1,.slice q.2.1 q.2.2.1 q.2.2.2]
theorem zky:∀(l:List Part),(ics l).length=l.length*2
 | []=>rfl
 |p::l=>by have:=zky l;simp only [ics,List.flatMap_cons,List.length_append,List.length_cons,List.length_nil]at this⊢;omega
theorem zme(l i:List Part):ics (l++i)=ics l++ics i:=by simp [ics]
theorem zqN(l:List Part):∀(j:Nat) (q:Part),l[j]?=some q→(ics l)[j*2]?=some (.bool q.1)∧(ics l)[j*2+1]?=some (.slice q.2.1 q.2.2.1 q.2.2.2):=by
 induction l with
 |nil=>intro j p h;simp at h
 |cons q l ih=>
  intro j p h
  cases j with
  |zero=>simp at h;subst h;simp [ics]
  |succ j=>
   have:=ih j p (by simpa using h);have e:(j+1)*2=j*2+2:=by omega
   rw [e];simpa [ics]using this
def zlf(w:World)(l:List Part)(zs:List Int):Prop:=l.length=zs.length∧∀(i:Nat) (q:Part) (z:Int),l[i]?=some q→zs[i]?=some z→ZR w q.val z
theorem zlf.nil(w:World):zlf w [] []:=⟨rfl,fun i q z h=>by simp at h⟩
theorem zlf.pu{w w':World}{l:List Part}{j:List Int}(h:zlf w l j)(p:Pu w w'):zlf w' l j:=⟨h.1,fun i q z k t=>(h.2 i q z k t).pu p⟩
theorem zlf.snoc{w:World}{l:List Part}{p:List Int}{q:Part}{z:Int}(h:zlf w l p)(y:ZR w q.val z):zlf w (l++[q]) (p++[z]):=by
 refine⟨by simp [h.1],fun i x t j k=>?_⟩;have v:=h.1;rcases Nat.lt_trichotomy i l.length with e|e|e
 ·rw [List.getElem?_append_left e]at j;rw [List.getElem?_append_left (by omega)]at k;exact h.2 i x t j k
 ·subst e;rw [List.getElem?_append_right (Nat.le_refl _)]at j;rw [List.getElem?_append_right (by omega)]at k;simp [v]at j k;subst j k;exact y
 ·rw [List.getElem?_eq_none (by simp;omega)]at j
  cases j
def Far(S:Nat→Prop)(q:Part):Prop:=0<q.2.2.1→∀b off,q.2.1=some ⟨b,off,none⟩→¬S b
theorem ZR.far{S:Nat→Prop}{w w':World}{q:Part}{z:Int}(h:ZR w q.val z)(p:Fr S w w')(v:Far S q):ZR w' q.val z:=by
 obtain⟨t,A,n,c,l,e,H,E,y,B,x,I⟩:=h;obtain⟨G,C,F,D⟩:=q;injection e with e0;have i: [Value.bool G,.slice C F D]= [Value.bool t,.slice A n c]:=by injection e0
 injection i with i e2;injection e2 with e2 _;injection e2 with eA en ec;injection i with i;subst i eA en ec;exact⟨_,_,_,_,l,rfl,H.fr p (fun k b off j=>v k b off j),E,y,B,⟨x.1,x.2.fr p (fun k b off j=>v k b off j)⟩,I⟩
theorem ZR.lt{w:World}{q:Part}{z:Int}(h:ZR w q.val z):Far (fun k=>w.heap.size≤k) q:=by
 obtain⟨p,A,n,c,l,e,E,G⟩:=h;obtain⟨D,v,C,y⟩:=q;injection e with e0;have t: [Value.bool D,.slice v C y]= [Value.bool p,.slice A n c]:=by injection e0
 injection t with t e2;injection e2 with e2 _;injection e2 with eA en ec;subst eA en ec;intro x b off j;obtain⟨b',B,i,F,_⟩:=E.2.2 x;dsimp at j;rw [j]at i;injection i with i;injection i with i;subst i;show¬w.heap.size≤b;omega
theorem Bey.far{k:Nat}{q:Part}(h:Bey k q.val):Far (fun b=>b<k) q:=by intro j b off i;have:=h _ _ _ _ rfl b off i;show¬b<k;omega
theorem Far.mono{S T:Nat→Prop}{q:Part}(h:Far S q)(i:∀k,T k→S k):Far T q:=fun hn b off hA hT=>h hn b off hA (i b hT)
structure OI(w:World)(base:Nat)(A:Option Addr)(n c:Nat)(l:List Part)(zs:List Int):Prop where
 own:w.ownsRow base 30 2 (.slice A n c) n (ics l)
 hold:zlf w l zs
 far:∀q∈l,Far (fun k=>(Value.slice A n c).ownBlock=some k) q
theorem OI.len{w:World}{base:Nat}{A:Option Addr}{n c:Nat}{l:List Part}{i:List Int}(h:OI w base A n c l i):l.length=n∧i.length=n:=by have j:=h.own.1;rw [zky]at j;have k:=h.hold.1;omega
theorem OI.pu{w w':World}{base:Nat}{A:Option Addr}{n c:Nat}{l:List Part}{i:List Int}(h:OI w base A n c l i)(p:Pu w w'):OI w' base A n c l i:=⟨zaw h.own p,h.hold.pu p,h.far⟩
theorem OI.nil(w:World)(base:Nat):OI w base none 0 0 [] []:=⟨World.ownsRow_nil _ _ _ _,zlf.nil w,fun q h=>by cases h⟩
theorem OI.push{w w':World}{base g n c C:Nat}{A:Option Addr}{l:List Part}{y:List Int}{q:Part}{z:Int}(h:OI w base A n c l y)(R:ZR w q.val z)(K:Far (fun k=>(Value.slice A n c).ownBlock=some k) q) (I:w'.ownsRow base 30 2 (.slice (some ⟨g,0,none⟩) (n+1) C) (n+1) (ics l++[.bool q.1,.slice q.2.1 q.2.2.1 q.2.2.2])) (H:w.grownBy w' (Value.slice A n c).ownBlock) (x:(Value.slice A n c).ownBlock=some g∨g=w.heap.size):OI w' base (some ⟨g,0,none⟩) (n+1) C (l++[q]) (y++[z]):=by
 have J:=Fr.of_grown H;have e:ics (l++[q])=ics l++[.bool q.1,.slice q.2.1 q.2.2.1 q.2.2.2]:=by rw [zme];rfl
 have v:zlf w (l++[q]) (y++[z]):=h.hold.snoc R;have p:∀j∈l++[q],Far (fun k=>(Value.slice A n c).ownBlock=some k) j:=fun j hq'=>by
  rcases List.mem_append.1 hq' with t|t
  ·exact h.far j t
  ·rw [List.mem_singleton.1 t];exact K
 refine⟨by rw [e];exact I,⟨v.1,fun i j N t G=>(v.2 i j N t G).far J (p j (List.mem_of_getElem? t))⟩,fun j hq'=>?_⟩;rcases x with x|x
 ·rw [x]at p;exact p j hq'
 ·obtain⟨i,E⟩:=List.mem_iff_getElem?.1 hq';have F:i<(y++[z]).length:=by
   have:=(List.getElem?_eq_some_iff.1 E).1;have G:=v.1;omega
  have D:=(v.2 i j _ E (List.getElem?_eq_getElem F)).lt;intro M b off L O;have B:some g=some b:=O;injection B with B;exact D M b off L (by show w.heap.size≤b;omega)
section
variable{P:Program}{w:World}{ops:Array Oper}{rest:List Oper}{o:Oper}{a:Act}{Q:Exit→Act→World→Prop}
theorem zbo{t e:TypeId}{z:Value}{k p:Nat}(E:zcE P t e z k p)(K:o.guard=none)(s x:Operand) (R:o.op= .call {callee:= .builtin .append,args:=#[s,x],argTypes:=#[t,t]}) {base n c q:Nat} {A:Option Addr} {C:List Value} (v:Array Value) (G:v.size=k) (U:∀u∈v.toList,u.oneCell'=true) (V:a.eval s= .slice A n c) (O:a.eval x= .slice (some ⟨q,0,none⟩) 1 1) (S:w.heap.size=q) (B:w.ownsRow base e k (.slice A n c) n C) (F:n+1≤maxLen) (y:(n+1)*p≤140737488355328) (M:base≤w.heap.size) (h:∀g H w',w'.ownsRow base e k (.slice (some ⟨g,0,none⟩) (n+1) H) (n+1) (C++v.toList)→(w.alloc (.cells v e)).grownBy w' (Value.slice A n c).ownBlock→((Value.slice A n c).ownBlock=some g∨g=w.heap.size+1)→wpList P ops Q rest (a.put o.dst (.slice (some ⟨g,0,none⟩) (n+1) H)) w'):wpList P ops Q (o::rest) a (w.alloc (.cells v e)):=by
 obtain⟨i,W,Y,I,J⟩:=info_parts E.info;refine wpList_append_lies _ K s x t R base e i z k p E.under W Y I J E.zs E.pos _ _ _ V (B.alloc _) ⟨w.heap.size,0,none⟩ 1 1 v.toList (by rw [S];exact O) (by simp [G]) (fun j u X=>?_) U (by omega) F y (by simp;omega) (w.heap.size+1) (by simp) ?_
 ·rw [zdM,World.cell?_alloc_new];simpa using X
 ·intro g L w' D N T _;exact h g L w' D N T
end
def IL(w:World)(A:Option Addr)(n c:Nat)(zs:List Int):Prop:=∃l,Sl w 2 A n c (ics l)∧zlf w l zs
theorem IL.pu{w w':World}{A:Option Addr}{n c:Nat}{i:List Int}(h:IL w A n c i)(p:Pu w w'):IL w' A n c i:=by obtain⟨l,j,k⟩:=h;exact⟨l,j.pu p,k.pu p⟩
theorem IL.len{w:World}{A:Option Addr}{n c:Nat}{i:List Int}(h:IL w A n c i):i.length=n:=by obtain⟨l,j,k⟩:=h;have p:=j.1;rw [zky]at p;have:=k.1;omega
theorem IL.nil(w:World)(A:Option Addr)(c:Nat):IL w A 0 c []:=⟨[],Sl.nil _ _ _ _,zlf.nil w⟩
theorem IL.at_{w:World}{A:Option Addr}{n c i:Nat}{t:List Int}{z:Int}(h:IL w A n c t)(p:t[i]?=some z):∃b off g x y j,A=some ⟨b,off,none⟩∧b<w.heap.size∧w.cell? ⟨b,off+i*2,none⟩=some (.bool g)∧w.cell? ⟨b,off+i*2+1,none⟩=some (.slice x y j)∧ZR w (.agg #[.bool g,.slice x y j]) z:=by
 have G:=h.len;have E:=(List.getElem?_eq_some_iff.1 p).1;obtain⟨l,C,v⟩:=h;have F:=v.1;obtain⟨q,hq⟩:∃q,l[i]?=some q:=⟨_,List.getElem?_eq_getElem (by omega)⟩
 obtain⟨b,off,rfl,D,k⟩:=C.2.2 (by omega);obtain⟨B,j⟩:=zqN l i q hq;exact⟨b,off,_,_,_,_,rfl,D,k _ _ B,k _ _ j,v.2 i q z hq p⟩
end
end Go.Proofs.YtckfnbckoclhpaaGreatDoor

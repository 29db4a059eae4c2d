/- The document's numbers (decimal digits as ints). -/
import Derived.Test.YtckfnbckoclhpaaGreatDoorC02
import Derived.Test.YtckfnbckoclhpaaGreatDoorC01
import Derived.Test.YtckfnbckoclhpaaGreatDoorC07
import Derived.Deep.RegionHeld3
import Derived.Laws.MakeOwn
namespace Go.Proofs.YtckfnbckoclhpaaGreatDoor
set_option linter.unusedVariables false
set_option linter.unusedSimpArgs false
set_option maxRecDepth 100000
set_option maxHeartbeats 4000000
section
open Go.RowKit
abbrev dws(l:List Nat):List Value:=l.map fun x:Nat=>Value.int .i64 (x:Int)
theorem Sl.dlen{w:World}{A:Option Addr}{n c:Nat}{l:List Nat}(h:Sl w 1 A n c (dws l)):l.length=n:=by have:=h.1;simpa using this
theorem Sl.dat{w:World}{A:Option Addr}{n c:Nat}{l:List Nat}(h:Sl w 1 A n c (dws l)){j x:Nat}(k:l[j]?=some x):∃b off,A=some ⟨b,off,none⟩∧b<w.heap.size∧w.cell? ⟨b,off+j,none⟩=some (.int .i64 (x:Int)):=by have v:=h.dlen;have:=(List.getElem?_eq_some_iff.1 k).1;obtain⟨b,off,u,e,t,i,p⟩:=h.at_ (j:=j) (by omega);refine⟨b,off,e,t,?_⟩;rw [List.getElem?_map,k]at i;injection i with i;rw [p,←i]
theorem zoT(l:List Nat)(k:Nat):dws (l.take k)=(dws l).take k:=by simp [List.map_take]
theorem zmP{w:World}{A:Option Addr}{n c:Nat}{l:List Nat}(h:Sl w 1 A n c (dws l)):Sl w 1 A (zB l).length c (dws (zB l)):=by have p:=h.dlen;obtain⟨k,t,e⟩:=zb7 l;have i:=h.pre (k:=k) (by omega);rw [←zoT,←e]at i;have j:=i.dlen;rwa [←j]at i
def zcp(w:World)(A:Option Addr):Prop:=∀b off,A=some ⟨b,off,none⟩→∃cs fz,w.heap[b]?=some (.cells cs 3 fz)
theorem zcp.none(w:World):zcp w none:=fun b off e=>by cases e
theorem zcp.fr{S:Nat→Prop}{w w':World}{A:Option Addr}(h:zcp w A)(p:Fr S w w')(t:∀b off j i,A=some ⟨b,off,.none⟩→w.heap[b]?=some (.cells j 3 i)→¬S b):zcp w' A:=fun b off e=>by obtain⟨j,i,k⟩:=h b off e;exact⟨j,i,(p.block b (Array.getElem?_eq_some_iff.1 k).1 (t b off j i e k)).trans k⟩
theorem zcp.pu{w w':World}{A:Option Addr}(h:zcp w A)(i:Pu w w'):zcp w' A:=h.fr i (fun _ _ _ _ _ _ x=>x)
theorem zcp.ne{w:World}{A:Option Addr}{k:Nat}{t:TypeId}{v:Array Value}(h:zcp w A)(j:Blk w k t v)(p:t≠3):∀b off,A=some ⟨b,off,.none⟩→b≠k:=by rintro b off e rfl;obtain⟨x,y,i⟩:=h b off e;unfold Blk at j;rw [j]at i;injection i with i;injection i with _ ht';exact p ht'
theorem zcp.of_own{w:World}{base k n c:Nat}{A:Option Addr}{p:List Value}(h:w.ownsRow base 3 k (.slice A n c) n p):zcp w A:=fun b off e=>by
 rcases h.2 with⟨i,_⟩|⟨g,v,j,i,_,t,_⟩
 ·injection i with hA _ _;rw [hA]at e
  cases e
 ·injection i with hA _ _;rw [hA]at e;injection e with e;injection e with e1 _;subst e1;exact⟨j,_,t⟩
def RZ(w:World)(v:Value)(z:Int):Prop:=∃A n c l,v= .agg #[.int .i64 z.sign,.slice A n c]∧Sl w 1 A n c (dws l)∧zg 10 l∧zdl l∧zd 10 l=z.natAbs∧c≤maxLen∧zcp w A
theorem RZ.fr{w w':World}{v:Value}{z:Int}{p:Nat}{t:TypeId}{F:Array Value}(h:RZ w v z)(I:Blk w p t F)(C:t≠3)(j:Fr (fun k=>k=p) w w'):RZ w' v z:=by obtain⟨A,n,c,l,D,H,E,y,B,G,x⟩:=h;have i:=x.ne I C;exact⟨A,n,c,l,D,H.fr j (fun _ b off e=>i b off e),E,y,B,G,x.fr j (fun b off _ _ e _=>i b off e)⟩
theorem RZ.pu{w w':World}{v:Value}{z:Int}(h:RZ w v z)(i:Pu w w'):RZ w' v z:=by obtain⟨A,n,c,l,k,t,x,j,y,p,B⟩:=h;exact⟨A,n,c,l,k,t.pu i,x,j,y,p,B.pu i⟩
theorem zd8{l:List Nat}(j:zdl l){k:Nat}(h:zd 10 l<10^k):l.length≤k:=by
 rcases Decidable.em (l= [])with e|e
 ·subst e;exact Nat.zero_le _
 ·have i:=zfy (b:=10) (by omega) j e;have p:=(Nat.pow_lt_pow_iff_right (a:=10) (by omega)).1 (Nat.lt_of_le_of_lt i h);omega
theorem zlD{l:List Nat}(i:zdl l)(j:l≠[]):0<zd 10 l:=by have h:=zfy (b:=10) (by omega) i j;have:=Nat.pow_pos (n:=l.length - 1) (show 0<10 by omega);omega
theorem RZ.zero(w:World):RZ w (.agg #[.int .i64 0,.slice none 0 0]) 0:=⟨none,0,0,[],rfl,Sl.nil _ _ _ _,zg.nil _,zcz,rfl,by simp [maxLen],zcp.none w⟩
theorem zjT{s:Int}{V:Nat}(i:s=1∨s= -1)(j:0<V):(s*(V:Int)).sign=s∧(s*(V:Int)).natAbs=V:=by
 rcases i with rfl|rfl
 ·rw [Int.one_mul];exact⟨Int.sign_eq_one_of_pos (by omega),by simp⟩
 ·rw [Int.neg_one_mul];exact⟨Int.sign_eq_neg_one_of_neg (by omega),by simp⟩
theorem znT{s p c t r q v b:Nat}(h:s+p*c=t)(e:b*q+r=v+c):s+p*r+p*b*q=t+p*v:=by
 have i:p*(b*q+r)=p*(v+c):=by rw [e]
 rw [Nat.mul_add,Nat.mul_add,←Nat.mul_assoc]at i;omega
def dat(l:List Nat)(j:Nat):Nat:=l[j]?.getD 0
theorem ze4{l:List Nat}{j x:Nat}(h:l[j]?=some x):dat l j=x:=by simp [dat,h]
theorem zbz{l:List Nat}{j:Nat}(h:l.length≤j):dat l j=0:=by simp [dat,List.getElem?_eq_none h]
theorem zb8(b:Nat)(l:List Nat)(j:Nat):zd b (l.take (j+1))=zd b (l.take j)+b^j*dat l j:=by
 rcases Nat.lt_or_ge j l.length with h|h
 ·rw [zaf (List.getElem?_eq_getElem h),ze4 (List.getElem?_eq_getElem h)]
 ·rw [List.take_of_length_le (by omega),List.take_of_length_le h,zbz h];simp
theorem zg9:zcE Tryz.prog 52 3 (.int .i64 0) 1 8:=⟨Tryz.underlying52,by kernel_rfl,rfl,by decide⟩
theorem zbr{w:World}{base n c r:Nat}{A:Option Addr}{i:List Nat}(h:w.ownsRow base 3 1 (.slice A n c) n (dws i++#[Value.int .i64 (r:Int)].toList)):w.ownsRow base 3 1 (.slice A n c) n (dws (i++[r])):=by show w.ownsRow _ _ _ _ _ (List.map _ (_++_));rw [List.map_append];exact h
theorem zcT(s:Int)(A:Option Addr)(n c:Nat)(l:List Nat)(w:World)(h:Sl w 1 A n c (dws l))(Y:n≤100000000000)(E:c≤maxLen)(Q:zg 10 l)(R:zcp w A)(hs:s=1∨s= -1∨zd 10 l=0):Calls Tryz.prog 77 #[.int .i64 s,.slice A n c] w fun e w'=>∃v,e= .returned v∧RZ w' v (s*(zd 10 l:Int))∧Pu w w':=by
 have Z:=h.dlen;have X:=h.2.1;have O:Pu w (w.alloc (.cells #[.int .i64 0,.slice none 0 0] 54)):=(Pu.refl w).alloc _;have K:Blk (w.alloc (.cells #[.int .i64 0,.slice none 0 0] 54)) w.heap.size 54 #[.int .i64 0,.slice none 0 0]:=Blk.new _ _ _;have N:=h.pu O;go_enter Tryz.func77,Tryz.ntmps77;go_wp2_with fail
 go_loop [5] (fun i=>∃j:Nat,j≤n∧i= .int .i64 j∧zB l=zB (l.take j)) (fun i=>(intOf i).toNat)
 case atStart=>exact⟨n,Nat.le_refl _,rfl,by rw [List.take_of_length_le (by omega)]⟩
 case round=>
  obtain⟨j,hj,rfl,F⟩:=hrel;have HT:=Qh F;clear F;rcases j with _|k
  ·have B:(w.alloc (.cells #[.int .i64 0,.slice none 0 0] 54)).cell? ⟨w.heap.size,0,none⟩=some (.int .i64 0):=K.cell 0;have C:(w.alloc (.cells #[.int .i64 0,.slice none 0 0] 54)).cell? ⟨w.heap.size,1,none⟩=some (.slice none 0 0):=K.cell 1;have G:zd 10 l=0:=by rw [←zar,HT.out];rfl
   have M:=Qh G;clear G;go_wp2;refine bodyPost_ret (v:= .agg #[.int .i64 0,.slice none 0 0]) (by simp [results,Tryz.results77,go_sem,B,C]) rfl ⟨_,rfl,?_,(Pu.refl w).alloc _⟩;rw [M.out,show((0:Nat):Int)=0 from rfl,Int.mul_zero];exact RZ.zero _
  ·obtain⟨x,hx⟩:∃x,l[k]?=some x:=⟨_,List.getElem?_eq_getElem (by omega)⟩
   obtain⟨b,off,rfl,U,L⟩:=N.dat hx;have H:=Qh hx;clear hx;have T:IntKind.i64.wrap ((k:Int)+1)=(k:Int)+1:=IntWalk.i64_in _ (by omega);have P:c≤9223372036854775807:=E;by_cases e:x=0
   ·subst e;go_wp2
    go_round
    case rel=>exact⟨k,by omega,by go_num,by rw [HT.out,zbe H.out,if_pos rfl]⟩
    case measure=>simp [intOf]
   ·have W:((x:Int)==0)=false:=by simp;omega
    have I:zB l=l.take (k+1):=by rw [HT.out,zbe H.out,if_neg e]
    have p:(zB l).length=k+1:=by rw [I,List.length_take];omega
    have t:0<zd 10 l:=by rw [←zar];exact zlD (zaH l) (fun S=>by rw [S]at p;simp at p)
    have y:=zjT (s:=s) (V:=zd 10 l) (by omega) t;have z:RZ (w.alloc (.cells #[.int .i64 s,.slice (some ⟨b,off,none⟩) (k+1) c] 54)) (.agg #[.int .i64 s,.slice (some ⟨b,off,none⟩) (k+1) c]) (s*(zd 10 l:Int)):=by have J:=zmP (h.pu ((Pu.refl w).alloc (.cells #[.int .i64 s,.slice (some ⟨b,off,none⟩) (k+1) c] 54)));rw [p]at J;exact⟨_,_,c,zB l,by rw [y.1],J,zaq Q,zaH l,by rw [zar,y.2],E,R.pu ((Pu.refl w).alloc _)⟩
    have D:Blk (w.alloc (.cells #[.int .i64 s,.slice (some ⟨b,off,none⟩) (k+1) c] 54)) w.heap.size 54 #[.int .i64 s,.slice (some ⟨b,off,none⟩) (k+1) c]:=Blk.new _ _ _;have B:(w.alloc (.cells #[.int .i64 s,.slice (some ⟨b,off,none⟩) (k+1) c] 54)).cell? ⟨w.heap.size,0,none⟩=some (.int .i64 s):=D.cell 0;have C:(w.alloc (.cells #[.int .i64 s,.slice (some ⟨b,off,none⟩) (k+1) c] 54)).cell? ⟨w.heap.size,1,none⟩=some (.slice (some ⟨b,off,none⟩) (k+1) c):=D.cell 1;have Fin:=Qh z;clear e I p t y z;go_wp2;exact bodyPost_ret (v:= .agg #[.int .i64 s,.slice (some ⟨b,off,none⟩) (k+1) c]) (by simp [results,Tryz.results77,go_sem,B,C]) rfl ⟨_,rfl,Fin.out,(Pu.refl w).alloc _⟩
theorem zd2{w:World}{i:Nat}{E:Int}{D:Option Addr}{C B:Nat}(y:Blk w i 54 #[.int .i64 E,.slice D C B])(j:Int)(A:Option Addr)(n c:Nat):((w.setCell ⟨i,0,none⟩ (.int .i64 j)).setCell ⟨i,1,none⟩ (.slice A n c)).cell? ⟨i,0,none⟩=some (.int .i64 j)∧((w.setCell ⟨i,0,none⟩ (.int .i64 j)).setCell ⟨i,1,none⟩ (.slice A n c)).cell? ⟨i,1,none⟩=some (.slice A n c)∧(∀p,Pu p w→p.heap.size≤i→Pu p ((w.setCell ⟨i,0,none⟩ (.int .i64 j)).setCell ⟨i,1,none⟩ (.slice A n c)))∧(∀v z,RZ w v z→RZ ((w.setCell ⟨i,0,none⟩ (.int .i64 j)).setCell ⟨i,1,none⟩ (.slice A n c)) v z):=by have t:=(y.set_ 0 (.int .i64 j)).set_ 1 (.slice A n c);have x:Fr (fun k=>k=i) w ((w.setCell ⟨i,0,none⟩ (.int .i64 j)).setCell ⟨i,1,none⟩ (.slice A n c)):=(Fr.one w i 0 _).trans (Fr.one _ i 1 _);exact⟨t.cell 0,t.cell 1,fun p h F=>h.step x (fun k e=>by omega),fun v z h=>h.fr y (by decide) x⟩
end
section
open Go.RowKit
theorem zi1(A C:Option Addr)(n c m d:Nat)(l k:List Nat)(w:World)(h:Sl w 1 A n c (dws l))(g:Sl w 1 C m d (dws k))(Z:n≤100000000000)(hm:m≤100000000000)(G:zg 10 l)(J:zg 10 k)(M:zdl l)(K:zdl k):Calls Tryz.prog 122 #[.slice A n c,.slice C m d] w fun e w'=>e= .returned (.int .i64 (zfY (zd 10 l) (zd 10 k)))∧Pu w w':=by
 have ll:=h.dlen;have V:=g.dlen;have F:∀r,zfY (zd 10 l) (zd 10 k)=r→Calls Tryz.prog 122 #[.slice A n c,.slice C m d] w fun e w'=>e= .returned (.int .i64 r)∧Pu w w':=by
  intro r t;rcases Nat.lt_trichotomy n m with hnm|hnm|hnm
  ·obtain rfl:r= -1:=by rw [←t];exact zfv (zbn (by omega) G K (by omega))
   go_enter Tryz.func122,Tryz.ntmps122;go_wp2;go_ret;exact⟨rfl,Pu.refl w⟩
  ·subst hnm;have E:=Qh t;clear t;have U:IntKind.i64.wrap ((n:Int) - 1)=(n:Int) - 1:=IntWalk.i64_in _ (by omega);go_enter Tryz.func122,Tryz.ntmps122;go_wp2_with fail
   go_loopw [5] (fun v N=>∃j:Nat,j≤n∧v= .int .i64 ((j:Int) - 1)∧l.drop j=k.drop j∧Pu w N) (fun v _=>(intOf v+1).toNat)
   case atStart=>exact⟨n,Nat.le_refl _,rfl,by rw [List.drop_eq_nil_of_le (by omega),List.drop_eq_nil_of_le (by omega)],Pu.refl w⟩
   case round=>
    obtain⟨j,hj,rfl,I,i⟩:=hrel;have p:=Qh I;clear I;rcases j with _|j
    ·have z:((0:Nat):Int) - 1= -1:=rfl;rw [z];have e:l=k:=by simpa using p.out
     obtain rfl:r=0:=by rw [←E.out,e,zik]
     clear e;go_wp2;go_ret;exact⟨rfl,i⟩
    ·obtain⟨x,hx⟩:∃x,l[j]?=some x:=⟨_,List.getElem?_eq_getElem (by omega)⟩
     obtain⟨y,hy⟩:∃y,k[j]?=some y:=⟨_,List.getElem?_eq_getElem (by omega)⟩
     obtain⟨b1,Y,rfl,S,c1⟩:=(h.pu i).dat hx;obtain⟨b2,o2,rfl,T,X⟩:=(g.pu i).dat hy;have D:=Qh hx;have B:=Qh hy;clear hx hy;have z:((j+1:Nat):Int) - 1=(j:Int):=by omega
     rw [z];have O:IntKind.i64.wrap ((j:Int) - 1)=(j:Int) - 1:=IntWalk.i64_in _ (by omega);have Q:j<n:=by omega
     have P:(0:Int)≤(j:Int):=by omega
     have R:(j:Int)<(n:Int):=by omega
     rcases Nat.lt_trichotomy x y with hxy|hxy|hxy
     ·obtain rfl:r= -1:=by rw [←E.out];exact zfv (ze8 G D.out B.out p.out hxy)
      have H:decide ((x:Int)<(y:Int))=true:=by simp;omega
      go_wp2_with fail
      go_quiet (fail)
      go_wp2;go_ret
      first|exact⟨rfl,i.drewN _⟩|exact⟨rfl,(i.drewN _).drewN _⟩
     ·subst hxy;have H:decide ((x:Int)<(x:Int))=false:=by simp
      have L:decide ((x:Int)>(x:Int))=false:=by simp
      go_wp2_with fail
      go_quiet (fail)
      go_wp2_with fail
      go_quiet (fail)
      go_wp2;go_roundw
      case rel=>exact⟨j,by omega,rfl,by rw [zgr D.out,zgr B.out,p.out],i.drewN _⟩
      case measure=>simp [intOf]
     ·obtain rfl:r=1:=by rw [←E.out];exact zfE (ze8 J B.out D.out p.out.symm hxy)
      have H:decide ((x:Int)<(y:Int))=false:=by simp;omega
      have L:decide ((x:Int)>(y:Int))=true:=by simp;omega
      have W:decide ((y:Int)<(x:Int))=true:=by simp;omega
      go_wp2_with fail
      go_quiet (fail)
      go_wp2_with fail
      go_quiet (fail)
      go_wp2;go_ret
      first|exact⟨rfl,i.drewN _⟩|exact⟨rfl,(i.drewN _).drewN _⟩
  ·obtain rfl:r=1:=by rw [←t];exact zfE (zbn (by omega) J M (by omega))
   go_enter Tryz.func122,Tryz.ntmps122;go_wp2;go_ret;exact⟨rfl,Pu.refl w⟩
 exact F _ rfl
end
section
open Go.RowKit
theorem zml{l k i:List Nat}{j p q r:Nat}(v:i.length=j)(t:zd 10 i+10^j*p=zd 10 (l.take j)+zd 10 (k.take j))(e:10*q+r=dat l j+dat k j+p):zd 10 (i++[r])+10^(j+1)*q=zd 10 (l.take (j+1))+zd 10 (k.take (j+1)):=by rw [zM,v,Nat.pow_succ,zb8,zb8];have:=znT t e;rw [Nat.mul_add]at this;omega
theorem zoq(A C:Option Addr)(n c m d:Nat)(l k:List Nat)(w:World)(h:Sl w 1 A n c (dws l))(g:Sl w 1 C m d (dws k))(hn:n≤10000)(hm:m≤10000)(hl:zg 10 l)(hk:zg 10 k):Calls Tryz.prog 121 #[.slice A n c,.slice C m d] w fun e w'=>∃A' n' c' o,e= .returned (.slice A' n' c')∧n'≤n+m+1∧c'≤maxLen∧Sl w' 1 A' n' c' (dws o)∧zcp w' A'∧zg 10 o∧zd 10 o=zd 10 l+zd 10 k∧Pu w w':=by
 have ll:=h.dlen;have lk:=g.dlen;obtain⟨M,hM⟩:∃M,M=max n m:=⟨_,rfl⟩
 have aL:n≤M:=by omega
 have aJ:m≤M:=by omega
 have aN:M≤n+m:=by omega
 have aI:M=n∨M=m:=by omega
 clear hM;go_enter Tryz.func121,Tryz.ntmps121;go_wp2_with fail
 go_loopw [5,6,7] (fun ov cv iv ws=>∃(j i T:Nat) (Y:Option Addr) (D:List Nat),j≤M+1∧(j=M+1→i=0)∧ov= .slice Y j T∧cv= .int .i64 (i:Int)∧iv= .int .i64 (j:Int)∧i≤1∧ws.ownsRow w.heap.size 3 1 (.slice Y j T) j (dws D)∧D.length=j∧zg 10 D∧zd 10 D+10^j*i=zd 10 (l.take j)+zd 10 (k.take j)∧Pu w ws) (fun _ _ iv _=>M+2 - (intOf iv).toNat)
 case atStart=>exact⟨0,0,0,none,[],by omega,fun _=>rfl,rfl,rfl,rfl,by omega,World.ownsRow_nil _ _ _ _,rfl,zg.nil _,by simp [zd],Pu.refl w⟩
 case round=>
  obtain⟨j,i,T,Y,D,hj,af,rfl,rfl,rfl,aF,v,H,I,hv,z⟩:=hrel;have HV:=Qh hv;have a0:=Qh af;clear hv af;have B:=z.size;by_cases am:M≤j∧i=0
  ·obtain⟨aM,rfl⟩:=am;have aa:zd 10 D=zd 10 l+zd 10 k:=by
    have:=HV.out;rw [List.take_of_length_le (by omega),List.take_of_length_le (by omega)]at this;omega
   have ak:=Qh aa;have aq:=zci v;have hS:=Sl.of_own v;have hI:=zcp.of_own v;clear aa v;go_wp2;go_ret;exact⟨Y,j,T,rfl,by omega,aq.2,D,hS,hI,I,ak.out,z⟩
  ·have aG:j≤M:=by
    have:=a0.out;omega
   have aH:IntKind.i64.wrap ((j:Int)+1)=(j:Int)+1:=IntWalk.i64_in _ (by omega);have ap:dat l j≤9:=by
    rcases Nat.lt_or_ge j l.length with e|e
    ·rw [ze4 (List.getElem?_eq_getElem e)];have:=hl _ (List.getElem_mem e);omega
    ·rw [zbz e];omega
   have au:dat k j≤9:=by
    rcases Nat.lt_or_ge j k.length with e|e
    ·rw [ze4 (List.getElem?_eq_getElem e)];have:=hk _ (List.getElem_mem e);omega
    ·rw [zbz e];omega
   obtain⟨x,hx⟩:∃x,x=dat l j:=⟨_,rfl⟩
   obtain⟨y,hy⟩:∃y,y=dat k j:=⟨_,rfl⟩
   rw [←hx]at ap;rw [←hy]at au;have Z:=Nat.div_add_mod (x+y+i) 10;have V:=Nat.mod_lt (x+y+i) (show 10>0 by omega);have W:(x+y+i)/10≤1:=by omega
   have ae:j=M→(x+y+i)/10=0:=by intro e;have h1:dat l j=0:=zbz (by omega);have h2:dat k j=0:=zbz (by omega);rw [hx,hy,h1,h2];omega
   have X:((i:Int)+(x:Int)+(y:Int))%10=(((x+y+i)%10:Nat):Int):=by omega
   have L:((i:Int)+(x:Int)+(y:Int))/10=(((x+y+i)/10:Nat):Int):=by omega
   have O:zd 10 (D++[(x+y+i)%10])+10^(j+1)*((x+y+i)/10)=zd 10 (l.take (j+1))+zd 10 (k.take (j+1)):=zml H HV.out (by rw [Z,hx,hy]);have S:=Qh hx;have U:=Qh hy;have E:=Qh O;have Q:=Qh ae;clear O ae Z;generalize (x+y+i)/10=q at*
   generalize (x+y+i)%10=r at*
   have ad:IntKind.i64.wrap ((i:Int)+(x:Int))=(i:Int)+(x:Int):=IntWalk.i64_in _ (by omega);have R:IntKind.i64.wrap ((i:Int)+(x:Int)+(y:Int))=(i:Int)+(x:Int)+(y:Int):=IntWalk.i64_in _ (by omega);clear hx hy;have K:((0:Nat):Int)=0:=rfl;by_cases aK:j<n<;>by_cases hjm:j<m
   ·obtain⟨q1,o1,rfl,P,cx⟩:=(h.pu z).dat (j:=j) (x:=x) (by rw [S.out,dat,List.getElem?_eq_getElem (by omega)];rfl);obtain⟨q2,o2,rfl,aj,av⟩:=(g.pu z).dat (j:=j) (x:=y) (by rw [U.out,dat,List.getElem?_eq_getElem (by omega)];rfl);clear K;go_wp2_with (at_builtin;refine zS zg9 rfl (.tmp 44) (.tmp 47) rfl #[.int .i64 (r:Int)] rfl (by simp [Value.oneCell']) rfl rfl v (by simp [maxLen];omega) (by omega) B ?_);intro J N w3 t p;have G:=zam z v (Nat.le_refl _) p;have F:=zbr t;clear v p t B z;go_wp2;go_roundw
    case rel=>exact⟨j+1,q,N,J,D++[r],by omega,fun e=>Q.out (by omega),rfl,by rw [L],by go_num,W,F,by simp [H],I.snoc V,E.out,G⟩
    case measure=>simp [intOf];omega
   ·obtain⟨q1,o1,rfl,P,cx⟩:=(h.pu z).dat (j:=j) (x:=x) (by rw [S.out,dat,List.getElem?_eq_getElem (by omega)];rfl);obtain rfl:y=0:=by rw [U.out];exact zbz (by omega)
    rw [K,Int.add_zero]at X L R;clear K;go_wp2_with (at_builtin;refine zS zg9 rfl (.tmp 44) (.tmp 47) rfl #[.int .i64 (r:Int)] rfl (by simp [Value.oneCell']) rfl rfl v (by simp [maxLen];omega) (by omega) B ?_);intro J N w3 t p;have G:=zam z v (Nat.le_refl _) p;have F:=zbr t;clear v p t B z;go_wp2;go_roundw
    case rel=>exact⟨j+1,q,N,J,D++[r],by omega,fun e=>Q.out (by omega),rfl,by rw [L],by go_num,W,F,by simp [H],I.snoc V,E.out,G⟩
    case measure=>simp [intOf];omega
   ·obtain⟨q2,o2,rfl,aj,av⟩:=(g.pu z).dat (j:=j) (x:=y) (by rw [U.out,dat,List.getElem?_eq_getElem (by omega)];rfl);obtain rfl:x=0:=by rw [S.out];exact zbz (by omega)
    rw [K,Int.add_zero]at X L R;clear K ad;go_wp2_with (at_builtin;refine zS zg9 rfl (.tmp 44) (.tmp 47) rfl #[.int .i64 (r:Int)] rfl (by simp [Value.oneCell']) rfl rfl v (by simp [maxLen];omega) (by omega) B ?_);intro J N w3 t p;have G:=zam z v (Nat.le_refl _) p;have F:=zbr t;clear v p t B z;go_wp2;go_roundw
    case rel=>exact⟨j+1,q,N,J,D++[r],by omega,fun e=>Q.out (by omega),rfl,by rw [L],by go_num,W,F,by simp [H],I.snoc V,E.out,G⟩
    case measure=>simp [intOf];omega
   ·obtain rfl:x=0:=by rw [S.out];exact zbz (by omega)
    obtain rfl:y=0:=by rw [U.out];exact zbz (by omega)
    rw [K,Int.add_zero,Int.add_zero]at X L;have ao:i=1:=by omega
    subst ao;have ax:r=1:=by omega
    have P:q=0:=by omega
    subst ax P;clear K ad R X L;go_wp2_with (at_builtin;refine zS zg9 rfl (.tmp 44) (.tmp 47) rfl #[.int .i64 1] rfl (by simp [Value.oneCell']) rfl rfl v (by simp [maxLen];omega) (by omega) B ?_);intro J N w3 t p;have G:=zam z v (Nat.le_refl _) p;have F:=zbr (r:=1) t;clear v p t B z;go_wp2;go_roundw
    case rel=>exact⟨j+1,0,N,J,D++[1],by omega,fun _=>rfl,rfl,rfl,by go_num,W,F,by simp [H],I.snoc V,E.out,G⟩
    case measure=>simp [intOf];omega
theorem zkM{l k i:List Nat}{j b b' r:Nat}(t:i.length=j)(v:zd 10 i+zd 10 (k.take j)=zd 10 (l.take j)+10^j*b)(e:r+dat k j+b=dat l j+10*b'):zd 10 (i++[r])+zd 10 (k.take (j+1))=zd 10 (l.take (j+1))+10^(j+1)*b':=by
 rw [zM,t,Nat.pow_succ,zb8,zb8];have p:10^j*(r+dat k j+b)=10^j*(dat l j+10*b'):=by rw [e]
 rw [Nat.mul_add,Nat.mul_add,Nat.mul_add,←Nat.mul_assoc]at p;omega
theorem zhp(A C:Option Addr)(n c m d:Nat)(l k:List Nat)(w:World)(h:Sl w 1 A n c (dws l))(g:Sl w 1 C m d (dws k))(hn:n≤10000)(hm:m≤10000)(hl:zg 10 l)(hk:zg 10 k)(tk:zdl k)(aA:zd 10 k≤zd 10 l):Calls Tryz.prog 123 #[.slice A n c,.slice C m d] w fun e w'=>∃A' n' c' o,e= .returned (.slice A' n' c')∧n'≤n∧c'≤maxLen∧Sl w' 1 A' n' c' (dws o)∧zcp w' A'∧zg 10 o∧zd 10 o=zd 10 l - zd 10 k∧Pu w w':=by
 have ll:=h.dlen;have lk:=g.dlen;have a5:m≤n:=by
  rcases Nat.lt_or_ge n m with e|e
  ·have:=zbn (b:=10) (by omega) hl tk (by omega);omega
  ·exact e
 go_enter Tryz.func123,Tryz.ntmps123;go_wp2_with fail
 go_loopw [5,6,7] (fun ov cv iv ws=>∃(j b V:Nat) (W:Option Addr) (F:List Nat),j≤n∧ov= .slice W j V∧cv= .int .i64 (-(b:Int))∧iv= .int .i64 (j:Int)∧b≤1∧ws.ownsRow w.heap.size 3 1 (.slice W j V) j (dws F)∧F.length=j∧zg 10 F∧zd 10 F+zd 10 (k.take j)=zd 10 (l.take j)+10^j*b∧Pu w ws) (fun _ _ iv _=>n - (intOf iv).toNat)
 case atStart=>exact⟨0,0,0,none,[],by omega,rfl,rfl,rfl,by omega,World.ownsRow_nil _ _ _ _,rfl,zg.nil _,by simp [zd],Pu.refl w⟩
 case round=>
  obtain⟨j,b,V,W,F,hj,rfl,rfl,rfl,a6,z,I,K,hv,D⟩:=hrel;have HV:=Qh hv;clear hv;have B:=D.size;by_cases aB:j<n
  ·have a7:IntKind.i64.wrap ((j:Int)+1)=(j:Int)+1:=IntWalk.i64_in _ (by omega);obtain⟨x,hx⟩:∃x,x=dat l j:=⟨_,rfl⟩
   obtain⟨y,hy⟩:∃y,y=dat k j:=⟨_,rfl⟩
   have a8:x≤9:=by rw [hx,ze4 (List.getElem?_eq_getElem (by omega))];have:=hl _ (List.getElem_mem (l:=l) (n:=j) (by omega));omega
   have a9:y≤9:=by
    rw [hy];rcases Nat.lt_or_ge j k.length with e|e
    ·rw [ze4 (List.getElem?_eq_getElem e)];have:=hk _ (List.getElem_mem e);omega
    ·rw [zbz e];omega
   obtain⟨q1,o1,rfl,a4,cx⟩:=(h.pu D).dat (j:=j) (x:=x) (by rw [hx,dat,List.getElem?_eq_getElem (by omega)];rfl);have aD:IntKind.i64.wrap (-(b:Int)+(x:Int))= -(b:Int)+(x:Int):=IntWalk.i64_in _ (by omega);have X:IntKind.i64.wrap (-(b:Int)+(x:Int) - (y:Int))= -(b:Int)+(x:Int) - (y:Int):=IntWalk.i64_in _ (by omega);have Z:IntKind.i64.wrap (-(b:Int)+(x:Int) - (y:Int)+10)= -(b:Int)+(x:Int) - (y:Int)+10:=IntWalk.i64_in _ (by omega);have aE:IntKind.i64.wrap (-(b:Int)+(x:Int)+10)= -(b:Int)+(x:Int)+10:=IntWalk.i64_in _ (by omega);have t:j<m→∃q2 U,C=some ⟨q2,U,none⟩∧q2<wr.heap.size∧wr.cell? ⟨q2,U+j,none⟩=some (.int .i64 (y:Int)):=fun e=>(g.pu D).dat (j:=j) (x:=y) (by rw [hy,dat,List.getElem?_eq_getElem (by omega)];rfl);have J:¬j<m→y=0:=fun e=>by rw [hy];exact zbz (by omega)
   have L:=fun r b'=>zkM (b:=b) (b':=b') (r:=r) I HV.out;rw [←hx,←hy]at L;have v:=Qh L;clear L hx hy;have R:((0:Nat):Int)=0:=rfl;by_cases aC:x<y+b
   ·obtain⟨r,hr⟩:∃r:Nat,(r:Int)= -(b:Int)+(x:Int) - (y:Int)+10:=⟨x+10 - y - b,by omega⟩
    have M:r<10:=by omega
    have E:=v.out r 1 (by omega);have N:=Qh E;have T:=Qh hr;have d1:decide (-(b:Int)+(x:Int) - (y:Int)<0)=true:=by simp;omega
    by_cases O:j<m
    ·obtain⟨q2,U,rfl,ah,ak⟩:=t O;clear t J E v R hr;go_wp2_with (at_builtin;refine zS zg9 rfl (.tmp 32) (.tmp 35) rfl #[.int .i64 (-(b:Int)+(x:Int) - (y:Int)+10)] rfl (by simp [Value.oneCell']) rfl rfl z (by simp [maxLen];omega) (by omega) B ?_);intro P Q w3 i p;have H:=zam D z (Nat.le_refl _) p;rw [←T.out]at i;have G:=zbr i;clear z p i B D;go_wp2;go_roundw
     case rel=>exact⟨j+1,1,Q,P,F++[r],by omega,rfl,rfl,by go_num,by omega,G,by simp [I],K.snoc M,N.out,H⟩
     case measure=>simp [intOf];omega
    ·obtain rfl:y=0:=J O;rw [R,Int.sub_zero]at d1;clear t J E v hr X Z;have S:Hid ((r:Int)= -(b:Int)+(x:Int)+10):=Qh (by have:=T.out;omega);clear R;go_wp2_with (at_builtin;refine zS zg9 rfl (.tmp 32) (.tmp 35) rfl #[.int .i64 (-(b:Int)+(x:Int)+10)] rfl (by simp [Value.oneCell']) rfl rfl z (by simp [maxLen];omega) (by omega) B ?_);intro P Q w3 i p;have H:=zam D z (Nat.le_refl _) p;rw [←S.out]at i;have G:=zbr i;clear z p i B D;go_wp2;go_roundw
     case rel=>exact⟨j+1,1,Q,P,F++[r],by omega,rfl,rfl,by go_num,by omega,G,by simp [I],K.snoc M,N.out,H⟩
     case measure=>simp [intOf];omega
   ·obtain⟨r,hr⟩:∃r:Nat,(r:Int)= -(b:Int)+(x:Int) - (y:Int):=⟨x - y - b,by omega⟩
    have M:r<10:=by omega
    have E:=v.out r 0 (by omega);have N:=Qh E;have T:=Qh hr;have d1:decide (-(b:Int)+(x:Int) - (y:Int)<0)=false:=by simp;omega
    by_cases O:j<m
    ·obtain⟨q2,U,rfl,ah,ak⟩:=t O;clear t J E v R hr;go_wp2_with (at_builtin;refine zS zg9 rfl (.tmp 37) (.tmp 39) rfl #[.int .i64 (-(b:Int)+(x:Int) - (y:Int))] rfl (by simp [Value.oneCell']) rfl rfl z (by simp [maxLen];omega) (by omega) B ?_);intro P Q w3 i p;have H:=zam D z (Nat.le_refl _) p;rw [←T.out]at i;have G:=zbr i;clear z p i B D;go_wp2;go_roundw
     case rel=>exact⟨j+1,0,Q,P,F++[r],by omega,rfl,rfl,by go_num,by omega,G,by simp [I],K.snoc M,N.out,H⟩
     case measure=>simp [intOf];omega
    ·obtain rfl:y=0:=J O;rw [R,Int.sub_zero]at d1;have S:Hid ((r:Int)= -(b:Int)+(x:Int)):=Qh (by have:=T.out;omega);clear t J E v hr X Z R;go_wp2_with (at_builtin;refine zS zg9 rfl (.tmp 37) (.tmp 39) rfl #[.int .i64 (-(b:Int)+(x:Int))] rfl (by simp [Value.oneCell']) rfl rfl z (by simp [maxLen];omega) (by omega) B ?_);intro P Q w3 i p;have H:=zam D z (Nat.le_refl _) p;rw [←S.out]at i;have G:=zbr i;clear z p i B D;go_wp2;go_roundw
     case rel=>exact⟨j+1,0,Q,P,F++[r],by omega,rfl,rfl,by go_num,by omega,G,by simp [I],K.snoc M,N.out,H⟩
     case measure=>simp [intOf];omega
  ·obtain rfl:j=n:=by omega
   have Y:zd 10 F=zd 10 l - zd 10 k:=by
    have h1:=HV.out;rw [List.take_of_length_le (by omega),List.take_of_length_le (by omega)]at h1;have h2:=zaL K;rw [I]at h2;rcases(show b=0∨b=1 by omega)with rfl|rfl
    ·omega
    ·omega
   have ai:=Qh Y;have ad:=zci z;have hS:=Sl.of_own z;have hI:=zcp.of_own z;clear Y z;go_wp2;go_ret;exact⟨W,j,V,F,rfl,by omega,ad.2,hS,hI,K,ai.out,D⟩
end
section
open Go.RowKit
theorem zfX(z:Int):z.sign*(z.natAbs:Int)=z:=Int.sign_mul_natAbs z
theorem ze2(z:Int)(h:z≠0):z.sign=1∨z.sign= -1:=by
 rcases Int.lt_trichotomy z 0 with h1|h1|h1
 ·exact .inr (Int.sign_eq_neg_one_of_neg h1)
 ·exact absurd h1 h
 ·exact .inl (Int.sign_eq_one_of_pos h1)
theorem zba{w:World}{b:Nat}{u v:Value}{p:Addr}{x:Value}(i:p.block≠b)(h:w.cell? p=some x):((w.setCell ⟨b,0,none⟩ u).setCell ⟨b,1,none⟩ v).cell? p=some x:=((Fr.one w b 0 u).trans (Fr.one _ b 1 v)).cellv h i
theorem zp3(v1 v2:Value)(t p:Int)(w:World)(h1:RZ w v1 t)(h2:RZ w v2 p)(b1:t.natAbs<10^200)(b2:p.natAbs<10^200):Calls Tryz.prog 78 #[v1,v2] w fun e w'=>∃v',e= .returned v'∧RZ w' v' (t+p)∧Pu w w':=by
 have M:=h1;have O:=h2;obtain⟨D,E,z,l1,rfl,N,au,a8,H,bc,Q⟩:=h1;obtain⟨B,C,y,l2,rfl,P,av,aB,G,bf,S⟩:=h2;have aT:=zd8 a8 (k:=200) (by rw [H];exact b1);have aO:=zd8 aB (k:=200) (by rw [G];exact b2);rw [N.dlen]at aT;rw [P.dlen]at aO;obtain⟨j,e1⟩:∃j,j=t.sign:=⟨_,rfl⟩
 obtain⟨x,e2⟩:∃x,x=p.sign:=⟨_,rfl⟩
 rw [←e1,←e2];obtain⟨W,hWe⟩:∃W,W=((w.alloc (.cells #[.int .i64 j,.slice D E z] 54)).alloc (.cells #[.int .i64 x,.slice B C y] 54)).alloc (.cells #[.int .i64 0,.slice none 0 0] 54):=⟨_,rfl⟩
 have V:Pu w W:=by rw [hWe];exact(((Pu.refl w).alloc _).alloc _).alloc _
 have J:Blk W w.heap.size 54 #[.int .i64 j,.slice D E z]:=by rw [hWe];exact((Blk.new w _ _).alloc _).alloc _
 have L:Blk W (w.heap.size+1) 54 #[.int .i64 x,.slice B C y]:=by rw [hWe];exact(Blk.at_new _ _ _ (by simp)).alloc _
 have F:Blk W (w.heap.size+2) 54 #[.int .i64 0,.slice none 0 0]:=by rw [hWe];exact Blk.at_new _ _ _ (by simp)
 have T:=N.pu V;have R:=P.pu V;have aG:=Q.pu V;have aF:=S.pu V;rcases Decidable.em (t=0)with hz1|hz1
 ·subst hz1;obtain rfl:j=0:=e1;rw [←e2]at O;clear hWe V J L F T R aG aF e2 M H G N P Q S;have PW:Pu w (((w.alloc (.cells #[.int .i64 0,.slice D E z] 54)).alloc (.cells #[.int .i64 x,.slice B C y] 54)).alloc (.cells #[.int .i64 x,.slice B C y] 54)):=(((Pu.refl w).alloc _).alloc _).alloc _;have kk:Blk (((w.alloc (.cells #[.int .i64 0,.slice D E z] 54)).alloc (.cells #[.int .i64 x,.slice B C y] 54)).alloc (.cells #[.int .i64 x,.slice B C y] 54)) (w.heap.size+2) 54 #[.int .i64 x,.slice B C y]:=Blk.at_new _ _ _ (by simp);obtain⟨X,r1⟩:=kk.c2_;have Hf:=Qh (O.pu PW);clear O;go_enter Tryz.func78,Tryz.ntmps78;go_wp2;exact bodyPost_ret (v:= .agg #[.int .i64 x,.slice B C y]) (by simp [results,Tryz.results78,go_sem,X,r1]) rfl ⟨_,rfl,by simpa using Hf.out,PW⟩
 ·rcases Decidable.em (p=0)with hz2|hz2
  ·subst hz2;obtain rfl:x=0:=e2;have d1:(j==0)=false:=by
    have:=ze2 t hz1;simp;omega
   rw [←e1]at M;clear hWe V J L F T R aG aF e1 O H G N P Q S;have PW:Pu w (((w.alloc (.cells #[.int .i64 j,.slice D E z] 54)).alloc (.cells #[.int .i64 0,.slice B C y] 54)).alloc (.cells #[.int .i64 j,.slice D E z] 54)):=(((Pu.refl w).alloc _).alloc _).alloc _;have kk:Blk (((w.alloc (.cells #[.int .i64 j,.slice D E z] 54)).alloc (.cells #[.int .i64 0,.slice B C y] 54)).alloc (.cells #[.int .i64 j,.slice D E z] 54)) (w.heap.size+2) 54 #[.int .i64 j,.slice D E z]:=Blk.at_new _ _ _ (by simp);obtain⟨X,r1⟩:=kk.c2_;have Hf:=Qh (M.pu PW);clear M;go_enter Tryz.func78,Tryz.ntmps78;go_wp2;exact bodyPost_ret (v:= .agg #[.int .i64 j,.slice D E z]) (by simp [results,Tryz.results78,go_sem,X,r1]) rfl ⟨_,rfl,by simpa using Hf.out,PW⟩
  ·have aJ:=ze2 t hz1;have aL:=ze2 p hz2;rw [←e1]at aJ;rw [←e2]at aL;have d1:(j==0)=false:=by simp;omega
   have d2:(x==0)=false:=by simp;omega
   have m1:=zfX t;have m2:=zfX p;rw [←e1]at m1;rw [←e2]at m2;by_cases aS:j=x
   ·subst aS;have d3:(j==j)=true:=by simp
    have U:j*(((t.natAbs+p.natAbs:Nat)):Int)=t+p:=by rw [Int.natCast_add,Int.mul_add,m1,m2]
    have ag:=Qh hWe;have Hz:=Qh U;have hV:=Qh (AI H G);clear hWe U m1 m2 e1 e2 H G M O N P Q S;have i:Pu W (((w.alloc (.cells #[.int .i64 j,.slice D E z] 54)).alloc (.cells #[.int .i64 j,.slice B C y] 54)).alloc (.cells #[.int .i64 0,.slice none 0 0] 54)).drew:=by rw [←ag.out];exact(Pu.refl W).drew
    go_enter Tryz.func78,Tryz.ntmps78;go_wp2_with fail;go_region_held3 (fun u=>u.cell? ⟨w.heap.size,0,none⟩=some (.int .i64 j)∧u.cell? ⟨w.heap.size,1,none⟩=some (.slice D E z)∧u.cell? ⟨w.heap.size+1,0,none⟩=some (.int .i64 j)∧u.cell? ⟨w.heap.size+1,1,none⟩=some (.slice B C y))
     (first|exact⟨(J.pu i).cell 0,(J.pu i).cell 1,(L.pu i).cell 0,(L.pu i).cell 1⟩|exact⟨zba (by dsimp;omega) ((J.pu i).cell 0),zba (by dsimp;omega) ((J.pu i).cell 1),zba (by dsimp;omega) ((L.pu i).cell 0),zba (by dsimp;omega) ((L.pu i).cell 1)⟩|go_keep)
     (first
      | (go_at_call 121;refine(zoq D B E z C y l1 l2 _ (T.pu i) (R.pu i) (by omega) (by omega) au av).mono ?_;rintro e u1 ⟨A3,n3,c3,o,rfl,aH,ah,Z,aa,ad,ae,p3⟩;replace i:=i.trans p3)
      | (go_at_call 77;refine(zcT j A3 n3 c3 o _ Z (by omega) ah ad aa (by omega)).mono ?_;rintro e u2 ⟨vr,rfl,I,p4⟩;replace i:=i.trans p4;obtain⟨zr,hzr0⟩:∃zr:Int,zr=j*((zd 10 o:Nat):Int):=⟨_,rfl⟩;rw [←hzr0]at I;have HZ:=Qh hzr0;clear hzr0;have hzr2:=I;obtain⟨A4,n4,c4,l4,rfl,-⟩:=hzr2;have t0:_=some (Value.int .i64 0):=(F.pu i).cell 0;have t1:_=some (Value.slice none 0 0):=(F.pu i).cell 1;have g0:=(F.pu i).frozen 0;have g1:=(F.pu i).frozen 1))
    have af:zr=t+p:=by rw [HZ.out];rw [ae,hV.out.1,hV.out.2];exact Hz.out
    subst af;obtain⟨X,r1,rp,rf⟩:=zd2 (F.pu i) (t+p).sign A4 n4 c4;have rz:=rf _ _ I;have PP:=rp _ (V.trans i) (by omega);go_wp2;exact bodyPost_ret (v:= .agg #[.int .i64 (t+p).sign,.slice A4 n4 c4]) (by simp [results,Tryz.results78,go_sem,X,r1]) rfl ⟨_,rfl,rz,PP⟩
   ·have d3:(j==x)=false:=by simp;omega
    have Y:x= -j:=by omega
    have K:=zi1 D B E z C y l1 l2 W T R (by omega) (by omega) au av a8 aB;rw [H,G]at K;rcases Nat.lt_or_ge t.natAbs p.natAbs with hlt|hge
    ·rw [zfv hlt,hWe]at K;have U:x*(((p.natAbs - t.natAbs:Nat)):Int)=t+p:=by
      rw [Int.natCast_sub (by omega),Int.mul_sub,m2,Y,Int.neg_mul,m1];omega
     have aW:x*(((zd 10 l2 - zd 10 l1:Nat)):Int)=t+p:=by rw [H,G];exact U
     have ag:=Qh hWe;have Hz:=Qh U;have hV:=Qh (AI G H);have a7:zd 10 l1≤zd 10 l2:=by omega
     have am:=Qh K;clear hWe U aW m1 m2 e1 e2 H G M O N P Q S K Y;go_enter Tryz.func78,Tryz.ntmps78;go_wp2_with fail;refine am.out.mono ?_;rintro e w1 ⟨rfl,p1⟩;rw [←ag.out]at p1;have aR:w1.cell? ⟨w.heap.size,0,none⟩=some (.int .i64 j):=(J.pu p1).cell 0;have i:Pu W w1.drew:=p1.drew;go_wp2_with fail;go_region_held3 (fun u=>u.cell? ⟨w.heap.size,0,none⟩=some (.int .i64 j)∧u.cell? ⟨w.heap.size,1,none⟩=some (.slice D E z)∧u.cell? ⟨w.heap.size+1,0,none⟩=some (.int .i64 x)∧u.cell? ⟨w.heap.size+1,1,none⟩=some (.slice B C y))
      (first|exact⟨(J.pu i).cell 0,(J.pu i).cell 1,(L.pu i).cell 0,(L.pu i).cell 1⟩|exact⟨zba (by dsimp;omega) ((J.pu i).cell 0),zba (by dsimp;omega) ((J.pu i).cell 1),zba (by dsimp;omega) ((L.pu i).cell 0),zba (by dsimp;omega) ((L.pu i).cell 1)⟩|go_keep)
      (first
       | (go_at_call 123;refine(zhp B D C y E z l2 l1 _ (R.pu i) (T.pu i) (by omega) (by omega) av au a8 a7).mono ?_;rintro e u1 ⟨A3,n3,c3,o,rfl,aH,ah,Z,aa,ad,ae,p3⟩;replace i:=i.trans p3)
       | (go_at_call 77;refine(zcT x A3 n3 c3 o _ Z (by omega) ah ad aa (by omega)).mono ?_;rintro e u2 ⟨vr,rfl,I,p4⟩;replace i:=i.trans p4;obtain⟨zr,hzr0⟩:∃zr:Int,zr=x*((zd 10 o:Nat):Int):=⟨_,rfl⟩;rw [←hzr0]at I;have HZ:=Qh hzr0;clear hzr0;have hzr2:=I;obtain⟨A4,n4,c4,l4,rfl,-⟩:=hzr2;have t0:_=some (Value.int .i64 0):=(F.pu i).cell 0;have t1:_=some (Value.slice none 0 0):=(F.pu i).cell 1;have g0:=(F.pu i).frozen 0;have g1:=(F.pu i).frozen 1))
     have af:zr=t+p:=by rw [HZ.out];rw [ae,hV.out.1,hV.out.2];exact Hz.out
     subst af;obtain⟨X,r1,rp,rf⟩:=zd2 (F.pu i) (t+p).sign A4 n4 c4;have rz:=rf _ _ I;have PP:=rp _ (V.trans i) (by omega);go_wp2;exact bodyPost_ret (v:= .agg #[.int .i64 (t+p).sign,.slice A4 n4 c4]) (by simp [results,Tryz.results78,go_sem,X,r1]) rfl ⟨_,rfl,rz,PP⟩
    ·obtain⟨s,hse,ds⟩:∃s,zfY t.natAbs p.natAbs=s∧decide (s≥0)=true∧decide (0≤s)=true:=by
      rcases Nat.lt_or_eq_of_le hge with h|h
      ·exact⟨1,zfE h,rfl,rfl⟩
      ·exact⟨0,by rw [h,zik],rfl,rfl⟩
     obtain⟨ds,bg⟩:=ds;rw [hse,hWe]at K;have U:j*(((t.natAbs - p.natAbs:Nat)):Int)=t+p:=by
      have m3:j*(p.natAbs:Int)= -p:=by rw [Y,Int.neg_mul]at m2;omega
      rw [Int.natCast_sub (by omega),Int.mul_sub,m1,m3];omega
     have ag:=Qh hWe;have Hz:=Qh U;have hV:=Qh (AI H G);have a7:zd 10 l2≤zd 10 l1:=by omega
     have am:=Qh K;clear hWe U m1 m2 e1 e2 H G M O N P Q S K Y hse;go_enter Tryz.func78,Tryz.ntmps78;go_wp2_with fail;refine am.out.mono ?_;rintro e w1 ⟨rfl,p1⟩;rw [←ag.out]at p1;have aR:w1.cell? ⟨w.heap.size,0,none⟩=some (.int .i64 j):=(J.pu p1).cell 0;have i:Pu W w1.drew:=p1.drew;go_wp2_with fail;go_region_held3 (fun u=>u.cell? ⟨w.heap.size,0,none⟩=some (.int .i64 j)∧u.cell? ⟨w.heap.size,1,none⟩=some (.slice D E z)∧u.cell? ⟨w.heap.size+1,0,none⟩=some (.int .i64 x)∧u.cell? ⟨w.heap.size+1,1,none⟩=some (.slice B C y))
      (first|exact⟨(J.pu i).cell 0,(J.pu i).cell 1,(L.pu i).cell 0,(L.pu i).cell 1⟩|exact⟨zba (by dsimp;omega) ((J.pu i).cell 0),zba (by dsimp;omega) ((J.pu i).cell 1),zba (by dsimp;omega) ((L.pu i).cell 0),zba (by dsimp;omega) ((L.pu i).cell 1)⟩|go_keep)
      (first
       | (go_at_call 123;refine(zhp D B E z C y l1 l2 _ (T.pu i) (R.pu i) (by omega) (by omega) au av aB a7).mono ?_;rintro e u1 ⟨A3,n3,c3,o,rfl,aH,ah,Z,aa,ad,ae,p3⟩;replace i:=i.trans p3)
       | (go_at_call 77;refine(zcT j A3 n3 c3 o _ Z (by omega) ah ad aa (by omega)).mono ?_;rintro e u2 ⟨vr,rfl,I,p4⟩;replace i:=i.trans p4;obtain⟨zr,hzr0⟩:∃zr:Int,zr=j*((zd 10 o:Nat):Int):=⟨_,rfl⟩;rw [←hzr0]at I;have HZ:=Qh hzr0;clear hzr0;have hzr2:=I;obtain⟨A4,n4,c4,l4,rfl,-⟩:=hzr2;have t0:_=some (Value.int .i64 0):=(F.pu i).cell 0;have t1:_=some (Value.slice none 0 0):=(F.pu i).cell 1;have g0:=(F.pu i).frozen 0;have g1:=(F.pu i).frozen 1))
     have af:zr=t+p:=by rw [HZ.out];rw [ae,hV.out.1,hV.out.2];exact Hz.out
     subst af;obtain⟨X,r1,rp,rf⟩:=zd2 (F.pu i) (t+p).sign A4 n4 c4;have rz:=rf _ _ I;have PP:=rp _ (V.trans i) (by omega);go_wp2;exact bodyPost_ret (v:= .agg #[.int .i64 (t+p).sign,.slice A4 n4 c4]) (by simp [results,Tryz.results78,go_sem,X,r1]) rfl ⟨_,rfl,rz,PP⟩
end
section
open Go.RowKit
theorem zqs{n k N:Nat}(i:0<k)(h:10^n*k≤N)(v:N≤9223372036854775807):n<19:=by
 rcases Nat.lt_or_ge n 19 with c|c
 ·exact c
 ·have j:10^19≤10^n:=Nat.pow_le_pow_right (by omega) c;have p:10^n*1≤10^n*k:=Nat.mul_le_mul_left _ i;have t:(10:Nat)^19=10000000000000000000:=by decide
  omega
theorem zjz(z:Int)(w:World)(hz:z.natAbs≤9223372036854775807):Calls Tryz.prog 44 #[.int .i64 z] w fun e w'=>∃v,e= .returned v∧RZ w' v z∧Pu w w':=by
 have hW:Pu w (w.alloc (.cells #[.int .i64 0,.slice none 0 0] 54)):=(Pu.refl w).alloc _;have kA:Blk (w.alloc (.cells #[.int .i64 0,.slice none 0 0] 54)) w.heap.size 54 #[.int .i64 0,.slice none 0 0]:=Blk.new _ _ _;obtain⟨N,hN⟩:∃N:Nat,N=z.natAbs:=⟨_,rfl⟩
 have M:(decide (z<0)=true∧IntKind.i64.wrap (-z)=(N:Int)∧Hid ((-1:Int)*(N:Int)=z))∨(decide (z<0)=false∧z=(N:Int)∧Hid ((1:Int)*(N:Int)=z)):=by
  rcases Int.lt_or_le z 0 with h|h
  ·exact .inl ⟨by simp;omega,(IntWalk.i64_in _ (by omega)).trans (by omega),Qh (by omega)⟩
  ·exact .inr ⟨by simp;omega,by omega,Qh (by omega)⟩
 have S:N≤9223372036854775807:=by omega
 have HN:=Qh hN;clear hN hz;rcases M with⟨d1,F,HZ⟩|⟨d1,F,HZ⟩
 all_goals
  (try subst F)
  go_enter Tryz.func44,Tryz.ntmps44;go_wp2_with fail
  go_loopw [0,4] (fun O dv Y=>∃(k i C:Nat) (D:Option Addr) (j:List Nat),O= .int .i64 (k:Int)∧dv= .slice D i C∧j.length=i∧i≤20∧k≤9223372036854775807∧zg 10 j∧zd 10 j+10^i*k=N∧Y.ownsRow (w.heap.size+1) 3 1 (.slice D i C) i (dws j)∧Pu (w.alloc (.cells #[.int .i64 0,.slice none 0 0] 54)) Y) (fun O _ _=>(intOf O).toNat)
  case atStart=>exact⟨N,0,0,none,[],rfl,rfl,rfl,by omega,by omega,zg.nil _,by simp [zd],World.ownsRow_nil _ _ _ _,Pu.refl _⟩
  case round=>
   obtain⟨k,i,C,D,j,rfl,rfl,X,av,Z,hb,Q,t,E⟩:=hrel;have P:=Qh Q;clear Q;have G:w.heap.size+1≤wr.heap.size:=by simpa using E.size
   rcases Nat.eq_zero_or_pos k with e|hk0
   ·subst e;have K:zd 10 j=N:=by have:=P.out;omega
    have aa:=zci t;have x:=fun s hs=>zcT s D i C j wr (Sl.of_own t) (by omega) aa.2 hb (zcp.of_own t) hs;rw [K]at x;have T:=Qh x;have U:=kA.pu E;have PW:=hW.trans E;clear x K t;go_wp2_with fail;refine(T.out _ (by omega)).mono ?_;rintro e y ⟨v',rfl,B,V⟩;rw [HZ.out]at B;have p:=U.pu V;obtain⟨σ',A',n',c',rfl⟩:∃σ A n c,v'= .agg #[.int .i64 σ,.slice A n c]:=by obtain⟨A,n,c,l,rfl,-⟩:=B;exact⟨_,A,n,c,rfl⟩
    have q0:y.cell? ⟨w.heap.size,0,none⟩=some (.int .i64 0):=p.cell 0;have q1:y.cell? ⟨w.heap.size,1,none⟩=some (.slice none 0 0):=p.cell 1;have f0:y.frozen? ⟨w.heap.size,0,none⟩=false:=p.frozen 0;have f1:y.frozen? ⟨w.heap.size,1,none⟩=false:=p.frozen 1;obtain⟨r0,r1,rp,rf⟩:=zd2 p σ' A' n' c';have L:=rf _ _ B;have PP:=rp _ (PW.trans V) (Nat.le_refl _);go_wp2;exact bodyPost_ret (v:= .agg #[.int .i64 σ',.slice A' n' c']) (by simp [results,Tryz.results44,go_sem,r0,r1]) rfl ⟨_,rfl,L,PP⟩
   ·have e1:(k:Int)%10=((k%10:Nat):Int):=by omega
    have e2:(k:Int)/10=((k/10:Nat):Int):=by omega
    have I:=Nat.div_add_mod k 10;have hr:=Nat.mod_lt k (show 10>0 by omega);have hq:k/10<k:=by omega
    have ag:i<19:=zqs hk0 (by have:=P.out;omega) S;generalize k/10=q at*
    generalize k%10=r at*
    have R:=Qh I;clear I;go_wp2_with (at_builtin;refine zS zg9 rfl (.tmp 11) (.tmp 14) rfl #[.int .i64 (r:Int)] rfl (by simp [Value.oneCell']) rfl rfl t (by simp [maxLen];omega) (by omega) G ?_);intro A3 c3 y H J;have ae:=E.grown J (fun k Z=>by have:=(t.lt k Z).1;simpa using this);have W:=zbr H;clear t J H G;go_wp2;go_roundw
    case rel=>exact⟨q,i+1,c3,A3,j++[r],rfl,rfl,by simp [X],by omega,by omega,hb.snoc hr,by rw [←P.out,zM,X,Nat.pow_succ,←R.out,Nat.mul_add,Nat.mul_assoc];omega,W,ae⟩
    case measure=>simp [intOf];omega
end
section
open Go.RowKit
def DA(w:World)(g:Nat)(o:List Nat):Prop:=Blk w g 3 (dws o).toArray
section
variable{w w':World}{g:Nat}{o:List Nat}
theorem DA.lt(h:DA w g o):g<w.heap.size:=Blk.lt h
theorem DA.cell(h:DA w g o){j x:Nat}(i:o[j]?=some x):w.cell? ⟨g,j,none⟩=some (.int .i64 (x:Int)):=by rw [Blk.cell h j,List.getElem?_toArray,List.getElem?_map,i];rfl
theorem DA.frozen(h:DA w g o)(j:Nat):w.frozen? ⟨g,j,none⟩=false:=Blk.frozen h j
theorem DA.set_(h:DA w g o)(j y:Nat):DA (w.setCell ⟨g,j,none⟩ (.int .i64 (y:Int))) g (o.set j y):=by
 have:=Blk.set_ h j (.int .i64 (y:Int));have e:(dws o).toArray.setIfInBounds j (.int .i64 (y:Int))=(dws (o.set j y)).toArray:=by simp [List.map_set]
 rw [e]at this;exact this
theorem DA.pu(h:DA w g o)(i:Pu w w'):DA w' g o:=Blk.pu h i
theorem DA.drew(h:DA w g o):DA w.drew g o:=Blk.drew h
theorem DA.sl(h:DA w g o){n c:Nat}(k:n=o.length)(i:n≤c):Sl w 1 (some ⟨g,0,none⟩) n c (dws o):=by
 refine⟨by simp;omega,i,fun _=>⟨g,0,rfl,h.lt,fun j u hu=>?_⟩⟩;rw [List.getElem?_map]at hu
 cases hj:o[j]? with
 |none=>rw [hj]at hu;cases hu
 |some x=>rw [hj]at hu;injection hu with hu;rw [Nat.zero_add,h.cell hj,←hu]
theorem DA.at_(h:DA w g o):zcp w (some ⟨g,0,none⟩):=fun b off e=>by injection e with e;injection e with e1 _;subst e1;exact⟨_,_,h⟩
end
theorem ziC(n:Nat):madeCells (Value.int .i64 0).cells n=Array.replicate n (.int .i64 0):=by
 apply Array.ext
 ·simp [madeCells]
 ·intro i j k;simp [madeCells,Value.cells,Nat.mod_one]
theorem zh8(n:Nat)(x:n≤4000000)(w:World):(Instr.makeSlice 52 (.int .i64 (n:Int)) (.int .i64 (n:Int))).run Tryz.prog w= .ok (.slice (some ⟨w.heap.size,0,none⟩) n n) (w.alloc (.cells (Array.replicate n (.int .i64 0)) 3)):=by obtain⟨i,t,v,k,p⟩:=info_parts zg9.info;have j:=run_make (P:=Tryz.prog) w 52 3 i _ zg9.under t v .i64 .i64 n n (by omega) (by omega) (by rw [p];omega) (by omega);simp only [Int.toNat_natCast]at j;rw [k,Nat.mul_one,ziC]at j;exact j
theorem DA.made(w:World)(m:Nat):DA (w.alloc (.cells (Array.replicate m (.int .i64 0)) 3)) w.heap.size (List.replicate m 0):=by
 have e:(dws (List.replicate m 0)).toArray=Array.replicate m (.int .i64 0):=by simp
 unfold DA;rw [e];exact Blk.new w _ _
def zrF(K:Nat)(l:List Nat):Prop:=∀x∈l,x≤K
theorem zrF.set{K:Nat}{l:List Nat}{j y:Nat}(h:zrF K l)(i:y≤K):zrF K (l.set j y):=by
 intro x k;rcases List.mem_or_eq_of_mem_set k with h1|h1
 ·exact h x h1
 ·rw [h1];exact i
theorem zoK(v1 v2:Value)(S T:Int)(w:World)(h1:RZ w v1 S)(h2:RZ w v2 T)(b1:S.natAbs<10^200)(b2:T.natAbs<10^200):Calls Tryz.prog 79 #[v1,v2] w fun e w'=>∃v',e= .returned v'∧RZ w' v' (S*T)∧Pu w w':=by
 obtain⟨A1,B,c1,l1,rfl,ao,aA,aC,N,cm,aY⟩:=h1;obtain⟨A2,z,c2,X,rfl,ap,aJ,aE,aq,c3,bb⟩:=h2;have b5:=zd8 aC (k:=200) (by rw [N];exact b1);have bk:=zd8 aE (k:=200) (by rw [aq];exact b2);have aF:=ao.dlen;have aG:=ap.dlen;rw [aF]at b5;rw [aG]at bk;obtain⟨P,e1⟩:∃P,P=S.sign:=⟨_,rfl⟩
 obtain⟨Q,e2⟩:∃Q,Q=T.sign:=⟨_,rfl⟩
 rw [←e1,←e2];obtain⟨W,hWe⟩:∃W,W=((w.alloc (.cells #[.int .i64 P,.slice A1 B c1] 54)).alloc (.cells #[.int .i64 Q,.slice A2 z c2] 54)).alloc (.cells #[.int .i64 0,.slice none 0 0] 54):=⟨_,rfl⟩
 have bg:W.heap.size=w.heap.size+3:=by rw [hWe];simp
 have hW:Pu w W:=by rw [hWe];exact(((Pu.refl w).alloc _).alloc _).alloc _
 have k1:Blk W w.heap.size 54 #[.int .i64 P,.slice A1 B c1]:=by rw [hWe];exact((Blk.new w _ _).alloc _).alloc _
 have k2:Blk W (w.heap.size+1) 54 #[.int .i64 Q,.slice A2 z c2]:=by rw [hWe];exact(Blk.at_new _ _ _ (by simp)).alloc _
 have k3:Blk W (w.heap.size+2) 54 #[.int .i64 0,.slice none 0 0]:=by rw [hWe];exact Blk.at_new _ _ _ (by simp)
 have bj:=ao.pu hW;have aZ:=ap.pu hW;have ah:=fun W=>zh8 (B+z+1) (by omega) W;have aa:((B+z+1:Nat):Int)=(B:Int)+(z:Int)+1:=by omega
 rw [aa]at ah;have bu:=Qh ah;have c8:IntKind.i64.wrap ((B:Int)+(z:Int))=(B:Int)+(z:Int):=IntWalk.i64_in _ (by omega);have c7:IntKind.i64.wrap ((B:Int)+(z:Int)+1)=(B:Int)+(z:Int)+1:=IntWalk.i64_in _ (by omega);have ae:=DA.made W (B+z+1);have aj:Pu W (W.alloc (.cells (Array.replicate (B+z+1) (.int .i64 0)) 3)):=(Pu.refl W).alloc _;rw [bg]at ae;rw [hWe]at ae aj;have bq:=Qh hWe;have HE:=Qh (AI (AI e1 e2) (AI N aq));clear ah hWe aa ao ap e1 e2 N aq aY bb;go_enter Tryz.func79,Tryz.ntmps79;go_wp2_with (simp only [bu.out])
 go_loopw [6] (fun iv U=>∃(i:Nat) (L:List Nat),i≤B∧iv= .int .i64 i∧L.length=B+z+1∧zrF (81*i) L∧zd 10 L=zd 10 (l1.take i)*zd 10 X∧DA U (w.heap.size+3) L∧Pu W U) (fun iv _=>B - (intOf iv).toNat)
 case atStart=>exact⟨0,List.replicate (B+z+1) 0,Nat.zero_le _,rfl,by simp,fun x I=>by rw [List.eq_of_mem_replicate I];omega,by simp [zd,zfx],ae,by rw [bq.out];exact aj⟩
 case round=>
  obtain⟨i,L,hi,rfl,aB,aw,hv,C,D⟩:=hrel;have HV:=Qh hv;clear hv ae aj;have Y:wr.cell? ⟨w.heap.size,1,none⟩=some (.slice A1 B c1):=(k1.pu D).cell 1;by_cases cv:i<B
  ·obtain⟨x,I⟩:∃x,l1[i]?=some x:=⟨_,List.getElem?_eq_getElem (by omega)⟩
   have c0:=aA x (List.mem_of_getElem? I);have Hx:=Qh I;clear I;go_wp2_with fail
   go_loopw [7] (fun kv U=>∃(k:Nat) (t:List Nat),k≤z∧kv= .int .i64 k∧t.length=B+z+1∧(∀j y,t[j]?=some y→y≤81*i+(if j<i+k then 81 else 0))∧zd 10 t=zd 10 L+10^i*(x*zd 10 (X.take k))∧DA U (w.heap.size+3) t∧Pu W U) (fun kv _=>z - (intOf kv).toNat)
   case atStart=>exact⟨0,L,Nat.zero_le _,rfl,aB,fun j y H=>by have:=aw y (List.mem_of_getElem? H);omega,by simp [zd],C,D⟩
   case round=>
    clear C D Y;obtain⟨k,t,hk,rfl,J,K,V,C,D⟩:=hrel;have O:=Qh V;have R:=Qh K;clear V K;have bn:wr.cell? ⟨w.heap.size+1,1,none⟩=some (.slice A2 z c2):=(k2.pu D).cell 1;have Y:wr.cell? ⟨w.heap.size,1,none⟩=some (.slice A1 B c1):=(k1.pu D).cell 1;by_cases cz:k<z
    ·obtain⟨y,G⟩:∃y,X[k]?=some y:=⟨_,List.getElem?_eq_getElem (by omega)⟩
     have cl:=aJ y (List.mem_of_getElem? G);obtain⟨q1,o1,rfl,bW,cx⟩:=(bj.pu D).dat Hx.out;obtain⟨q2,o2,rfl,bZ,cy⟩:=(aZ.pu D).dat G;have Hy:=Qh G;clear G;obtain⟨F,ho⟩:∃F,t[i+k]?=some F:=⟨_,List.getElem?_eq_getElem (by omega)⟩
     have bf:=R.out (i+k) F ho;rw [if_neg (by omega)]at bf;have c9:wr.cell? ⟨w.heap.size+3,i+k,none⟩=some (.int .i64 (F:Int)):=C.cell ho;have cA:=C.frozen (i+k);have Ho:=Qh ho;have bl:x*y≤81:=by have:=Nat.mul_le_mul (show x≤9 by omega) (show y≤9 by omega);omega
     obtain⟨p,hp⟩:∃p,p=x*y:=⟨_,rfl⟩
     have cq:(x:Int)*(y:Int)=(p:Int):=by rw [hp,Int.natCast_mul]
     rw [←hp]at bl;have Hp:=Qh hp;have HA:=Qh C;have cD:IntKind.i64.wrap ((i:Int)+(k:Int))=(i:Int)+(k:Int):=IntWalk.i64_in _ (by omega);have cB:IntKind.i64.wrap (p:Int)=(p:Int):=IntWalk.i64_in _ (by omega);have ck:IntKind.i64.wrap ((F:Int)+(p:Int))=(F:Int)+(p:Int):=IntWalk.i64_in _ (by omega);have cd:(0:Int)≤(i:Int):=by omega
     have cg:(i:Int)<(B:Int):=by omega
     have cu:(0:Int)≤(k:Int):=by omega
     have c4:(k:Int)<(z:Int):=by omega
     have bH:(0:Int)≤(i:Int)+(k:Int):=by omega
     have bT:(i:Int)+(k:Int)<(B:Int)+(z:Int)+1:=by omega
     have bN:((i:Int)+(k:Int)).toNat=i+k:=by omega
     clear hp ho C;go_wp2_with fail;go_region;have M:=(HA.out.set_ (i+k) (F+p)).drew;have ad:Pu W ((wr.setCell ⟨w.heap.size+3,i+k,none⟩ (.int .i64 ((F+p:Nat):Int))).drew):=(D.setCell (by show W.heap.size≤w.heap.size+3;omega) _).drew;go_wp2;go_roundw
     case rel=>exact⟨k+1,t.set (i+k) (F+p),by omega,by go_num,by simp [J],fun j u H=>by
      rw [List.getElem?_set]at H;split at H
      ·rename_i e;subst e;split at H
       ·injection H with H;rw [if_pos (by omega)];omega
       ·cases H
      ·have:=R.out j u H;split at this
       ·rw [if_pos (by omega)];omega
       ·split<;>omega,by
      have hs:=zfj (b:=10) (F+p) Ho.out;rw [Nat.mul_add]at hs;have h5:zd 10 (t.set (i+k) (F+p))=zd 10 t+10^(i+k)*p:=by omega
      rw [h5,O.out,zaf Hy.out,Nat.mul_add x,Nat.mul_add (10^i),Hp.out,Nat.pow_add,Nat.mul_assoc (10^i) (10^k),Nat.mul_left_comm (10^k) x y,Nat.add_assoc],M,ad⟩
     case measure=>simp [intOf];omega
    ·obtain rfl:k=z:=by omega
     have cn:IntKind.i64.wrap ((i:Int)+1)=(i:Int)+1:=IntWalk.i64_in _ (by omega);go_wp2;go_roundw
     case rel=>exact⟨i+1,t,by omega,by go_num,J,fun u hu=>by
      obtain⟨j,H⟩:=List.mem_iff_getElem?.1 hu;have:=R.out j u H;split at this<;>omega,by
      rw [O.out,List.take_of_length_le (l:=X) (by omega),HV.out,zaf Hx.out,Nat.add_mul,Nat.mul_assoc],C,D⟩
     case measure=>simp [intOf];omega
  ·obtain rfl:i=B:=by omega
   have N:zd 10 L=zd 10 l1*zd 10 X:=by rw [HV.out,List.take_of_length_le (by omega)]
   have bz:=Qh N;have hK:81*i≤20000:=by omega
   have am:zrF 20000 L:=fun x I=>by have:=aw x I;omega
   clear N aw;go_wp2_with fail
   go_loopw [8] (fun jv U=>∃(j:Nat) (t:List Nat),j≤i+z∧jv= .int .i64 j∧t.length=i+z+1∧(∀m y,t[m]?=some y→(m<j→y<10)∧(j<m→y≤20000)∧y≤40000)∧zd 10 t=zd 10 l1*zd 10 X∧DA U (w.heap.size+3) t∧Pu W U) (fun jv _=>i+z - (intOf jv).toNat)
   case atStart=>exact⟨0,L,Nat.zero_le _,rfl,aB,fun m y E=>by have:=am y (List.mem_of_getElem? E);omega,bz.out,C,D⟩
   case round=>
    clear C D Y am;obtain⟨j,t,H,rfl,J,K,V,C,D⟩:=hrel;have O:=Qh V;have R:=Qh K;clear V K;have cp:IntKind.i64.wrap ((j:Int)+1)=(j:Int)+1:=IntWalk.i64_in _ (by omega);by_cases ce:j<i+z
    ·have d1:decide ((j:Int)+1<(i:Int)+(z:Int)+1)=true:=by simp;omega
     obtain⟨x,I⟩:∃x,t[j]?=some x:=⟨_,List.getElem?_eq_getElem (by omega)⟩
     obtain⟨y,G⟩:∃y,t[j+1]?=some y:=⟨_,List.getElem?_eq_getElem (by omega)⟩
     have bY:=(R.out j x I).2.2;have cr:=(R.out (j+1) y G).2.1 (by omega);have ca:wr.cell? ⟨w.heap.size+3,j,none⟩=some (.int .i64 (x:Int)):=C.cell I;have cb:wr.cell? ⟨w.heap.size+3,j+1,none⟩=some (.int .i64 (y:Int)):=C.cell G;have cf:=C.frozen j;have c6:=C.frozen (j+1);obtain⟨q,hq⟩:∃q,q=x/10:=⟨_,rfl⟩
     obtain⟨r,hr⟩:∃r,r=x%10:=⟨_,rfl⟩
     have bX:(x:Int)/10=(q:Int):=by omega
     have ci:(x:Int)%10=(r:Int):=by omega
     have cw:IntKind.i64.wrap (q:Int)=(q:Int):=IntWalk.i64_in _ (by omega);have cj:IntKind.i64.wrap ((y:Int)+(q:Int))=(y:Int)+(q:Int):=IntWalk.i64_in _ (by omega);have cE:IntKind.i64.wrap ((x:Int)/10)=(x:Int)/10:=IntWalk.i64_in _ (by omega);have aC:(x:Int).tdiv 10=(x:Int)/10:=Int.tdiv_eq_ediv_of_nonneg (by omega);have aE:(x:Int).tmod 10=(x:Int)%10:=Int.tmod_eq_emod_of_nonneg (by omega);have cF:(0:Int)≤(j:Int):=by omega
     have cC:(j:Int)<(i:Int)+(z:Int)+1:=by omega
     have cc:(0:Int)≤(j:Int)+1:=by omega
     have ct:((j:Int)+1).toNat=j+1:=by omega
     have Hx:=Qh I;have Hy:=Qh G;have HA:=Qh C;have b0:=Qh (AI hq hr);clear I G C hq hr;go_wp2_with fail;go_region;have M:=(HA.out.set_ (j+1) (y+q)).drew;have ad:Pu W ((wr.setCell ⟨w.heap.size+3,j+1,none⟩ (.int .i64 ((y+q:Nat):Int))).drew):=(D.setCell (by show W.heap.size≤w.heap.size+3;omega) _).drew;have ag:(t.set (j+1) (y+q))[j]?=some x:=by rw [List.getElem?_set,if_neg (by omega)];exact Hx.out
     have bU:((wr.setCell ⟨w.heap.size+3,j+1,none⟩ (.int .i64 ((y:Int)+(q:Int)))).drew).cell? ⟨w.heap.size+3,j,none⟩=some (.int .i64 (x:Int)):=M.cell ag;have bS:((wr.setCell ⟨w.heap.size+3,j+1,none⟩ (.int .i64 ((y:Int)+(q:Int)))).drew).frozen? ⟨w.heap.size+3,j,none⟩=false:=M.frozen j;have aX:=M.set_ j r;have b8:Pu W ((((wr.setCell ⟨w.heap.size+3,j+1,none⟩ (.int .i64 ((y+q:Nat):Int))).drew).setCell ⟨w.heap.size+3,j,none⟩ (.int .i64 (r:Int)))):=ad.setCell (by show W.heap.size≤w.heap.size+3;omega) _;have bt:=((HA.out.set_ (j+1) (y+q)).set_ j r).drew;have aU:Pu W (((wr.setCell ⟨w.heap.size+3,j+1,none⟩ (.int .i64 ((y+q:Nat):Int))).setCell ⟨w.heap.size+3,j,none⟩ (.int .i64 (r:Int))).drew):=((D.setCell (by show W.heap.size≤w.heap.size+3;omega) _).setCell (by show W.heap.size≤w.heap.size+3;omega) _).drew;have bc:=Qh ag;have ax:x=10*q+r∧r<10∧q≤4000:=by have:=b0.out;omega
     have ak:=Qh ax;clear M ad aX b8 ag ax;go_wp2;go_roundw
     case rel=>exact⟨j+1,(t.set (j+1) (y+q)).set j r,by omega,by go_num,by simp [J],fun m u E=>by
      have aD:=ak.out;rw [List.getElem?_set]at E;split at E
      ·rename_i e;subst e;split at E
       ·injection E with E;omega
       ·cases E
      ·rw [List.getElem?_set]at E;split at E
       ·rename_i e;subst e;split at E
        ·injection E with E;omega
        ·cases E
       ·have:=R.out m u E;omega,by
      have P:=zfj (b:=10) (y+q) Hy.out;have Q:=zfj (b:=10) r bc.out;have aD:=ak.out;rw [aD.1,Nat.mul_add,←Nat.mul_assoc]at Q;rw [Nat.pow_succ,Nat.mul_add]at P;rw [←O.out];omega,bt,aU⟩
     case measure=>simp [intOf];omega
    ·obtain rfl:j=i+z:=by omega
     have d1:decide ((i:Int)+(z:Int)+1<(i:Int)+(z:Int)+1)=false:=by simp
     have Z:∀y,t[i+z]?=some y→y=0:=by
      intro y G;have h3:=zdW 10 t (i+z) (by omega);have h4:t.drop (i+z)= [y]:=by have:=List.drop_eq_getElem_cons (l:=t) (i:=i+z) (by omega);rw [this,List.drop_eq_nil_of_le (by omega)];rw [List.getElem?_eq_getElem (by omega)]at G;injection G with G;rw [G]
      rw [h4,O.out]at h3;simp only [zd,Nat.mul_zero,Nat.add_zero]at h3;have h5:=zaL aA;have h6:=zaL aJ;rw [aF]at h5;rw [aG]at h6;have h7:zd 10 l1*zd 10 X<10^(i+z):=by rw [Nat.pow_add];exact Nat.mul_lt_mul_of_lt_of_le h5 (Nat.le_of_lt h6) (Nat.pow_pos (by omega))
      rcases Nat.eq_zero_or_pos y with h|h
      ·exact h
      ·have h8:10^(i+z)*1≤10^(i+z)*y:=Nat.mul_le_mul_left _ h;omega
     have aH:zg 10 t:=by
      intro y G;obtain⟨m,E⟩:=List.mem_iff_getElem?.1 G;have co:=(List.getElem?_eq_some_iff.1 E).1;rcases Nat.lt_or_ge m (i+z)with h|h
      ·exact(R.out m y E).1 h
      ·have:m=i+z:=by omega
       subst this;rw [Z y E];omega
     have a9:=C.sl (n:=i+z+1) (c:=i+z+1) J.symm (Nat.le_refl _);have b4:∃σ,σ=P*Q:=⟨_,rfl⟩
     obtain⟨σ,hσ⟩:=b4;have hz:(σ=1∨σ= -1∨zd 10 t=0)∧σ*((zd 10 t:Nat):Int)=S*T:=by
      rw [O.out,HE.out.2.1,HE.out.2.2,hσ,HE.out.1.1,HE.out.1.2];refine⟨?_,?_⟩
      ·rcases Decidable.em (S=0)with e|e
       ·refine .inr (.inr ?_);rw [e];simp
       ·rcases Decidable.em (T=0)with e'|e'
        ·refine .inr (.inr ?_);rw [e'];simp
        ·rcases ze2 S e with h|h<;>rcases ze2 T e' with h'|h'<;>rw [h,h']<;>simp
      ·rw [←Int.sign_mul,←Int.natAbs_mul];exact Int.sign_mul_natAbs _
     have aV: -1≤σ∧σ≤1:=by
      rw [hσ,HE.out.1.1,HE.out.1.2,←Int.sign_mul];rcases Int.lt_trichotomy (S*T) 0 with h|h|h
      ·rw [Int.sign_eq_neg_one_of_neg h];omega
      ·rw [h];decide
      ·rw [Int.sign_eq_one_of_pos h];omega
     have cs:IntKind.i64.wrap (P*Q)=σ:=by rw [←hσ];exact IntWalk.i64_in _ (by omega)
     have au:=zcT σ _ _ _ t wr a9 (by omega) (by simp [maxLen];omega) aH C.at_ hz.1;rw [hz.2]at au;have bi:=Qh au;have bp:=k3.pu D;have bo:=hW.trans D;have Y:wr.cell? ⟨w.heap.size,0,none⟩=some (.int .i64 P):=(k1.pu D).cell 0;have bn:wr.cell? ⟨w.heap.size+1,0,none⟩=some (.int .i64 Q):=(k2.pu D).cell 0;clear au a9 aH hz Z C D hσ aV;go_wp2_with fail;refine bi.out.mono ?_;rintro e w2 ⟨v',rfl,aI,p2⟩;have hR:=bp.pu p2;obtain⟨σ5,A5,n5,c5,rfl⟩:∃σ A n c,v'= .agg #[.int .i64 σ,.slice A n c]:=by obtain⟨A,n,c,l,rfl,-⟩:=aI;exact⟨_,A,n,c,rfl⟩
     have q0:w2.cell? ⟨w.heap.size+2,0,none⟩=some (.int .i64 0):=hR.cell 0;have q1:w2.cell? ⟨w.heap.size+2,1,none⟩=some (.slice none 0 0):=hR.cell 1;have f0:w2.frozen? ⟨w.heap.size+2,0,none⟩=false:=hR.frozen 0;have f1:w2.frozen? ⟨w.heap.size+2,1,none⟩=false:=hR.frozen 1;obtain⟨r0,r1,rp,rf⟩:=zd2 hR σ5 A5 n5 c5;have aN:=rf _ _ aI;have PP:=rp _ (bo.trans p2) (by omega);go_wp2;exact bodyPost_ret (v:= .agg #[.int .i64 σ5,.slice A5 n5 c5]) (by simp [results,Tryz.results79,go_sem,r0,r1]) rfl ⟨_,rfl,aN,PP⟩
end
end Go.Proofs.YtckfnbckoclhpaaGreatDoor

/- Terms and rows. -/
import Derived.Test.YtckfnbckoclhpaaGreatDoorE20
import Derived.Test.YtckfnbckoclhpaaGreatDoorE15
import Derived.Test.YtckfnbckoclhpaaGreatDoorC07
import Derived.Test.YtckfnbckoclhpaaGreatDoorE13
namespace Go.Proofs.YtckfnbckoclhpaaGreatDoor
set_option linter.unusedVariables false
set_option linter.unusedSimpArgs false
set_option maxRecDepth 100000
set_option maxHeartbeats 4000000
section
open Go.RowKit
end
section
open Go.RowKit
end
section
open Go.RowKit
def zeM(k:Key)(r:RowM):Nat:=if r.eq=true∨factor r.fs k=0 then 2 else if factor r.fs k<0 then 0 else 1
def zm(k:Key)(s:Nat)(l:List RowM):List RowM:=l.filter fun r=>zeM k r==s
theorem zlS{k:Key}{s:Nat}{l:List RowM}{i:Nat}{r:RowM}(h:l[i]?=some r):zm k s (l.take (i+1))=zm k s (l.take i)++(if zeM k r=s then [r]else []):=by
 unfold zm;rw [List.take_add_one,h,List.filter_append]
 congr 1
 by_cases c:zeM k r=s
 ·simp [c]
 ·simp [c]
structure zji(w0 w:World)(A:Option Addr)(n c:Nat)(L:List RawR)(l:List RowM):Prop where
 own:w.ownsRow w0.heap.size 35 4 (.slice A n c) n (cat RawR.cells L)
 hold:zF w0 L l
theorem zji.pu{w0 w w':World}{A:Option Addr}{n c:Nat}{L:List RawR}{l:List RowM}(h:zji w0 w A n c L l)(p:Pu w w'):zji w0 w' A n c L l:=⟨zaw h.own p,h.hold⟩
theorem zji.len{w0 w:World}{A:Option Addr}{n c:Nat}{L:List RawR}{l:List RowM}(h:zji w0 w A n c L l):n=l.length:=by rw [←h.hold.1,SlR.len (Sl.of_own h.own)]
def zeS(A A':Option Addr):Prop:=∀b b' off off',A=some ⟨b,off,none⟩→A'=some ⟨b',off',none⟩→b≠b'
theorem zeS.symm{A i:Option Addr}(h:zeS A i):zeS i A:=fun b b' o k e j x=>h b' b k o j e x.symm
theorem zeC{A:Option Addr}{n c g:Nat}{w:World}{base k:Nat}{e:TypeId}{o:List Value}(v:w.ownsRow base e k (.slice A n c) n o)(h:(Value.slice A n c).ownBlock=some g):∃off,A=some ⟨g,off,none⟩:=by
 rcases v.2 with⟨i,_⟩|⟨j,y,x,i,_⟩
 ·rw [i]at h
  cases h
 ·rw [i]at h;have p:j=g:=by
   have t:some j=some g:=h;injection t
  subst p;injection i with i;exact⟨0,i⟩
theorem zji.other{w0 w w':World}{A A1:Option Addr}{n c n1 c1:Nat}{L L1:List RawR}{l l1:List RowM}(h:zji w0 w A n c L l)(o:zji w0 w A1 n1 c1 L1 l1)(t:zeS A A1)(j:w.grownBy w' (Value.slice A1 n1 c1).ownBlock):zji w0 w' A n c L l:=by refine⟨zbp h.own (Fr.of_grown j) (fun g i e=>?_),h.hold⟩;obtain⟨k,v⟩:=zeC h.own i;obtain⟨p,x⟩:=zeC o.own e;exact t g g k p v x rfl
theorem zjJ{w0 w:World}{A A1:Option Addr}{n c n1 c1 g:Nat}{L L1:List RawR}{l l1:List RowM}(h:zji w0 w A n c L l)(t:zji w0 w A1 n1 c1 L1 l1)(y:zeS A A1)(j:(Value.slice A1 n1 c1).ownBlock=some g∨w.heap.size≤g):zeS A (some ⟨g,0,none⟩):=by
 intro b b' o D e k x;injection k with k;injection k with e1 _;subst x e1;rcases j with j|j
 ·obtain⟨v,z⟩:=zeC t.own j;exact y _ _ o v e z rfl
 ·rcases h.own.2 with⟨i,_⟩|⟨E,C,B,i,_,p,_⟩
  ·injection i with i;rw [i]at e
   cases e
  ·injection i with i;rw [i]at e;injection e with e;injection e with e3 _;have:=(Array.getElem?_eq_some_iff.1 p).1;omega
theorem zji.push{w0 w':World}{g n i:Nat}{L:List RawR}{l:List RowM}{q:RawR}{r:RowM}(k:zF w0 L l)(j:zeP w0 q r)(o:w'.ownsRow w0.heap.size 35 4 (.slice (some ⟨g,0,none⟩) (n+1) i) (n+1) (cat RawR.cells L++#[Value.bool q.g,.slice q.A q.n q.c,.pointer q.m,.bool q.eq].toList)):zji w0 w' (some ⟨g,0,none⟩) (n+1) i (L++[q]) (l++[r]):=⟨by rw [zaX,zgI];exact o,k.append (zF.one j)⟩
structure zgu(w0 w:World)(A0 A1 A2:Option Addr)(n0 c0 n1 c1 n2 c2:Nat)(L0 L1 L2:List RawR)(l0 l1 l2:List RowM):Prop where
 o0:zji w0 w A0 n0 c0 L0 l0
 o1:zji w0 w A1 n1 c1 L1 l1
 o2:zji w0 w A2 n2 c2 L2 l2
 a01:zeS A0 A1
 a02:zeS A0 A2
 a12:zeS A1 A2
 pu:Pu w0 w
section
variable{w0 w w':World}{A0 A1 A2:Option Addr}{n0 c0 n1 c1 n2 c2:Nat}{L0 L1 L2:List RawR}{l0 l1 l2:List RowM}
theorem zgu.pus(h:zgu w0 w A0 A1 A2 n0 c0 n1 c1 n2 c2 L0 L1 L2 l0 l1 l2)(p:Pu w w'):zgu w0 w' A0 A1 A2 n0 c0 n1 c1 n2 c2 L0 L1 L2 l0 l1 l2:=⟨h.o0.pu p,h.o1.pu p,h.o2.pu p,h.a01,h.a02,h.a12,h.pu.trans p⟩
theorem zgu.rot(h:zgu w0 w A0 A1 A2 n0 c0 n1 c1 n2 c2 L0 L1 L2 l0 l1 l2):zgu w0 w A1 A2 A0 n1 c1 n2 c2 n0 c0 L1 L2 L0 l1 l2 l0:=⟨h.o1,h.o2,h.o0,h.a12,h.a01.symm,h.a02.symm,h.pu⟩
theorem zgu.push(h:zgu w0 w A0 A1 A2 n0 c0 n1 c1 n2 c2 L0 L1 L2 l0 l1 l2){g o:Nat}{q:RawR}{r:RowM}(p:zeP w0 q r) (v:w'.ownsRow w0.heap.size 35 4 (.slice (some ⟨g,0,none⟩) (n0+1) o) (n0+1) (cat RawR.cells L0++#[Value.bool q.g,.slice q.A q.n q.c,.pointer q.m,.bool q.eq].toList)) (i:w.grownBy w' (Value.slice A0 n0 c0).ownBlock) (j:(Value.slice A0 n0 c0).ownBlock=some g∨w.heap.size≤g):zgu w0 w' (some ⟨g,0,none⟩) A1 A2 (n0+1) o n1 c1 n2 c2 (L0++[q]) L1 L2 (l0++[r]) l1 l2:=⟨zji.push h.o0.hold p v,h.o1.other h.o0 h.a01.symm i,h.o2.other h.o0 h.a02.symm i,(zjJ h.o1 h.o0 h.a01.symm j).symm,(zjJ h.o2 h.o0 h.a02.symm j).symm,h.a12,h.pu.grown i (fun k t=>(h.o0.own.lt k t).1)⟩
end
theorem zmI(A:Option Addr)(n c K:Nat)(L:List RawR)(l:List RowM)(k:Key)(w:World)(h:SlR w A n c L)(hh:zF w L l)(hg:∀r∈l,(factor r.fs k).natAbs<4294967296^E4)(hn:n<1100000):Calls Tryz.prog 13 #[.slice A n c,.string ⟨k.toArray⟩] w fun e w'=>∃A0 n0 c0 A1 n1 c1 A2 n2 c2 L0 L1 L2,e= .returned (.tuple #[.slice A0 n0 c0,.slice A1 n1 c1,.slice A2 n2 c2])∧zgu w w' A0 A1 A2 n0 c0 n1 c1 n2 c2 L0 L1 L2 (zm k 0 l) (zm k 1 l) (zm k 2 l):=by
 have T:L.length=n:=h.len;have ah:=hh.1;have HL:=Qh (AI T ah);have Hg:=Qh hg;clear hg T ah;go_enter Tryz.func13,Tryz.ntmps13;go_wp2_with fail
 go_loopw [4,5,6,12] (fun v0 v1 v2 iv wr=>∃(i:Nat) (A0:Option Addr) (n0 c0:Nat) (A1:Option Addr) (n1 c1:Nat) (A2:Option Addr) (n2 c2:Nat) (L0 L1 L2:List RawR),i≤n∧iv= .int .i64 (i:Int)∧v0= .slice A0 n0 c0∧v1= .slice A1 n1 c1∧v2= .slice A2 n2 c2∧n0≤i∧n1≤i∧n2≤i∧zgu w wr A0 A1 A2 n0 c0 n1 c1 n2 c2 L0 L1 L2 (zm k 0 (l.take i)) (zm k 1 (l.take i)) (zm k 2 (l.take i))) (fun _ _ _ iv _=>n - (intOf iv).toNat)
 case atStart=>exact⟨0,none,0,0,none,0,0,none,0,0,[],[],[],Nat.zero_le _,rfl,rfl,rfl,rfl,Nat.le_refl _,Nat.le_refl _,Nat.le_refl _,⟨⟨World.ownsRow_nil _ _ _ _,by simpa [zm]using zF.nil w⟩,⟨World.ownsRow_nil _ _ _ _,by simpa [zm]using zF.nil w⟩,⟨World.ownsRow_nil _ _ _ _,by simpa [zm]using zF.nil w⟩,fun _ _ _ _ e=>(by cases e),fun _ _ _ _ e=>(by cases e),fun _ _ _ _ e=>(by cases e),Pu.refl _⟩⟩
 case round=>
  obtain⟨i,A0,n0,c0,A1,n1,c1,A2,n2,c2,L0,L1,L2,hi,rfl,rfl,rfl,rfl,aI,aJ,aK,R⟩:=hrel;by_cases a7:i<n
  ·obtain⟨q,hq⟩:∃q,L[i]?=some q:=⟨_,List.getElem?_eq_getElem (by rw [HL.out.1];exact a7)⟩
   obtain⟨r,hr,Q⟩:=hh.at_ hq;obtain⟨b,off,rfl,aL,x0,x1,x2,x3⟩:=SlR.at_ (Sl.pu h R.pu) hq;obtain⟨W,hWe⟩:∃W,W=wr.alloc (.cells #[.bool q.g,.slice q.A q.n q.c,.pointer q.m,.bool q.eq] 35):=⟨_,rfl⟩
   have pB:Pu wr W:=by rw [hWe];exact(Pu.refl wr).alloc _
   have kR:Blk W wr.heap.size 35 #[.bool q.g,.slice q.A q.n q.c,.pointer q.m,.bool q.eq]:=by rw [hWe];exact Blk.new _ _ _
   have P:=R.pus pB;have X:=zY q.term r.rest k r.fs W (Q.2.pu P.pu);have ak:=fun s=>zlS (k:=k) (s:=s) hr;have Z:q.eq=r.eq:=Q.1;have Hf:=Qh X;rw [hWe]at Hf;have ai:=Qh hWe;have HN:=Qh ak;have J:=Qh Q;have am:=Hg.out r (List.mem_of_getElem? hr);have aM:IntKind.i64.wrap ((i:Int)+1)=(i:Int)+1:=IntWalk.i64_in _ (by omega);have aD:=P.pu.size;clear X ak Q hWe pB R hq hr;obtain⟨F,D,E,G,C,U⟩:=q;obtain⟨s,hs,hcase⟩:∃s:Int,(factor r.fs k).sign=s∧((s= -1∧factor r.fs k<0)∨(s=0∧factor r.fs k=0)∨(s=1∧0<factor r.fs k)):=by
    rcases Int.lt_trichotomy (factor r.fs k) 0 with c|c|c
    ·exact⟨-1,Int.sign_eq_neg_one_of_neg c,.inl ⟨rfl,c⟩⟩
    ·exact⟨0,by rw [c];rfl,.inr (.inl ⟨rfl,c⟩)⟩
    ·exact⟨1,Int.sign_eq_one_of_pos c,.inr (.inr ⟨rfl,c⟩)⟩
   have ag:=Qh (fun V v (hv:ZR V v (factor r.fs k))=>zaN v (factor r.fs k) V hv am);rw [hs]at ag;dsimp only at x0 x1 x2 x3 Hf Z kR J ai;have ad:(U=true∧zeM k r=2)∨(U=false∧s=0∧zeM k r=2)∨(U=false∧s= -1∧zeM k r=0)∨(U=false∧s=1∧zeM k r=1):=by
    unfold zeM;rw [←Z]
    cases U with
    |true=>exact .inl ⟨rfl,by rw [if_pos (.inl rfl)]⟩
    |false=>
     rcases hcase with⟨S,h2⟩|⟨S,h2⟩|⟨S,h2⟩
     ·exact .inr (.inr (.inl ⟨rfl,S,by rw [if_neg (fun x=>x.elim (fun x=>by cases x) (fun x=>by omega)),if_pos h2]⟩))
     ·exact .inr (.inl ⟨rfl,S,by rw [if_pos (.inr h2)]⟩)
     ·exact .inr (.inr (.inr ⟨rfl,S,by rw [if_neg (fun x=>x.elim (fun x=>by cases x) (fun x=>by omega)),if_neg (by omega)]⟩))
   clear hs Z hcase am;have HT:=Qh P;clear P;rcases ad with⟨rfl,M⟩|⟨rfl,rfl,M⟩|⟨rfl,rfl,M⟩|⟨rfl,rfl,M⟩
   all_goals
    have o:=Qh (AI (HN.out 0) (AI (HN.out 1) (HN.out 2)));rw [M]at o;clear M;go_wp2_with fail;refine Hf.out.mono ?_;rintro e w2 ⟨v,rfl,hv,p2⟩;rw [←ai.out]at p2;go_wp2_with fail;refine(ag.out _ _ hv).mono ?_;rintro e w3 ⟨rfl,p3⟩;have Y:=p2.trans p3;have aj:=kR.pu Y;have ao:=HT.out.pus Y;obtain⟨z0,z1,z2,z3⟩:=aj.c4_;have I:=ao.pu.size;have B:=Qh ao;clear hv p2 p3 Y aj
   ·have j:=B.out.o2.own;go_wp2_with (at_builtin;refine zbo zcX rfl _ _ rfl #[.bool F,.slice D E G,.pointer C,.bool true] rfl (RawR.cells_one ⟨F,D,E,G,C,true⟩) rfl rfl (by simp) j (by simp [maxLen];omega) (by omega) I ?_);intro N O w4 y p z;have t:=((B.out.rot.rot.pus ((Pu.refl w3).alloc _)).push (q:=⟨F,D,E,G,C,true⟩) J.out y p (z.imp id (fun e=>by rw [e];simp))).rot;have H:=Qh t;clear t y p z j;go_wp2;go_roundw
    case rel=>exact⟨i+1,A0,n0,c0,A1,n1,c1,some ⟨N,0,none⟩,n2+1,O,L0,L1,L2++[_],by omega,by go_num,rfl,rfl,rfl,by omega,by omega,by omega,by rw [o.out.1,o.out.2.1,o.out.2.2];simpa using H.out⟩
    case measure=>simp [intOf];omega
   ·have j:=B.out.o2.own;go_wp2_with (at_builtin;refine zbo zcX rfl _ _ rfl #[.bool F,.slice D E G,.pointer C,.bool false] rfl (RawR.cells_one ⟨F,D,E,G,C,false⟩) rfl rfl (by simp) j (by simp [maxLen];omega) (by omega) I ?_);intro N O w4 y p z;have t:=((B.out.rot.rot.pus ((Pu.refl w3).alloc _)).push (q:=⟨F,D,E,G,C,false⟩) J.out y p (z.imp id (fun e=>by rw [e];simp))).rot;have H:=Qh t;clear t y p z j;go_wp2;go_roundw
    case rel=>exact⟨i+1,A0,n0,c0,A1,n1,c1,some ⟨N,0,none⟩,n2+1,O,L0,L1,L2++[_],by omega,by go_num,rfl,rfl,rfl,by omega,by omega,by omega,by rw [o.out.1,o.out.2.1,o.out.2.2];simpa using H.out⟩
    case measure=>simp [intOf];omega
   ·have j:=B.out.o0.own;go_wp2_with (at_builtin;refine zbo zcX rfl _ _ rfl #[.bool F,.slice D E G,.pointer C,.bool false] rfl (RawR.cells_one ⟨F,D,E,G,C,false⟩) rfl rfl (by simp) j (by simp [maxLen];omega) (by omega) I ?_);intro N O w4 y p z;have t:=((B.out.pus ((Pu.refl w3).alloc _)).push (q:=⟨F,D,E,G,C,false⟩) J.out y p (z.imp id (fun e=>by rw [e];simp)))
    have H:=Qh t;clear t y p z j;go_wp2;go_roundw
    case rel=>exact⟨i+1,some ⟨N,0,none⟩,n0+1,O,A1,n1,c1,A2,n2,c2,L0++[_],L1,L2,by omega,by go_num,rfl,rfl,rfl,by omega,by omega,by omega,by rw [o.out.1,o.out.2.1,o.out.2.2];simpa using H.out⟩
    case measure=>simp [intOf];omega
   ·have j:=B.out.o1.own;go_wp2_with (at_builtin;refine zbo zcX rfl _ _ rfl #[.bool F,.slice D E G,.pointer C,.bool false] rfl (RawR.cells_one ⟨F,D,E,G,C,false⟩) rfl rfl (by simp) j (by simp [maxLen];omega) (by omega) I ?_);intro N O w4 y p z;have t:=((B.out.rot.pus ((Pu.refl w3).alloc _)).push (q:=⟨F,D,E,G,C,false⟩) J.out y p (z.imp id (fun e=>by rw [e];simp))).rot.rot;have H:=Qh t;clear t y p z j;go_wp2;go_roundw
    case rel=>exact⟨i+1,A0,n0,c0,some ⟨N,0,none⟩,n1+1,O,A2,n2,c2,L0,L1++[_],L2,by omega,by go_num,rfl,rfl,rfl,by omega,by omega,by omega,by rw [o.out.1,o.out.2.1,o.out.2.2];simpa using H.out⟩
    case measure=>simp [intOf];omega
  ·obtain rfl:i=n:=by omega
   rw [List.take_of_length_le (by rw [←HL.out.2,HL.out.1];exact Nat.le_refl _)]at R;have HT:=Qh R;clear R;go_wp2;refine bodyPost_ret (v:= .tuple #[.slice A0 n0 c0,.slice A1 n1 c1,.slice A2 n2 c2]) (by simp [results,Tryz.results13,go_sem]) rfl ⟨A0,n0,c0,A1,n1,c1,A2,n2,c2,L0,L1,L2,rfl,HT.out⟩
end
end Go.Proofs.YtckfnbckoclhpaaGreatDoor

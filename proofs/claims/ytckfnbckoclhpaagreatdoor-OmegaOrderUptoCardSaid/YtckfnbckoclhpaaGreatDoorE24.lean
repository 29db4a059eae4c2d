/- Names. -/
import Derived.Test.YtckfnbckoclhpaaGreatDoorC01
import Derived.Test.YtckfnbckoclhpaaGreatDoorProg
import Derived.Test.YtckfnbckoclhpaaGreatDoorC09
import Derived.Test.YtckfnbckoclhpaaGreatDoorE14
import Derived.Test.YtckfnbckoclhpaaGreatDoorE15
import Derived.Test.YtckfnbckoclhpaaGreatDoorE12
namespace Go.Proofs.YtckfnbckoclhpaaGreatDoor
set_option linter.unusedVariables false
set_option linter.unusedSimpArgs false
set_option maxRecDepth 100000
set_option maxHeartbeats 2000000
section
open Go.RowKit
def zr3(x:UInt8):Bool:=x==43 || x==42 || x==40 || x==41 || x==44
def zdN(k:Key):Bool:=k.all fun x=>!zr3 x
theorem zmb{k:Key}{i:Nat}{x:UInt8}(h:k[i]?=some x)(j:zr3 x=true):zdN k=false:=by unfold zdN;rw [List.all_eq_false];exact⟨x,List.mem_of_getElem? h,by simp [j]⟩
theorem zge(x y:UInt8):((x.toNat:Int)==(y.toNat:Int))=(x==y):=by
 by_cases h:x=y
 ·subst h;simp
 ·have i:¬(x.toNat:Int)=(y.toNat:Int):=fun e=>h (UInt8.toNat_inj.1 (by omega));rw [beq_eq_false_iff_ne.2 h,beq_eq_false_iff_ne.2 i]
theorem znC (k : Key) (w : World) (R : k.length ≤ 9223372036854775807) :
    Calls Tryz.prog 12 #[.string ⟨k.toArray⟩] w fun e w' => e = .returned (.bool (zdN k)) ∧ Pu w w' := by
  go_enter Tryz.func12, Tryz.ntmps12
  go_wp2_with fail
  go_loopw [3] (fun E wr => ∃ i : Nat, i ≤ k.length ∧ E = .int .i64 (i : Int) ∧ Hid (zdN (k.take i) = true) ∧ Pu w wr) (fun E _ => k.length - (intOf E).toNat)
  case atStart => exact ⟨0, Nat.zero_le _, rfl, Qh rfl, Pu.refl _⟩
  case round =>
    obtain ⟨i, S, rfl, F, D⟩ := hrel
    have M : (⟨k.toArray⟩ : ByteArray).size = k.length := by simp [ByteArray.size]
    by_cases G : i < k.length
    · obtain ⟨x, hx⟩ : ∃ x, k[i]? = some x := ⟨_, List.getElem?_eq_getElem G⟩
      have O : ∀ W : World, (Instr.index 9 (.string ⟨k.toArray⟩) (.int .i64 (i : Int))).run Tryz.prog W = .ok (.int .u8 (x.toNat : Int)) W := fun W => zmQ k i x hx Tryz.underlying9 W
      have J := Qh hx
      have N : IntKind.i64.wrap ((i : Int) + 1) = (i : Int) + 1 := IntWalk.i64_in _ (by omega)
      have q1 : ((x.toNat : Int) == 43) = (x == 43) := zge x 43
      have q2 : ((x.toNat : Int) == 42) = (x == 42) := zge x 42
      have P : ((x.toNat : Int) == 40) = (x == 40) := zge x 40
      have T : ((x.toNat : Int) == 41) = (x == 41) := zge x 41
      have Q : ((x.toNat : Int) == 44) = (x == 44) := zge x 44
      have K : zr3 x = (x == 43 || x == 42 || x == 40 || x == 41 || x == 44) := rfl
      have I := Qh K
      clear hx K
      generalize (x == 43) = t at *
      generalize (x == 42) = y at *
      generalize (x == 40) = v at *
      generalize (x == 41) = z at *
      generalize (x == 44) = C at *
      by_cases j : (t || y || v || z || C) = true
      · have o := Qh j
        clear j
        have H := Qh (zmb J.out (I.out.trans o.out))
        cases t <;> cases y <;> cases v <;> cases z <;> cases C
        all_goals first
          | (exact absurd o.out (by decide))
          | (go_wp2
             go_ret
             exact ⟨by rw [H.out]; rfl, D⟩)
      · have o := Qh j
        clear j
        obtain ⟨rfl, rfl, rfl, rfl, rfl⟩ : t = false ∧ y = false ∧ v = false ∧ z = false ∧ C = false := by
          have := o.out
          cases t <;> cases y <;> cases v <;> cases z <;> cases C <;> simp_all
        go_wp2
        go_roundw
        case rel => exact ⟨i + 1, by omega, by go_num, Qh (by
          have p := F.out
          unfold zdN at *
          rw [List.take_add_one, J.out, List.all_append, p]
          simp [I.out]), D⟩
        case measure => simp [intOf]; omega
    · obtain rfl : i = k.length := by omega
      have p := F.out
      rw [List.take_of_length_le (Nat.le_refl _)] at p
      have L := Qh p
      clear p
      go_wp2
      go_ret
      exact ⟨by rw [L.out]; rfl, D⟩
end
section
open Go.RowKit
theorem znr(w:World):Calls Tryz.prog 44 #[.int .i64 (-9223372036854775808)] w fun e w'=>∃v,e= .returned v∧RZ w' v 0∧Pu w w':=by
 have F:Pu w (w.alloc (.cells #[.int .i64 0,.slice none 0 0] 54)):=(Pu.refl w).alloc _;have I:Blk (w.alloc (.cells #[.int .i64 0,.slice none 0 0] 54)) w.heap.size 54 #[.int .i64 0,.slice none 0 0]:=Blk.new _ _ _;have K:IntKind.i64.wrap (9223372036854775808)= -9223372036854775808:=by decide
 have L:IntKind.i64.wrap (-(-9223372036854775808))= -9223372036854775808:=by decide
 go_enter Tryz.func44,Tryz.ntmps44;go_wp2_with fail
 go_loopw [0,4] (fun y D G=>y= .int .i64 (-9223372036854775808)∧D= .slice none 0 0∧G=w.alloc (.cells #[.int .i64 0,.slice none 0 0] 54)) (fun y _ _=>0)
 case atStart=>exact⟨rfl,rfl,rfl⟩
 case round=>
  obtain⟨rfl,rfl,rfl⟩:=hrel;have k:=zcT (-1) none 0 0 [] _ (Sl.nil (w.alloc (.cells #[.int .i64 0,.slice none 0 0] 54)) _ _ _) (by omega) (by simp [maxLen]) (zg.nil _) (zcp.none _) (by omega);have t:=Qh k;clear k;go_wp2_with fail;refine t.out.mono ?_;rintro e j ⟨z,rfl,o,x⟩;have i:=I.pu x;obtain⟨σ',A',n',c',rfl⟩:∃σ A n c,z= .agg #[.int .i64 σ,.slice A n c]:=by obtain⟨A,n,c,l,rfl,-⟩:=o;exact⟨_,A,n,c,rfl⟩
  have M:j.cell? ⟨w.heap.size,0,none⟩=some (.int .i64 0):=i.cell 0;have q1:j.cell? ⟨w.heap.size,1,none⟩=some (.slice none 0 0):=i.cell 1;have O:j.frozen? ⟨w.heap.size,0,none⟩=false:=i.frozen 0;have N:j.frozen? ⟨w.heap.size,1,none⟩=false:=i.frozen 1;obtain⟨H,r1,J,C⟩:=zd2 i σ' A' n' c';have p:=C _ _ o;have E:=J _ (F.trans x) (Nat.le_refl _);go_wp2;exact bodyPost_ret (v:= .agg #[.int .i64 σ',.slice A' n' c']) (by simp [results,Tryz.results44,go_sem,H,r1]) rfl ⟨_,rfl,p,E⟩
end
section
open Go.RowKit
structure RawZ where
 s:Int
 A:Option Addr
 n:Nat
 c:Nat
def RawZ.cells(q:RawZ):List Value:=[.int .i64 q.s,.slice q.A q.n q.c]
def RawZ.val(q:RawZ):Value:= .agg #[.int .i64 q.s,.slice q.A q.n q.c]
theorem RawZ.cells_len(q:RawZ):q.cells.length=2:=rfl
theorem RawZ.cells_one(q:RawZ):∀u∈q.cells,u.oneCell'=true:=by intro u i;simp [RawZ.cells]at i;rcases i with rfl|rfl<;>rfl
theorem RZ.raw{w:World}{v:Value}{z:Int}(h:RZ w v z):∃s A n c,v= .agg #[.int .i64 s,.slice A n c]:=by obtain⟨A,n,c,l,rfl,-⟩:=h;exact⟨_,A,n,c,rfl⟩
theorem RZ.frT{S:Nat→Prop}{w w':World}{v:Value}{z:Int}(h:RZ w v z)(k:Fr S w w')(F:∀g,S g→∃t o p,w.heap[g]?=some (.cells o t p)∧t≠3):RZ w' v z:=by
 obtain⟨A,n,c,l,E,I,G,y,C,H,x⟩:=h;have j:∀b off,A=some ⟨b,off,none⟩→¬S b:=fun b off e hS=>by obtain⟨o,p,J⟩:=x b off e;obtain⟨t,L,K,i,D⟩:=F b hS;rw [J]at i;injection i with i;injection i with _ i _;exact D i.symm
 exact⟨A,n,c,l,E,I.fr k (fun _ b off e=>j b off e),G,y,C,H,x.fr k (fun b off _ _ e _=>j b off e)⟩
def NZ_(w:World)(B:Nat)(v:Value):Prop:=∃z,RZ w v z∧z.natAbs≤B
theorem NZ_.pu{w w':World}{B:Nat}{v:Value}(h:NZ_ w B v)(p:Pu w w'):NZ_ w' B v:=by obtain⟨z,i,j⟩:=h;exact⟨z,i.pu p,j⟩
theorem NZ_.le{w:World}{B i:Nat}{v:Value}(h:NZ_ w B v)(o:B≤i):NZ_ w i v:=by obtain⟨z,j,k⟩:=h;exact⟨z,j,Nat.le_trans k o⟩
def OfT(w:World)(A:Option Addr)(t:TypeId):Prop:=∀b off,A=some ⟨b,off,none⟩→∃cs fz,w.heap[b]?=some (.cells cs t fz)
theorem OfT.fr{S:Nat→Prop}{w w':World}{A:Option Addr}{t:TypeId}(h:OfT w A t)(p:Fr S w w')(v:∀g,S g→∃t' o k,w.heap[g]?=some (.cells o t' k)∧t'≠t):OfT w' A t:=fun b off e=>by obtain⟨o,k,j⟩:=h b off e;refine⟨o,k,?_⟩;rw [p.block b (Array.getElem?_eq_some_iff.1 j).1 (fun y=>by obtain⟨t',z,C,i,x⟩:=v b y;rw [j]at i;injection i with i;injection i with _ i _;exact x i.symm)];exact j
theorem OfT.pu{w w':World}{A:Option Addr}{t:TypeId}(h:OfT w A t)(p:Pu w w'):OfT w' A t:=h.fr p (fun g i=>i.elim)
theorem OfT.own{w:World}{base n c k:Nat}{e:TypeId}{A:Option Addr}{p:List Value}(t:w.ownsRow base e k (.slice A n c) n p):OfT w A e:=fun b off o=>by
 rcases t.2 with⟨i,_⟩|⟨g,x,v,i,_,j,_⟩
 ·injection i with h1 _ _;rw [o]at h1
  cases h1
 ·injection i with h1 _ _;rw [o]at h1;injection h1 with h1;injection h1 with h1 _ _;rw [h1];exact⟨_,_,j⟩
theorem OfT.ne{S:Nat→Prop}{w:World}{A:Option Addr}{t:TypeId}(h:OfT w A t)(p:∀g,S g→∃t' k j,w.heap[g]?=some (.cells k t' j)∧t'≠t):∀b off,A=some ⟨b,off,none⟩→¬S b:=fun b off e hS=>by obtain⟨k,j,o⟩:=h b off e;obtain⟨t',x,y,i,v⟩:=p b hS;rw [o]at i;injection i with i;injection i with _ i _;exact v i.symm
structure TR(w:World)(An:Option Addr)(n cn:Nat)(Af:Option Addr)(cf:Nat)(r:RawZ)(B:Nat):Prop where
 nm:∃ks,Sl w 1 An n cn (kts ks)
 fc:∃L,Sl w 2 Af n cf (cat RawZ.cells L)∧∀q∈L,NZ_ w B q.val
 rs:NZ_ w B r.val
 tn:OfT w An 9
 tf:OfT w Af 54
theorem TR.pu{w w':World}{An:Option Addr}{n cn:Nat}{Af:Option Addr}{cf:Nat}{r:RawZ}{B:Nat}(h:TR w An n cn Af cf r B)(p:Pu w w'):TR w' An n cn Af cf r B:=by obtain⟨⟨y,o⟩,⟨L,x,t⟩,i,j,v⟩:=h;exact⟨⟨y,o.pu p⟩,⟨L,x.pu p,fun q k=>(t q k).pu p⟩,i.pu p,j.pu p,v.pu p⟩
theorem TR.frT{S:Nat→Prop}{w w':World}{An:Option Addr}{n cn:Nat}{Af:Option Addr}{cf:Nat}{r:RawZ}{B:Nat}(h:TR w An n cn Af cf r B)(o:Fr S w w')(p:∀g,S g→∃t i j,w.heap[g]?=some (.cells i t j)∧t≠3∧t≠9∧t≠54):TR w' An n cn Af cf r B:=by
 have I:∀g,S g→∃t i j,w.heap[g]?=some (.cells i t j)∧t≠3:=fun g hg=>by obtain⟨t,i,j,e,k,_⟩:=p g hg;exact⟨t,i,j,e,k⟩
 have y:∀g,S g→∃t i j,w.heap[g]?=some (.cells i t j)∧t≠9:=fun g hg=>by obtain⟨t,i,j,e,_,k,_⟩:=p g hg;exact⟨t,i,j,e,k⟩
 have E:∀g,S g→∃t i j,w.heap[g]?=some (.cells i t j)∧t≠54:=fun g hg=>by obtain⟨t,i,j,e,_,_,k⟩:=p g hg;exact⟨t,i,j,e,k⟩
 have D:∀{v:Value},NZ_ w B v→NZ_ w' B v:=fun⟨z,k,x⟩=>⟨z,k.frT o I,x⟩
 obtain⟨⟨J,k⟩,⟨L,x,H⟩,G,C,F⟩:=h;exact⟨⟨J,k.fr o (fun _ b off e=>C.ne y b off e)⟩,⟨L,x.fr o (fun _ b off e=>F.ne E b off e),fun q hq=>D (H q hq)⟩,D G,C.fr o y,F.fr o E⟩
structure TO(w:World)(base:Nat)(An:Option Addr)(n cn:Nat)(Af:Option Addr)(cf:Nat)(r:RawZ)(B:Nat):Prop where
 nm:∃ks,w.ownsRow base 9 1 (.slice An n cn) n (kts ks)
 fc:∃L,w.ownsRow base 54 2 (.slice Af n cf) n (cat RawZ.cells L)∧∀q∈L,NZ_ w B q.val
 rs:NZ_ w B r.val
section
variable{w w':World}{base:Nat}{An:Option Addr}{n cn:Nat}{Af:Option Addr}{cf:Nat}{r:RawZ}{B:Nat}
theorem TO.tr(h:TO w base An n cn Af cf r B):TR w An n cn Af cf r B:=by obtain⟨⟨o,i⟩,⟨L,j,p⟩,k⟩:=h;exact⟨⟨o,Sl.of_own i⟩,⟨L,Sl.of_own j,p⟩,k,OfT.own i,OfT.own j⟩
theorem TO.pu(h:TO w base An n cn Af cf r B)(p:Pu w w'):TO w' base An n cn Af cf r B:=by obtain⟨⟨t,k⟩,⟨L,o,v⟩,j⟩:=h;exact⟨⟨t,zaw k p⟩,⟨L,zaw o p,fun q i=>(v q i).pu p⟩,j.pu p⟩
theorem TO.nil(j:NZ_ w B r.val):TO w base none 0 0 none 0 r B:=⟨⟨[],World.ownsRow_nil _ _ _ _⟩,⟨[],World.ownsRow_nil _ _ _ _,fun q i=>by cases i⟩,j⟩
theorem TO.frT{S:Nat→Prop}(h:TO w base An n cn Af cf r B)(F:Fr S w w')(H:∀g,S g→∃t j o,w.heap[g]?=some (.cells j t o)∧t≠3∧t≠9∧t≠54):TO w' base An n cn Af cf r B:=by
 have J:∀g,S g→∃t j o,w.heap[g]?=some (.cells j t o)∧t≠3:=fun g hg=>by obtain⟨t,j,o,e,y,_⟩:=H g hg;exact⟨t,j,o,e,y⟩
 have G:∀{v:Value},NZ_ w B v→NZ_ w' B v:=fun⟨z,y,C⟩=>⟨z,y.frT F J,C⟩
 have i:∀{A:Option Addr} {m c k:Nat} {e:TypeId} {E:List Value},w.ownsRow base e k (.slice A m c) m E→(e=9∨e=54)→w'.ownsRow base e k (.slice A m c) m E:=fun ho he=>zbp ho F (fun g hg hS=>by
  obtain⟨t,j,o,K,_,C,D⟩:=H g hS;obtain⟨_,t',O,N,p,x⟩:=zah ho g hg;rw [K]at p;injection p with p;injection p with _ p _;rw [←p]at x;rcases he with he|he
  ·exact C (x.trans he)
  ·exact D (x.trans he))
 obtain⟨⟨M,y⟩,⟨L,C,D⟩,x⟩:=h;exact⟨⟨M,i y (.inl rfl)⟩,⟨L,i C (.inr rfl),fun q I=>G (D q I)⟩,G x⟩
end
theorem zsi:zcE Tryz.prog 51 54 (.agg #[.int .i64 0,.slice none 0 0]) 2 32:=⟨Tryz.underlying51,by kernel_rfl,rfl,by decide⟩
def zjg(An:Option Addr)(n cn:Nat)(Af:Option Addr)(nf cf:Nat)(r:RawZ):Value:= .agg #[.slice An n cn,.slice Af nf cf,.int .i64 r.s,.slice r.A r.n r.c]
theorem zog(k:Key)(w:World):Calls Tryz.prog 46 #[.string ⟨k.toArray⟩] w fun e w'=>∃An cn Af cf r,e= .returned (zjg An 1 cn Af 1 cf r)∧TR w' An 1 cn Af cf r 1∧Pu w w':=by
 have R:Pu w ((w.alloc (.cells #[.slice none 0 0,.slice none 0 0,.int .i64 0,.slice none 0 0] 56)).alloc (.cells #[.string ⟨k.toArray⟩] 9)):=((Pu.refl w).alloc _).alloc _;have O:Blk ((w.alloc (.cells #[.slice none 0 0,.slice none 0 0,.int .i64 0,.slice none 0 0] 56)).alloc (.cells #[.string ⟨k.toArray⟩] 9)) w.heap.size 56 #[.slice none 0 0,.slice none 0 0,.int .i64 0,.slice none 0 0]:=(Blk.new w _ _).alloc _;have L:Blk ((w.alloc (.cells #[.slice none 0 0,.slice none 0 0,.int .i64 0,.slice none 0 0] 56)).alloc (.cells #[.string ⟨k.toArray⟩] 9)) (w.heap.size+1) 9 #[.string ⟨k.toArray⟩]:=Blk.at_new _ _ _ (by simp);have H:=Qh (zjz 1 ((w.alloc (.cells #[.slice none 0 0,.slice none 0 0,.int .i64 0,.slice none 0 0] 56)).alloc (.cells #[.string ⟨k.toArray⟩] 9)) (by decide));go_enter Tryz.func46,Tryz.ntmps46;go_wp2_with fail;refine H.out.mono ?_;rintro e p ⟨v,rfl,K,C⟩;obtain⟨s,A,n,c,rfl⟩:=K.raw;have M:=R.trans C;have o:=(O.pu C).alloc (.cells #[.int .i64 s,.slice A n c] 54);have J:=(L.pu C).alloc (.cells #[.int .i64 s,.slice A n c] 54);have z:Blk (p.alloc (.cells #[.int .i64 s,.slice A n c] 54)) p.heap.size 54 #[.int .i64 s,.slice A n c]:=Blk.new _ _ _;have x:=K.pu ((Pu.refl p).alloc (.cells #[.int .i64 s,.slice A n c] 54));have I:=M.alloc (.cells #[.int .i64 s,.slice A n c] 54);obtain⟨W,hWe⟩:∃W,W=p.alloc (.cells #[.int .i64 s,.slice A n c] 54):=⟨_,rfl⟩
 rw [←hWe]at o J z x I;obtain⟨S,V,t2,U⟩:=o.c4_;obtain⟨f0,f1,X,Y⟩:=o.z4_;rw [hWe]at S V t2 U f0 f1 X Y;have y:Fr (fun i=>i=w.heap.size) W ((((W.setCell ⟨w.heap.size,0,none⟩ (.slice (some ⟨w.heap.size+1,0,none⟩) 1 1)).setCell ⟨w.heap.size,1,none⟩ (.slice (some ⟨p.heap.size,0,none⟩) 1 1)).setCell ⟨w.heap.size,2,none⟩ (.int .i64 0)).setCell ⟨w.heap.size,3,none⟩ (.slice none 0 0)):=(((Fr.one W _ 0 _).trans (Fr.one _ _ 1 _)).trans (Fr.one _ _ 2 _)).trans (Fr.one _ _ 3 _);have Q:∀i,i=w.heap.size→∃t cs fz,W.heap[i]?=some (.cells cs t fz)∧t≠3:=fun i hi=>by subst hi;exact⟨_,_,_,o,by decide⟩
 have E:=J.fr y (by omega);have D:=z.fr y (z.ne_ o (by decide));have F:=x.frT y Q;have G:=(((o.set_ 0 (.slice (some ⟨w.heap.size+1,0,none⟩) 1 1)).set_ 1 (.slice (some ⟨p.heap.size,0,none⟩) 1 1)).set_ 2 (.int .i64 0)).set_ 3 (.slice none 0 0);have P:=I.step y (fun i e=>by have e':i=w.heap.size:=e;omega);obtain⟨r0,r1,r2,Z⟩:=G.c4_;have j:=Qh (AI E (AI D (AI F P)));have N:=Qh hWe;clear hWe y Q E D F G P J z x K I M C o O L;go_wp2;rw [←N.out];exact bodyPost_ret (v:=zjg (some ⟨w.heap.size+1,0,none⟩) 1 1 (some ⟨p.heap.size,0,none⟩) 1 1 ⟨0,none,0,0⟩) (by simp [results,Tryz.results46,go_sem,r0,r1,r2,Z,zjg]) rfl ⟨_,_,_,_,⟨0,none,0,0⟩,rfl,⟨⟨[k],Sl.of_blk j.out.1 1 1 1 rfl (by omega)⟩,⟨[⟨s,A,n,c⟩],Sl.of_blk j.out.2.1 2 1 1 rfl (by omega),fun q T=>by
  rw [List.mem_singleton.1 T];exact⟨1,j.out.2.2.1,by decide⟩⟩,⟨0,RZ.zero _,by decide⟩,fun b off e=>by
  injection e with e;injection e with e _ _;subst e;exact⟨_,_,j.out.1⟩,fun b off e=>by
  injection e with e;injection e with e _ _;subst e;exact⟨_,_,j.out.2.1⟩⟩,j.out.2.2.2⟩
end
section
open Go.RowKit
theorem zc4{S:Nat→Prop}{w w':World}{base n c k:Nat}{e:TypeId}{A:Option Addr}{j:List Value}(o:w.ownsRow base e k (.slice A n c) n j)(C:Fr S w w')(D:∀g,S g→∃t p v,w.heap[g]?=some (.cells p t v)∧t≠e):w'.ownsRow base e k (.slice A n c) n j:=zbp o C (fun g y z=>by obtain⟨t,p,v,E,F⟩:=D g z;obtain⟨_,t',H,G,i,x⟩:=zah o g y;rw [E]at i;injection i with i;injection i with _ i _;exact F (i.trans x))
theorem NZ_.frT{S:Nat→Prop}{w w':World}{B:Nat}{v:Value}(h:NZ_ w B v)(i:Fr S w w')(k:∀g,S g→∃t cs fz,w.heap[g]?=some (.cells cs t fz)∧t≠3):NZ_ w' B v:=by obtain⟨z,j,o⟩:=h;exact⟨z,j.frT i k,o⟩
theorem zbL{w:World}{base n c k:Nat}{e o:TypeId}{A:Option Addr}{v:List Value}(z:w.ownsRow base e k (.slice A n c) n v)(p:e≠o):∀g,(Value.slice A n c).ownBlock=some g→∃t j i,w.heap[g]?=some (.cells j t i)∧t≠o:=fun g hg=>by obtain⟨_,t,j,i,x,y⟩:=zah z g hg;exact⟨t,j,i,x,by rw [y];exact p⟩
theorem zab{w:World}{b:Nat}{e j:TypeId}{i:Array Value}(o:Blk w b e i)(k:e≠j):∀g,g=b→∃t i fz,w.heap[g]?=some (.cells i t fz)∧t≠j:=fun g hg=>by subst hg;exact⟨_,_,_,o,k⟩
theorem zdO{W:World}{b:Nat}{x y v z:Value}(k:Blk W b 56 #[x,y,v,z])(t o p j:Value):Blk ((((W.setCell ⟨b,0,none⟩ t).setCell ⟨b,1,none⟩ o).setCell ⟨b,2,none⟩ p).setCell ⟨b,3,none⟩ j) b 56 #[t,o,p,j]∧Fr (fun i=>i=b) W ((((W.setCell ⟨b,0,none⟩ t).setCell ⟨b,1,none⟩ o).setCell ⟨b,2,none⟩ p).setCell ⟨b,3,none⟩ j):=⟨(((k.set_ 0 t).set_ 1 o).set_ 2 p).set_ 3 j,(((Fr.one W _ 0 _).trans (Fr.one _ _ 1 _)).trans (Fr.one _ _ 2 _)).trans (Fr.one _ _ 3 _)⟩
theorem zpA(base:Nat)(An:Option Addr)(n cn:Nat)(Af:Option Addr)(cf:Nat)(r:RawZ)(B:Nat)(k:Key)(q:RawZ)(w:World)(h:TO w base An n cn Af cf r B)(hz:NZ_ w B q.val)(hb:base≤w.heap.size)(hn:n≤1000):Calls Tryz.prog 80 #[zjg An n cn Af n cf r,.string ⟨k.toArray⟩,q.val] w fun e w'=>∃An' n' cn' Af' cf',e= .returned (zjg An' n' cn' Af' n' cf' r)∧n'≤n+1∧TO w' base An' n' cn' Af' cf' r B∧Fr (fun j=>base≤j) w w':=by
 obtain⟨U,qA,qn,qc⟩:=q;obtain⟨Q,K,J,M⟩:=r;unfold zjg;unfold RawZ.val at hz⊢;dsimp only at hz⊢;obtain⟨W,hWe⟩:∃W,W=((w.alloc (.cells #[.slice An n cn,.slice Af n cf,.int .i64 Q,.slice K J M] 56)).alloc (.cells #[.int .i64 U,.slice qA qn qc] 54)).alloc (.cells #[.slice none 0 0,.slice none 0 0,.int .i64 0,.slice none 0 0] 56):=⟨_,rfl⟩
 have pW:Pu w W:=by rw [hWe];exact(((Pu.refl w).alloc _).alloc _).alloc _
 have k3:Blk W w.heap.size 56 #[.slice An n cn,.slice Af n cf,.int .i64 Q,.slice K J M]:=by rw [hWe];exact((Blk.new w _ _).alloc _).alloc _
 have k5:Blk W (w.heap.size+1) 54 #[.int .i64 U,.slice qA qn qc]:=by rw [hWe];exact(Blk.at_new _ _ _ (by simp)).alloc _
 have k6:Blk W (w.heap.size+1+1) 56 #[.slice none 0 0,.slice none 0 0,.int .i64 0,.slice none 0 0]:=by rw [hWe];exact Blk.at_new _ _ _ (by simp)
 have aG:=h.pu pW;have am:=hz.pu pW;have b5:W.heap.size=w.heap.size+3:=by rw [hWe];simp
 have bj:=Qh hWe;by_cases hs:U=0
 ·subst hs;obtain⟨V,hVe⟩:∃V,V=((w.alloc (.cells #[.slice An n cn,.slice Af n cf,.int .i64 Q,.slice K J M] 56)).alloc (.cells #[.int .i64 0,.slice qA qn qc] 54)).alloc (.cells #[.slice An n cn,.slice Af n cf,.int .i64 Q,.slice K J M] 56):=⟨_,rfl⟩
  have pV:Pu w V:=by rw [hVe];exact(((Pu.refl w).alloc _).alloc _).alloc _
  have kR:Blk V (w.heap.size+1+1) 56 #[.slice An n cn,.slice Af n cf,.int .i64 Q,.slice K J M]:=by rw [hVe];exact Blk.at_new _ _ _ (by simp)
  obtain⟨r0,r1,r2,r3⟩:=kR.c4_;have HH:=Qh (AI (h.pu pV) pV);have bk:=Qh hVe;clear hWe hVe kR k3 k5 k6 aG am h hz pW pV;go_enter Tryz.func80,Tryz.ntmps80;go_wp2;rw [←bk.out];exact bodyPost_ret (v:= .agg #[.slice An n cn,.slice Af n cf,.int .i64 Q,.slice K J M]) (by simp [results,Tryz.results80,go_sem,r0,r1,r2,r3]) rfl ⟨An,n,cn,Af,cf,rfl,by omega,HH.out.1,HH.out.2.fr⟩
 ·obtain⟨⟨ks,t⟩,⟨L,aH,aJ⟩,aT⟩:=aG;have a0:=k3.cell 0;rw [hWe]at a0;have b0:=k5.cell 0;rw [hWe]at b0;have b6:(U==0)=false:=by simpa using hs
  have S:=t;rw [hWe]at S;have bb:base≤W.heap.size:=by omega
  have Y:=bb;rw [hWe]at Y;clear hWe h hz;go_enter Tryz.func80,Tryz.ntmps80;go_wp2_with (at_builtin;refine zax zmM rfl _ _ rfl #[.string ⟨k.toArray⟩] rfl (by simp [Value.oneCell']) rfl rfl (by simp) S (by simp [maxLen];omega) (by omega) Y ?_);intro A1 c1 w3 aU av;rw [←bj.out]at av;have H:=Fr.of_grown av;have p:=k3.fr H (zbs t k3 (by decide));have Z:=k5.fr H (zbs t k5 (by decide));have aV:=k6.fr H (zbs t k6 (by decide));have a6:=zc4 aH H (zbL t (by decide));have a5:∀q∈L,NZ_ w3 B q.val:=fun q x=>(aJ q x).frT H (zbL t (by decide));have aq:=aT.frT H (zbL t (by decide));have aM:=am.frT H (zbL t (by decide));have aQ:Fr (fun j=>base≤j) w w3:=pW.fr.step H (fun i hi=> .inl (zah t i hi).1);obtain⟨x0,x1,x2,x3⟩:=p.c4_;obtain⟨y0,y1⟩:=Z.c2_;obtain⟨bz,bu⟩:=p.z2_;have I:=Fr.one w3 w.heap.size 0 (.slice A1 (n+1) c1);have G:=p.set_ 0 (.slice A1 (n+1) c1);have aa:=Z.fr I (Z.ne_ p (by decide));have E:=aV.fr I (by omega);have P:=zc4 aU I (zab p (by decide));have o:=zc4 a6 I (zab p (by decide));have z:∀q∈L,NZ_ _ B q.val:=fun q x=>(a5 q x).frT I (zab p (by decide));have D:=aq.frT I (zab p (by decide));have O:=aM.frT I (zab p (by decide));have F:Fr (fun j=>base≤j) w _:=aQ.step I (fun i hi=> .inl (by have e:i=w.heap.size:=hi;omega));have aZ:=F.size;have aC:=Nat.le_trans hb aZ;clear aH aJ aT am H av t S k3 k5 k6 aU a6 a5 aq aM aQ I;have HK:=Qh (AI G (AI aa E));have HR:=Qh (AI P (AI z (AI D (AI O F))));clear G aa E p Z aV P z D O F;go_wp2_with (at_builtin;refine zax zsi rfl _ _ rfl #[.int .i64 U,.slice qA qn qc] rfl (RawZ.cells_one ⟨U,qA,qn,qc⟩) rfl rfl (by simp) o (by simp [maxLen];omega) (by omega) aC ?_);intro A2 c2 w5 aK aI;have N:=Fr.of_grown aI;obtain⟨P,z,D,O,F⟩:=HR.out;obtain⟨G,aa,E⟩:=HK.out;have y:=G.fr N (zbs o G (by decide));have X:=E.fr N (zbs o E (by decide));have aO:=zc4 P N (zbL o (by decide));have a8:∀q∈L,NZ_ w5 B q.val:=fun q x=>(z q x).frT N (zbL o (by decide));have ax:=D.frT N (zbL o (by decide));have aR:=O.frT N (zbL o (by decide));have aP:Fr (fun j=>base≤j) w w5:=F.step N (fun i hi=> .inl (zah o i hi).1);obtain⟨v0,v1,v2,v3⟩:=y.c4_;have bw:=y.frozen 1;obtain⟨u0,u1,u2,u3⟩:=X.c4_;obtain⟨b9,b4,b8,b7⟩:=X.z4_;have R:=Fr.one w5 w.heap.size 1 (.slice A2 (n+1) c2);have bh:=y.set_ 1 (.slice A2 (n+1) c2);have C:=X.fr R (by omega);have aD:=zc4 aO R (zab y (by decide));have aE:=zc4 aK R (zab y (by decide));have ak:∀q∈L,NZ_ _ B q.val:=fun q x=>(a8 q x).frT R (zab y (by decide));have a4:=ax.frT R (zab y (by decide));have aW:=aR.frT R (zab y (by decide));have aL:Fr (fun j=>base≤j) w _:=aP.step R (fun i hi=> .inl (by have e:i=w.heap.size:=hi;omega));obtain⟨kR,T⟩:=zdO C (.slice A1 (n+1) c1) (.slice A2 (n+1) c2) (.int .i64 Q) (.slice K J M);have t9:=zc4 aD T (zab C (by decide));have aF:=zc4 aE T (zab C (by decide));have az:∀q∈L,NZ_ _ B q.val:=fun q x=>(ak q x).frT T (zab C (by decide));have ah:=a4.frT T (zab C (by decide));have aS:=aW.frT T (zab C (by decide));have aN:Fr (fun j=>base≤j) w _:=aL.step T (fun i hi=> .inl (by have e:i=w.heap.size+1+1:=hi;omega));obtain⟨r0,r1,r2,r3⟩:=kR.c4_;have HF:=Qh (AI t9 (AI aF (AI az (AI ah (AI aS aN)))));clear N aI P z D O F G aa E aO a8 ax aR aP R bh C aD aE ak a4 aW aL kR T t9 aF az ah aS aN aK o y X;go_wp2;refine bodyPost_ret (v:= .agg #[.slice A1 (n+1) c1,.slice A2 (n+1) c2,.int .i64 Q,.slice K J M]) (by simp [results,Tryz.results80,go_sem,r0,r1,r2,r3]) rfl ⟨A1,n+1,c1,A2,c2,rfl,Nat.le_refl _,⟨⟨ks++[k],by
   have:=HF.out.1;simpa [kts]using this⟩,⟨L++[⟨U,qA,qn,qc⟩],by
   have:=HF.out.2.1;rw [zaX];exact this,fun q x=>?_⟩,HF.out.2.2.2.1⟩,HF.out.2.2.2.2.2⟩
  rcases List.mem_append.1 x with x|x
  ·exact HF.out.2.2.1 q x
  ·rw [List.mem_singleton.1 x];exact HF.out.2.2.2.2.1
end
section
open Go.RowKit
def inR(z:Int):Bool:=decide (-1099511627776≤z)&&decide (z≤1099511627776)
theorem zkA{z:Int}(h:inR z=true):z.natAbs≤1099511627776:=by unfold inR at h;simp only [Bool.and_eq_true,decide_eq_true_eq]at h;omega
def zcn(p:Key×Int):Bool:=inR p.2&&decide (p.1.length≤40)&&zdN p.1
def okM(ps:List (Key×Int))(rest:Int):Bool:=decide (ps.length≤12)&&inR rest&&ps.all zcn
def zlB(p:Key×Int):List (Key×Int):=zG [] [(p.1,1)] p.2
def zoH(fs:List (Key×Int))(p:Key×Int):List (Key×Int):=zG fs (zlB p) 1
def zh9(ps:List (Key×Int)):List (Key×Int):=ps.foldl zoH []
theorem zgb{ps:List (Key×Int)}{i:Nat}{p:Key×Int}(h:ps[i]?=some p):zh9 (ps.take (i+1))=zoH (zh9 (ps.take i)) p:=by unfold zh9;rw [List.take_add_one,h,List.foldl_append];rfl
theorem zh4(p:Key×Int):(zlB p).length≤1:=by have:=zcA (n:=p.2) [(p.1,1)] [];simpa [zlB]using this
theorem zjy(p:Key×Int):zad p.2.natAbs (zlB p):=by have h:=zbO (K:=0) (M:=p.2.natAbs) (n:=p.2) (g:=(p.1,1)) (zad.nil 0) (by simp);rw [Nat.zero_add]at h;exact h
theorem zpZ(fs:List (Key×Int))(p:Key×Int):(zoH fs p).length≤fs.length+1:=by have i:=zcA (n:=1) (zlB p) fs;have j:=zh4 p;unfold zoH;omega
theorem znU{K M:Nat}{fs:List (Key×Int)}{p:Key×Int}(h:zad K fs)(o:p.2.natAbs≤M):zad (K+M) (zoH fs p):=by
 have i:=zh4 p;have k:=zjy p;unfold zoH
 match e:zlB p with
 | []=>exact h.le (Nat.le_add_right _ _)
 | [g]=>
  have j:(g.2*1).natAbs≤M:=by have:=k g (by rw [e];exact List.mem_singleton.2 rfl);rw [Int.mul_one];omega
  exact zbO h j
 |_::_::_=>rw [e]at i;simp at i
theorem zo8(ps:List (Key×Int)):∀i,i≤ps.length→(zh9 (ps.take i)).length≤i:=by
 intro i
 induction i with
 |zero=>intro _;simp [zh9]
 |succ i ih=>intro h;have j:ps[i]?=some ps[i]:=List.getElem?_eq_getElem (by omega);rw [zgb j];have:=zpZ (zh9 (ps.take i)) ps[i];have:=ih (by omega);omega
theorem zjY{ps:List (Key×Int)}{M:Nat}:∀i,i≤ps.length→(∀p∈ps.take i,p.2.natAbs≤M)→zad (i*M) (zh9 (ps.take i)):=by
 intro i
 induction i with
 |zero=>intro _ _;simp only [List.take_zero,Nat.zero_mul];exact zad.nil 0
 |succ i ih=>
  intro h o;have k:ps[i]?=some ps[i]:=List.getElem?_eq_getElem (by omega);rw [zgb k,Nat.succ_mul];have j:ps[i]∈ps.take (i+1):=by rw [List.take_add_one,k];exact List.mem_append_right _ (List.mem_singleton.2 rfl)
  refine znU (ih (by omega) fun p t=>o p ?_) (o _ j);rw [List.take_add_one];exact List.mem_append_left _ t
theorem zkN{ps:List (Key×Int)}{rest:Int}{i:Nat}{p:Key×Int}(h:ps[i]?=some p)(j:zcn p=false):okM ps rest=false:=by
 unfold okM;have:ps.all zcn=false:=by rw [List.all_eq_false];exact⟨p,List.mem_of_getElem? h,by simp [j]⟩
 simp [this]
theorem zqV{ps:List (Key×Int)}{rest:Int}(i:ps.length≤12)(j:inR rest=true)(h:∀p∈ps,zcn p=true):okM ps rest=true:=by unfold okM;simp only [Bool.and_eq_true,decide_eq_true_eq,List.all_eq_true];exact⟨⟨i,j⟩,h⟩
def zfh(p:Key×Int):List Value:=[.string ⟨p.1.toArray⟩,.int .i64 p.2]
theorem zdm(p:Key×Int):(zfh p).length=2:=rfl
theorem ziU(z:Int)(w:World)(j: -9223372036854775808≤z)(k:z≤9223372036854775807):Calls Tryz.prog 44 #[.int .i64 z] w fun e w'=>∃v y,e= .returned v∧RZ w' v y∧y.natAbs≤z.natAbs∧Pu w w':=by
 by_cases h:z= -9223372036854775808
 ·subst h;refine(znr w).mono ?_;rintro e w' ⟨v,rfl,i,p⟩;exact⟨v,0,rfl,i,Nat.zero_le _,p⟩
 ·refine(zjz z w (by omega)).mono ?_;rintro e w' ⟨v,rfl,i,p⟩;exact⟨v,z,rfl,i,Nat.le_refl _,p⟩
end
end Go.Proofs.YtckfnbckoclhpaaGreatDoor

/- Maps by texts. -/
import Derived.Test.YtckfnbckoclhpaaGreatDoorProg
import Derived.Test.YtckfnbckoclhpaaGreatDoorC01
import Derived.Deep.RegionLaw
import Derived.Deep.QuietTactic
import Derived.Sort.Walk0
import Derived.Laws.Cover1
import Derived.Lib.SliceRun
import Derived.Lib.Overlaps
import Derived.Lib.AppendZerosOnto
import Derived.Lib.AppendZeros
import Derived.Laws.Externs
namespace Go.Proofs.YtckfnbckoclhpaaGreatDoor
set_option linter.unusedVariables false
set_option linter.unusedSimpArgs false
set_option maxRecDepth 100000
set_option maxHeartbeats 2000000
section
open Go.RowKit
def zfL(x y:Key):Int:=if x<y then -1 else if y<x then 1 else 0
theorem zdP{x y:Key}(h:x<y):zfL x y= -1:=by simp [zfL,h]
theorem zdJ{x y:Key}(h:y<x):zfL x y=1:=by unfold zfL;rw [if_neg (fun i=>zev x (zdC i h)),if_pos h]
theorem zfG{x y:Key}(h:x=y):zfL x y=0:=by unfold zfL;rw [h,if_neg (zev y),if_neg (zev y)]
theorem zgi(x:Key)(w:World):Calls Tryz.prog 128 #[.string ⟨x.toArray⟩] w fun e w'=>e= .returned (.bool false)∧w=w':=by go_enter Tryz.func128,Tryz.ntmps128;go_wp2;go_ret;exact⟨rfl,rfl⟩
theorem zf9(x y:Key):Op.bytesLess x y=decide (x<y):=bytesLess_eq x y
theorem zep(x y:Key)(w:World):Calls Tryz.prog 87 #[.string ⟨x.toArray⟩,.string ⟨y.toArray⟩] w fun e w'=>e= .returned (.int .i64 (zfL x y))∧w=w':=by
 have p:∀z,zfL x y=z→Calls Tryz.prog 87 #[.string ⟨x.toArray⟩,.string ⟨y.toArray⟩] w fun e w'=>e= .returned (.int .i64 z)∧w=w':=by
  intro z i;have o:=zf9 x y;have j:=zf9 y x;rcases zij x y with h|h|h
  ·rw [zdP h]at i;subst i;rw [decide_eq_true h]at o;rw [decide_eq_false (fun k=>zev x (zdC h k))]at j;go_enter Tryz.func87,Tryz.ntmps87;go_wp2_with (first| (go_at_call 128;refine(zgi _ _).mono ?_;rintro e t ⟨rfl,rfl⟩));go_ret;exact⟨rfl,rfl⟩
  ·rw [zfG h]at i;subst i;subst h;rw [decide_eq_false (zev x)]at o j;go_enter Tryz.func87,Tryz.ntmps87;go_wp2_with (first| (go_at_call 128;refine(zgi _ _).mono ?_;rintro e t ⟨rfl,rfl⟩));go_ret;exact⟨rfl,rfl⟩
  ·rw [zdJ h]at i;subst i;rw [decide_eq_true h]at j;rw [decide_eq_false (fun k=>zev x (zdC k h))]at o;have v:(x==y)=false:=by simpa using fun e:x=y=>zev y (e▸h)
   go_enter Tryz.func87,Tryz.ntmps87;go_wp2_with (first| (go_at_call 128;refine(zgi _ _).mono ?_;rintro e t ⟨rfl,rfl⟩));go_ret;exact⟨rfl,rfl⟩
 exact p _ rfl
end
section
open Go.RowKit
abbrev ptr(b:Nat):Value:= .pointer (some ⟨b,0,none⟩)
abbrev vcP(q:Nat):List Value:=[.pointer (some ⟨q,0,none⟩)]
theorem zdH(q:Nat):(vcP q).length=1:=rfl
theorem znE(q:Nat):∀u∈vcP q,u.oneCell'=true:=by intro u i;simp at i;subst i;rfl
theorem zov:zcE Tryz.prog 99 102 (.agg #[.string ⟨#[]⟩,.pointer none]) 2 24:=⟨Tryz.underlying99,by kernel_rfl,rfl,by decide⟩
theorem atP{w:World}{A:Option Addr}{n c:Nat}{l:List (Key×Nat)}(h:Sl w 2 A n c (kps vcP l)){j:Nat}{x:Key}{q:Nat}(p:l[j]?=some (x,q)):∃b off,A=some ⟨b,off,none⟩∧b<w.heap.size∧w.cell? ⟨b,off+j*2,none⟩=some (.string ⟨x.toArray⟩)∧w.cell? ⟨b,off+j*2+1,none⟩=some (ptr q):=by obtain⟨b,off,rfl,o,i,k⟩:=zmV (s:=1) zdH h p;exact⟨b,off,rfl,o,i,k 0 _ rfl⟩
theorem zos{w:World}{A:Option Addr}{n c:Nat}{l:List (Key×Nat)}(h:Sl w 2 A n c (kps vcP l)):l.length=n:=Sl.klen (s:=1) zdH h
theorem zh2(x k:Key)(q:Nat)(w:World):Calls Tryz.prog 187 #[.agg #[.string ⟨x.toArray⟩,ptr q],.string ⟨k.toArray⟩] w fun e w'=>e= .returned (.int .i64 (zfL x k))∧Pu w w':=by go_enter Tryz.func187,Tryz.ntmps187;go_wp2_with fail;refine(zep x k _).mono ?_;rintro e i ⟨rfl,rfl⟩;go_wp2;go_ret;exact⟨rfl,(Pu.refl w).alloc _⟩
theorem zql(A:Option Addr)(n c:Nat)(l:List (Key×Nat))(k:Key)(w:World)(h:Sl w 2 A n c (kps vcP l))(hn:n≤4000000)(H:zx l):Calls Tryz.prog 186 #[.slice A n c,.string ⟨k.toArray⟩,.func (.func 187) #[] #[]] w fun e w'=>e= .returned (.tuple #[.int .i64 (place l k:Int),.bool (there l k)])∧Pu w w':=by
 have hl:=zos h;have N:=Qh (fun j p h=>zbj k l H j p h);have TA:=Qh (fun j p (h:l[j]?=some p) e=>zfb H (k:=k) h e);have Q:=Qh (zD H k);have ad:=zbb l k;generalize hP:place l k=P at*
 generalize hth:there l k=G at*
 clear hP hth;go_enter Tryz.func186,Tryz.ntmps186;go_wp2_with fail
 go_loopw [9,10] (fun a b wr=>∃i j:Nat,i≤P∧P≤j∧j≤n∧a= .int .i64 i∧b= .int .i64 j∧Pu w wr) (fun a b _=>(intOf b).toNat - (intOf a).toNat)
 case atStart=>exact⟨0,n,Nat.zero_le _,by omega,Nat.le_refl _,rfl,rfl,Pu.refl _⟩
 case round=>
  obtain⟨i,j,X,R,Z,rfl,rfl,o⟩:=hrel;by_cases ae:i<j
  ·obtain⟨p,hp⟩:∃p,l[(i+j)/2]?=some p:=⟨_,List.getElem?_eq_getElem (by omega)⟩
   obtain⟨x,q⟩:=p;obtain⟨Y,off,rfl,K,B,z⟩:=atP (h.pu o) hp;have ps:=N.out _ _ hp;have F:=Qh ps;clear hp ps;by_cases v:x<k
   ·have J:=F.out.2 v;have t:=zdP v;have E:=Qh t;clear F v t;go_wp2_with fail;refine(zh2 x k q _).mono ?_;rintro e M ⟨rfl,D⟩;rw [E.out];have y:=o.trans D;clear B z o;go_wp2;go_roundw
    case rel=>exact⟨(i+j)/2+1,j,by omega,R,Z,by go_num,rfl,y⟩
    case measure=>simp [intOf];omega
   ·have J:¬(i+j)/2<P:=fun h=>v (F.out.1 h);have t:∃s,zfL x k=s∧decide (s<0)=false:=by
     unfold zfL;rw [if_neg v];split
     ·exact⟨1,rfl,rfl⟩
     ·exact⟨0,rfl,rfl⟩
    obtain⟨U,t,W⟩:=t;have E:=Qh t;clear F v t;go_wp2_with fail;refine(zh2 x k q _).mono ?_;rintro e M ⟨rfl,D⟩;rw [E.out];have y:=o.trans D;clear B z o;go_wp2;go_roundw
    case rel=>exact⟨i,(i+j)/2,X,by omega,by omega,rfl,rfl,y⟩
    case measure=>simp [intOf];omega
  ·obtain rfl:i=P:=by omega
   obtain rfl:j=i:=by omega
   by_cases af:j<n
   ·obtain⟨p,hp⟩:∃p,l[j]?=some p:=⟨_,List.getElem?_eq_getElem (by omega)⟩
    obtain⟨x,q⟩:=p;obtain⟨Y,off,rfl,K,B,z⟩:=atP (h.pu o) hp;have I:=Qh (fun e=>TA.out j _ hp e);have T:=Qh hp;clear hp;have O:∃s,zfL x k=s∧(s==0)=G:=by
     rcases G with _|_
     ·have S:x≠k:=fun e=>by have:=(I.out e).1;cases this
      have L:¬x<k:=fun h=>by have:=(N.out _ _ T.out).2 h;omega
      rcases zij x k with h|h|h
      ·exact absurd h L
      ·exact absurd h S
      ·exact⟨_,zdJ h,rfl⟩
     ·obtain⟨u,C⟩:=Q.out.1 rfl;rw [T.out]at C;injection C with C;injection C with e _;exact⟨_,zfG e,rfl⟩
    obtain⟨U,t,W⟩:=O;have E:=Qh t;clear I t;go_wp2_with fail;refine(zh2 x k q _).mono ?_;rintro e M ⟨rfl,D⟩;rw [E.out];have y:=o.trans D;clear B z o;go_wp2;go_ret2;exact⟨rfl,y⟩
   ·have V:G=false:=by
     rcases G with _|_
     ·rfl
     ·obtain⟨u,C⟩:=Q.out.1 rfl;have:=(List.getElem?_eq_some_iff.1 C).1;omega
    subst V;go_wp2;go_ret2;exact⟨rfl,o⟩
end
section
open Go.RowKit
def MRP(w:World)(b:Nat)(l:List (Key×Nat)):Prop:=∃A n c,Blk w b 153 #[.slice A n c]∧Sl w 2 A n c (kps vcP l)∧n≤1100000∧zx l
theorem MRP.pu{w w':World}{b:Nat}{l:List (Key×Nat)}(h:MRP w b l)(i:Pu w w'):MRP w' b l:=by obtain⟨A,n,c,j,k,o⟩:=h;exact⟨A,n,c,j.pu i,k.pu i,o⟩
theorem MRP.rise{w:World}{b:Nat}{l:List (Key×Nat)}(h:MRP w b l):zx l:=by obtain⟨A,n,c,j,k,o,i⟩:=h;exact i
theorem MRP.len{w:World}{b:Nat}{l:List (Key×Nat)}(h:MRP w b l):l.length≤1100000:=by obtain⟨A,n,c,o,i,j,k⟩:=h;rw [zos i];exact j
def MOP(w:World)(base b:Nat)(r:Option Nat)(l:List (Key×Nat)):Prop:=∃A n c,Blk w b 153 #[.slice A n c]∧w.ownsRow base 102 2 (.slice A n c) n (kps vcP l)∧(Value.slice A n c).ownBlock=r∧base≤b∧n≤1100000∧zx l
section
variable{w w':World}{base b:Nat}{r:Option Nat}{l:List (Key×Nat)}
theorem MOP.mr(h:MOP w base b r l):MRP w b l:=by obtain⟨A,n,c,i,j,t,p,k,o⟩:=h;exact⟨A,n,c,i,Sl.of_own j,k,o⟩
theorem MOP.fr{S:Nat→Prop}(h:MOP w base b r l)(i:Fr S w w')(p:¬S b)(x:∀g,r=some g→¬S g):MOP w' base b r l:=by obtain⟨A,n,c,o,v,j,k⟩:=h;exact⟨A,n,c,o.fr i p,zbp v i (fun g t=>x g (by rw [←j,t])),j,k⟩
theorem MOP.pu(h:MOP w base b r l)(i:Pu w w'):MOP w' base b r l:=h.fr i (fun x=>x) (fun _ _ x=>x)
theorem MOP.base_{base':Nat}(h:MOP w base b r l)(i:base'≤base):MOP w base' b r l:=by obtain⟨A,n,c,k,o,t,j,p⟩:=h;exact⟨A,n,c,k,zbK o i,t,Nat.le_trans i j,p⟩
theorem MOP.lt(h:MOP w base b r l):base≤b∧b<w.heap.size:=by obtain⟨A,n,c,j,k,p,i,o,t⟩:=h;exact⟨i,j.lt⟩
theorem MOP.row(h:MOP w base b r l):∀g,r=some g→base≤g∧g<w.heap.size∧g≠b:=by
 obtain⟨A,n,c,x,o,j,C,E,D⟩:=h;intro g i;have p:=o.lt g (by rw [j,i]);refine⟨p.1,p.2,?_⟩;rintro rfl;rcases o.2 with⟨k,_⟩|⟨y,B,z,k,_,v,_⟩
 ·rw [k]at j;rw [←j]at i
  cases i
 ·have e:y=g:=by
   rw [k]at j;rw [←j]at i;injection i
  subst e;exact(Blk.ne_ (t:=102) (t':=153) v x (by decide)) rfl
end
theorem zrB(b:Nat)(l:List (Key×Nat))(k:Key)(w:World)(h:MRP w b l):Calls Tryz.prog 175 #[.pointer (some ⟨b,0,none⟩),.string ⟨k.toArray⟩] w fun e w'=>e= .returned (.tuple #[.int .i64 (place l k:Int),.bool (there l k)])∧Pu w w':=by obtain⟨A,n,c,i,o,v,p⟩:=h;have x:w.cell? ⟨b,0,none⟩=some (.slice A n c):=i.cell 0;go_enter Tryz.func175,Tryz.ntmps175;go_wp2_with fail;refine(zql A n c l k _ o (by omega) p).mono ?_;rintro e t ⟨rfl,j⟩;go_wp2;go_ret2;exact⟨rfl,j⟩
theorem zsh(w:World):Calls Tryz.prog 34 #[] w fun e w'=>∃b,e= .returned (.pointer (some ⟨b,0,none⟩))∧MOP w' w.heap.size b none []∧Pu w w':=by go_enter Tryz.func34,Tryz.ntmps34;go_wp2;go_ret;exact⟨w.heap.size,rfl,⟨none,0,0,Blk.new _ _ _,World.ownsRow_nil _ _ _ _,rfl,Nat.le_refl _,by omega,List.Pairwise.nil⟩,(Pu.refl w).alloc _⟩
end
section
open Go.RowKit
def gvP(l:List (Key×Nat))(k:Key):Value:=if there l k then(match l[place l k]? with|some (_,q)=>ptr q|none=> .pointer none)else .pointer none
theorem zse(b:Nat)(l:List (Key×Nat))(k:Key)(w:World)(h:MRP w b l):Calls Tryz.prog 151 #[.pointer (some ⟨b,0,none⟩),.string ⟨k.toArray⟩] w fun e w'=>e= .returned (.tuple #[gvP l k,.bool (there l k)])∧Pu w w':=by
 have z:=fun W p=>zrB b l k W (h.pu (w':=W) p);have t:=Qh z;clear z;obtain⟨A,n,c,E,B,L,F⟩:=h;have x:=Qh (zD F k);have K:=zos B;rcases hth:there l k with _|_
 ·have i:gvP l k= .pointer none:=by rw [gvP,hth];rfl
  have y:=Qh i;rw [y.out];rw [hth]at t;clear i hth x;generalize place l k=P at*
  go_enter Tryz.func151,Tryz.ntmps151;go_wp2_with fail;refine(t.out _ (Pu.refl w)).mono ?_;rintro e C ⟨rfl,j⟩;go_wp2;go_ret2;exact⟨rfl,j⟩
 ·obtain⟨q,o⟩:=x.out.1 hth;have i:gvP l k=ptr q:=by rw [gvP,hth,o];rfl
  have y:=Qh i;rw [y.out];rw [hth]at t;have I:=(List.getElem?_eq_some_iff.1 o).1;clear i hth x;generalize place l k=P at*
  obtain⟨G,off,rfl,H,D,v⟩:=atP B o;clear o;go_enter Tryz.func151,Tryz.ntmps151;go_wp2_with fail;refine(t.out _ (Pu.refl w)).mono ?_;rintro e C ⟨rfl,j⟩;have J:C.cell? ⟨b,0,none⟩=some (.slice (some ⟨G,off,none⟩) n c):=(E.pu j).cell 0;have M:=j.cellv v;clear D v;go_wp2;go_ret2;exact⟨rfl,j⟩
theorem zjh(w:World)(i:Array Value)(h:i.size=0){base:Nat}(j:base≤w.heap.size):(w.alloc (.cells i 102)).ownsRow base 102 2 (.slice (some ⟨w.heap.size,0,none⟩) 0 0) 0 []:=by refine⟨by simp,.inr ⟨w.heap.size,0,i,rfl,j,heap_alloc_new w _,Nat.le_refl _,Nat.zero_le _,by omega,?_⟩⟩;simp
theorem zrN(A:Option Addr)(n c:Nat)(l:List (Key×Nat))(w:World)(h:Sl w 2 A n c (kps vcP l))(B:n≤4000000):Calls Tryz.prog 71 #[.slice A n c] w fun e w'=>∃A' i,e= .returned (.slice A' n i)∧w'.ownsRow w.heap.size 102 2 (.slice A' n i) n (kps vcP l)∧Pu w w':=by
 have t:=zos h;have z:∀(w:World) (a:Option Addr) (n c o i:Nat),(binOp .eql 99 (.slice a n c) (.slice none o i)).run Tryz.prog w= .ok (.bool a.isNone) w:=fun w a n c o i=>Lib.run_eql_slice_nil w _ _ a n c o i Tryz.underlying99;rcases A with _|a
 ·have j:n=0:=by
   rcases Nat.eq_zero_or_pos n with j|j
   ·exact j
   ·obtain⟨b,off,e,_⟩:=h.2.2 j
    cases e
  subst j;obtain rfl:l= []:=List.eq_nil_of_length_eq_zero t;go_enter Tryz.func71,Tryz.ntmps71;go_wp2;go_ret;exact⟨none,0,rfl,World.ownsRow_nil _ _ _ _,Pu.refl _⟩
 ·go_enter Tryz.func71,Tryz.ntmps71;go_wp2_with (at_builtin;refine zaY zov rfl (.tmp 5) (.tmp 6) rfl rfl rfl (zjh w _ (by rfl) (Nat.le_refl _)) (h.pu ((Pu.refl _).alloc _)) (zgY znE _) (by simp [maxLen];omega) (by omega) (by simp) ?_);intro x v C k p;have y:=zam ((Pu.refl w).alloc _) (zjh w #[] rfl (Nat.le_refl _)) (Nat.le_refl _) p;go_wp2;go_ret;exact⟨x,v,rfl,by simpa using k,y⟩
theorem zrM(b:Nat)(l:List (Key×Nat))(w:World)(h:MRP w b l):Calls Tryz.prog 36 #[.pointer (some ⟨b,0,none⟩)] w fun e w'=>∃A n c,e= .returned (.slice A n c)∧w'.ownsRow w.heap.size 102 2 (.slice A n c) n (kps vcP l)∧n≤1100000∧Pu w w':=by obtain⟨A,n,c,i,k,p,z⟩:=h;have y:w.cell? ⟨b,0,none⟩=some (.slice A n c):=i.cell 0;go_enter Tryz.func36,Tryz.ntmps36;go_wp2_with fail;refine(zrN A n c l _ k (by omega)).mono ?_;rintro e x ⟨t,o,rfl,v,j⟩;go_wp2;go_ret;exact⟨t,n,o,rfl,v,p,j⟩
end
section
open Go.RowKit
abbrev zcO(l:List (Key×Nat)):List Value:=kps vcP l
theorem zd4(l:List (Key×Nat)):(zcO l).length=l.length*2:=zc9 (s:=1) zdH l
theorem zjf(l:List (Key×Nat))(i:Nat):zcO (l.take i)=(zcO l).take (i*2):=zd7 (s:=1) zdH l i
theorem zfk(l:List (Key×Nat))(i:Nat):zcO (l.drop i)=(zcO l).drop (i*2):=zd9 (s:=1) zdH l i
theorem zka(l i:List (Key×Nat)):zcO (l++i)=zcO l++zcO i:=zbC l i
theorem zlm(l:List (Key×Nat)):∀u∈zcO l,u.oneCell'=true:=zgY znE l
theorem zhU{l:List (Key×Nat)}{i:Nat}{k:Key}{v:Nat}(o:i≤l.length)(j:Nat):(zcO (zbW l i k v))[j]?=if j<i*2 then(zcO l)[j]? else if j<i*2+2 then [Value.string ⟨k.toArray⟩,ptr v][j - i*2]? else(zcO l)[j - 2]?:=zgP (s:=1) zdH o j
theorem zea{l:List (Key×Nat)}{i:Array Value}{n:Nat}(h:i.toList.take (n*2)=zcO l){j:Nat}(k:j<n*2):i[j]?=(zcO l)[j]?:=by rw [←h,List.getElem?_take,if_pos k];simp
def zdL(base:Nat)(A:Option Addr)(n c i:Nat)(l:List (Key×Nat))(k:Key)(v:Nat)(w:World)(e:Ending)(w':World):Prop:=∃A' c',e= .returned (.slice A' (n+1) c')∧w'.ownsRow base 102 2 (.slice A' (n+1) c') (n+1) (zcO (zbW l i k v))∧((Value.slice A' (n+1) c').ownBlock=(Value.slice A n c).ownBlock∨∃g,(Value.slice A' (n+1) c').ownBlock=some g∧w.heap.size≤g)∧Fr (fun j=>(Value.slice A n c).ownBlock=some j) w w'
theorem ziN(base:Nat)(g n c i z:Nat)(l:List (Key×Nat))(k:Key)(v:Nat)(w:World)(h:w.ownsRow base 102 2 (.slice (some ⟨g,0,none⟩) n c) n (zcO l))(hi:i<n)(hn:n≤1100000) (F:Blk w z 102 #[.string ⟨k.toArray⟩,ptr v]) (T:z≠g) (ak:n+1≤c):Calls Tryz.prog 176 #[.slice (some ⟨g,0,none⟩) n c,.int .i64 i,.slice (some ⟨z,0,none⟩) 1 1] w (zdL base (some ⟨g,0,none⟩) n c i l k v w):=by
 have Z:l.length=n:=zos (Sl.of_own h);obtain⟨o,U,I,hb,E,a4,W,J,N⟩:=zaU h (by omega);obtain rfl:o=g:=by injection I with I;injection I with I;exact I.symm
 have ap:c≤9223372036854775807:=W;obtain⟨i0,ai,a0,ae,aw⟩:=info_parts zov.info;have M:(Tryz.prog.info? 102).map (·.size)=some 2:=by kernel_rfl
 have D:(zcO (l.drop i)).length=(n - i)*2:=by rw [zd4];simp [Z]
 obtain⟨p,hds⟩:∃p:Array Value,p=(zgl U.toList ((i+1)*2) (zcO (l.drop i))).toArray:=⟨_,rfl⟩
 have G:p.size=c*2:=by rw [hds,List.size_toArray,zaO _ _ _ (by rw [D,Array.length_toList];omega),Array.length_toList,J]
 have y:Nat.min (n+1 - i) (n - i)=n - i:=by simp only [Nat.min_def];split<;>omega
 have L:∀ty B C,(Builtin.copy_ #[99,99] ty #[.slice (some ⟨o,(i+1)*2,none⟩) (n - i) B,.slice (some ⟨o,i*2,none⟩) (n+1 - i) C]).run Tryz.prog w.drew=
   .ok (goInt ((n - i:Nat):Int)) (w.drew.setRow o p):=fun ty B C=>by
  have:=zZ (P:=Tryz.prog) w.drew 99 99 ty _ 2 o ((i+1)*2) (n - i) B ⟨o,i*2,none⟩ (n+1 - i) C U _ (zcO (l.drop i)) zov.under M E.drew (by rw [D,y]) (fun j u hu=>by have hj:=(List.getElem?_eq_some_iff.1 hu).1;rw [Addr.add_lit,E.drew.cell,zea N (by omega)];rw [zfk,List.getElem?_drop]at hu;exact hu) (by omega) (zlm _);rw [this,hds,y]
 have H:Blk (w.drew.setRow o p) o 102 p:=zaj E.drew p;have R:Blk (w.drew.setRow o p) z 102 #[.string ⟨k.toArray⟩,ptr v]:=F.drew.fr (zU w.drew o p) T;obtain⟨t,hes⟩:∃t:Array Value,t=(zgl p.toList (i*2) [Value.string ⟨k.toArray⟩,ptr v]).toArray:=⟨_,rfl⟩
 have O:t.size=c*2:=by rw [hes,List.size_toArray,zaO _ _ _ (by rw [Array.length_toList];simp;omega),Array.length_toList,G]
 have x:Nat.min 1 (n+1 - i)=1:=by simp only [Nat.min_def];split<;>omega
 have K:∀ty B C,(Builtin.copy_ #[99,99] ty #[.slice (some ⟨o,i*2,none⟩) (n+1 - i) B,.slice (some ⟨z,0,none⟩) 1 C]).run Tryz.prog (w.drew.setRow o p)=
   .ok (goInt ((1:Nat):Int)) ((w.drew.setRow o p).setRow o t):=fun ty B C=>by
  have:=zZ (P:=Tryz.prog) (w.drew.setRow o p) 99 99 ty _ 2 o (i*2) (n+1 - i) B ⟨z,0,none⟩ 1 C p _ [Value.string ⟨k.toArray⟩,ptr v] zov.under M H (by rw [x];rfl) (fun j u hu=>by rw [Addr.add_lit,Nat.zero_add,R.cell,←hu];simp) (by simp;omega) (by simp [Value.oneCell']);rw [this,hes,x]
 have V:Blk ((w.drew.setRow o p).setRow o t) o 102 t:=zaj H t;have Y:((w.drew.setRow o p).setRow o t).ownsRow base 102 2 (.slice (some ⟨o,0,none⟩) (n+1) c) (n+1) (zcO (zbW l i k v)):=by
  refine zaD hb V (by omega) W O (by rw [zd4,zcZ (by omega),Z]) fun j hj=>?_;rw [zhU (by omega),hes,List.getElem?_toArray,zaM _ _ _ (by rw [Array.length_toList];simp;omega),hds,Array.getElem?_toList,List.getElem?_toArray,zaM _ _ _ (by rw [D,Array.length_toList];omega)];by_cases c1:j<i*2
  ·rw [if_neg (by omega),if_neg (by omega),if_pos c1,Array.getElem?_toList,zea N (by omega)]
  ·by_cases c2:j<i*2+2
   ·rw [if_pos (by simp;omega),if_neg c1,if_pos c2]
   ·rw [if_neg (by simp;omega),if_pos (by omega),if_neg c1,if_neg c2,zfk,List.getElem?_drop]
    congr 1
    omega
 have af:Fr (fun j=>(Value.slice (some ⟨o,0,none⟩) n c).ownBlock=some j) w ((w.drew.setRow o p).setRow o t):=by have h1:=(Fr.refl (fun j=>j=o) w).drew.trans (zU w.drew o p);exact(h1.trans (zU _ o t)).mono (fun j _ e=>by rw [e];rfl)
 have Q:∀lb cb,(callFunc 188 #[.slice (some ⟨z,0,none⟩) 1 1,.slice (some ⟨o,(i+1)*2,none⟩) lb cb]).run Tryz.prog w= .ok (.value (.bool false)) w:=fun lb cb=>by rw [run_callFunc_extern Tryz.func188 (by kernel_rfl) (by kernel_rfl) (by kernel_rfl) (e:=Extern.SlicesOverlaps.overlaps #[99,99] #[4]) (by kernel_rfl),Lib.run_overlaps_apart w 99 4 102 zov.under 2 (fun w=>by simp [sizeOf,typeInfo,ai,ae]) ⟨z,0,none⟩ ⟨o,(i+1)*2,none⟩ 1 1 lb cb T 102 102 2 (c*2) F.shape (by rw [E.shape,J]) (by omega) (F.frozen 0) (F.frozen 2)];rfl
 have ag:=Qh Q;have X:=Qh L;have ad:=Qh K;have e1:((i:Int)==(n:Int))=false:=by simp;omega
 have e2:¬(c=i):=by omega
 have e3:¬(c=i+1):=by omega
 have e4:decide ((n:Int)+1>(c:Int))=false:=by simp;omega
 have e5:decide ((c:Int)<(n:Int)+1)=false:=by simp;omega
 have av:i≤n:=by omega
 have au:IntKind.i64.wrap ((i:Int)+1)=(i:Int)+1:=IntWalk.i64_in _ (by omega);have a7:IntKind.i64.wrap ((n:Int)+1)=(n:Int)+1:=IntWalk.i64_in _ (by omega);have a5:(0:Int)≤(i:Int)+1:=by omega
 have a6:(i:Int)+1≤(n:Int)+1:=by omega
 have az:(i:Int)≤(n:Int)+1:=by omega
 have ax:((i:Int)+1).toNat=i+1:=by omega
 have am:((n:Int)+1).toNat=n+1:=by omega
 clear hes O hds G E H V F R N J Q L K D Z h hb y x;go_enter Tryz.func176,Tryz.ntmps176;go_wp2_with (simp only [ag.out])
 go_region_law (refine zaI (S:=Builtin.copy_) (fun _ _ _ _=>rfl) rfl (.tmp 73) (.tmp 76) _ rfl _ _ (by simp [Act.eval,Act.put]) (by simp [Act.eval,Act.put]) (X.out _ (c - (i+1)) (c - i)) ?_)
 go_wp2_with (simp only [ad.out]);go_ret;exact⟨some ⟨o,0,none⟩,c,rfl,Y,.inl rfl,af⟩
theorem zkL(base:Nat)(A:Option Addr)(n c y:Nat)(l:List (Key×Nat))(k:Key)(v:Nat)(w:World)(h:w.ownsRow base 102 2 (.slice A n c) n (zcO l))(H:n≤1100000)(o:base≤w.heap.size) (F:Blk w y 102 #[.string ⟨k.toArray⟩,ptr v]):Calls Tryz.prog 176 #[.slice A n c,.int .i64 n,.slice (some ⟨y,0,none⟩) 1 1] w (zdL base A n c n l k v w):=by
 have I:l.length=n:=zos (Sl.of_own h);have E:=zci h;have G:c≤9223372036854775807:=E.2;have C:Sl w 2 (some ⟨y,0,none⟩) 1 1 [Value.string ⟨k.toArray⟩,ptr v]:=Sl.of_blk F 2 1 1 rfl (Nat.le_refl _);have D:∀A1 i j,j.ownsRow base 102 2 (.slice A1 (n+1) i) (n+1) (zcO l++[Value.string ⟨k.toArray⟩,ptr v])→w.grownBy j (Value.slice A n c).ownBlock→((Value.slice A1 (n+1) i).ownBlock=(Value.slice A n c).ownBlock∨∃g,(Value.slice A1 (n+1) i).ownBlock=some g∧w.heap.size≤g)→zdL base A n c n l k v w (.returned (.slice A1 (n+1) i)) j:=fun A1 i j h1 h2 h3=>by
  refine⟨A1,i,rfl,?_,h3,Fr.of_grown h2⟩;have e:zcO (zbW l n k v)=zcO l++[Value.string ⟨k.toArray⟩,ptr v]:=by rw [zbW,List.take_of_length_le (by omega),List.drop_eq_nil_of_le (by omega),zka];rfl
  rw [e];exact h1
 have Fin:=Qh D;have J:((n:Int)==(n:Int))=true:=by simp
 go_enter Tryz.func176,Tryz.ntmps176;go_wp2_with (at_builtin;refine zeJ zov rfl (.tmp 23) (.tmp 24) rfl rfl rfl h C (by simp [Value.oneCell']) (by omega) (by simp [maxLen];omega) (by omega) o ?_)
 all_goals
  intro x i j B z p;have t:(Value.slice (some ⟨x,0,none⟩) (n+1) i).ownBlock=(Value.slice A n c).ownBlock∨∃g,(Value.slice (some ⟨x,0,none⟩) (n+1) i).ownBlock=some g∧w.heap.size≤g:=by
   rcases p with p|p
   ·exact .inl (p.symm.trans (by cases A<;>rfl))
   ·exact .inr ⟨x,rfl,by omega⟩
  go_wp2;go_ret
  first|exact Fin.out _ _ _ B z t|exact Fin.out _ _ _ B (by cases A<;>exact z) t
theorem ziK(base:Nat)(g n i O:Nat)(l:List (Key×Nat))(k:Key)(v:Nat)(w:World)(h:w.ownsRow base 102 2 (.slice (some ⟨g,0,none⟩) n n) n (zcO l))(hi:i<n)(hn:n≤1100000)(a9:base≤w.heap.size) (hv:Blk w O 102 #[.string ⟨k.toArray⟩,ptr v]):Calls Tryz.prog 176 #[.slice (some ⟨g,0,none⟩) n n,.int .i64 i,.slice (some ⟨O,0,none⟩) 1 1] w (zdL base (some ⟨g,0,none⟩) n n i l k v w):=by
 have Z:l.length=n:=zos (Sl.of_own h);obtain⟨D,ax,T,hb,hg,aJ,aG,aw,N⟩:=zaU h (by omega);obtain rfl:D=g:=by injection T with T;injection T with T;exact T.symm
 obtain⟨i0,av,a5,a0,ak⟩:=info_parts zov.info;have W:(Tryz.prog.info? 102).map (·.size)=some 2:=by kernel_rfl
 have K:(zcO (l.drop i)).length=(n - i)*2:=by rw [zd4];simp [Z]
 have E:(zcO (l.take i)).length=i*2:=by rw [zd4];simp [Z];omega
 have Q:(Builtin.firstCells i0.size i (.slice (some ⟨D,0,none⟩) i n)).run Tryz.prog w.drew= .ok (zcO (l.take i)).toArray w.drew:=by rw [a0];exact run_firstCells_some w.drew 2 i ⟨D,0,none⟩ i n (zcO (l.take i)) (by rw [E]) (fun j u z=>by have hj:=(List.getElem?_eq_some_iff.1 z).1;rw [Addr.add_lit,Nat.zero_add,hg.drew.cell,zea N (by omega)];rw [zjf,List.getElem?_take,if_pos (by omega)]at z;exact z)
 have H:i+(n+1 - i)=n+1:=by omega
 have ae:(n:Int)+1 - (i:Int)=((n+1 - i:Nat):Int):=by omega
 have aM:=grownCap_ge w (n+1) n 102;have af:grownCap w (n+1) n 102≤maxLen:=grownCap_le_maxLen w (n+1) n _ (by simp [maxLen];omega);have C:∀ty,_:=fun ty=>Lib.run_append_grow_zeros (P:=Tryz.prog) w 99 3 ty 102 i0 _ .i64 .i64 zov.under Tryz.underlying3 av a5 (some ⟨D,0,none⟩) i n (zcO (l.take i)) Q (n+1 - i) (by omega) (by omega) (by omega) (by omega) (by rw [ak];omega) (by rw [ak,H];exact growslice_fits (by omega) (by omega));rw [H,←ae]at C;generalize hG:grownCap w (n+1) n 102=G at*
 obtain⟨t,hROW⟩:∃t:Array Value,t=(zcO (l.take i)).toArray++Builtin.zeroCells (Value.agg #[Value.string ⟨#[]⟩,.pointer none]).cells (n+1 - i)++Builtin.zeroCells (Value.agg #[Value.string ⟨#[]⟩,.pointer none]).cells (G - (n+1)):=⟨_,rfl⟩
 rw [←hROW]at C;obtain⟨o,hW1⟩:∃o,o=(w.alloc (.cells t 102)).drew:=⟨_,rfl⟩
 have I:∀ty,(Builtin.append_ #[99,3] ty #[.slice (some ⟨D,0,none⟩) i n,.int .i64 ((n:Int)+1 - (i:Int))]).run Tryz.prog w= .ok (.slice (some ⟨w.heap.size,0,none⟩) (n+1) G) o:=fun ty=>by rw [hW1];exact C ty
 clear C;have ai:(Value.agg #[Value.string ⟨#[]⟩,.pointer none]).cells.size=2:=rfl;have ah:t.size=G*2:=by rw [hROW];simp only [Array.size_append,size_zeroCells,List.size_toArray,E,ai];omega
 obtain⟨q,hq⟩:∃q,q=w.heap.size:=⟨_,rfl⟩
 rw [←hq]at I;have L:Blk o q 102 t:=by rw [hW1,hq];exact(Blk.new w _ _).drew
 have R:Pu w o:=by rw [hW1];exact((Pu.refl w).alloc _).drew
 have a6:D≠q:=by have:=hg.lt;omega
 have aI:O≠q:=by have:=hv.lt;omega
 obtain⟨p,hds⟩:∃p:Array Value,p=(zgl t.toList (i*2) [Value.string ⟨k.toArray⟩,ptr v]).toArray:=⟨_,rfl⟩
 have Y:p.size=G*2:=by rw [hds,List.size_toArray,zaO _ _ _ (by rw [Array.length_toList];simp;omega),Array.length_toList,ah]
 have B:Nat.min 1 (n+1 - i)=1:=by simp only [Nat.min_def];split<;>omega
 have M:∀ty F J,(Builtin.copy_ #[99,99] ty #[.slice (some ⟨q,i*2,none⟩) (n+1 - i) F,.slice (some ⟨O,0,none⟩) 1 J]).run Tryz.prog o=
   .ok (goInt ((1:Nat):Int)) (o.setRow q p):=fun ty F J=>by
  have:=zZ (P:=Tryz.prog) o 99 99 ty _ 2 q (i*2) (n+1 - i) F ⟨O,0,none⟩ 1 J t _ [Value.string ⟨k.toArray⟩,ptr v] zov.under W L (by rw [B];rfl) (fun j u z=>by rw [Addr.add_lit,Nat.zero_add,(hv.pu R).cell,←z];simp) (by simp;omega) (by simp [Value.oneCell']);rw [this,hds,B]
 have U:Blk (o.setRow q p) q 102 p:=zaj L p;have ag:Blk (o.setRow q p) D 102 ax:=(hg.pu R).fr (zU o q p) a6;obtain⟨x,hes⟩:∃x:Array Value,x=(zgl p.toList ((i+1)*2) (zcO (l.drop i))).toArray:=⟨_,rfl⟩
 have X:x.size=G*2:=by rw [hes,List.size_toArray,zaO _ _ _ (by rw [K,Array.length_toList];omega),Array.length_toList,Y]
 have y:Nat.min (n - i) (n - i)=n - i:=by simp only [Nat.min_def];split<;>omega
 have V:∀ty F J,(Builtin.copy_ #[99,99] ty #[.slice (some ⟨q,(i+1)*2,none⟩) (n - i) F,.slice (some ⟨D,i*2,none⟩) (n - i) J]).run Tryz.prog (o.setRow q p).drew=
   .ok (goInt ((n - i:Nat):Int)) ((o.setRow q p).drew.setRow q x):=fun ty F J=>by
  have:=zZ (P:=Tryz.prog) (o.setRow q p).drew 99 99 ty _ 2 q ((i+1)*2) (n - i) F ⟨D,i*2,none⟩ (n - i) J p _ (zcO (l.drop i)) zov.under W U.drew (by rw [K,y]) (fun j u z=>by have hj:=(List.getElem?_eq_some_iff.1 z).1;rw [Addr.add_lit,ag.drew.cell,zea N (by omega)];rw [zfk,List.getElem?_drop]at z;exact z) (by omega) (zlm _);rw [this,hes,y]
 have aj:Blk ((o.setRow q p).drew.setRow q x) q 102 x:=zaj U.drew x;have ao:((o.setRow q p).drew.setRow q x).ownsRow base 102 2 (.slice (some ⟨q,0,none⟩) (n+1) G) (n+1) (zcO (zbW l i k v)):=by
  refine zaD (by omega) aj (by omega) af X (by rw [zd4,zcZ (by omega),Z]) fun j hj=>?_;rw [zhU (by omega),hes,List.getElem?_toArray,zaM _ _ _ (by rw [K,Array.length_toList];omega),hds,Array.getElem?_toList,List.getElem?_toArray,zaM _ _ _ (by rw [Array.length_toList];simp;omega)];by_cases c1:j<i*2
  ·rw [if_neg (by omega),if_neg (by omega),if_pos c1,Array.getElem?_toList,hROW,Array.getElem?_append_left (by simp [size_zeroCells,E];omega),Array.getElem?_append_left (by simp [E];omega),List.getElem?_toArray,zjf,List.getElem?_take,if_pos c1]
  ·by_cases c2:j<i*2+2
   ·rw [if_neg (by omega),if_pos (by simp;omega),if_neg c1,if_pos c2]
   ·rw [if_pos (by omega),if_neg c1,if_neg c2];show(zcO (l.drop i))[j - (i+1)*2]?=_;rw [zfk,List.getElem?_drop]
    congr 1
    omega
 have a7:Pu w ((o.setRow q p).drew.setRow q x):=by have h1:Fr (fun j=>j=q) o ((o.setRow q p).drew.setRow q x):=((zU o q p).drew).trans (zU (o.setRow q p).drew q x);exact R.step h1 (fun j e=>by omega)
 have a4:=Qh I;have ap:=Qh M;have aq:=Qh V;subst hW1 hq;have e1:((i:Int)==(n:Int))=false:=by simp;omega
 have e2:¬(n=i):=by omega
 have e4:decide ((n:Int)+1>(n:Int))=true:=by simp;omega
 have e5:decide ((n:Int)<(n:Int)+1)=true:=by simp;omega
 have e6:¬(G=i):=by omega
 have e7:¬(G=i+1):=by omega
 have aB:G≤9223372036854775807:=af;have aD:i≤n:=by omega
 have aN:IntKind.i64.wrap ((i:Int)+1)=(i:Int)+1:=IntWalk.i64_in _ (by omega);have aL:IntKind.i64.wrap ((n:Int)+1)=(n:Int)+1:=IntWalk.i64_in _ (by omega);have aO:IntKind.i64.wrap ((n:Int)+1 - (i:Int))=(n:Int)+1 - (i:Int):=IntWalk.i64_in _ (by omega);have aF:(0:Int)≤(i:Int)+1:=by omega
 have aP:(i:Int)+1≤(n:Int)+1:=by omega
 have aH:(i:Int)≤(n:Int)+1:=by omega
 have aE:(i:Int)≤(n:Int):=by omega
 have aK:((i:Int)+1).toNat=i+1:=by omega
 clear ae hes X hds Y hg ag hv N aw I M V K E Z h hb B y L U aj hROW ah Q H ai;go_enter Tryz.func176,Tryz.ntmps176;go_wp2_with (first
  | (at_builtin;refine Lib.wpList_append_run _ rfl _ _ _ _ rfl _ _ rfl rfl _ _ (a4.out _) ?_)
  | (simp only [ap.out]))
 go_region_law (refine zaI (S:=Builtin.copy_) (fun _ _ _ _=>rfl) rfl (.tmp 50) (.tmp 53) _ rfl _ _ (by simp [Act.eval,Act.put]) (by simp [Act.eval,Act.put]) (aq.out _ (G - (i+1)) (n - i)) ?_)
 go_wp2;go_ret;exact⟨_,_,rfl,ao,.inr ⟨_,rfl,Nat.le_refl _⟩,a7.fr⟩
theorem zq0(base:Nat)(A:Option Addr)(n c i o:Nat)(l:List (Key×Nat))(k:Key)(v:Nat)(w:World)(h:w.ownsRow base 102 2 (.slice A n c) n (zcO l))(H:i≤n)(x:n≤1100000)(j:base≤w.heap.size) (t:Blk w o 102 #[.string ⟨k.toArray⟩,ptr v]) (z:∀a,A=some a→a.block≠o):Calls Tryz.prog 176 #[.slice A n c,.int .i64 i,.slice (some ⟨o,0,none⟩) 1 1] w (zdL base A n c i l k v w):=by
 by_cases y:i=n
 ·subst y;exact zkL base A i c o l k v w h x j t
 ·obtain⟨g,C,rfl,I,G,D,F,B,E⟩:=zaU h (by omega);by_cases p:n+1≤c
  ·exact ziN base g n c i o l k v w h (by omega) x t (fun e=>z _ rfl e.symm) p
  ·obtain rfl:c=n:=by omega
   exact ziK base g c i o l k v w h (by omega) x j t
end
section
open Go.RowKit
theorem zmn{l:List (Key×Nat)}{i:Nat}{k:Key}{u v:Nat}(o:l[i]?=some (k,u))(j:Nat):(zcO (l.take i++(k,v)::l.drop (i+1)))[j]?=if i*2<j∧j<i*2+2 then(vcP v)[j - i*2 - 1]? else(zcO l)[j]?:=zg4 (s:=1) zdH o j
theorem zpO{w:World}{base n c g:Nat}{l:List (Key×Nat)}{i:Nat}{k:Key}{u v:Nat}(h:w.ownsRow base 102 2 (.slice (some ⟨g,0,none⟩) n c) n (zcO l))(t:l[i]?=some (k,u)):(w.setCell ⟨g,i*2+1,none⟩ (ptr v)).ownsRow base 102 2 (.slice (some ⟨g,0,none⟩) n c) n (zcO (l.take i++(k,v)::l.drop (i+1))):=by
 have H:l.length=n:=zos (Sl.of_own h);have G:=(List.getElem?_eq_some_iff.1 t).1;obtain⟨C,F,o,E,B,x,z,p,y⟩:=zaU h (by omega);obtain rfl:C=g:=by injection o with o;injection o with o;exact o.symm
 refine zaD E (B.set_ (i*2+1) (ptr v)) x z (by simp [p]) (by rw [zd4];simp;omega) fun j D=>?_;rw [zmn t];by_cases e:j=i*2+1
 ·subst e;rw [if_pos (by omega),Array.getElem?_setIfInBounds_self_of_lt (by omega),show i*2+1 - i*2 - 1=0 by omega];rfl
 ·rw [if_neg (by omega),Array.getElem?_setIfInBounds_ne (fun h=>e h.symm),zea y D]
theorem zpT{w:World}{base k n b:Nat}{e t:TypeId}{v:Value}{p:List Value}{x:Array Value}(h:w.ownsRow base e k v n p)(y:Blk w b t x)(j:e≠t):∀g,v.ownBlock=some g→g≠b:=by
 intro g i;rcases h.2 with⟨rfl,_⟩|⟨C,B,z,rfl,_,o,_⟩
 ·cases i
 ·injection i with i;simp only at i;subst i;exact Blk.ne_ (t:=e) (t':=t) o y j
theorem zsk(base b:Nat)(r:Option Nat)(l:List (Key×Nat))(k:Key)(v:Nat)(w:World)(h:MOP w base b r l)(hl:l.length<1100000):Calls Tryz.prog 152 #[.pointer (some ⟨b,0,none⟩),.string ⟨k.toArray⟩,ptr v] w fun e w'=>e= .returned (.bool (!there l k))∧∃r',MOP w' base b r' (zau l k v)∧(r'=r∨∃g,r'=some g∧w.heap.size≤g)∧Fr (fun j=>j=b∨r=some j) w w':=by
 have R:=fun W p=>zrB b l k W (h.mr.pu (w':=W) p);have Hf:=Qh R;clear R;have t:=h.row;have ap:=h.lt;obtain⟨A,n,c,E,G,z,T,k5,Z⟩:=h;have aw:l.length=n:=zos (Sl.of_own G);have O:=zD Z k;have am:=zbb l k;have I:=zN Z k v;have x:zau l k v=if there l k then l.take (place l k)++(k,v)::l.drop (place l k+1)else l.take (place l k)++(k,v)::l.drop (place l k):=rfl;generalize hM:zau l k v=M at*
 generalize hth:there l k=th at*
 generalize hP:place l k=P at*
 clear hM hth hP;rcases th with _|_
 ·have N:=Qh (show M=zbW l P k v from x);have L:=Qh t;clear x t O;go_enter Tryz.func152,Tryz.ntmps152;go_wp2_with fail;refine(Hf.out _ (Pu.refl w)).mono ?_;rintro e o ⟨rfl,i⟩;have X:o.cell? ⟨b,0,none⟩=some (.slice A n c):=(E.pu i).cell 0;have aq:=i.size;have C:=zaw G i;have Y:∀a,A=some a→a.block≠o.heap.size:=fun a ha=>by have:=C.lt a.block (by rw [ha];rfl);omega
  have HA:=Qh Y;clear Y;go_wp2_with fail;refine(zq0 base A n c P o.heap.size l k v _ (C.alloc _) (by omega) (by omega) (by simp;omega) (Blk.new _ _ _) HA.out).mono ?_;rintro e D ⟨A2,c2,rfl,J,S,Q⟩;have V:(Value.slice A n c).ownBlock≠some b:=fun e=>by have:=(L.out b (by rw [←z];exact e)).2.2;exact this rfl
  have y:Blk D b 153 #[.slice A n c]:=((E.pu i).alloc _).fr Q V;have ao:D.cell? ⟨b,0,none⟩=some (.slice A n c):=y.cell 0;have ax:D.frozen? ⟨b,0,none⟩=false:=y.frozen 0;have U:Fr (fun j=>j=b∨r=some j) w D:=(i.alloc _).fr' (Q.mono (fun j _ e=> .inr (by rw [←z];exact e)));clear C X Q;go_wp2;go_ret;refine⟨rfl,_,⟨A2,n+1,c2,y.set_ 0 _,zbp ?_ (Fr.one D b 0 _) (zpT J y (by decide)),rfl,T,by omega,I⟩,(by
   rcases S with e|⟨g,e,F⟩
   ·exact .inl (e.trans z)
   ·exact .inr ⟨g,e,by simp at F;omega⟩),U.setCell (p:=⟨b,0,none⟩) (.inl (.inl rfl)) _⟩
  rw [N.out];exact J
 ·have ae:=O.1 rfl;obtain⟨u,H⟩:=ae;have N:=Qh (show M=l.take P++(k,v)::l.drop (P+1)from x);have Hu:=Qh H;have a0:=(List.getElem?_eq_some_iff.1 H).1;obtain⟨g,av,rfl,hb,F,az,a4,au,af⟩:=zaU G (by omega);have K:=zea af (j:=P*2+1) (by omega);have B:=zet (s:=1) zdH H 1 (by omega);rw [show P*(1+1)+1=P*2+1 from rfl]at B;rw [show(zcO l)[P*2+1]?=_ from B]at K;clear x O H B;go_enter Tryz.func152,Tryz.ntmps152;go_wp2_with fail;refine(Hf.out _ (Pu.refl w)).mono ?_;rintro e o ⟨rfl,i⟩;have X:o.cell? ⟨b,0,none⟩=some (.slice (some ⟨g,0,none⟩) n c):=(E.pu i).cell 0;have c1:o.cell? ⟨g,P*2+1,none⟩=some _:=((F.pu i).cell _).trans K;have f1:o.frozen? ⟨g,P*2+1,none⟩=false:=(F.pu i).frozen _;have ad:g≠b:=(t g (by rw [←z];rfl)).2.2;go_wp2;go_ret;refine⟨rfl,r,⟨some ⟨g,0,none⟩,n,c,(E.pu i).far (p:=⟨g,P*2+1,none⟩) (fun e=>ad e.symm) _,?_,z,T,k5,I⟩,.inl rfl,i.fr.setCell (p:=⟨g,P*2+1,none⟩) (.inl (.inr (by rw [←z];rfl))) _⟩;rw [N.out];exact zpO (zaw G i) Hu.out
end
end Go.Proofs.YtckfnbckoclhpaaGreatDoor

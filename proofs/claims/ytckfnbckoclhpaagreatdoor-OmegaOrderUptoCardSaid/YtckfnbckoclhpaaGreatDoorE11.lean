/- Maps from texts to zed. -/
import Derived.Test.YtckfnbckoclhpaaGreatDoorE10
import Derived.Test.YtckfnbckoclhpaaGreatDoorC02
import Derived.Test.YtckfnbckoclhpaaGreatDoorC01
import Derived.Lib.SliceRun
import Derived.Lib.Overlaps
import Derived.Lib.AppendZerosOnto
import Derived.Lib.AppendZeros
import Derived.Laws.Externs
import Derived.Deep.RegionHeld3
import Derived.BigRegion
namespace Go.Proofs.YtckfnbckoclhpaaGreatDoor
set_option linter.unusedVariables false
set_option linter.unusedSimpArgs false
set_option maxRecDepth 100000
set_option maxHeartbeats 2000000
section
open Go.RowKit
abbrev vcZ(q:Part):List Value:=[.bool q.1,.slice q.2.1 q.2.2.1 q.2.2.2]
theorem zcF(q:Part):(vcZ q).length=2:=rfl
theorem zm8(q:Part):∀u∈vcZ q,u.oneCell'=true:=by intro u i;simp at i;rcases i with rfl|rfl<;>rfl
theorem zlU:zcE Tryz.prog 116 119 (.agg #[.string ⟨#[]⟩,.bool false,.slice none 0 0]) 3 48:=⟨Tryz.underlying116,by kernel_rfl,rfl,by decide⟩
theorem atZ{w:World}{A:Option Addr}{n c:Nat}{l:List (Key×Part)}(h:Sl w 3 A n c (kps vcZ l)){j:Nat}{x:Key}{q:Part}(p:l[j]?=some (x,q)):∃b off,A=some ⟨b,off,none⟩∧b<w.heap.size∧w.cell? ⟨b,off+j*3,none⟩=some (.string ⟨x.toArray⟩)∧w.cell? ⟨b,off+j*3+1,none⟩=some (.bool q.1)∧w.cell? ⟨b,off+j*3+1+1,none⟩=some (.slice q.2.1 q.2.2.1 q.2.2.2):=by obtain⟨b,off,rfl,o,k,i⟩:=zmV (s:=2) zcF h p;exact⟨b,off,rfl,o,k,i 0 _ rfl,i 1 _ rfl⟩
theorem ziT{w:World}{A:Option Addr}{n c:Nat}{l:List (Key×Part)}(h:Sl w 3 A n c (kps vcZ l)):l.length=n:=Sl.klen (s:=2) zcF h
theorem zhX(x k:Key)(q:Part)(w:World):Calls Tryz.prog 86 #[.agg #[.string ⟨x.toArray⟩,.bool q.1,.slice q.2.1 q.2.2.1 q.2.2.2],.string ⟨k.toArray⟩] w fun e w'=>e= .returned (.int .i64 (zfL x k))∧Pu w w':=by go_enter Tryz.func86,Tryz.ntmps86;go_wp2_with fail;refine(zep x k _).mono ?_;rintro e i ⟨rfl,rfl⟩;go_wp2;go_ret;exact⟨rfl,(Pu.refl w).alloc _⟩
theorem zqn(A:Option Addr)(n c:Nat)(l:List (Key×Part))(k:Key)(w:World)(h:Sl w 3 A n c (kps vcZ l))(hn:n≤4000000)(I:zx l):Calls Tryz.prog 85 #[.slice A n c,.string ⟨k.toArray⟩,.func (.func 86) #[] #[]] w fun e w'=>e= .returned (.tuple #[.int .i64 (place l k:Int),.bool (there l k)])∧Pu w w':=by
 have hl:=ziT h;have O:=Qh (fun j p h=>zbj k l I j p h);have TA:=Qh (fun j p (h:l[j]?=some p) e=>zfb I (k:=k) h e);have R:=Qh (zD I k);have ae:=zbb l k;generalize hP:place l k=P at*
 generalize hth:there l k=H at*
 clear hP hth;go_enter Tryz.func85,Tryz.ntmps85;go_wp2_with fail
 go_loopw [9,10] (fun a b wr=>∃i j:Nat,i≤P∧P≤j∧j≤n∧a= .int .i64 i∧b= .int .i64 j∧Pu w wr) (fun a b _=>(intOf b).toNat - (intOf a).toNat)
 case atStart=>exact⟨0,n,Nat.zero_le _,by omega,Nat.le_refl _,rfl,rfl,Pu.refl _⟩
 case round=>
  obtain⟨i,j,Y,S,hj,rfl,rfl,o⟩:=hrel;by_cases af:i<j
  ·obtain⟨p,hp⟩:∃p,l[(i+j)/2]?=some p:=⟨_,List.getElem?_eq_getElem (by omega)⟩
   obtain⟨x,q⟩:=p;obtain⟨Z,off,rfl,L,C,B,z⟩:=atZ (h.pu o) hp;have ps:=O.out _ _ hp;have G:=Qh ps;clear hp ps;by_cases v:x<k
   ·have K:=G.out.2 v;have t:=zdP v;have F:=Qh t;clear G v t;go_wp2_with fail;refine(zhX x k q _).mono ?_;rintro e N ⟨rfl,E⟩;rw [F.out];have y:=o.trans E;clear C B z o;go_wp2;go_roundw
    case rel=>exact⟨(i+j)/2+1,j,by omega,S,hj,by go_num,rfl,y⟩
    case measure=>simp [intOf];omega
   ·have K:¬(i+j)/2<P:=fun h=>v (G.out.1 h);have t:∃s,zfL x k=s∧decide (s<0)=false:=by
     unfold zfL;rw [if_neg v];split
     ·exact⟨1,rfl,rfl⟩
     ·exact⟨0,rfl,rfl⟩
    obtain⟨V,t,X⟩:=t;have F:=Qh t;clear G v t;go_wp2_with fail;refine(zhX x k q _).mono ?_;rintro e N ⟨rfl,E⟩;rw [F.out];have y:=o.trans E;clear C B z o;go_wp2;go_roundw
    case rel=>exact⟨i,(i+j)/2,Y,by omega,by omega,rfl,rfl,y⟩
    case measure=>simp [intOf];omega
  ·obtain rfl:i=P:=by omega
   obtain rfl:j=i:=by omega
   by_cases ag:j<n
   ·obtain⟨p,hp⟩:∃p,l[j]?=some p:=⟨_,List.getElem?_eq_getElem (by omega)⟩
    obtain⟨x,q⟩:=p;obtain⟨Z,off,rfl,L,C,B,z⟩:=atZ (h.pu o) hp;have J:=Qh (fun e=>TA.out j _ hp e);have U:=Qh hp;clear hp;have Q:∃s,zfL x k=s∧(s==0)=H:=by
     rcases H with _|_
     ·have T:x≠k:=fun e=>by have:=(J.out e).1;cases this
      have M:¬x<k:=fun h=>by have:=(O.out _ _ U.out).2 h;omega
      rcases zij x k with h|h|h
      ·exact absurd h M
      ·exact absurd h T
      ·exact⟨_,zdJ h,rfl⟩
     ·obtain⟨u,D⟩:=R.out.1 rfl;rw [U.out]at D;injection D with D;injection D with e _;exact⟨_,zfG e,rfl⟩
    obtain⟨V,t,X⟩:=Q;have F:=Qh t;clear J t;go_wp2_with fail;refine(zhX x k q _).mono ?_;rintro e N ⟨rfl,E⟩;rw [F.out];have y:=o.trans E;clear C B z o;go_wp2;go_ret2;exact⟨rfl,y⟩
   ·have W:H=false:=by
     rcases H with _|_
     ·rfl
     ·obtain⟨u,D⟩:=R.out.1 rfl;have:=(List.getElem?_eq_some_iff.1 D).1;omega
    subst W;go_wp2;go_ret2;exact⟨rfl,o⟩
end
section
open Go.RowKit
def MRZ(w:World)(b:Nat)(l:List (Key×Part)):Prop:=∃A n c,Blk w b 126 #[.slice A n c]∧Sl w 3 A n c (kps vcZ l)∧n≤1100000∧zx l
theorem MRZ.pu{w w':World}{b:Nat}{l:List (Key×Part)}(h:MRZ w b l)(i:Pu w w'):MRZ w' b l:=by obtain⟨A,n,c,j,k,o⟩:=h;exact⟨A,n,c,j.pu i,k.pu i,o⟩
theorem MRZ.rise{w:World}{b:Nat}{l:List (Key×Part)}(h:MRZ w b l):zx l:=by obtain⟨A,n,c,j,k,o,i⟩:=h;exact i
theorem MRZ.len{w:World}{b:Nat}{l:List (Key×Part)}(h:MRZ w b l):l.length≤1100000:=by obtain⟨A,n,c,o,i,j,k⟩:=h;rw [ziT i];exact j
def MOZ(w:World)(base b:Nat)(r:Option Nat)(l:List (Key×Part)):Prop:=∃A n c,Blk w b 126 #[.slice A n c]∧w.ownsRow base 119 3 (.slice A n c) n (kps vcZ l)∧(Value.slice A n c).ownBlock=r∧base≤b∧n≤1100000∧zx l
section
variable{w w':World}{base b:Nat}{r:Option Nat}{l:List (Key×Part)}
theorem MOZ.mr(h:MOZ w base b r l):MRZ w b l:=by obtain⟨A,n,c,i,j,t,p,k,o⟩:=h;exact⟨A,n,c,i,Sl.of_own j,k,o⟩
theorem MOZ.fr{S:Nat→Prop}(h:MOZ w base b r l)(i:Fr S w w')(p:¬S b)(x:∀g,r=some g→¬S g):MOZ w' base b r l:=by obtain⟨A,n,c,o,v,j,k⟩:=h;exact⟨A,n,c,o.fr i p,zbp v i (fun g t=>x g (by rw [←j,t])),j,k⟩
theorem MOZ.pu(h:MOZ w base b r l)(i:Pu w w'):MOZ w' base b r l:=h.fr i (fun x=>x) (fun _ _ x=>x)
theorem MOZ.base_{base':Nat}(h:MOZ w base b r l)(i:base'≤base):MOZ w base' b r l:=by obtain⟨A,n,c,k,o,t,j,p⟩:=h;exact⟨A,n,c,k,zbK o i,t,Nat.le_trans i j,p⟩
theorem MOZ.lt(h:MOZ w base b r l):base≤b∧b<w.heap.size:=by obtain⟨A,n,c,j,k,p,i,o,t⟩:=h;exact⟨i,j.lt⟩
theorem MOZ.row(h:MOZ w base b r l):∀g,r=some g→base≤g∧g<w.heap.size∧g≠b:=by
 obtain⟨A,n,c,x,o,j,C,E,D⟩:=h;intro g i;have p:=o.lt g (by rw [j,i]);refine⟨p.1,p.2,?_⟩;rintro rfl;rcases o.2 with⟨k,_⟩|⟨y,B,z,k,_,v,_⟩
 ·rw [k]at j;rw [←j]at i
  cases i
 ·have e:y=g:=by
   rw [k]at j;rw [←j]at i;injection i
  subst e;exact(Blk.ne_ (t:=119) (t':=126) v x (by decide)) rfl
end
theorem zq5(b:Nat)(l:List (Key×Part))(k:Key)(w:World)(h:MRZ w b l):Calls Tryz.prog 52 #[.pointer (some ⟨b,0,none⟩),.string ⟨k.toArray⟩] w fun e w'=>e= .returned (.tuple #[.int .i64 (place l k:Int),.bool (there l k)])∧Pu w w':=by obtain⟨A,n,c,i,o,v,p⟩:=h;have x:w.cell? ⟨b,0,none⟩=some (.slice A n c):=i.cell 0;go_enter Tryz.func52,Tryz.ntmps52;go_wp2_with fail;refine(zqn A n c l k _ o (by omega) p).mono ?_;rintro e t ⟨rfl,j⟩;go_wp2;go_ret2;exact⟨rfl,j⟩
theorem zrr(w:World):Calls Tryz.prog 47 #[] w fun e w'=>∃b,e= .returned (.pointer (some ⟨b,0,none⟩))∧MOZ w' w.heap.size b none []∧Pu w w':=by go_enter Tryz.func47,Tryz.ntmps47;go_wp2;go_ret;exact⟨w.heap.size,rfl,⟨none,0,0,Blk.new _ _ _,World.ownsRow_nil _ _ _ _,rfl,Nat.le_refl _,by omega,List.Pairwise.nil⟩,(Pu.refl w).alloc _⟩
end
section
open Go.RowKit
def gvZ(l:List (Key×Part))(k:Key):Value:=if there l k then(match l[place l k]? with|some (_,q)=>q.val|none=> .agg #[.bool false,.slice none 0 0])else .agg #[.bool false,.slice none 0 0]
theorem zrH(b:Nat)(l:List (Key×Part))(k:Key)(w:World)(h:MRZ w b l):Calls Tryz.prog 43 #[.pointer (some ⟨b,0,none⟩),.string ⟨k.toArray⟩] w fun e w'=>e= .returned (.tuple #[gvZ l k,.bool (there l k)])∧Pu w w':=by
 have K:=fun W p=>zq5 b l k W (h.pu (w':=W) p);have y:=Qh K;clear K;obtain⟨A,n,c,Q,L,k5,S⟩:=h;have E:=Qh (zD S k);have hl:=ziT L;rcases hth:there l k with _|_
 ·have t:gvZ l k= .agg #[.bool false,.slice none 0 0]:=by rw [gvZ,hth];rfl
  have H:=Qh t;rw [H.out];rw [hth]at y;clear t hth E;generalize place l k=P at*
  have j:Pu w (w.alloc (.cells #[.bool false,.slice none 0 0] 30)):=(Pu.refl w).alloc _;have I:Blk (w.alloc (.cells #[.bool false,.slice none 0 0] 30)) w.heap.size 30 #[.bool false,.slice none 0 0]:=Blk.new _ _ _;go_enter Tryz.func43,Tryz.ntmps43;go_wp2_with fail;refine(y.out _ j).mono ?_;rintro e C ⟨rfl,o⟩;have i:=I.pu o;obtain⟨R,D⟩:=i.c2_;obtain⟨X,T⟩:=i.z2_;have Z:w.heap.size<C.heap.size:=i.lt;obtain⟨_,_,_,J⟩:=zA i false none 0 0;have U:=((i.set_ 0 (.bool false)).set_ 1 (.slice none 0 0)).alloc (.cells #[.bool false,.slice none 0 0] 30);obtain⟨G,r1⟩:=U.c2_;have F:=(J _ (j.trans o) (Nat.le_refl _)).alloc (.cells #[.bool false,.slice none 0 0] 30);go_wp2;exact bodyPost_ret (v:= .tuple #[.agg #[.bool false,.slice none 0 0],.bool false]) (by simp [results,Tryz.results43,go_sem,G,r1]) rfl ⟨rfl,F⟩
 ·obtain⟨q,x⟩:=E.out.1 hth;have t:gvZ l k=q.val:=by rw [gvZ,hth,x];rfl
  have H:=Qh t;rw [H.out];rw [hth]at y;have aa:=(List.getElem?_eq_some_iff.1 x).1;clear t hth E;generalize place l k=P at*
  obtain⟨V,off,rfl,Y,M,B,z⟩:=atZ L x;obtain⟨g,N,O,D⟩:=q;have j:Pu w (w.alloc (.cells #[.bool false,.slice none 0 0] 30)):=(Pu.refl w).alloc _;have I:Blk (w.alloc (.cells #[.bool false,.slice none 0 0] 30)) w.heap.size 30 #[.bool false,.slice none 0 0]:=Blk.new _ _ _;clear x;go_enter Tryz.func43,Tryz.ntmps43;go_wp2_with fail;refine(y.out _ j).mono ?_;rintro e C ⟨rfl,o⟩;have R:C.cell? ⟨b,0,none⟩=some (.slice (some ⟨V,off,none⟩) n c):=(Q.pu (j.trans o)).cell 0;have d1:=(j.trans o).cellv B;have d2:=(j.trans o).cellv z;have i:=I.pu o;obtain⟨e0,e1⟩:=i.c2_;obtain⟨X,T⟩:=i.z2_;obtain⟨G,r1,_,J⟩:=zA i g N O D;have F:=J _ (j.trans o) (Nat.le_refl _);clear M B z;go_wp2;exact bodyPost_ret (v:= .tuple #[.agg #[.bool g,.slice N O D],.bool true]) (by simp [results,Tryz.results43,go_sem,G,r1]) rfl ⟨rfl,F⟩
theorem zjG(w:World)(i:Array Value)(h:i.size=0){base:Nat}(j:base≤w.heap.size):(w.alloc (.cells i 119)).ownsRow base 119 3 (.slice (some ⟨w.heap.size,0,none⟩) 0 0) 0 []:=by refine⟨by simp,.inr ⟨w.heap.size,0,i,rfl,j,heap_alloc_new w _,Nat.le_refl _,Nat.zero_le _,by omega,?_⟩⟩;simp
theorem zrp(A:Option Addr)(n c:Nat)(l:List (Key×Part))(w:World)(h:Sl w 3 A n c (kps vcZ l))(B:n≤4000000):Calls Tryz.prog 124 #[.slice A n c] w fun e w'=>∃A' i,e= .returned (.slice A' n i)∧w'.ownsRow w.heap.size 119 3 (.slice A' n i) n (kps vcZ l)∧Pu w w':=by
 have t:=ziT h;have z:∀(w:World) (a:Option Addr) (n c o i:Nat),(binOp .eql 116 (.slice a n c) (.slice none o i)).run Tryz.prog w= .ok (.bool a.isNone) w:=fun w a n c o i=>Lib.run_eql_slice_nil w _ _ a n c o i Tryz.underlying116;rcases A with _|a
 ·have j:n=0:=by
   rcases Nat.eq_zero_or_pos n with j|j
   ·exact j
   ·obtain⟨b,off,e,_⟩:=h.2.2 j
    cases e
  subst j;obtain rfl:l= []:=List.eq_nil_of_length_eq_zero t;go_enter Tryz.func124,Tryz.ntmps124;go_wp2;go_ret;exact⟨none,0,rfl,World.ownsRow_nil _ _ _ _,Pu.refl _⟩
 ·go_enter Tryz.func124,Tryz.ntmps124;go_wp2_with (at_builtin;refine zaY zlU rfl (.tmp 5) (.tmp 6) rfl rfl rfl (zjG w _ (by rfl) (Nat.le_refl _)) (h.pu ((Pu.refl _).alloc _)) (zgY zm8 _) (by simp [maxLen];omega) (by omega) (by simp) ?_);intro x v C k p;have y:=zam ((Pu.refl w).alloc _) (zjG w #[] rfl (Nat.le_refl _)) (Nat.le_refl _) p;go_wp2;go_ret;exact⟨x,v,rfl,by simpa using k,y⟩
theorem zqa(b:Nat)(l:List (Key×Part))(w:World)(h:MRZ w b l):Calls Tryz.prog 81 #[.pointer (some ⟨b,0,none⟩)] w fun e w'=>∃A n c,e= .returned (.slice A n c)∧w'.ownsRow w.heap.size 119 3 (.slice A n c) n (kps vcZ l)∧n≤1100000∧Pu w w':=by obtain⟨A,n,c,i,k,p,z⟩:=h;have y:w.cell? ⟨b,0,none⟩=some (.slice A n c):=i.cell 0;go_enter Tryz.func81,Tryz.ntmps81;go_wp2_with fail;refine(zrp A n c l _ k (by omega)).mono ?_;rintro e x ⟨t,o,rfl,v,j⟩;go_wp2;go_ret;exact⟨t,n,o,rfl,v,p,j⟩
theorem zsb(b:Nat)(l:List (Key×Part))(w:World)(h:MRZ w b l):Calls Tryz.prog 98 #[.pointer (some ⟨b,0,none⟩)] w fun e w'=>∃b' r',e= .returned (.pointer (some ⟨b',0,none⟩))∧MOZ w' w.heap.size b' r' l∧Pu w w':=by have k:=h.rise;go_enter Tryz.func98,Tryz.ntmps98;go_wp2_with fail;refine(zqa b l _ h).mono ?_;rintro e j ⟨A,n,c,rfl,p,o,i⟩;go_wp2;go_ret;exact⟨j.heap.size,_,rfl,⟨A,n,c,Blk.new _ _ _,p.alloc _,rfl,i.size,o,k⟩,i.alloc _⟩
end
section
open Go.RowKit
abbrev zb2(l:List (Key×Part)):List Value:=kps vcZ l
theorem zb6(l:List (Key×Part)):(zb2 l).length=l.length*3:=zc9 (s:=2) zcF l
theorem zg8(l:List (Key×Part))(i:Nat):zb2 (l.take i)=(zb2 l).take (i*3):=zd7 (s:=2) zcF l i
theorem zdx(l:List (Key×Part))(i:Nat):zb2 (l.drop i)=(zb2 l).drop (i*3):=zd9 (s:=2) zcF l i
theorem zgM(l i:List (Key×Part)):zb2 (l++i)=zb2 l++zb2 i:=zbC l i
theorem ziq(l:List (Key×Part)):∀u∈zb2 l,u.oneCell'=true:=zgY zm8 l
theorem zhS{l:List (Key×Part)}{i:Nat}{k:Key}{v:Part}(o:i≤l.length)(j:Nat):(zb2 (zbW l i k v))[j]?=if j<i*3 then(zb2 l)[j]? else if j<i*3+3 then [Value.string ⟨k.toArray⟩,.bool v.1,.slice v.2.1 v.2.2.1 v.2.2.2][j - i*3]? else(zb2 l)[j - 3]?:=zgP (s:=2) zcF o j
theorem zb5{l:List (Key×Part)}{i:Array Value}{n:Nat}(h:i.toList.take (n*3)=zb2 l){j:Nat}(k:j<n*3):i[j]?=(zb2 l)[j]?:=by rw [←h,List.getElem?_take,if_pos k];simp
theorem zqJ(base:Nat)(A:Option Addr)(n c i:Nat)(l:List (Key×Part))(w:World)(h:w.ownsRow base 119 3 (.slice A n c) n (zb2 l))(hi:i<n)(hn:n≤1100000):Calls Tryz.prog 147 #[.slice A n c,.int .i64 i,.int .i64 ((i:Int)+1)] w fun e w'=>e= .returned (.slice A (n - 1) c)∧w'.ownsRow base 119 3 (.slice A (n - 1) c) (n - 1) (zb2 (l.take i++l.drop (i+1)))∧Fr (fun k=>(Value.slice A n c).ownBlock=some k) w w':=by
 have I:l.length=n:=ziT (Sl.of_own h);obtain⟨g,L,rfl,X,H,ao,O,K,F⟩:=zaU h (by omega);have af:c≤9223372036854775807:=O;obtain⟨i0,M,W,B,aq⟩:=info_parts zlU.info;have v:(zb2 (l.drop (i+1))).length=(n - (i+1))*3:=by rw [zb6];simp [I]
 obtain⟨x,hsa,hsa2⟩:∃x,(if c=i+1 then some (⟨g,0,none⟩:Addr)else some ⟨g,(i+1)*3,none⟩)=some x∧(c≠i+1→x=⟨g,(i+1)*3,none⟩):=by
  by_cases R:c=i+1
  ·exact⟨_,by rw [if_pos R],fun h=>absurd R h⟩
  ·exact⟨_,by rw [if_neg R],fun _=>rfl⟩
 have E:∀j u,(zb2 (l.drop (i+1)))[j]?=some u→w.drew.cell? (x.add j)=some u:=fun j u hu=>by have hj:=(List.getElem?_eq_some_iff.1 hu).1;rw [hsa2 (by omega)];rw [Addr.add_lit,H.drew.cell,zb5 F (by omega)];rw [zdx,List.getElem?_drop]at hu;exact hu
 obtain⟨o,hds⟩:∃o:Array Value,o=(zgl L.toList (i*3) (zb2 (l.drop (i+1)))).toArray:=⟨_,rfl⟩
 have z:o.size=c*3:=by rw [hds,List.size_toArray,zaO _ _ _ (by rw [v,Array.length_toList];omega),Array.length_toList,K]
 have D:∀ty,(Builtin.append_ #[116,116] ty #[.slice (some ⟨g,0,none⟩) i c,.slice (some x) (n - (i+1)) (c - (i+1))]).run Tryz.prog w.drew=
   .ok (.slice (some ⟨g,0,none⟩) (n - 1) c) (w.drew.setRow g o):=fun ty=>by
  have:=run_append_room (P:=Tryz.prog) w.drew _ ty _ i0 zlU.under M g i c L H x (n - (i+1)) (c - (i+1)) (zb2 (l.drop (i+1))) (by rw [v,B]) E (ziq _) (by omega) (by rw [B,v];omega);rw [this,hds,B,show i+(n - (i+1))=n - 1 by omega];rfl
 have C:Blk (w.drew.setRow g o) g 119 o:=zaj H.drew o;obtain⟨J,hzl⟩:∃J:List Value,J=(Builtin.zeroCells (Value.agg #[Value.string ⟨#[]⟩,.bool false,.slice none 0 0]).cells (n - (n - 1))).toList:=⟨_,rfl⟩
 have t:J.length=(n - (n - 1))*3:=by rw [hzl,Array.length_toList,size_zeroCells];rfl
 obtain⟨p,hes⟩:∃p:Array Value,p=(zgl o.toList ((n - 1)*3) J).toArray:=⟨_,rfl⟩
 have y:∀ty,(Builtin.clear_ #[116] ty #[.slice (some ⟨g,(n - 1)*3,none⟩) (n - (n - 1)) (c - (n - 1))]).run Tryz.prog (w.drew.setRow g o)= .ok (.tuple #[]) ((w.drew.setRow g o).setRow g p):=fun ty=>by rw [hes,hzl];exact zhW (P:=Tryz.prog) _ _ _ ty (.agg #[.string ⟨#[]⟩,.bool false,.slice none 0 0]) 3 zlU.under (fun w=>by simp [zeroValue,typeInfo,M,W]) rfl (by simp [Value.cells,Value.oneCell']) g ((n - 1)*3) (n - (n - 1)) (c - (n - 1)) (by omega) o _ C (by omega)
 have N:Blk ((w.drew.setRow g o).setRow g p) g 119 p:=zaj C p;have G:p.size=c*3:=by rw [hes,List.size_toArray,zaO _ _ _ (by rw [t,Array.length_toList];omega),Array.length_toList,z]
 have Q:((w.drew.setRow g o).setRow g p).ownsRow base 119 3 (.slice (some ⟨g,0,none⟩) (n - 1) c) (n - 1) (zb2 (l.take i++l.drop (i+1))):=by
  refine zaD X N (by omega) O G (by rw [zb6];simp [I];omega) fun j hj=>?_;have Y:(zb2 (l.take i)).length=i*3:=by rw [zb6];simp [I];omega
  rw [hes,List.getElem?_toArray,zaM _ _ _ (by rw [t,Array.length_toList];omega),if_neg (by omega),Array.getElem?_toList,hds,List.getElem?_toArray,zaM _ _ _ (by rw [v,Array.length_toList];omega),zgM];by_cases c1:j<i*3
  ·rw [if_neg (by omega),List.getElem?_append_left (by omega),Array.getElem?_toList,zb5 F (by omega),zg8,List.getElem?_take,if_pos c1]
  ·rw [if_pos (by omega),List.getElem?_append_right (by omega),Y]
 have V:Fr (fun k=>(Value.slice (some ⟨g,0,none⟩) n c).ownBlock=some k) w ((w.drew.setRow g o).setRow g p):=by have h1:=(Fr.refl (fun k=>k=g) w).drew.trans (zU w.drew g o);exact(h1.trans (zU _ g p)).mono (fun k _ e=>by rw [e];rfl)
 have am:i≤c:=by omega
 have ai:i+1≤n:=by omega
 have ae:(i:Int)+1≤(n:Int):=by omega
 have ap:(0:Int)≤(i:Int)+1:=by omega
 have aj:¬(c=n - 1):=by omega
 have Z:=Qh hsa2;have T:=Qh D;have U:=Qh y;clear hsa2 hes hzl t hds z G C N H F E K D y v I h X;have ak:((i:Int)+1).toNat=i+1:=by omega
 have e1:((i:Int)==(i:Int)+1)=false:=by simp;omega
 go_enter Tryz.func147,Tryz.ntmps147;go_wp2_with fail
 go_region_law (refine zaI (S:=Builtin.append_) (fun _ _ _ _=>rfl) rfl (.tmp 22) (.tmp 25) _ rfl _ _ (by simp [Act.eval,Act.put]) (by simp [Act.eval,Act.put]) (T.out _) ?_)
 go_wp2_with (simp only [U.out]);go_ret;exact⟨rfl,Q,V⟩
def zdQ(base:Nat)(A:Option Addr)(n c i:Nat)(l:List (Key×Part))(k:Key)(v:Part)(w:World)(e:Ending)(w':World):Prop:=∃A' c',e= .returned (.slice A' (n+1) c')∧w'.ownsRow base 119 3 (.slice A' (n+1) c') (n+1) (zb2 (zbW l i k v))∧((Value.slice A' (n+1) c').ownBlock=(Value.slice A n c).ownBlock∨∃g,(Value.slice A' (n+1) c').ownBlock=some g∧w.heap.size≤g)∧Fr (fun j=>(Value.slice A n c).ownBlock=some j) w w'
theorem zja(base:Nat)(g n c i z:Nat)(l:List (Key×Part))(k:Key)(v:Part)(w:World)(h:w.ownsRow base 119 3 (.slice (some ⟨g,0,none⟩) n c) n (zb2 l))(hi:i<n)(hn:n≤1100000) (F:Blk w z 119 #[.string ⟨k.toArray⟩,.bool v.1,.slice v.2.1 v.2.2.1 v.2.2.2]) (T:z≠g) (ak:n+1≤c):Calls Tryz.prog 53 #[.slice (some ⟨g,0,none⟩) n c,.int .i64 i,.slice (some ⟨z,0,none⟩) 1 1] w (zdQ base (some ⟨g,0,none⟩) n c i l k v w):=by
 have Z:l.length=n:=ziT (Sl.of_own h);obtain⟨o,U,I,hb,E,a4,W,J,N⟩:=zaU h (by omega);obtain rfl:o=g:=by injection I with I;injection I with I;exact I.symm
 have ap:c≤9223372036854775807:=W;obtain⟨i0,ai,a0,ae,aw⟩:=info_parts zlU.info;have M:(Tryz.prog.info? 119).map (·.size)=some 3:=by kernel_rfl
 have D:(zb2 (l.drop i)).length=(n - i)*3:=by rw [zb6];simp [Z]
 obtain⟨p,hds⟩:∃p:Array Value,p=(zgl U.toList ((i+1)*3) (zb2 (l.drop i))).toArray:=⟨_,rfl⟩
 have G:p.size=c*3:=by rw [hds,List.size_toArray,zaO _ _ _ (by rw [D,Array.length_toList];omega),Array.length_toList,J]
 have y:Nat.min (n+1 - i) (n - i)=n - i:=by simp only [Nat.min_def];split<;>omega
 have L:∀ty B C,(Builtin.copy_ #[116,116] ty #[.slice (some ⟨o,(i+1)*3,none⟩) (n - i) B,.slice (some ⟨o,i*3,none⟩) (n+1 - i) C]).run Tryz.prog w.drew=
   .ok (goInt ((n - i:Nat):Int)) (w.drew.setRow o p):=fun ty B C=>by
  have:=zZ (P:=Tryz.prog) w.drew 116 116 ty _ 3 o ((i+1)*3) (n - i) B ⟨o,i*3,none⟩ (n+1 - i) C U _ (zb2 (l.drop i)) zlU.under M E.drew (by rw [D,y]) (fun j u hu=>by have hj:=(List.getElem?_eq_some_iff.1 hu).1;rw [Addr.add_lit,E.drew.cell,zb5 N (by omega)];rw [zdx,List.getElem?_drop]at hu;exact hu) (by omega) (ziq _);rw [this,hds,y]
 have H:Blk (w.drew.setRow o p) o 119 p:=zaj E.drew p;have R:Blk (w.drew.setRow o p) z 119 #[.string ⟨k.toArray⟩,.bool v.1,.slice v.2.1 v.2.2.1 v.2.2.2]:=F.drew.fr (zU w.drew o p) T;obtain⟨t,hes⟩:∃t:Array Value,t=(zgl p.toList (i*3) [Value.string ⟨k.toArray⟩,.bool v.1,.slice v.2.1 v.2.2.1 v.2.2.2]).toArray:=⟨_,rfl⟩
 have O:t.size=c*3:=by rw [hes,List.size_toArray,zaO _ _ _ (by rw [Array.length_toList];simp;omega),Array.length_toList,G]
 have x:Nat.min 1 (n+1 - i)=1:=by simp only [Nat.min_def];split<;>omega
 have K:∀ty B C,(Builtin.copy_ #[116,116] ty #[.slice (some ⟨o,i*3,none⟩) (n+1 - i) B,.slice (some ⟨z,0,none⟩) 1 C]).run Tryz.prog (w.drew.setRow o p)=
   .ok (goInt ((1:Nat):Int)) ((w.drew.setRow o p).setRow o t):=fun ty B C=>by
  have:=zZ (P:=Tryz.prog) (w.drew.setRow o p) 116 116 ty _ 3 o (i*3) (n+1 - i) B ⟨z,0,none⟩ 1 C p _ [Value.string ⟨k.toArray⟩,.bool v.1,.slice v.2.1 v.2.2.1 v.2.2.2] zlU.under M H (by rw [x];rfl) (fun j u hu=>by rw [Addr.add_lit,Nat.zero_add,R.cell,←hu];simp) (by simp;omega) (by simp [Value.oneCell']);rw [this,hes,x]
 have V:Blk ((w.drew.setRow o p).setRow o t) o 119 t:=zaj H t;have Y:((w.drew.setRow o p).setRow o t).ownsRow base 119 3 (.slice (some ⟨o,0,none⟩) (n+1) c) (n+1) (zb2 (zbW l i k v)):=by
  refine zaD hb V (by omega) W O (by rw [zb6,zcZ (by omega),Z]) fun j hj=>?_;rw [zhS (by omega),hes,List.getElem?_toArray,zaM _ _ _ (by rw [Array.length_toList];simp;omega),hds,Array.getElem?_toList,List.getElem?_toArray,zaM _ _ _ (by rw [D,Array.length_toList];omega)];by_cases c1:j<i*3
  ·rw [if_neg (by omega),if_neg (by omega),if_pos c1,Array.getElem?_toList,zb5 N (by omega)]
  ·by_cases c2:j<i*3+3
   ·rw [if_pos (by simp;omega),if_neg c1,if_pos c2]
   ·rw [if_neg (by simp;omega),if_pos (by omega),if_neg c1,if_neg c2,zdx,List.getElem?_drop]
    congr 1
    omega
 have af:Fr (fun j=>(Value.slice (some ⟨o,0,none⟩) n c).ownBlock=some j) w ((w.drew.setRow o p).setRow o t):=by have h1:=(Fr.refl (fun j=>j=o) w).drew.trans (zU w.drew o p);exact(h1.trans (zU _ o t)).mono (fun j _ e=>by rw [e];rfl)
 have Q:∀lb cb,(callFunc 88 #[.slice (some ⟨z,0,none⟩) 1 1,.slice (some ⟨o,(i+1)*3,none⟩) lb cb]).run Tryz.prog w= .ok (.value (.bool false)) w:=fun lb cb=>by rw [run_callFunc_extern Tryz.func88 (by kernel_rfl) (by kernel_rfl) (by kernel_rfl) (e:=Extern.SlicesOverlaps.overlaps #[116,116] #[4]) (by kernel_rfl),Lib.run_overlaps_apart w 116 4 119 zlU.under 3 (fun w=>by simp [sizeOf,typeInfo,ai,ae]) ⟨z,0,none⟩ ⟨o,(i+1)*3,none⟩ 1 1 lb cb T 119 119 3 (c*3) F.shape (by rw [E.shape,J]) (by omega) (F.frozen 0) (F.frozen 3)];rfl
 have ag:=Qh Q;have X:=Qh L;have ad:=Qh K;have e1:((i:Int)==(n:Int))=false:=by simp;omega
 have e2:¬(c=i):=by omega
 have e3:¬(c=i+1):=by omega
 have e4:decide ((n:Int)+1>(c:Int))=false:=by simp;omega
 have e5:decide ((c:Int)<(n:Int)+1)=false:=by simp;omega
 have av:i≤n:=by omega
 have au:IntKind.i64.wrap ((i:Int)+1)=(i:Int)+1:=IntWalk.i64_in _ (by omega);have a7:IntKind.i64.wrap ((n:Int)+1)=(n:Int)+1:=IntWalk.i64_in _ (by omega);have a5:(0:Int)≤(i:Int)+1:=by omega
 have a6:(i:Int)+1≤(n:Int)+1:=by omega
 have az:(i:Int)≤(n:Int)+1:=by omega
 have ax:((i:Int)+1).toNat=i+1:=by omega
 have am:((n:Int)+1).toNat=n+1:=by omega
 clear hes O hds G E H V F R N J Q L K D Z h hb y x;go_enter Tryz.func53,Tryz.ntmps53;go_wp2_with (simp only [ag.out])
 go_region_law (refine zaI (S:=Builtin.copy_) (fun _ _ _ _=>rfl) rfl (.tmp 73) (.tmp 76) _ rfl _ _ (by simp [Act.eval,Act.put]) (by simp [Act.eval,Act.put]) (X.out _ (c - (i+1)) (c - i)) ?_)
 go_wp2_with (simp only [ad.out]);go_ret;exact⟨some ⟨o,0,none⟩,c,rfl,Y,.inl rfl,af⟩
theorem zj8(base:Nat)(A:Option Addr)(n c y:Nat)(l:List (Key×Part))(k:Key)(v:Part)(w:World)(h:w.ownsRow base 119 3 (.slice A n c) n (zb2 l))(H:n≤1100000)(o:base≤w.heap.size) (F:Blk w y 119 #[.string ⟨k.toArray⟩,.bool v.1,.slice v.2.1 v.2.2.1 v.2.2.2]):Calls Tryz.prog 53 #[.slice A n c,.int .i64 n,.slice (some ⟨y,0,none⟩) 1 1] w (zdQ base A n c n l k v w):=by
 have I:l.length=n:=ziT (Sl.of_own h);have E:=zci h;have G:c≤9223372036854775807:=E.2;have C:Sl w 3 (some ⟨y,0,none⟩) 1 1 [Value.string ⟨k.toArray⟩,.bool v.1,.slice v.2.1 v.2.2.1 v.2.2.2]:=Sl.of_blk F 3 1 1 rfl (Nat.le_refl _);have D:∀A1 i j,j.ownsRow base 119 3 (.slice A1 (n+1) i) (n+1) (zb2 l++[Value.string ⟨k.toArray⟩,.bool v.1,.slice v.2.1 v.2.2.1 v.2.2.2])→w.grownBy j (Value.slice A n c).ownBlock→((Value.slice A1 (n+1) i).ownBlock=(Value.slice A n c).ownBlock∨∃g,(Value.slice A1 (n+1) i).ownBlock=some g∧w.heap.size≤g)→zdQ base A n c n l k v w (.returned (.slice A1 (n+1) i)) j:=fun A1 i j h1 h2 h3=>by
  refine⟨A1,i,rfl,?_,h3,Fr.of_grown h2⟩;have e:zb2 (zbW l n k v)=zb2 l++[Value.string ⟨k.toArray⟩,.bool v.1,.slice v.2.1 v.2.2.1 v.2.2.2]:=by rw [zbW,List.take_of_length_le (by omega),List.drop_eq_nil_of_le (by omega),zgM];rfl
  rw [e];exact h1
 have Fin:=Qh D;have J:((n:Int)==(n:Int))=true:=by simp
 go_enter Tryz.func53,Tryz.ntmps53;go_wp2_with (at_builtin;refine zeJ zlU rfl (.tmp 23) (.tmp 24) rfl rfl rfl h C (by simp [Value.oneCell']) (by omega) (by simp [maxLen];omega) (by omega) o ?_)
 all_goals
  intro x i j B z p;have t:(Value.slice (some ⟨x,0,none⟩) (n+1) i).ownBlock=(Value.slice A n c).ownBlock∨∃g,(Value.slice (some ⟨x,0,none⟩) (n+1) i).ownBlock=some g∧w.heap.size≤g:=by
   rcases p with p|p
   ·exact .inl (p.symm.trans (by cases A<;>rfl))
   ·exact .inr ⟨x,rfl,by omega⟩
  go_wp2;go_ret
  first|exact Fin.out _ _ _ B z t|exact Fin.out _ _ _ B (by cases A<;>exact z) t
theorem zjl(base:Nat)(g n i O:Nat)(l:List (Key×Part))(k:Key)(v:Part)(w:World)(h:w.ownsRow base 119 3 (.slice (some ⟨g,0,none⟩) n n) n (zb2 l))(hi:i<n)(hn:n≤1100000)(a9:base≤w.heap.size) (hv:Blk w O 119 #[.string ⟨k.toArray⟩,.bool v.1,.slice v.2.1 v.2.2.1 v.2.2.2]):Calls Tryz.prog 53 #[.slice (some ⟨g,0,none⟩) n n,.int .i64 i,.slice (some ⟨O,0,none⟩) 1 1] w (zdQ base (some ⟨g,0,none⟩) n n i l k v w):=by
 have Z:l.length=n:=ziT (Sl.of_own h);obtain⟨D,ax,T,hb,hg,aJ,aG,aw,N⟩:=zaU h (by omega);obtain rfl:D=g:=by injection T with T;injection T with T;exact T.symm
 obtain⟨i0,av,a5,a0,ak⟩:=info_parts zlU.info;have W:(Tryz.prog.info? 119).map (·.size)=some 3:=by kernel_rfl
 have K:(zb2 (l.drop i)).length=(n - i)*3:=by rw [zb6];simp [Z]
 have E:(zb2 (l.take i)).length=i*3:=by rw [zb6];simp [Z];omega
 have Q:(Builtin.firstCells i0.size i (.slice (some ⟨D,0,none⟩) i n)).run Tryz.prog w.drew= .ok (zb2 (l.take i)).toArray w.drew:=by rw [a0];exact run_firstCells_some w.drew 3 i ⟨D,0,none⟩ i n (zb2 (l.take i)) (by rw [E]) (fun j u z=>by have hj:=(List.getElem?_eq_some_iff.1 z).1;rw [Addr.add_lit,Nat.zero_add,hg.drew.cell,zb5 N (by omega)];rw [zg8,List.getElem?_take,if_pos (by omega)]at z;exact z)
 have H:i+(n+1 - i)=n+1:=by omega
 have ae:(n:Int)+1 - (i:Int)=((n+1 - i:Nat):Int):=by omega
 have aM:=grownCap_ge w (n+1) n 119;have af:grownCap w (n+1) n 119≤maxLen:=grownCap_le_maxLen w (n+1) n _ (by simp [maxLen];omega);have C:∀ty,_:=fun ty=>Lib.run_append_grow_zeros (P:=Tryz.prog) w 116 3 ty 119 i0 _ .i64 .i64 zlU.under Tryz.underlying3 av a5 (some ⟨D,0,none⟩) i n (zb2 (l.take i)) Q (n+1 - i) (by omega) (by omega) (by omega) (by omega) (by rw [ak];omega) (by rw [ak,H];exact growslice_fits (by omega) (by omega));rw [H,←ae]at C;generalize hG:grownCap w (n+1) n 119=G at*
 obtain⟨t,hROW⟩:∃t:Array Value,t=(zb2 (l.take i)).toArray++Builtin.zeroCells (Value.agg #[Value.string ⟨#[]⟩,.bool false,.slice none 0 0]).cells (n+1 - i)++Builtin.zeroCells (Value.agg #[Value.string ⟨#[]⟩,.bool false,.slice none 0 0]).cells (G - (n+1)):=⟨_,rfl⟩
 rw [←hROW]at C;obtain⟨o,hW1⟩:∃o,o=(w.alloc (.cells t 119)).drew:=⟨_,rfl⟩
 have I:∀ty,(Builtin.append_ #[116,3] ty #[.slice (some ⟨D,0,none⟩) i n,.int .i64 ((n:Int)+1 - (i:Int))]).run Tryz.prog w= .ok (.slice (some ⟨w.heap.size,0,none⟩) (n+1) G) o:=fun ty=>by rw [hW1];exact C ty
 clear C;have ai:(Value.agg #[Value.string ⟨#[]⟩,.bool false,.slice none 0 0]).cells.size=3:=rfl;have ah:t.size=G*3:=by rw [hROW];simp only [Array.size_append,size_zeroCells,List.size_toArray,E,ai];omega
 obtain⟨q,hq⟩:∃q,q=w.heap.size:=⟨_,rfl⟩
 rw [←hq]at I;have L:Blk o q 119 t:=by rw [hW1,hq];exact(Blk.new w _ _).drew
 have R:Pu w o:=by rw [hW1];exact((Pu.refl w).alloc _).drew
 have a6:D≠q:=by have:=hg.lt;omega
 have aI:O≠q:=by have:=hv.lt;omega
 obtain⟨p,hds⟩:∃p:Array Value,p=(zgl t.toList (i*3) [Value.string ⟨k.toArray⟩,.bool v.1,.slice v.2.1 v.2.2.1 v.2.2.2]).toArray:=⟨_,rfl⟩
 have Y:p.size=G*3:=by rw [hds,List.size_toArray,zaO _ _ _ (by rw [Array.length_toList];simp;omega),Array.length_toList,ah]
 have B:Nat.min 1 (n+1 - i)=1:=by simp only [Nat.min_def];split<;>omega
 have M:∀ty F J,(Builtin.copy_ #[116,116] ty #[.slice (some ⟨q,i*3,none⟩) (n+1 - i) F,.slice (some ⟨O,0,none⟩) 1 J]).run Tryz.prog o=
   .ok (goInt ((1:Nat):Int)) (o.setRow q p):=fun ty F J=>by
  have:=zZ (P:=Tryz.prog) o 116 116 ty _ 3 q (i*3) (n+1 - i) F ⟨O,0,none⟩ 1 J t _ [Value.string ⟨k.toArray⟩,.bool v.1,.slice v.2.1 v.2.2.1 v.2.2.2] zlU.under W L (by rw [B];rfl) (fun j u z=>by rw [Addr.add_lit,Nat.zero_add,(hv.pu R).cell,←z];simp) (by simp;omega) (by simp [Value.oneCell']);rw [this,hds,B]
 have U:Blk (o.setRow q p) q 119 p:=zaj L p;have ag:Blk (o.setRow q p) D 119 ax:=(hg.pu R).fr (zU o q p) a6;obtain⟨x,hes⟩:∃x:Array Value,x=(zgl p.toList ((i+1)*3) (zb2 (l.drop i))).toArray:=⟨_,rfl⟩
 have X:x.size=G*3:=by rw [hes,List.size_toArray,zaO _ _ _ (by rw [K,Array.length_toList];omega),Array.length_toList,Y]
 have y:Nat.min (n - i) (n - i)=n - i:=by simp only [Nat.min_def];split<;>omega
 have V:∀ty F J,(Builtin.copy_ #[116,116] ty #[.slice (some ⟨q,(i+1)*3,none⟩) (n - i) F,.slice (some ⟨D,i*3,none⟩) (n - i) J]).run Tryz.prog (o.setRow q p).drew=
   .ok (goInt ((n - i:Nat):Int)) ((o.setRow q p).drew.setRow q x):=fun ty F J=>by
  have:=zZ (P:=Tryz.prog) (o.setRow q p).drew 116 116 ty _ 3 q ((i+1)*3) (n - i) F ⟨D,i*3,none⟩ (n - i) J p _ (zb2 (l.drop i)) zlU.under W U.drew (by rw [K,y]) (fun j u z=>by have hj:=(List.getElem?_eq_some_iff.1 z).1;rw [Addr.add_lit,ag.drew.cell,zb5 N (by omega)];rw [zdx,List.getElem?_drop]at z;exact z) (by omega) (ziq _);rw [this,hes,y]
 have aj:Blk ((o.setRow q p).drew.setRow q x) q 119 x:=zaj U.drew x;have ao:((o.setRow q p).drew.setRow q x).ownsRow base 119 3 (.slice (some ⟨q,0,none⟩) (n+1) G) (n+1) (zb2 (zbW l i k v)):=by
  refine zaD (by omega) aj (by omega) af X (by rw [zb6,zcZ (by omega),Z]) fun j hj=>?_;rw [zhS (by omega),hes,List.getElem?_toArray,zaM _ _ _ (by rw [K,Array.length_toList];omega),hds,Array.getElem?_toList,List.getElem?_toArray,zaM _ _ _ (by rw [Array.length_toList];simp;omega)];by_cases c1:j<i*3
  ·rw [if_neg (by omega),if_neg (by omega),if_pos c1,Array.getElem?_toList,hROW,Array.getElem?_append_left (by simp [size_zeroCells,E];omega),Array.getElem?_append_left (by simp [E];omega),List.getElem?_toArray,zg8,List.getElem?_take,if_pos c1]
  ·by_cases c2:j<i*3+3
   ·rw [if_neg (by omega),if_pos (by simp;omega),if_neg c1,if_pos c2]
   ·rw [if_pos (by omega),if_neg c1,if_neg c2];show(zb2 (l.drop i))[j - (i+1)*3]?=_;rw [zdx,List.getElem?_drop]
    congr 1
    omega
 have a7:Pu w ((o.setRow q p).drew.setRow q x):=by have h1:Fr (fun j=>j=q) o ((o.setRow q p).drew.setRow q x):=((zU o q p).drew).trans (zU (o.setRow q p).drew q x);exact R.step h1 (fun j e=>by omega)
 have a4:=Qh I;have ap:=Qh M;have aq:=Qh V;subst hW1 hq;have e1:((i:Int)==(n:Int))=false:=by simp;omega
 have e2:¬(n=i):=by omega
 have e4:decide ((n:Int)+1>(n:Int))=true:=by simp;omega
 have e5:decide ((n:Int)<(n:Int)+1)=true:=by simp;omega
 have e6:¬(G=i):=by omega
 have e7:¬(G=i+1):=by omega
 have aB:G≤9223372036854775807:=af;have aD:i≤n:=by omega
 have aN:IntKind.i64.wrap ((i:Int)+1)=(i:Int)+1:=IntWalk.i64_in _ (by omega);have aL:IntKind.i64.wrap ((n:Int)+1)=(n:Int)+1:=IntWalk.i64_in _ (by omega);have aO:IntKind.i64.wrap ((n:Int)+1 - (i:Int))=(n:Int)+1 - (i:Int):=IntWalk.i64_in _ (by omega);have aF:(0:Int)≤(i:Int)+1:=by omega
 have aP:(i:Int)+1≤(n:Int)+1:=by omega
 have aH:(i:Int)≤(n:Int)+1:=by omega
 have aE:(i:Int)≤(n:Int):=by omega
 have aK:((i:Int)+1).toNat=i+1:=by omega
 clear ae hes X hds Y hg ag hv N aw I M V K E Z h hb B y L U aj hROW ah Q H ai;go_enter Tryz.func53,Tryz.ntmps53;go_wp2_with (first
  | (at_builtin;refine Lib.wpList_append_run _ rfl _ _ _ _ rfl _ _ rfl rfl _ _ (a4.out _) ?_)
  | (simp only [ap.out]))
 go_region_law (refine zaI (S:=Builtin.copy_) (fun _ _ _ _=>rfl) rfl (.tmp 50) (.tmp 53) _ rfl _ _ (by simp [Act.eval,Act.put]) (by simp [Act.eval,Act.put]) (aq.out _ (G - (i+1)) (n - i)) ?_)
 go_wp2;go_ret;exact⟨_,_,rfl,ao,.inr ⟨_,rfl,Nat.le_refl _⟩,a7.fr⟩
theorem zqO(base:Nat)(A:Option Addr)(n c i o:Nat)(l:List (Key×Part))(k:Key)(v:Part)(w:World)(h:w.ownsRow base 119 3 (.slice A n c) n (zb2 l))(H:i≤n)(x:n≤1100000)(j:base≤w.heap.size) (t:Blk w o 119 #[.string ⟨k.toArray⟩,.bool v.1,.slice v.2.1 v.2.2.1 v.2.2.2]) (z:∀a,A=some a→a.block≠o):Calls Tryz.prog 53 #[.slice A n c,.int .i64 i,.slice (some ⟨o,0,none⟩) 1 1] w (zdQ base A n c i l k v w):=by
 by_cases y:i=n
 ·subst y;exact zj8 base A i c o l k v w h x j t
 ·obtain⟨g,C,rfl,I,G,D,F,B,E⟩:=zaU h (by omega);by_cases p:n+1≤c
  ·exact zja base g n c i o l k v w h (by omega) x t (fun e=>z _ rfl e.symm) p
  ·obtain rfl:c=n:=by omega
   exact zjl base g c i o l k v w h (by omega) x j t
end
section
open Go.RowKit
theorem zmp{l:List (Key×Part)}{i:Nat}{k:Key}{u v:Part}(o:l[i]?=some (k,u))(j:Nat):(zb2 (l.take i++(k,v)::l.drop (i+1)))[j]?=if i*3<j∧j<i*3+3 then(vcZ v)[j - i*3 - 1]? else(zb2 l)[j]?:=zg4 (s:=2) zcF o j
theorem zps{w:World}{base n c g:Nat}{l:List (Key×Part)}{i:Nat}{k:Key}{u v:Part}(h:w.ownsRow base 119 3 (.slice (some ⟨g,0,none⟩) n c) n (zb2 l))(t:l[i]?=some (k,u)):((w.setCell ⟨g,i*3+1,none⟩ (.bool v.1)).setCell ⟨g,i*3+1+1,none⟩ (.slice v.2.1 v.2.2.1 v.2.2.2)).ownsRow base 119 3 (.slice (some ⟨g,0,none⟩) n c) n (zb2 (l.take i++(k,v)::l.drop (i+1))):=by
 have I:l.length=n:=ziT (Sl.of_own h);have H:=(List.getElem?_eq_some_iff.1 t).1;obtain⟨D,G,o,F,C,x,z,p,y⟩:=zaU h (by omega);obtain rfl:D=g:=by injection o with o;injection o with o;exact o.symm
 refine zaD F ((C.set_ (i*3+1) (.bool v.1)).set_ (i*3+1+1) (.slice v.2.1 v.2.2.1 v.2.2.2)) x z (by simp [p]) (by rw [zb6];simp;omega) fun j E=>?_;rw [zmp t];by_cases B:j=i*3+1+1
 ·subst B;rw [if_pos (by omega),Array.getElem?_setIfInBounds_self_of_lt (by simp;omega),show i*3+1+1 - i*3 - 1=1 by omega];rfl
 ·rw [Array.getElem?_setIfInBounds_ne (fun h=>B h.symm)];by_cases e:j=i*3+1
  ·subst e;rw [if_pos (by omega),Array.getElem?_setIfInBounds_self_of_lt (by omega),show i*3+1 - i*3 - 1=0 by omega];rfl
  ·rw [if_neg (by omega),Array.getElem?_setIfInBounds_ne (fun h=>e h.symm),zb5 y E]
theorem zk8{w:World}{base k n b:Nat}{e t:TypeId}{v:Value}{p:List Value}{x:Array Value}(h:w.ownsRow base e k v n p)(y:Blk w b t x)(j:e≠t):∀g,v.ownBlock=some g→g≠b:=by
 intro g i;rcases h.2 with⟨rfl,_⟩|⟨C,B,z,rfl,_,o,_⟩
 ·cases i
 ·injection i with i;simp only at i;subst i;exact Blk.ne_ (t:=e) (t':=t) o y j
theorem zp7(base b:Nat)(r:Option Nat)(l:List (Key×Part))(k:Key)(v:Part)(w:World)(h:MOZ w base b r l)(hl:l.length<1100000):Calls Tryz.prog 21 #[.pointer (some ⟨b,0,none⟩),.string ⟨k.toArray⟩,.agg #[.bool v.1,.slice v.2.1 v.2.2.1 v.2.2.2]] w fun e w'=>e= .returned (.bool (!there l k))∧∃r',MOZ w' base b r' (zau l k v)∧(r'=r∨∃g,r'=some g∧w.heap.size≤g)∧Fr (fun j=>j=b∨r=some j) w w':=by
 have hf:=fun W p=>zq5 b l k W (h.mr.pu (w':=W) p);have Hf:=Qh hf;clear hf;have C:=h.row;have aE:=h.lt;obtain⟨A,n,c,R,Q,D,k4,k5,k6⟩:=h;have a7:l.length=n:=ziT (Sl.of_own Q);have TI:=zD k6 k;have a6:=zbb l k;have X:=zN k6 k v;have E:zau l k v=if there l k then l.take (place l k)++(k,v)::l.drop (place l k+1)else l.take (place l k)++(k,v)::l.drop (place l k):=rfl;generalize hM:zau l k v=M at*
 generalize hth:there l k=th at*
 generalize hP:place l k=P at*
 clear hM hth hP;obtain⟨z,y,x,t⟩:=v;have O:Pu w (w.alloc (.cells #[.bool z,.slice y x t] 30)):=(Pu.refl w).alloc _;have kB:Blk (w.alloc (.cells #[.bool z,.slice y x t] 30)) w.heap.size 30 #[.bool z,.slice y x t]:=Blk.new _ _ _;rcases th with _|_
 ·have HM:=Qh (show M=zbW l P k (z,y,x,t)from E);have Z:=Qh C;clear E C TI;go_enter Tryz.func21,Tryz.ntmps21;go_wp2_with fail;refine(Hf.out _ O).mono ?_;rintro e o ⟨rfl,i⟩;have H:=i;replace i:=O.trans i;have c0:o.cell? ⟨b,0,none⟩=some (.slice A n c):=(R.pu i).cell 0;have aA:=i.size;have K:=zaw Q i;have hA:∀a,A=some a→a.block≠o.heap.size:=fun a ha=>by have:=K.lt a.block (by rw [ha];rfl);omega
  have HA:=Qh hA;clear hA;have B:Blk o w.heap.size 30 #[.bool z,.slice y x t]:=kB.pu H;have d0:o.cell? ⟨w.heap.size,0,none⟩=some (.bool z):=B.cell 0;have d1:o.cell? ⟨w.heap.size,1,none⟩=some (.slice y x t):=B.cell 1;go_wp2_with fail;have hP:Pu o o.drew:=(Pu.refl o).drew;have Y:(Value.slice A n c).ownBlock≠some b:=fun e=>by have:=(Z.out b (by rw [←D];exact e)).2.2;exact this rfl
  have ag:=Qh Y;have aF:b<o.heap.size:=by omega
  clear Y;go_region_with (first
   | (go_at_call 53;refine(zqO base A n c P o.heap.size l k (z,y,x,t) _ (zaw (K.alloc _) ((Pu.refl _).drew)) (by omega) (by omega) (by simp;omega) (Blk.new _ _ _).drew HA.out).mono ?_;rintro e N ⟨A2,c2,rfl,S,aw,hF⟩;have k2':Blk N b 126 #[.slice A n c]:=(((R.pu i).alloc _).drew).fr hF ag.out;have c2':N.cell? ⟨b,0,none⟩=some (.slice A n c):=k2'.cell 0;have f2':N.frozen? ⟨b,0,none⟩=false:=k2'.frozen 0;have hfr:Fr (fun j=>j=b∨r=some j) w N:=((i.alloc _).drew).fr' (hF.mono (fun j _ e=> .inr (by rw [←D];exact e)))))
  all_goals
   clear K c0 hF d0 d1;go_wp2;go_ret;refine⟨rfl,_,⟨A2,n+1,c2,k2'.set_ 0 _,zbp ?_ (Fr.one N b 0 _) (zk8 S k2' (by decide)),rfl,k4,by omega,X⟩,(by
   rcases aw with e|⟨g,e,F⟩
   ·exact .inl (e.trans D)
   ·exact .inr ⟨g,e,by simp at F;omega⟩),hfr.setCell (p:=⟨b,0,none⟩) (.inl (.inl rfl)) _⟩
   rw [HM.out];exact S
 ·have au:=TI.1 rfl;obtain⟨u,G⟩:=au;have HM:=Qh (show M=l.take P++(k,(z,y,x,t))::l.drop (P+1)from E);have Hu:=Qh G;have a8:=(List.getElem?_eq_some_iff.1 G).1;obtain⟨g,aC,rfl,hb,F,aD,a9,aB,T⟩:=zaU Q (by omega);have U:=zb5 T (j:=P*3+1) (by omega);have I:=zet (s:=2) zcF G 1 (by omega);rw [show P*(2+1)+1=P*3+1 from rfl]at I;rw [show(zb2 l)[P*3+1]?=_ from I]at U;have J:=zb5 T (j:=P*3+1+1) (by omega);have L:=zet (s:=2) zcF G 2 (by omega);rw [show(zb2 l)[P*3+1+1]?=_ from L]at J;clear E TI G I L;go_enter Tryz.func21,Tryz.ntmps21;go_wp2_with fail;refine(Hf.out _ O).mono ?_;rintro e o ⟨rfl,i⟩;have H:=i;replace i:=O.trans i;have c0:o.cell? ⟨b,0,none⟩=some (.slice (some ⟨g,0,none⟩) n c):=(R.pu i).cell 0;have c1:o.cell? ⟨g,P*3+1,none⟩=some _:=((F.pu i).cell _).trans U;have f1:o.frozen? ⟨g,P*3+1,none⟩=false:=(F.pu i).frozen _;have V:g≠b:=(C g (by rw [←D];rfl)).2.2;have c2:o.cell? ⟨g,P*3+1+1,none⟩=some _:=((F.pu i).cell _).trans J;have f2:o.frozen? ⟨g,P*3+1+1,none⟩=false:=(F.pu i).frozen _;have B:Blk o w.heap.size 30 #[.bool z,.slice y x t]:=kB.pu H;have d0:o.cell? ⟨w.heap.size,0,none⟩=some (.bool z):=B.cell 0;have d1:o.cell? ⟨w.heap.size,1,none⟩=some (.slice y x t):=B.cell 1;go_wp2_with fail;go_region;go_wp2;go_ret;refine⟨rfl,r,⟨some ⟨g,0,none⟩,n,c,(((R.pu i).far (p:=⟨g,P*3+1,none⟩) (fun e=>V e.symm) _).far (p:=⟨g,P*3+1+1,none⟩) (fun e=>V e.symm) _).drew,?_,D,k4,k5,X⟩,.inl rfl,((i.fr.setCell (p:=⟨g,P*3+1,none⟩) (.inl (.inr (by rw [←D];rfl))) _).setCell (p:=⟨g,P*3+1+1,none⟩) (.inl (.inr (by rw [←D];rfl))) _).drew⟩;rw [HM.out];exact zaw (zps (v:=(z,y,x,t)) (zaw Q i) Hu.out) ((Pu.refl _).drew)
end
section
open Go.RowKit
theorem zr6(base b:Nat)(r:Option Nat)(l:List (Key×Part))(k:Key)(w:World)(h:MOZ w base b r l):Calls Tryz.prog 99 #[.pointer (some ⟨b,0,none⟩),.string ⟨k.toArray⟩] w fun e w'=>e= .returned (.bool (there l k))∧MOZ w' base b r (dropM l k)∧Fr (fun j=>j=b∨r=some j) w w':=by
 have I:=zq5 b l k w h.mr;have x:=h.row;have v:=h;obtain⟨A,n,c,G,K,E,R,k5,O⟩:=h;have X:l.length=n:=ziT (Sl.of_own K);have D:=zD O k;have U:=zbb l k;have H:=zcR O k;have o:dropM l k=if there l k then l.take (place l k)++l.drop (place l k+1)else l:=rfl;generalize hM:dropM l k=M at*
 generalize hth:there l k=T at*
 generalize hP:place l k=P at*
 clear hM hth hP;have B:=Qh x;clear x;rcases T with _|_
 ·have C:=Qh (show M=l from o);clear o D;go_enter Tryz.func99,Tryz.ntmps99;go_wp2_with fail;refine I.mono ?_;rintro e L ⟨rfl,i⟩;go_wp2;go_ret;exact⟨rfl,by rw [C.out];exact v.pu i,i.fr⟩
 ·obtain⟨u,Q⟩:=D.1 rfl;have C:=Qh (show M=l.take P++l.drop (P+1)from o);have Z:=(List.getElem?_eq_some_iff.1 Q).1;have V:IntKind.i64.wrap ((P:Int)+1)=(P:Int)+1:=IntWalk.i64_in _ (by omega);clear o D Q v;go_enter Tryz.func99,Tryz.ntmps99;go_wp2_with fail;refine I.mono ?_;rintro e L ⟨rfl,i⟩;have S:L.cell? ⟨b,0,none⟩=some (.slice A n c):=(G.pu i).cell 0;go_wp2_with fail;refine(zqJ base A n c P l _ (zaw K i) (by omega) (by omega)).mono ?_;rintro e y ⟨rfl,z,F⟩;have N:(Value.slice A n c).ownBlock≠some b:=fun e=>by have:=(B.out b (by rw [←E];exact e)).2.2;exact this rfl
  have t:Blk y b 126 #[.slice A n c]:=(G.pu i).fr F N;have W:y.cell? ⟨b,0,none⟩=some (.slice A n c):=t.cell 0;have Y:y.frozen? ⟨b,0,none⟩=false:=t.frozen 0;have J:Fr (fun j=>j=b∨r=some j) w y:=i.fr' (F.mono (fun j _ e=> .inr (by rw [←E];exact e)));clear S F;go_wp2;go_ret;refine⟨rfl,⟨A,n - 1,c,t.set_ 0 _,zbp ?_ (Fr.one y b 0 _) (zk8 z t (by decide)),by rw [←E];cases A<;>rfl,R,by omega,H⟩,J.setCell (p:=⟨b,0,none⟩) (.inl (.inl rfl)) _⟩;rw [C.out];exact z
end
end Go.Proofs.YtckfnbckoclhpaaGreatDoor

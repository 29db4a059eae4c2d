/- Terms. -/
import Derived.Test.YtckfnbckoclhpaaGreatDoorE11
import Derived.Test.YtckfnbckoclhpaaGreatDoorC01
namespace Go.Proofs.YtckfnbckoclhpaaGreatDoor
set_option linter.unusedVariables false
set_option linter.unusedSimpArgs false
set_option maxRecDepth 100000
set_option maxHeartbeats 1000000
section
open Go.RowKit
def zH(w:World)(L:List (Key×Part))(fs:List (Key×Int)):Prop:=L.length=fs.length∧∀(i:Nat) (p:Key×Part) (f:Key×Int),L[i]?=some p→fs[i]?=some f→p.1=f.1∧ZR w p.2.val f.2
theorem zH.nil(w:World):zH w [] []:=⟨rfl,fun i p f h=>by simp at h⟩
theorem zH.pu{w w':World}{L:List (Key×Part)}{fs:List (Key×Int)}(h:zH w L fs)(p:Pu w w'):zH w' L fs:=⟨h.1,fun i q f j k=>⟨(h.2 i q f j k).1,(h.2 i q f j k).2.pu p⟩⟩
theorem zH.frT{S:Nat→Prop}{w w':World}{L:List (Key×Part)}{fs:List (Key×Int)}(h:zH w L fs)(o:Fr S w w')(p:∀g,S g→∃t cs fz,w.heap[g]?=some (.cells cs t fz)∧t≠169):zH w' L fs:=⟨h.1,fun i q f j k=>⟨(h.2 i q f j k).1,(h.2 i q f j k).2.frT o p⟩⟩
section
variable{P Q:Type}
theorem zbD:∀(L:List (Key×P)) (fs:List (Key×Q)) (k:Key),L.map (·.1)=fs.map (·.1)→place L k=place fs k
 | [],[],k,_=>rfl
 | [],f::fs,k,h=>by simp at h
 |p::L,[],k,h=>by simp at h
 |p::L,f::fs,k,h=>by
  simp only [List.map_cons,List.cons.injEq]at h;have i:=zbD L fs k h.2;unfold place at*
  rw [List.countP_cons,List.countP_cons,i,h.1]
theorem zbk:∀(L:List (Key×P)) (fs:List (Key×Q)) (k:Key),L.map (·.1)=fs.map (·.1)→there L k=there fs k
 | [],[],k,_=>rfl
 | [],f::fs,k,h=>by simp at h
 |p::L,[],k,h=>by simp at h
 |p::L,f::fs,k,h=>by
  simp only [List.map_cons,List.cons.injEq]at h;have i:=zbk L fs k h.2;unfold there at*
  rw [List.any_cons,List.any_cons,i,h.1]
theorem ze9{L:List (Key×P)}{fs:List (Key×Q)}(h:L.map (·.1)=fs.map (·.1))(j:zx L):zx fs:=by have i:(L.map (·.1)).Pairwise (fun a b:Key=>a<b):=List.pairwise_map.2 j;rw [h]at i;exact List.pairwise_map.1 i
end
theorem zH.keys{w:World}{L:List (Key×Part)}{fs:List (Key×Int)}(h:zH w L fs):L.map (·.1)=fs.map (·.1):=by
 refine List.ext_getElem? fun i=>?_;rw [List.getElem?_map,List.getElem?_map];rcases Nat.lt_or_ge i L.length with hi|hi
 ·rw [List.getElem?_eq_getElem hi,List.getElem?_eq_getElem (by rw [←h.1];exact hi)];have:=(h.2 i _ _ (List.getElem?_eq_getElem hi) (List.getElem?_eq_getElem (by rw [←h.1];exact hi))).1;simp [this]
 ·rw [List.getElem?_eq_none hi,List.getElem?_eq_none (by rw [←h.1];exact hi)];rfl
theorem zH.take{w:World}{L:List (Key×Part)}{fs:List (Key×Int)}(h:zH w L fs)(i:Nat):zH w (L.take i) (fs.take i):=by
 refine⟨by simp [h.1],fun j p f k o=>?_⟩;rw [List.getElem?_take]at k o;split at k
 ·rename_i t;rw [if_pos t]at o;exact h.2 j p f k o
 ·cases k
theorem zH.drop{w:World}{L:List (Key×Part)}{fs:List (Key×Int)}(h:zH w L fs)(i:Nat):zH w (L.drop i) (fs.drop i):=by refine⟨by simp [h.1],fun j p f k o=>?_⟩;rw [List.getElem?_drop]at k o;exact h.2 _ p f k o
theorem zH.append{w:World}{L t:List (Key×Part)}{fs o:List (Key×Int)}(h:zH w L fs)(v:zH w t o):zH w (L++t) (fs++o):=by
 refine⟨by simp [h.1,v.1],fun j p f i k=>?_⟩;rcases Nat.lt_or_ge j L.length with hj|hj
 ·rw [List.getElem?_append_left hj]at i;rw [List.getElem?_append_left (by rw [←h.1];exact hj)]at k;exact h.2 j p f i k
 ·rw [List.getElem?_append_right hj]at i;rw [List.getElem?_append_right (by rw [←h.1];exact hj),←h.1]at k;exact v.2 _ p f i k
theorem zH.cons{w:World}{L:List (Key×Part)}{fs:List (Key×Int)}{k:Key}{q:Part}{z:Int}(h:zH w L fs)(t:ZR w q.val z):zH w ((k,q)::L) ((k,z)::fs):=by
 refine⟨by simp [h.1],fun j p f i o=>?_⟩
 cases j with
 |zero=>simp at i o;subst i o;exact⟨rfl,t⟩
 |succ j=>exact h.2 j p f (by simpa using i) (by simpa using o)
theorem zH.put{w:World}{L:List (Key×Part)}{fs:List (Key×Int)}{k:Key}{q:Part}{z:Int}(h:zH w L fs)(i:ZR w q.val z):zH w (zau L k q) (zau fs k z):=by
 unfold zau;rw [zbD L fs k h.keys,zbk L fs k h.keys];split
 ·exact(h.take _).append ((h.drop _).cons i)
 ·exact(h.take _).append ((h.drop _).cons i)
theorem zH.dropM{w:World}{L:List (Key×Part)}{fs:List (Key×Int)}{k:Key}(h:zH w L fs):zH w (dropM L k) (dropM fs k):=by
 unfold Go.Proofs.YtckfnbckoclhpaaGreatDoor.dropM;rw [zbD L fs k h.keys,zbk L fs k h.keys];split
 ·exact(h.take _).append (h.drop _)
 ·exact h
def factor(fs:List (Key×Int))(k:Key):Int:=if there fs k then(fs[place fs k]?.getD ([],0)).2 else 0
theorem zH.get{w:World}{L:List (Key×Part)}{fs:List (Key×Int)}{k:Key}(h:zH w L fs)(v:zx L):ZR w (gvZ L k) (factor fs k):=by
 unfold gvZ factor;rw [zbD L fs k h.keys,zbk L fs k h.keys];split
 ·rename_i t;have o:=ze9 h.keys v;obtain⟨z,i⟩:=(zD o k).1 t;have j:=(List.getElem?_eq_some_iff.1 i).1;obtain⟨p,hp⟩:∃p,L[place fs k]?=some p:=⟨_,List.getElem?_eq_getElem (by rw [h.1];exact j)⟩
  have:=(h.2 _ p _ hp i).2;rw [hp,i];exact this
 ·exact⟨false,none,0,0,[],rfl,Sl.nil _ _ _ _,zg.nil _,zcz,(fun e=>by cases e),⟨by simp [maxLen],W32.none _ _⟩,rfl⟩
theorem MOZ.typed{w:World}{base b:Nat}{r:Option Nat}{L:List (Key×Part)}(h:MOZ w base b r L):∀g,(g=b∨r=some g)→∃t cs fz,w.heap[g]?=some (.cells cs t fz)∧t≠169:=by
 obtain⟨A,n,c,p,v,j,B⟩:=h;rintro g (rfl|i)
 ·exact⟨_,_,_,p,by decide⟩
 ·rcases v.2 with⟨k,_⟩|⟨x,z,y,k,_,o,_⟩
  ·rw [k]at j;rw [←j]at i
   cases i
  ·rw [k]at j;rw [←j]at i;have e:x=g:=by injection i
   subst e;exact⟨_,_,_,o,by decide⟩
def TM(w:World)(v:Value)(rest:Int)(fs:List (Key×Int)):Prop:=∃g A n c m,v= .agg #[.bool g,.slice A n c,.pointer m]∧ZR w (.agg #[.bool g,.slice A n c]) rest∧((m=none∧fs= [])∨∃b L,m=some ⟨b,0,none⟩∧MRZ w b L∧zH w L fs)
theorem TM.pu{w w':World}{v:Value}{rest:Int}{fs:List (Key×Int)}(h:TM w v rest fs)(p:Pu w w'):TM w' v rest fs:=by
 obtain⟨g,A,n,c,m,k,o,i⟩:=h;refine⟨g,A,n,c,m,k,o.pu p,?_⟩;rcases i with i|⟨b,L,i,j,t⟩
 ·exact .inl i
 ·exact .inr ⟨b,L,i,j.pu p,t.pu p⟩
theorem TM.rise{w:World}{v:Value}{rest:Int}{fs:List (Key×Int)}(h:TM w v rest fs):zx fs∧fs.length≤1100000:=by
 obtain⟨g,A,n,c,m,o,p,j⟩:=h;rcases j with⟨_,rfl⟩|⟨b,L,j,i,k⟩
 ·exact⟨List.Pairwise.nil,by simp⟩
 ·exact⟨ze9 k.keys i.rise,by rw [←k.1];exact i.len⟩
end
section
open Go.RowKit
theorem ZR.shape2{w:World}{v:Value}{z:Int}(h:ZR w v z):∃g A n c,v= .agg #[.bool g,.slice A n c]:=by obtain⟨g,A,n,c,l,rfl,-⟩:=h;exact⟨g,A,n,c,rfl⟩
theorem zbd(v:Value)(z:Int)(w:World)(h:ZR w v z):Calls Tryz.prog 32 #[v] w fun e w'=>∃v',e= .returned v'∧TM w' v' z []∧Pu w w':=by obtain⟨g,A,n,c,rfl⟩:=h.shape2;have H:=Qh h;clear h;go_enter Tryz.func32,Tryz.ntmps32;go_wp2;have k:Blk ((w.alloc (.cells #[.bool g,.slice A n c] 30)).alloc (.cells #[.bool g,.slice A n c,.pointer none] 33)) (w.heap.size+1) 33 #[.bool g,.slice A n c,.pointer none]:=Blk.at_new _ _ _ (by simp);have i:Pu w ((w.alloc (.cells #[.bool g,.slice A n c] 30)).alloc (.cells #[.bool g,.slice A n c,.pointer none] 33)):=((Pu.refl w).alloc _).alloc _;obtain⟨j,r1,r2⟩:=k.c3_;exact bodyPost_ret (v:= .agg #[.bool g,.slice A n c,.pointer none]) (by simp [results,Tryz.results32,go_sem,j,r1,r2]) rfl ⟨_,rfl,⟨g,A,n,c,none,rfl,H.out.pu i,.inl ⟨rfl,rfl⟩⟩,i⟩
theorem zcf{W:World}{b:Nat}{x:Bool}{y:Option Addr}{m d:Nat}{z:Option Addr}(k:Blk W b 33 #[.bool x,.slice y m d,.pointer z])(g:Bool)(A:Option Addr)(n c:Nat)(q:Option Addr):Blk (((W.setCell ⟨b,0,none⟩ (.bool g)).setCell ⟨b,1,none⟩ (.slice A n c)).setCell ⟨b,2,none⟩ (.pointer q)) b 33 #[.bool g,.slice A n c,.pointer q]∧Fr (fun i=>i=b) W (((W.setCell ⟨b,0,none⟩ (.bool g)).setCell ⟨b,1,none⟩ (.slice A n c)).setCell ⟨b,2,none⟩ (.pointer q))∧(∀i,i=b→∃t cs fz,W.heap[i]?=some (.cells cs t fz)∧t≠169):=⟨((k.set_ 0 _).set_ 1 _).set_ 2 _,((Fr.one W b 0 _).trans (Fr.one _ b 1 _)).trans (Fr.one _ b 2 _),fun i e=>by subst e;exact⟨_,_,_,k,by decide⟩⟩
theorem zca(v:Value)(rest:Int)(fs:List (Key×Int))(w:World)(h:TM w v rest fs):Calls Tryz.prog 48 #[v] w fun e w'=>∃A n c L,e= .returned (.slice A n c)∧Sl w' 3 A n c (kps vcZ L)∧n≤1100000∧zH w' L fs∧zbi w.heap.size A∧Pu w w':=by
 obtain⟨g,A,n,c,m,rfl,t,E⟩:=h;rcases E with⟨rfl,rfl⟩|⟨b,L,rfl,o,p⟩
 ·have i:Pu w (w.alloc (.cells #[.bool g,.slice A n c,.pointer none] 33)):=(Pu.refl w).alloc _;clear t;go_enter Tryz.func48,Tryz.ntmps48;go_wp2;go_ret;exact⟨none,0,0,[],rfl,Sl.nil _ _ _ _,by omega,zH.nil _,zbi.none _,i⟩
 ·have i:Pu w (w.alloc (.cells #[.bool g,.slice A n c,.pointer (some ⟨b,0,none⟩)] 33)):=(Pu.refl w).alloc _;have x:=zqa b L _ (o.pu i);have y:=Qh (p.pu i);clear t o p;go_enter Tryz.func48,Tryz.ntmps48;go_wp2_with fail;refine x.mono ?_;rintro e H ⟨F,G,C,rfl,j,z,k⟩;have D:=Sl.of_own j;have B:=(zbi.own j).le i.size;clear j;go_wp2;go_ret;exact⟨F,G,C,L,rfl,D,z,y.out.pu k,B,i.trans k⟩
theorem zcJ(k:Key)(w:World):Calls Tryz.prog 26 #[.string ⟨k.toArray⟩] w fun e w'=>∃v',e= .returned v'∧TM w' v' 0 [(k,1)]∧Pu w w':=by
 have J:Pu w (w.alloc (.cells #[.bool false,.slice none 0 0,.pointer none] 33)):=(Pu.refl w).alloc _;have O:Blk (w.alloc (.cells #[.bool false,.slice none 0 0,.pointer none] 33)) w.heap.size 33 #[.bool false,.slice none 0 0,.pointer none]:=Blk.new _ _ _;go_enter Tryz.func26,Tryz.ntmps26;go_wp2_with fail;refine(zrr _).mono ?_;rintro e X ⟨b,rfl,H,E⟩;go_wp2_with fail;refine(zaG 1 _ (by omega) (by omega)).mono ?_;rintro e V ⟨W,rfl,F,z⟩;obtain⟨g,A,n,c,rfl⟩:=F.shape2;have t:=H.pu z;go_wp2_with fail;refine(zp7 _ b none [] k (g,A,n,c) V t (by simp)).mono ?_;rintro e I ⟨rfl,r',x,-,o⟩;have D:ZR I (Part.val (g,A,n,c)) 1:=ZR.frT F o t.typed;have L:=H.lt;have hb:w.heap.size<b:=by have:=L.1;simp at this;omega
 have p:=((O.pu E).pu z).fr o (by
  rintro(e|e)
  ·omega
  ·cases e)
 obtain⟨Z,c1,Y⟩:=p.c3_;obtain⟨f0,f1,f2⟩:=p.z3_;obtain⟨K,y,R⟩:=zcf p false none 0 0 (some ⟨b,0,none⟩);have N:zH I (zau [] k (g,A,n,c)) (zau [] k 1):=(zH.nil I).put D;have C:=N.frT y R;have B:MRZ _ b (zau [] k (g,A,n,c)):=MOZ.mr (x.fr y (by show¬b=w.heap.size;omega) (fun j hj e=>by have S:=(x.row j hj).1;simp at S;have T:j=w.heap.size:=e;omega));have M:Pu w _:=(((J.trans E).trans z).step o (fun i e=>by
  rcases e with e|e
  ·omega
  ·cases e)).step y (fun i e=>by
  have T:i=w.heap.size:=e;omega)
 obtain⟨U,r1,r2⟩:=K.c3_;have G:=Qh (AI C (AI B M));clear N C B M D x o K y R H t E z O J F;go_wp2;refine bodyPost_ret (v:= .agg #[.bool false,.slice none 0 0,.pointer (some ⟨b,0,none⟩)]) (by simp [results,Tryz.results26,go_sem,U,r1,r2]) rfl ⟨_,rfl,⟨false,none,0,0,_,rfl,?_,.inr ⟨b,_,rfl,G.out.2.1,?_⟩⟩,G.out.2.2⟩
 ·exact⟨false,none,0,0,[],rfl,Sl.nil _ _ _ _,zg.nil _,zcz,(fun e=>by cases e),⟨by simp [maxLen],W32.none _ _⟩,rfl⟩
 ·have:=G.out.1;simpa [zau,place,there]using this
end
section
open Go.RowKit
def zX(n:Int)(acc:List (Key×Int))(g:Key×Int):List (Key×Int):=if factor acc g.1+g.2*n=0 then dropM acc g.1 else zau acc g.1 (factor acc g.1+g.2*n)
def zG(fs gs:List (Key×Int))(n:Int):List (Key×Int):=gs.foldl (zX n) fs
theorem zn7(fs:List (Key×Int)){gs:List (Key×Int)}{n:Int}{i:Nat}{g:Key×Int}(h:gs[i]?=some g):zG fs (gs.take (i+1)) n=zX n (zG fs (gs.take i) n) g:=by rw [List.take_add_one,h,zG,List.foldl_append];rfl
def zad(K:Nat)(l:List (Key×Int)):Prop:=∀f∈l,f.2.natAbs≤K
theorem zad.le{K J:Nat}{l:List (Key×Int)}(h:zad K l)(j:K≤J):zad J l:=fun f i=>Nat.le_trans (h f i) j
theorem zad.factor{K:Nat}{l:List (Key×Int)}(h:zad K l)(k:Key):(factor l k).natAbs≤K:=by
 unfold Go.Proofs.YtckfnbckoclhpaaGreatDoor.factor;split
 ·cases e:l[place l k]? with
  |none=>exact Nat.zero_le _
  |some f=>exact h f (List.mem_of_getElem? e)
 ·exact Nat.zero_le _
theorem zfn{P:Type}{l:List (Key×P)}{k:Key}{v:P}{f:Key×P}(h:f∈zau l k v):f=(k,v)∨f∈l:=by
 unfold zau at h;split at h
 ·rcases List.mem_append.1 h with h|h
  ·exact .inr (List.mem_of_mem_take h)
  ·rcases List.mem_cons.1 h with h|h
   ·exact .inl h
   ·exact .inr (List.mem_of_mem_drop h)
 ·rcases List.mem_append.1 h with h|h
  ·exact .inr (List.mem_of_mem_take h)
  ·rcases List.mem_cons.1 h with h|h
   ·exact .inl h
   ·exact .inr (List.mem_of_mem_drop h)
theorem zjZ{P:Type}{l:List (Key×P)}{k:Key}{f:Key×P}(h:f∈dropM l k):f∈l:=by
 unfold dropM at h;split at h
 ·rcases List.mem_append.1 h with h|h
  ·exact List.mem_of_mem_take h
  ·exact List.mem_of_mem_drop h
 ·exact h
theorem zbO{K M:Nat}{n:Int}{acc:List (Key×Int)}{g:Key×Int}(h:zad K acc)(k:(g.2*n).natAbs≤M):zad (K+M) (zX n acc g):=by
 have j:=h.factor g.1;intro f i;unfold zX at i;split at i
 ·exact Nat.le_trans (h f (zjZ i)) (Nat.le_add_right _ _)
 ·rcases zfn i with e|e
  ·rw [e];show(factor acc g.1+g.2*n).natAbs≤K+M;omega
  ·exact Nat.le_trans (h f e) (Nat.le_add_right _ _)
theorem zex{n:Int}{acc:List (Key×Int)}{g:Key×Int}:(zX n acc g).length≤acc.length+1:=by
 unfold zX;split
 ·exact Nat.le_succ_of_le (zm4 _ _)
 ·exact ziF _ _ _
theorem zbN{n:Int}{acc:List (Key×Int)}{g:Key×Int}(h:zx acc):zx (zX n acc g):=by
 unfold zX;split
 ·exact zcR h _
 ·exact zN h _ _
end
section
open Go.RowKit
def NZ(l:List (Key×Int)):Prop:=∀f∈l,f.2≠0
theorem NZ.nil:NZ []:=fun f i=>by cases i
theorem zaz(fs:List (Key×Int))(k:Key):factor fs k=(zae fs k).getD 0:=by
 unfold factor zae;split
 ·cases fs[place fs k]?<;>rfl
 ·rfl
theorem zl{fs:List (Key×Int)}(i:zx fs){k:Key}{z:Int}(h:(k,z)∈fs):factor fs k=z:=by rw [zaz,(zv i).2 h];rfl
theorem zI{fs:List (Key×Int)}(i:zx fs){k:Key}(h:∀f∈fs,f.1≠k):factor fs k=0:=by rw [zaz,zhP (zjQ h)];rfl
theorem zhI{fs:List (Key×Int)}(i:zx fs)(k:Key)(z:Int)(x:Key):factor (zau fs k z) x=if x=k then z else factor fs x:=by rw [zaz,zbu i,zaz];split<;>rfl
theorem zf5{l:List (Key×Int)}(o:zx l)(k:Key)(f:Key×Int):f∈dropM l k↔f∈l∧f.1≠k:=by
 unfold dropM;split
 ·rename_i h;obtain⟨u,i⟩:=(zD o k).1 h;have t:=(List.getElem?_eq_some_iff.1 i).1;have w:l.drop (place l k)=(k,u)::l.drop (place l k+1):=by
   rw [List.drop_eq_getElem_cons t]
   congr 1
   exact(List.getElem?_eq_some_iff.1 i).2
  rw [List.mem_append];constructor
  ·rintro(h|h)
   ·exact⟨List.mem_of_mem_take h,zkT (zkb o f h)⟩
   ·refine⟨List.mem_of_mem_drop h,fun e=>?_⟩;obtain⟨j,v⟩:=List.getElem?_of_mem h;rw [List.getElem?_drop]at v;have:=zeG o i v (by omega);rw [e]at this;exact zev k this
  ·rintro⟨h,x⟩;have:f∈l.take (place l k)++l.drop (place l k):=by rwa [List.take_append_drop]
   rcases List.mem_append.1 this with h|h
   ·exact .inl h
   ·rw [w]at h;rcases List.mem_cons.1 h with h|h
    ·exact absurd (by rw [h]) x
    ·exact .inr h
 ·rename_i h;constructor
  ·intro p;refine⟨p,fun e=>h ?_⟩;exact List.any_eq_true.2 ⟨f,p,by simpa using e⟩
  ·exact fun h=>h.1
theorem zj3{fs:List (Key×Int)}(i:zx fs)(k x:Key):factor (dropM fs k) x=if x=k then 0 else factor fs x:=by
 by_cases h:x=k
 ·rw [if_pos h];exact zI (zcR i k) (fun f j e=>((zf5 i k f).1 j).2 (e.trans h))
 ·rw [if_neg h]
  cases e:zae fs x with
  |some u=>have o:=(zv i).1 e;rw [zl i o];exact zl (zcR i k) ((zf5 i k _).2 ⟨o,h⟩)
  |none=>
   rw [zaz fs,e];refine zI (zcR i k) (fun f j t=>?_);have p:=(zv i (k:=x) (v:=f.2)).2 (by rw [←t];exact((zf5 i k f).1 j).1);rw [e]at p
   cases p
theorem zhj{n:Int}{acc:List (Key×Int)}(i:zx acc)(g:Key×Int)(x:Key):factor (zX n acc g) x=if x=g.1 then factor acc g.1+g.2*n else factor acc x:=by
 unfold zX;split
 ·rename_i h;rw [zj3 i];split
  ·rw [h]
  ·rfl
 ·rw [zhI i]
theorem zlz{n:Int}{acc:List (Key×Int)}(j:zx acc)(k:NZ acc)(g:Key×Int):NZ (zX n acc g):=by
 unfold zX;split
 ·exact fun f i=>k f ((zf5 j _ f).1 i).1
 ·rename_i h;intro f i;rcases(zfF j _ _ f).1 i with e|e
  ·rw [e];exact h
  ·exact k f e.1
theorem zac{n:Int}:∀(gs fs:List (Key×Int)),zx fs→zx (zG fs gs n)
 | [],_,h=>h
 |g::gs,fs,h=>zac gs _ (zbN h)
theorem zdE{n:Int}:∀(gs fs:List (Key×Int)),zx fs→NZ fs→NZ (zG fs gs n)
 | [],_,_,h=>h
 |g::gs,fs,hr,h=>zdE gs _ (zbN hr) (zlz hr h g)
theorem zcA{n:Int}:∀(gs fs:List (Key×Int)),(zG fs gs n).length≤fs.length+gs.length
 | [],fs=>Nat.le_refl _
 |g::gs,fs=>by have i:=zcA (n:=n) gs (zX n fs g);have j:=zex (n:=n) (acc:=fs) (g:=g);rw [List.length_cons];show(zG (zX n fs g) gs n).length≤_;omega
theorem zak{n:Int}:∀(gs fs:List (Key×Int)),zx fs→zx gs→∀x,factor (zG fs gs n) x=factor fs x+factor gs x*n
 | [],fs,_,_,x=>by show factor fs x=_;rw [show factor ([]:List (Key×Int)) x=0 from rfl,Int.zero_mul,Int.add_zero]
 |g::gs,fs,hr,hg,x=>by
  have i:=List.pairwise_cons.1 hg;show factor (zG (zX n fs g) gs n) x=_;rw [zak gs _ (zbN hr) i.2,zhj hr];by_cases h:x=g.1
  ·rw [if_pos h,h,zl (fs:=g::gs) hg (k:=g.1) (z:=g.2) (List.mem_cons_self ..),zI i.2 (fun f j e=>by have:=i.1 f j;rw [e]at this;exact zev _ this),Int.zero_mul,Int.add_zero]
  ·rw [if_neg h];have:factor (g::gs) x=factor gs x:=by
    cases e:zae gs x with
    |some u=>have t:=(zv i.2).1 e;rw [zl i.2 t];exact zl hg (List.mem_cons_of_mem _ t)
    |none=>
     rw [zaz gs,e];refine zI hg (fun f j o=>?_);rcases List.mem_cons.1 j with h3|h3
     ·rw [h3]at o;exact h o.symm
     ·have p:=(zv i.2 (k:=x) (v:=f.2)).2 (by rw [←o];exact h3);rw [e]at p
      cases p
   rw [this]
def za9(fs:List (Key×Int))(n:Int):List (Key×Int):=fs.map fun f=>(f.1,f.2*n)
def zbI(fs:List (Key×Int))(n:Int):List (Key×Int):=fs.map fun f=>(f.1,f.2/n)
theorem zpo{fs:List (Key×Int)}(h:zx fs)(f:Key×Int→Int):zx (fs.map fun q=>(q.1,f q)):=by
 unfold zx at*
 rw [List.pairwise_map];exact h
theorem ziO{n:Int}:∀(fs acc:List (Key×Int)),zx fs→(∀f∈fs,f.2*n≠0)→(∀p∈acc,∀q∈fs,p.1<q.1)→zx acc→zG acc fs n=acc++za9 fs n
 | [],acc,_,_,_,_=>by simp [zG,za9]
 |g::fs,acc,hr,hz,ha,hra=>by
  have j:=List.pairwise_cons.1 hr;have o:factor acc g.1=0:=zI hra (fun f hf=>zkT (ha f hf g (List.mem_cons_self ..)));have k:zX n acc g=acc++[(g.1,g.2*n)]:=by unfold zX;rw [o,Int.zero_add,if_neg (hz g (List.mem_cons_self ..)),zjK (fun p i=>ha p i g (List.mem_cons_self ..))]
  have t:=ziO (n:=n) fs (zX n acc g) j.2 (fun f hf=>hz f (List.mem_cons_of_mem _ hf)) (fun p i q hq=>by
   rw [k]at i;rcases List.mem_append.1 i with i|i
   ·exact ha p i q (List.mem_cons_of_mem _ hq)
   ·rw [List.mem_singleton]at i;rw [i];exact j.1 q hq) (zbN hra)
  show zG (zX n acc g) fs n=_;rw [t,k];simp [za9]
theorem zbv{n:Int}{fs:List (Key×Int)}(i:zx fs)(k:NZ fs)(j:n≠0):zG [] fs n=za9 fs n:=by have:=ziO (n:=n) fs [] i (fun f hf=>Int.mul_ne_zero (k f hf) j) (fun p hp=>by cases hp) List.Pairwise.nil;simpa using this
theorem zgH{fs:List (Key×Int)}{n:Int}(o:NZ fs)(k:n≠0):NZ (za9 fs n):=by intro f i;obtain⟨q,j,rfl⟩:=List.mem_map.1 i;exact Int.mul_ne_zero (o q j) k
theorem zgo{fs:List (Key×Int)}{n:Int}(p:NZ fs)(o:∀f∈fs,n∣f.2):NZ (zbI fs n):=by intro f k;obtain⟨q,i,rfl⟩:=List.mem_map.1 k;intro e;have h:=o q i;have j:n*(q.2/n)=q.2:=Int.mul_ediv_cancel' h;dsimp only at e;rw [e,Int.mul_zero]at j;exact p q i j.symm
end
end Go.Proofs.YtckfnbckoclhpaaGreatDoor

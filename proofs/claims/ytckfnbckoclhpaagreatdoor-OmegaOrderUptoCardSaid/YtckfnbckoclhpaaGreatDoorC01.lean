/- The words for memory that the walks of this seat use. -/
import Derived.WalkKit
import Derived.Lib.Hide
import Derived.Deep.Draws
import Derived.Deep.AppendLies
import Derived.Laws.CopyRow
import Derived.Lib.ConvBytes
import Derived.Lib.TrimByte
import Derived.Laws.IdiomStrings
import Derived.Sort.Row
import Derived.Laws.Entries
import Derived.Lib.SlTrimSet
import Derived.Lib.Strings
namespace Go.Proofs.YtckfnbckoclhpaaGreatDoor
set_option linter.unusedVariables false
set_option linter.unusedSimpArgs false
section
open Go.RowKit
def E3:Nat:=3000000000
def E4:Nat:=4000000000
def E9:Nat:=9000000000
structure Fr(S:Nat→Prop)(w w':World):Prop where
 os:w'.os=w.os
 tape:w'.tape=w.tape
 output:w'.output=w.output
 size:w.heap.size≤w'.heap.size
 block:∀k,k<w.heap.size→¬S k→w'.heap[k]?=w.heap[k]?
def Pu(w w':World):Prop:=Fr (fun _=>False) w w'
theorem Fr.refl(S:Nat→Prop)(w:World):Fr S w w:=⟨rfl,rfl,rfl,Nat.le_refl _,fun _ _ _=>rfl⟩
theorem Fr.trans{S:Nat→Prop}{a b c:World}(h:Fr S a b)(k:Fr S b c):Fr S a c:=⟨k.os.trans h.os,k.tape.trans h.tape,k.output.trans h.output,Nat.le_trans h.size k.size,fun i j p=>(k.block i (Nat.lt_of_lt_of_le j h.size) p).trans (h.block i j p)⟩
theorem Fr.mono{S p:Nat→Prop}{a b:World}(h:Fr S a b)(v:∀k,k<a.heap.size→S k→p k):Fr p a b:=⟨h.os,h.tape,h.output,h.size,fun i j y=>h.block i j (fun x=>y (v i j x))⟩
theorem Fr.trans'{S y j:Nat→Prop}{a b c:World}(h:Fr S a b)(k:Fr y b c)(z:∀k,k<a.heap.size→S k→j k)(B:∀k,k<a.heap.size→y k→j k):Fr j a c:=⟨k.os.trans h.os,k.tape.trans h.tape,k.output.trans h.output,Nat.le_trans h.size k.size,fun i p v=>(k.block i (Nat.lt_of_lt_of_le p h.size) (fun x=>v (B i p x))).trans (h.block i p (fun x=>v (z i p x)))⟩
theorem Fr.pu{S:Nat→Prop}{a b c:World}(h:Fr S a b)(k:Pu b c):Fr S a c:=h.trans' k (fun _ _ h=>h) (fun _ _ h=>h.elim)
theorem Pu.refl(w:World):Pu w w:=Fr.refl _ w
theorem Pu.trans{a b c:World}(h:Pu a b)(k:Pu b c):Pu a c:=Fr.trans h k
theorem Pu.fr{S:Nat→Prop}{a b:World}(h:Pu a b):Fr S a b:=Fr.mono h (fun _ _ h=>h.elim)
theorem Pu.fr'{S:Nat→Prop}{a b c:World}(h:Pu a b)(k:Fr S b c):Fr S a c:=h.fr.trans k
theorem Pu.size{a b:World}(h:Pu a b):a.heap.size≤b.heap.size:=Fr.size h
theorem Pu.below{a b:World}(h:Pu a b):Below a.heap.size a b:=⟨h.os,h.tape,h.output,Fr.size h,fun k i=>Fr.block h k i (fun x=>x)⟩
theorem Fr.drew{S:Nat→Prop}{a w:World}(h:Fr S a w):Fr S a w.drew:=⟨h.os,h.tape,h.output,h.size,h.block⟩
theorem Fr.drewN{S:Nat→Prop}{a w:World}(h:Fr S a w)(n:Nat):Fr S a (w.drewN n):=⟨h.os,h.tape,h.output,h.size,h.block⟩
theorem Fr.alloc{S:Nat→Prop}{a w:World}(h:Fr S a w)(o:Obj):Fr S a (w.alloc o):=⟨h.os,h.tape,h.output,Nat.le_trans h.size (by simp),fun k i j=>(Below.heap_alloc w o k (Nat.lt_of_lt_of_le i h.size)).trans (h.block k i j)⟩
theorem Fr.setCell{S:Nat→Prop}{a w:World}(h:Fr S a w){p:Addr}(i:S p.block∨a.heap.size≤p.block)(u:Value):Fr S a (w.setCell p u):=
 ⟨h.os,h.tape,h.output,by simpa [World.setCell]using h.size,fun k v j=>(Below.heap_setCell w p u k (by
  rintro rfl;rcases i with i|i
  ·exact j i
  ·omega)).trans (h.block k v j)⟩
theorem Pu.drew{a w:World}(h:Pu a w):Pu a w.drew:=Fr.drew h
theorem Pu.drewN{a w:World}(h:Pu a w)(n:Nat):Pu a (w.drewN n):=Fr.drewN h n
theorem Pu.alloc{a w:World}(h:Pu a w)(o:Obj):Pu a (w.alloc o):=Fr.alloc h o
theorem Pu.setCell{a w:World}(h:Pu a w){p:Addr}(i:a.heap.size≤p.block)(u:Value):Pu a (w.setCell p u):=Fr.setCell h (.inr i) u
theorem Fr.grown{S:Nat→Prop}{a w w':World}{j:Option Nat}(h:Fr S a w)(i:w.grownBy w' j)(x:∀k,j=some k→S k∨a.heap.size≤k):Fr S a w':=
 ⟨i.os.trans h.os,i.tape.trans h.tape,i.output.trans h.output,Nat.le_trans h.size i.size,
  fun k v p=>(i.block k (Nat.lt_of_lt_of_le v h.size) (fun e=>by
   rcases x k e.symm with h1|h1
   ·exact p h1
   ·omega)).trans (h.block k v p)⟩
theorem Pu.grown{a w w':World}{i:Option Nat}(h:Pu a w)(j:w.grownBy w' i)(p:∀k,i=some k→a.heap.size≤k):Pu a w':=Fr.grown h j (fun k v=> .inr (p k v))
theorem Pu.step{S:Nat→Prop}{a w w':World}(h:Pu a w)(k:Fr S w w')(j:∀i,S i→a.heap.size≤i):Pu a w':=Fr.trans' h k (fun _ _ h=>h) (fun i hi hS=>by have:=j i hS;omega)
theorem Fr.step{S j:Nat→Prop}{a w w':World}(h:Fr S a w)(k:Fr j w w')(p:∀i,j i→S i∨a.heap.size≤i):Fr S a w':=
 Fr.trans' h k (fun _ _ h=>h) (fun i hi hS=>by
  rcases p i hS with h1|h1
  ·exact h1
  ·omega)
theorem Fr.cell{S:Nat→Prop}{w w':World}(h:Fr S w w'){p:Addr}(i:p.block<w.heap.size)(j:¬S p.block):w'.cell? p=w.cell? p:=World.cell?_of_block (w:=w) (h.block p.block i j)
theorem Fr.frozen{S:Nat→Prop}{w w':World}(h:Fr S w w'){p:Addr}(i:p.block<w.heap.size)(j:¬S p.block):w'.frozen? p=w.frozen? p:=World.frozen?_of_block (w:=w) (h.block p.block i j)
theorem Pu.cell{w w':World}(h:Pu w w'){p:Addr}(i:p.block<w.heap.size):w'.cell? p=w.cell? p:=Fr.cell h i (fun x=>x)
theorem zfB{w:World}{p:Addr}{v:Value}(h:w.cell? p=some v):p.block<w.heap.size:=World.block_lt_of_cell? w p h
theorem Pu.cellv{w w':World}(h:Pu w w'){p:Addr}{v:Value}(i:w.cell? p=some v):w'.cell? p=some v:=(Pu.cell h (zfB i)).trans i
theorem Fr.cellv{S:Nat→Prop}{w w':World}(h:Fr S w w'){p:Addr}{v:Value}(i:w.cell? p=some v)(j:¬S p.block):w'.cell? p=some v:=(h.cell (zfB i) j).trans i
theorem Fr.of_grown{w w':World}{j:Option Nat}(i:w.grownBy w' j):Fr (fun k=>j=some k) w w':=⟨i.os,i.tape,i.output,i.size,fun k v p=>i.block k v (fun e=>p e.symm)⟩
theorem Pu.grownBy{w w':World}(h:Pu w w')(i:Option Nat):w.grownBy w' i:=⟨h.os,h.tape,h.output,Fr.size h,fun k j _=>Fr.block h k j (fun x=>x)⟩
def Blk(w:World)(g:Nat)(t:TypeId)(cs:Array Value):Prop:=w.heap[g]?=some (.cells cs t (0,0))
section
variable{w w':World}{g:Nat}{t:TypeId}{cs:Array Value}
theorem Blk.lt(h:Blk w g t cs):g<w.heap.size:=by
 rcases Nat.lt_or_ge g w.heap.size with hlt|hge
 ·exact hlt
 ·unfold Blk at h;rw [Array.getElem?_eq_none hge]at h;cases h
theorem Blk.cell(h:Blk w g t cs)(i:Nat):w.cell? ⟨g,i,none⟩=cs[i]?:=cell_of_row w g i cs t (0,0) h
theorem Blk.frozen(h:Blk w g t cs)(i:Nat):w.frozen? ⟨g,i,none⟩=false:=by unfold Blk at h;simp [World.frozen?,h]
theorem Blk.new(w:World)(t:TypeId)(cs:Array Value):Blk (w.alloc (.cells cs t)) w.heap.size t cs:=heap_alloc_new w _
theorem Blk.at_new(w:World)(t:TypeId)(cs:Array Value){k:Nat}(h:k=w.heap.size):Blk (w.alloc (.cells cs t)) k t cs:=by rw [h];exact Blk.new w t cs
theorem Blk.drew(h:Blk w g t cs):Blk w.drew g t cs:=h
theorem Blk.drewN(h:Blk w g t cs)(n:Nat):Blk (w.drewN n) g t cs:=h
theorem Blk.alloc(h:Blk w g t cs)(o:Obj):Blk (w.alloc o) g t cs:=(Below.heap_alloc w o g h.lt).trans h
theorem Blk.set_(h:Blk w g t cs)(i:Nat)(u:Value):Blk (w.setCell ⟨g,i,none⟩ u) g t (cs.setIfInBounds i u):=by unfold Blk at h⊢;simp [World.setCell,Array.getElem?_modify,h]
theorem Blk.far(h:Blk w g t cs){p:Addr}(i:g≠p.block)(u:Value):Blk (w.setCell p u) g t cs:=(Below.heap_setCell w p u g i).trans h
theorem Blk.fr{S:Nat→Prop}(h:Blk w g t cs)(i:Fr S w w')(j:¬S g):Blk w' g t cs:=(i.block g h.lt j).trans h
theorem Blk.pu(h:Blk w g t cs)(i:Pu w w'):Blk w' g t cs:=h.fr i (fun x=>x)
theorem Blk.ne_{p:Nat}{t':TypeId}{j:Array Value}(h:Blk w g t cs)(i:Blk w p t' j)(v:t≠t'):g≠p:=by rintro rfl;unfold Blk at h i;rw [h]at i;injection i with i;injection i with _ ht;exact v ht
end
theorem Blk.c2_{w:World}{g:Nat}{t:TypeId}{cs:Array Value}(h:Blk w g t cs):w.cell? ⟨g,0,none⟩=cs[0]?∧w.cell? ⟨g,1,none⟩=cs[1]?:=⟨h.cell 0,h.cell 1⟩
theorem Blk.c3_{w:World}{g:Nat}{t:TypeId}{cs:Array Value}(h:Blk w g t cs):w.cell? ⟨g,0,none⟩=cs[0]?∧w.cell? ⟨g,1,none⟩=cs[1]?∧w.cell? ⟨g,2,none⟩=cs[2]?:=⟨h.cell 0,h.cell 1,h.cell 2⟩
theorem Blk.c4_{w:World}{g:Nat}{t:TypeId}{cs:Array Value}(h:Blk w g t cs):w.cell? ⟨g,0,none⟩=cs[0]?∧w.cell? ⟨g,1,none⟩=cs[1]?∧w.cell? ⟨g,2,none⟩=cs[2]?∧w.cell? ⟨g,3,none⟩=cs[3]?:=⟨h.cell 0,h.cell 1,h.cell 2,h.cell 3⟩
theorem Blk.c5_{w:World}{g:Nat}{t:TypeId}{cs:Array Value}(h:Blk w g t cs):w.cell? ⟨g,0,none⟩=cs[0]?∧w.cell? ⟨g,1,none⟩=cs[1]?∧w.cell? ⟨g,2,none⟩=cs[2]?∧w.cell? ⟨g,3,none⟩=cs[3]?∧w.cell? ⟨g,4,none⟩=cs[4]?:=⟨h.cell 0,h.cell 1,h.cell 2,h.cell 3,h.cell 4⟩
theorem Blk.z2_{w:World}{g:Nat}{t:TypeId}{cs:Array Value}(h:Blk w g t cs):w.frozen? ⟨g,0,none⟩=false∧w.frozen? ⟨g,1,none⟩=false:=⟨h.frozen 0,h.frozen 1⟩
theorem Blk.z3_{w:World}{g:Nat}{t:TypeId}{cs:Array Value}(h:Blk w g t cs):w.frozen? ⟨g,0,none⟩=false∧w.frozen? ⟨g,1,none⟩=false∧w.frozen? ⟨g,2,none⟩=false:=⟨h.frozen 0,h.frozen 1,h.frozen 2⟩
theorem Blk.z4_{w:World}{g:Nat}{t:TypeId}{cs:Array Value}(h:Blk w g t cs):w.frozen? ⟨g,0,none⟩=false∧w.frozen? ⟨g,1,none⟩=false∧w.frozen? ⟨g,2,none⟩=false∧w.frozen? ⟨g,3,none⟩=false:=⟨h.frozen 0,h.frozen 1,h.frozen 2,h.frozen 3⟩
theorem Blk.z5_{w:World}{g:Nat}{t:TypeId}{cs:Array Value}(h:Blk w g t cs):w.frozen? ⟨g,0,none⟩=false∧w.frozen? ⟨g,1,none⟩=false∧w.frozen? ⟨g,2,none⟩=false∧w.frozen? ⟨g,3,none⟩=false∧w.frozen? ⟨g,4,none⟩=false:=⟨h.frozen 0,h.frozen 1,h.frozen 2,h.frozen 3,h.frozen 4⟩
theorem Qh{p:Prop}(h:p):Hid p:=Lib.hid h
theorem AI{a b:Prop}(x:a)(y:b):a∧b:=⟨x,y⟩
def Sl(w:World)(k:Nat)(A:Option Addr)(n c:Nat)(xs:List Value):Prop:=xs.length=n*k∧n≤c∧(0<n→∃b off,A=some ⟨b,off,none⟩∧b<w.heap.size∧∀j u,xs[j]?=some u→w.cell? ⟨b,off+j,none⟩=some u)
section
variable{w w':World}{k n c:Nat}{A:Option Addr}{xs:List Value}
theorem Sl.nil(w:World)(k:Nat)(A:Option Addr)(c:Nat):Sl w k A 0 c []:=⟨by simp,Nat.zero_le _,fun h=>absurd h (Nat.lt_irrefl 0)⟩
theorem Sl.fr{S:Nat→Prop}(h:Sl w k A n c xs)(p:Fr S w w')(z:0<n→∀b off,A=some ⟨b,off,none⟩→¬S b):Sl w' k A n c xs:=⟨h.1,h.2.1,fun v=>by obtain⟨b,off,e,i,x⟩:=h.2.2 v;exact⟨b,off,e,Nat.lt_of_lt_of_le i p.size,fun j u y=>p.cellv (x j u y) (z v b off e)⟩⟩
theorem Sl.pu(h:Sl w k A n c xs)(i:Pu w w'):Sl w' k A n c xs:=h.fr i (fun _ _ _ _ x=>x)
theorem Sl.at_(h:Sl w 1 A n c xs){j:Nat}(x:j<n):∃b off u,A=some ⟨b,off,none⟩∧b<w.heap.size∧xs[j]?=some u∧w.cell? ⟨b,off+j,none⟩=some u:=by
 obtain⟨b,off,e,p,v⟩:=h.2.2 (by omega);have i:j<xs.length:=by have:=h.1;omega
 exact⟨b,off,xs[j],e,p,List.getElem?_eq_getElem i,v j _ (List.getElem?_eq_getElem i)⟩
theorem Sl.of_own{base:Nat}{e:TypeId}(h:w.ownsRow base e k (.slice A n c) n xs):Sl w k A n c xs:=by
 refine⟨h.1,?_,fun z=>?_⟩
 ·rcases h.2 with⟨i,p⟩|⟨g,x,D,i,_,_,C,_⟩
  ·omega
  ·injection i with _ _ hc;omega
 ·obtain⟨g,x,i,_,v⟩:=h.form z;have B:A=some ⟨g,0,none⟩:=by injection i
  subst B;refine⟨g,0,rfl,v,fun j u y=>?_⟩;have:=h.cells (g:=g) rfl j u y;rw [Nat.zero_add];unfold Addr.add at this;split at this
  ·rename_i p;subst p;exact this
  ·simpa using this
end
theorem Sl.ne_blk{w:World}{k n c g:Nat}{t:TypeId}{A:Option Addr}{xs:List Value}{cs:Array Value}(h:Sl w k A n c xs)(D:0<k)(E:Blk w g t cs)(y:∀u∈xs,u∉cs.toList):0<n→∀b off,A=some ⟨b,off,none⟩→b≠g:=by
 intro v b off B e;obtain⟨b',C,j,F,z⟩:=h.2.2 v;rw [B]at j;injection j with j;injection j with e1 e2;subst e1 e2 e;have x:0<xs.length:=by rw [h.1];exact Nat.mul_pos v D
 have p:=z 0 _ (List.getElem?_eq_getElem x);rw [E.cell]at p;refine y _ (List.getElem_mem x) ?_;have:=List.mem_of_getElem? (l:=cs.toList) (i:=off+0) (a:=xs[0]) (by simpa using p);exact this
theorem Sl.new(w:World)(t:TypeId)(cs:Array Value)(k n c:Nat)(h:cs.size=n*k)(i:n≤c):Sl (w.alloc (.cells cs t)) k (some ⟨w.heap.size,0,none⟩) n c cs.toList:=⟨by simpa using h,i,fun _=>⟨_,0,rfl,by simp,fun j u hu=>by rw [Nat.zero_add,World.cell?_alloc_new];simpa using hu⟩⟩
theorem Sl.of_blk{w:World}{g:Nat}{t:TypeId}{cs:Array Value}(i:Blk w g t cs)(k n c:Nat)(h:cs.size=n*k)(p:n≤c):Sl w k (some ⟨g,0,none⟩) n c cs.toList:=⟨by simpa using h,p,fun _=>⟨_,0,rfl,i.lt,fun j u hu=>by rw [Nat.zero_add,i.cell];simpa using hu⟩⟩
theorem Fr.one(w:World)(b i:Nat)(u:Value):Fr (fun k=>k=b) w (w.setCell ⟨b,i,none⟩ u):=Fr.setCell (S:=fun k=>k=b) (p:=⟨b,i,none⟩) (Fr.refl _ _) (.inl rfl) _
theorem ziV{w:World}{base k n c:Nat}{e:TypeId}{A:Option Addr}{xs:List Value}(h:w.ownsRow base e k (.slice A n c) n xs):∀b off,A=some ⟨b,off,none⟩→base≤b:=by intro b off i;subst i;exact(h.lt b rfl).1
theorem zci{w:World}{base k n c:Nat}{e:TypeId}{A:Option Addr}{xs:List Value}(h:w.ownsRow base e k (.slice A n c) n xs):n≤c∧c≤maxLen:=by
 rcases h.2 with⟨i,y⟩|⟨g,x,v,i,_,_,j,p,_⟩
 ·injection i with _ _ hc;subst hc;exact⟨by omega,Nat.zero_le _⟩
 ·injection i with _ _ hc;subst hc;exact⟨j,p⟩
theorem zbp{S:Nat→Prop}{w w':World}{base k n:Nat}{e:TypeId}{v:Value}{xs:List Value}(h:w.ownsRow base e k v n xs)(x:Fr S w w')(y:∀g,v.ownBlock=some g→¬S g):w'.ownsRow base e k v n xs:=by
 refine⟨h.1,?_⟩;rcases h.2 with hn|⟨g,p,j,rfl,z,i,rest⟩
 ·exact .inl hn
 ·refine .inr ⟨g,p,j,rfl,z,?_,rest⟩;rw [x.block g (Array.getElem?_eq_some_iff.1 i).1 (y g rfl)];exact i
theorem zaw{w w':World}{base k n:Nat}{e:TypeId}{v:Value}{xs:List Value}(h:w.ownsRow base e k v n xs)(i:Pu w w'):w'.ownsRow base e k v n xs:=zbp h i (fun _ _ x=>x)
theorem zbK{w:World}{base base' k n:Nat}{e:TypeId}{v:Value}{xs:List Value}(h:w.ownsRow base e k v n xs)(x:base'≤base):w.ownsRow base' e k v n xs:=by
 refine⟨h.1,?_⟩;rcases h.2 with hn|⟨g,j,i,rfl,p,rest⟩
 ·exact .inl hn
 ·exact .inr ⟨g,j,i,rfl,Nat.le_trans x p,rest⟩
structure zcE(P:Program)(t e:TypeId)(z:Value)(size bytes:Nat):Prop where
 under:P.underlying t=some (.slice e)
 info:(P.info? e).map (fun i=>(i.zero,i.size,i.bytes))=some (some z,size,bytes)
 zs:z.cells.size=size
 pos:0<size
theorem ze7{w:World}{base k n:Nat}{e:TypeId}{v:Value}{xs:List Value}(h:w.ownsRow base e k v n xs):∃A c,v= .slice A n c:=by
 rcases h.2 with⟨rfl,rfl⟩|⟨g,i,j,rfl,_⟩
 ·exact⟨none,0,rfl⟩
 ·exact⟨_,i,rfl⟩
theorem zdM(b j:Nat):(⟨b,0,none⟩:Addr).add j=⟨b,j,none⟩:=by
 unfold Addr.add;split
 ·rename_i h;rw [h]
 ·simp
section
variable{P:Program}{w:World}{ops:Array Oper}{rest:List Oper}{o:Oper}{a:Act}{Q:Exit→Act→World→Prop}
theorem zS{t e:TypeId}{z:Value}{p v:Nat}(E:zcE P t e z p v)(N:o.guard=none)(s x:Operand) (S:o.op= .call {callee:= .builtin .append,args:=#[s,x],argTypes:=#[t,t]}) {base n c:Nat} {A:Option Addr} {xs:List Value} (C:Array Value) (J:C.size=p) (T:∀u∈C.toList,u.oneCell'=true) (U:a.eval s= .slice A n c) (R:a.eval x= .slice (some ⟨w.heap.size,0,none⟩) 1 1) (H:w.ownsRow base e p (.slice A n c) n xs) (I:n+1≤maxLen) (B:(n+1)*v≤140737488355328) (O:base≤w.heap.size) (h:∀D F w',w'.ownsRow base e p (.slice D (n+1) F) (n+1) (xs++C.toList)→w.grownBy w' (Value.slice A n c).ownBlock→wpList P ops Q rest (a.put o.dst (.slice D (n+1) F)) w'):wpList P ops Q (o::rest) a (w.alloc (.cells C e)):=by
 obtain⟨i,W,Y,K,M⟩:=info_parts E.info;refine wpList_append_own _ N s x t S base e i z p v E.under W Y K M E.zs E.pos _ _ _ U (H.alloc _) ⟨w.heap.size,0,none⟩ 1 1 C.toList R (by simp [J]) (fun j u X=>?_) T I B (by simp;omega) ?_
 ·rw [zdM,World.cell?_alloc_new];simpa using X
 ·intro Z w' G y _;obtain⟨D,F,rfl⟩:=ze7 G;refine h D F w' G ⟨y.os,y.tape,y.output,Nat.le_trans (by simp) y.size,fun k V L=>(y.block k (by simp;omega) L).trans (Below.heap_alloc w _ k V)⟩
theorem zfd{t e:TypeId}{z:Value}{p v:Nat}(E:zcE P t e z p v){K:Act→World→Prop}{S:Prop}(O:o.guard=none)(s x:Operand) (U:o.op= .call {callee:= .builtin .append,args:=#[s,x],argTypes:=#[t,t]}) {base n c:Nat} {A:Option Addr} {xs:List Value} (C:Array Value) (J:C.size=p) (W:∀u∈C.toList,u.oneCell'=true) (X:a.eval s= .slice A n c) (T:a.eval x= .slice (some ⟨w.heap.size,0,none⟩) 1 1) (H:w.ownsRow base e p (.slice A n c) n xs) (I:n+1≤maxLen) (B:(n+1)*v≤140737488355328) (R:base≤w.heap.size) (h:∀D F w',w'.ownsRow base e p (.slice D (n+1) F) (n+1) (xs++C.toList)→w.grownBy w' (Value.slice A n c).ownBlock→K (a.put o.dst (.slice D (n+1) F)) w'):if Region.wanted o (yielded ops a.tmps)=true then Oper.wp P o a (w.alloc (.cells C e)) K Q else S:=by
 obtain⟨i,Z,hz,L,N⟩:=info_parts E.info;have V:Region.wanted o (yielded ops a.tmps)=true:=by simp [Region.wanted,O]
 rw [if_pos V];refine wp_append_own _ s x t U base e i z p v E.under Z hz L N E.zs E.pos _ _ _ X (H.alloc _) ⟨w.heap.size,0,none⟩ 1 1 C.toList T (by simp [J]) (fun j u hu=>?_) W I B (by simp;omega) ?_
 ·rw [zdM,World.cell?_alloc_new];simpa using hu
 ·intro v' w' G y _;obtain⟨D,F,rfl⟩:=ze7 G;refine h D F w' G ⟨y.os,y.tape,y.output,Nat.le_trans (by simp) y.size,fun k Y M=>(y.block k (by simp;omega) M).trans (Below.heap_alloc w _ k Y)⟩
end
section
variable{P:Program}{w:World}{ops:Array Oper}{rest:List Oper}{o:Oper}{a:Act}{Q:Exit→Act→World→Prop}
theorem zgv{t ty e:TypeId}{z:Value}{j p:Nat}(E:zcE P t e z j p){base n c C:Nat}{A:Option Addr}{xs:List Value} (x:w.ownsRow base e j (.slice A n c) n xs):(Builtin.append_ #[t,t] ty #[.slice A n c,.slice none 0 C]).run P w= .ok (.slice A n c) w:=by
 obtain⟨i,y,I,D,G⟩:=info_parts E.info;rcases x.2 with⟨v,_⟩|⟨g,H,F,v,_,_,B,_⟩
 ·rw [v];simp [Builtin.append_,run_underlying E.under,sizeOf,typeInfo,y,Builtin.lenOf,Builtin.firstCells]
 ·rw [v];simp [Builtin.append_,run_underlying E.under,sizeOf,typeInfo,y,Builtin.lenOf,Builtin.firstCells,B,storeCells]
theorem zqE{t ty e:TypeId}{z:Value}{p v:Nat}(E:zcE P t e z p v){base n c m J:Nat}{A B:Option Addr}{xs H:List Value} (x:w.ownsRow base e p (.slice A n c) n xs) (O:Sl w p B m J H) (V:∀u∈H,u.oneCell'=true) (K:n+m≤maxLen) (y:(n+m)*v≤140737488355328) (D:base≤w.heap.size):∃F G w',(Builtin.append_ #[t,t] ty #[.slice A n c,.slice B m J]).run P w= .ok (.slice F (n+m) G) w'∧w'.ownsRow base e p (.slice F (n+m) G) (n+m) (xs++H)∧w.grownBy w' (Value.slice A n c).ownBlock:=by
 obtain⟨i,R,S,L,M⟩:=info_parts E.info;rcases Nat.eq_zero_or_pos m with h0|h0
 ·subst h0;obtain rfl:H= []:=List.eq_nil_of_length_eq_zero (by simpa using O.1);rcases B with _|b
  ·exact⟨A,c,w,zgv E x,by simpa using x,World.grownBy.refl w _⟩
  ·obtain⟨T,w',C,I,N,_⟩:=run_append_own (P:=P) w base t ty e i z p v E.under R S L M E.zs E.pos _ n xs x b 0 J [] (by simp) (by simp) (by simp) K y D;obtain⟨F,G,rfl⟩:=ze7 I;exact⟨F,G,w',C,I,N⟩
 ·obtain⟨b,off,rfl,_,U⟩:=O.2.2 h0;obtain⟨T,w',C,I,N,_⟩:=run_append_own (P:=P) w base t ty e i z p v E.under R S L M E.zs E.pos _ n xs x ⟨b,off,none⟩ m J H O.1 (fun j u W=>by
   have:=U j u W;unfold Addr.add;split
   ·rename_i X;subst X;exact this
   ·exact this) V K y D
  obtain⟨F,G,rfl⟩:=ze7 I;exact⟨F,G,w',C,I,N⟩
theorem zaY{t e:TypeId}{z:Value}{i j:Nat}(E:zcE P t e z i j)(J:o.guard=none)(s x:Operand) (M:o.op= .call {callee:= .builtin .append,args:=#[s,x],argTypes:=#[t,t]}) {base n c m I:Nat} {A B:Option Addr} {xs F:List Value} (O:a.eval s= .slice A n c) (L:a.eval x= .slice B m I) (D:w.ownsRow base e i (.slice A n c) n xs) (U:Sl w i B m I F) (N:∀u∈F,u.oneCell'=true) (H:n+m≤maxLen) (p:(n+m)*j≤140737488355328) (v:base≤w.heap.size) (h:∀y C w',w'.ownsRow base e i (.slice y (n+m) C) (n+m) (xs++F)→w.grownBy w' (Value.slice A n c).ownBlock→wpList P ops Q rest (a.put o.dst (.slice y (n+m) C)) w'):wpList P ops Q (o::rest) a w:=by refine wpList_plain J fun K S=>?_;obtain⟨y,C,w',G,T,R⟩:=zqE (ty:=o.type) E D U N H p v;unfold Oper.wp execOp;simp only [M,resolve,invoke,builtin,Sem.run_bind,Sem.run_pure,Result.andThen_ok,List.map_toArray,List.map_cons,List.map_nil,O,L,G];exact S _ _ (h y C w' T R)
end
theorem zam{a w w':World}{base k n c:Nat}{e:TypeId}{A:Option Addr}{xs:List Value}(h:Pu a w)(i:w.ownsRow base e k (.slice A n c) n xs)(x:a.heap.size≤base)(p:w.grownBy w' (Value.slice A n c).ownBlock):Pu a w':=h.grown p (fun j v=>Nat.le_trans x (i.lt j v).1)
theorem zpv{w w':World}{base k n c g:Nat}{e t:TypeId}{A:Option Addr}{xs:List Value}{cs:Array Value}(h:Blk w g t cs)(i:w.ownsRow base e k (.slice A n c) n xs)(p:g<base)(j:w.grownBy w' (Value.slice A n c).ownBlock):Blk w' g t cs:=(j.block g h.lt (fun e=>by have:=(i.lt g e.symm).1;omega)).trans h
end
section
open Go.RowKit
def zgl(l:List Value)(o:Nat)(cs:List Value):List Value:=l.take o++cs++l.drop (o+cs.length)
theorem zaO(l:List Value)(o:Nat)(cs:List Value)(h:o+cs.length≤l.length):(zgl l o cs).length=l.length:=by simp [zgl];omega
theorem zaM(l:List Value)(o:Nat)(cs:List Value)(h:o+cs.length≤l.length)(j:Nat):(zgl l o cs)[j]?=if o≤j∧j<o+cs.length then cs[j - o]? else l[j]?:=by
 unfold zgl;by_cases i:j<o
 ·rw [List.getElem?_append_left (by simp;omega),List.getElem?_append_left (by simp;omega),List.getElem?_take,if_pos i,if_neg (by omega)]
 ·by_cases p:j<o+cs.length
  ·rw [List.getElem?_append_left (by simp;omega),List.getElem?_append_right (by simp;omega),if_pos (by omega)];simp
   congr 1
   omega
  ·rw [List.getElem?_append_right (by simp;omega),if_neg (by omega),List.getElem?_drop];simp
   congr 1
   omega
theorem zaj{w:World}{g:Nat}{t:TypeId}{i:Array Value}(h:Blk w g t i)(j:Array Value):Blk (w.setRow g j) g t j:=setRow_heap w g i j t (0,0) h
theorem zU(w:World)(g:Nat)(i:Array Value):Fr (fun k=>k=g) w (w.setRow g i):=by refine⟨rfl,rfl,rfl,by simp [World.setRow],fun k _ j=>?_⟩;simp only [World.setRow,Array.getElem?_modify];rw [if_neg (fun e=>j e.symm)]
section
variable{P:Program}{w:World}{ops:Array Oper}{rest:List Oper}{o:Oper}{a:Act}{Q:Exit→Act→World→Prop}
theorem zZ(w:World)(G J ty p:TypeId)(k g off x C:Nat)(s:Addr)(y D:Nat)(z:Array Value)(t:TypeId)(cs:List Value) (O:P.underlying G=some (.slice p)) (H:(P.info? p).map (·.size)=some k) (I:Blk w g t z) (K:cs.length=Nat.min y x*k) (E:∀j v,cs[j]?=some v→w.cell? (s.add j)=some v) (F:off+cs.length≤z.size) (L:∀v∈cs,v.oneCell'=true):
  (Builtin.copy_ #[G,J] ty #[.slice (some ⟨g,off,none⟩) x C,.slice (some s) y D]).run P w=
   .ok (goInt (Nat.min y x)) (w.setRow g (zgl z.toList off cs).toArray):=by
 have M:=run_loadCells_list (P:=P) w s cs E;have B:=run_storeCells_at P g off t cs 0 z w I (by simpa using F) L
 cases hq:P.info? p with
 |none=>simp [hq]at H
 |some i=>
  have N:i.size=k:=by simpa [hq]using H
  simp only [Nat.add_zero]at B;simp [Builtin.copy_,run_underlying O,Builtin.lenOf,Builtin.firstCells,sizeOf,typeInfo,hq,N,←K,M,B,zgl]
theorem zpz{z:Value}(x:∀u∈z.cells.toList,u.oneCell'=true)(n:Nat):∀u∈(Builtin.zeroCells z.cells n).toList,u.oneCell'=true:=by
 intro u p;simp only [Builtin.zeroCells,Array.toList_map,List.mem_map]at p;obtain⟨i,j,rfl⟩:=p;simp at j;have v:0<z.cells.size:=by
  rcases Nat.eq_zero_or_pos z.cells.size with h|h
  ·rw [h]at j;omega
  ·exact h
 rw [getElem!_pos z.cells _ (Nat.mod_lt _ v)];exact x _ (by simp)
theorem zhW(w:World)(t e ty:TypeId)(z:Value)(k:Nat)(B:P.underlying t=some (.slice e))(C:∀w,(zeroValue e).run P w= .ok z w)(E:z.cells.size=k)(D:∀u∈z.cells.toList,u.oneCell'=true) (g off n c:Nat) (F:0<n) (i:Array Value) (x:TypeId) (y:Blk w g x i) (v:off+n*k≤i.size):(Builtin.clear_ #[t] ty #[.slice (some ⟨g,off,none⟩) n c]).run P w= .ok (.tuple #[]) (w.setRow g (zgl i.toList off (Builtin.zeroCells z.cells n).toList).toArray):=by
 have p:(Builtin.zeroCells z.cells n).toList.length=n*k:=by simp [Builtin.zeroCells,E,Nat.mul_comm]
 have j:=run_storeCells_at P g off x (Builtin.zeroCells z.cells n).toList 0 i w y (by rw [p];simpa using v) (zpz D n);obtain⟨m,rfl⟩:∃m,n=m+1:=⟨n - 1,by omega⟩
 simp only [Nat.add_zero]at j;simp [Builtin.clear_,run_underlying B,C,j,zgl]
end
section
variable{P:Program}{w:World}{ops:Array Oper}{rest:List Oper}{o:Oper}{a:Act}{Q:Exit→Act→World→Prop}
theorem zkk{j:Builtin}{S:Array TypeId→TypeId→Array Value→Sem Value}(x:∀i ty cs args,builtin j i ty cs args=(S i ty args >>= fun v=>pure (.value v))){i:Array TypeId}{ty:TypeId}(cs:Array Bool){args:Array Value}{p:Value}{w':World} (y:(S i ty args).run P w= .ok p w'):(builtin j i ty cs args).run P w= .ok (.value p) w':=by rw [x];simp [y]
theorem zkc{p:Builtin}{S:Array TypeId→TypeId→Array Value→Sem Value}(C:∀i ty cs args,builtin p i ty cs args=(S i ty args >>= fun v=>pure (.value v))){K:Act→World→Prop}(d s:Operand)(i:Array TypeId) (y:o.op= .call {callee:= .builtin p,args:=#[d,s],argTypes:=i}) (v u:Value) (B:a.eval d=v) (z:a.eval s=u) {j:Value} {w':World} (D:(S i o.type #[v,u]).run P w= .ok j w') (h:K (a.put o.dst j) w'):o.wp P a w K Q:=by have x:=fun cs=>zkk C cs D;unfold Oper.wp execOp;simp only [y,resolve,invoke,Sem.run_bind,Sem.run_pure,Result.andThen_ok,List.map_toArray,List.map_cons,List.map_nil,B,z,x];exact h
theorem zaI{p:Builtin}{S:Array TypeId→TypeId→Array Value→Sem Value}(F:∀i ty cs args,builtin p i ty cs args=(S i ty args >>= fun v=>pure (.value v))){K:Act→World→Prop}{E:Prop}(x:o.guard=none)(d s:Operand)(i:Array TypeId) (y:o.op= .call {callee:= .builtin p,args:=#[d,s],argTypes:=i}) (v u:Value) (C:a.eval d=v) (B:a.eval s=u) {j:Value} {w':World} (G:(S i o.type #[v,u]).run P w= .ok j w') (D:K (a.put o.dst j) w'):if Region.wanted o (yielded ops a.tmps)=true then Oper.wp P o a w K Q else E:=by
 have z:Region.wanted o (yielded ops a.tmps)=true:=by simp [Region.wanted,x]
 rw [if_pos z];exact zkc F d s i y v u C B G D
theorem zax{t e:TypeId}{z:Value}{i j:Nat}(E:zcE P t e z i j)(H:o.guard=none)(s x:Operand) (J:o.op= .call {callee:= .builtin .append,args:=#[s,x],argTypes:=#[t,t]}) {base n c q:Nat} {A:Option Addr} {xs:List Value} (v:Array Value) (D:v.size=i) (L:∀u∈v.toList,u.oneCell'=true) (M:a.eval s= .slice A n c) (I:a.eval x= .slice (some ⟨q,0,none⟩) 1 1) (K:w.heap.size=q) (B:w.ownsRow base e i (.slice A n c) n xs) (C:n+1≤maxLen) (p:(n+1)*j≤140737488355328) (y:base≤w.heap.size) (h:∀F G w',w'.ownsRow base e i (.slice F (n+1) G) (n+1) (xs++v.toList)→w.grownBy w' (Value.slice A n c).ownBlock→wpList P ops Q rest (a.put o.dst (.slice F (n+1) G)) w'):wpList P ops Q (o::rest) a (w.alloc (.cells v e)):=zS E H s x J v D L M (by rw [K];exact I) B C p y h
end
section
variable{P:Program}{w:World}{ops:Array Oper}{rest:List Oper}{o:Oper}{a:Act}{Q:Exit→Act→World→Prop}
end
theorem zaU{w:World}{base k n c:Nat}{e:TypeId}{A:Option Addr}{xs:List Value}(h:w.ownsRow base e k (.slice A n c) n xs)(E:0<n):∃g i,A=some ⟨g,0,none⟩∧base≤g∧Blk w g e i∧n≤c∧c≤maxLen∧i.size=c*k∧i.toList.take (n*k)=xs:=by
 rcases h.2 with⟨_,D⟩|⟨g,C,i,j,B,v,x,z,y,p⟩
 ·omega
 ·injection j with e1 _ e3;subst e1 e3;exact⟨g,i,rfl,B,v,x,z,y,p⟩
theorem zaD{w:World}{base k n c g:Nat}{e:TypeId}{xs:List Value}{i:Array Value}(z:base≤g)(x:Blk w g e i)(C:n≤c)(v:c≤maxLen)(y:i.size=c*k)(B:xs.length=n*k) (h:∀j,j<n*k→i[j]?=xs[j]?):w.ownsRow base e k (.slice (some ⟨g,0,none⟩) n c) n xs:=by
 refine⟨B,.inr ⟨g,c,i,rfl,z,x,C,v,y,?_⟩⟩;apply List.ext_getElem?;intro j;rw [List.getElem?_take];split
 ·rename_i p;rw [←h j p];simp
 ·rename_i p;rw [List.getElem?_eq_none (by omega)]
theorem Blk.shape{w:World}{g:Nat}{t:TypeId}{cs:Array Value}(h:Blk w g t cs):w.shape? g=some (t,cs.size):=by unfold Blk at h;simp [World.shape?,h]
section
variable{P:Program}{w:World}{ops:Array Oper}{rest:List Oper}{o:Oper}{a:Act}{Q:Exit→Act→World→Prop}
theorem zeJ{t e:TypeId}{z:Value}{p v:Nat}(E:zcE P t e z p v)(N:o.guard=none)(s x:Operand) (T:o.op= .call {callee:= .builtin .append,args:=#[s,x],argTypes:=#[t,t]}) {base n c m G:Nat} {A B:Option Addr} {xs C:List Value} (W:a.eval s= .slice A n c) (S:a.eval x= .slice B m G) (F:w.ownsRow base e p (.slice A n c) n xs) (O:Sl w p B m G C) (V:∀u∈C,u.oneCell'=true) (L:0<m) (H:n+m≤maxLen) (y:(n+m)*v≤140737488355328) (D:base≤w.heap.size) (h:∀g J w',w'.ownsRow base e p (.slice (some ⟨g,0,none⟩) (n+m) J) (n+m) (xs++C)→w.grownBy w' (Value.slice A n c).ownBlock→((Value.slice A n c).ownBlock=some g∨g=w.heap.size)→wpList P ops Q rest (a.put o.dst (.slice (some ⟨g,0,none⟩) (n+m) J)) w'):wpList P ops Q (o::rest) a w:=by
 obtain⟨i,Y,hz,K,M⟩:=info_parts E.info;obtain⟨b,off,rfl,_,U⟩:=O.2.2 L;refine wpList_append_lies _ N s x t T base e i z p v E.under Y hz K M E.zs E.pos _ n xs W F ⟨b,off,none⟩ m G C S O.1 (fun j u Z=>?_) V L H y D w.heap.size rfl ?_
 ·have:=U j u Z;unfold Addr.add;split
  ·rename_i e0;subst e0;exact this
  ·exact this
 ·intro g I w' h2 X R _;exact h g I w' h2 X R
end
end
section
open Go.RowKit
abbrev Key:=List UInt8
theorem zij(x y:Key):x<y∨x=y∨y<x:=by
 rcases Decidable.em (x<y)with h|h
 ·exact .inl h
 ·rcases Decidable.em (x=y)with e|e
  ·exact .inr (.inl e)
  ·exact .inr (.inr (Std.lt_of_le_of_ne (List.not_lt.1 h) (fun i=>e i.symm)))
theorem zev(x:Key):¬x<x:=List.lt_irrefl x
theorem zdC{x y z:Key}(i:x<y)(j:y<z):x<z:=List.lt_trans i j
section
variable{P:Type}
def kps(vc:P→List Value)(l:List (Key×P)):List Value:=l.flatMap fun q=>Value.string ⟨q.1.toArray⟩::vc q.2
variable{vc:P→List Value}{s:Nat}
theorem zc8(q:Key×P)(l:List (Key×P)):kps vc (q::l)=(Value.string ⟨q.1.toArray⟩::vc q.2)++kps vc l:=rfl
theorem zbC(l i:List (Key×P)):kps vc (l++i)=kps vc l++kps vc i:=by simp [kps]
theorem zc9(i:∀p,(vc p).length=s):∀(l:List (Key×P)),(kps vc l).length=l.length*(s+1)
 | []=>by simp [kps]
 |q::l=>by have h:=zc9 i l;rw [zc8,List.length_append,h,List.length_cons,i,List.length_cons,Nat.succ_mul];omega
theorem zd7(j:∀p,(vc p).length=s):∀(l:List (Key×P)) (i:Nat),kps vc (l.take i)=(kps vc l).take (i*(s+1))
 | [],i=>by simp [kps]
 |q::l,0=>by simp [kps]
 |q::l,i+1=>by
  have h:=zd7 j l i;rw [List.take_succ_cons,zc8,zc8,h,Nat.succ_mul];have v:(Value.string ⟨q.1.toArray⟩::vc q.2).length=s+1:=by rw [List.length_cons,j]
  rw [Nat.add_comm (i*(s+1)),←v,List.take_length_add_append]
theorem zd9(j:∀p,(vc p).length=s):∀(l:List (Key×P)) (i:Nat),kps vc (l.drop i)=(kps vc l).drop (i*(s+1))
 | [],i=>by simp [kps]
 |q::l,0=>by simp [kps]
 |q::l,i+1=>by
  have h:=zd9 j l i;rw [List.drop_succ_cons,zc8,h,Nat.succ_mul];have v:(Value.string ⟨q.1.toArray⟩::vc q.2).length=s+1:=by rw [List.length_cons,j]
  rw [Nat.add_comm (i*(s+1)),←v,List.drop_length_add_append]
theorem zet(i:∀p,(vc p).length=s){l:List (Key×P)}{j:Nat}{q:Key×P}(h:l[j]?=some q):∀t,t<s+1→(kps vc l)[j*(s+1)+t]?=(Value.string ⟨q.1.toArray⟩::vc q.2)[t]?:=by
 intro t x;have e:l=l.take j++q::l.drop (j+1):=by obtain⟨z,rfl⟩:=List.getElem?_eq_some_iff.1 h;simp
 have z:=(List.getElem?_eq_some_iff.1 h).1;have y:(kps vc (l.take j)).length=j*(s+1):=by rw [zc9 i,List.length_take,Nat.min_eq_left (by omega)]
 have v:kps vc l=kps vc (l.take j++q::l.drop (j+1)):=congrArg (kps vc) e;rw [zbC,zc8]at v;rw [v,List.getElem?_append_right (by omega),y,Nat.add_sub_cancel_left,List.getElem?_append_left (by rw [List.length_cons,i];exact x)]
theorem zgY(j:∀p,∀u∈vc p,u.oneCell'=true)(l:List (Key×P)):∀u∈kps vc l,u.oneCell'=true:=by
 intro u i;simp only [kps,List.mem_flatMap]at i;obtain⟨q,_,i⟩:=i;rcases List.mem_cons.1 i with rfl|i
 ·rfl
 ·exact j _ u i
theorem Sl.klen{w:World}{A:Option Addr}{n c:Nat}{l:List (Key×P)}(j:∀p,(vc p).length=s)(h:Sl w (s+1) A n c (kps vc l)):l.length=n:=by have i:=h.1;rw [zc9 j]at i;exact Nat.eq_of_mul_eq_mul_right (Nat.succ_pos s) i
theorem zmV{w:World}{A:Option Addr}{n c:Nat}{l:List (Key×P)}(i:∀p,(vc p).length=s)(h:Sl w (s+1) A n c (kps vc l)){j:Nat}{q:Key×P}(v:l[j]?=some q):∃b off,A=some ⟨b,off,none⟩∧b<w.heap.size∧w.cell? ⟨b,off+j*(s+1),none⟩=some (.string ⟨q.1.toArray⟩)∧∀t u,(vc q.2)[t]?=some u→w.cell? ⟨b,off+j*(s+1)+1+t,none⟩=some u:=by
 have F:=h.klen i;have E:=(List.getElem?_eq_some_iff.1 v).1;obtain⟨b,off,rfl,D,x⟩:=h.2.2 (by omega);refine⟨b,off,rfl,D,?_,fun t u y=>?_⟩
 ·have:=zet i v 0 (by omega);exact x _ _ this
 ·have B:=(List.getElem?_eq_some_iff.1 y).1;rw [i]at B;have z:=zet i v (1+t) (by omega);have C:(Value.string ⟨q.1.toArray⟩::vc q.2)[1+t]?=some u:=by rw [Nat.add_comm 1 t];exact y
  rw [C]at z;have:=x _ _ z;rwa [←Nat.add_assoc,←Nat.add_assoc]at this
def zx(l:List (Key×P)):Prop:=l.Pairwise fun p q=>p.1<q.1
def place(l:List (Key×P))(k:Key):Nat:=l.countP fun p=>decide (p.1<k)
def there(l:List (Key×P))(k:Key):Bool:=l.any fun p=>decide (p.1=k)
theorem zbb(l:List (Key×P))(k:Key):place l k≤l.length:=List.countP_le_length
theorem zbj(k:Key):∀(l:List (Key×P)),zx l→∀j p,l[j]?=some p→(j<place l k↔p.1<k)
 | [],_,j,p,h=>by simp at h
 |q::l,hr,j,p,h=>by
  have y:zx l:=(List.pairwise_cons.1 hr).2;have v:=(List.pairwise_cons.1 hr).1;have E:=zbj k l y;unfold place at*
  by_cases c:q.1<k
  ·rw [List.countP_cons_of_pos (by simpa using c)]
   cases j with
   |zero=>simp at h;subst h;simp [c]
   |succ j=>have:=E j p (by simpa using h);rw [←this];omega
  ·rw [List.countP_cons_of_neg (by simpa using c)];have z:l.countP (fun p=>decide (p.1<k))=0:=by
    rw [List.countP_eq_zero];intro p D B;exact c (zdC (v p D) (by simpa using B))
   rw [z]
   cases j with
   |zero=>simp at h;subst h;simp [c]
   |succ j=>
    have C:=v p (List.mem_of_getElem? (l:=l) (i:=j) (by simpa using h));constructor
    ·intro x;omega
    ·intro x;exact absurd (zdC C x) c
theorem zeG{l:List (Key×P)}(C:zx l){i j:Nat}{p q:Key×P}(z:l[i]?=some p)(B:l[j]?=some q)(v:i<j):p.1<q.1:=by obtain⟨y,rfl⟩:=List.getElem?_eq_some_iff.1 z;obtain⟨x,rfl⟩:=List.getElem?_eq_some_iff.1 B;exact List.pairwise_iff_getElem.1 C i j y x v
theorem zD{l:List (Key×P)}(y:zx l)(k:Key):there l k=true↔∃v,l[place l k]?=some (k,v):=by
 constructor
 ·intro h;obtain⟨p,D,i⟩:=List.any_eq_true.1 h;have i:p.1=k:=by simpa using i
  obtain⟨j,x⟩:=List.getElem?_of_mem D;have B:=zbj k l y j p x;have E:=(List.getElem?_eq_some_iff.1 x).1;have F:place l k≤j:=by
   rcases Nat.lt_or_ge j (place l k)with h|h
   ·have:=B.1 h;rw [i]at this;exact absurd this (zev k)
   ·exact h
  have G:j≤place l k:=by
   rcases Nat.lt_or_ge (place l k) j with h|h
   ·have z:=zeG y (List.getElem?_eq_getElem (show place l k<l.length by omega)) x h;rw [i]at z;have H:=(zbj k l y (place l k) _ (List.getElem?_eq_getElem (by omega))).2 z;omega
   ·exact h
  have e:place l k=j:=by omega
  exact⟨p.2,by rw [e,x,←i]⟩
 ·rintro⟨v,C⟩;exact List.any_eq_true.2 ⟨_,List.mem_of_getElem? C,by simp⟩
theorem zjF{l:List (Key×P)}{k:Key}(h:there l k=false){j:Nat}{p:Key×P}(i:l[j]?=some p):p.1≠k:=by
 intro e;have:there l k=true:=List.any_eq_true.2 ⟨p,List.mem_of_getElem? i,by simpa using e⟩;rw [h]at this
 cases this
def zau(l:List (Key×P))(k:Key)(v:P):List (Key×P):=if there l k then l.take (place l k)++(k,v)::l.drop (place l k+1)else l.take (place l k)++(k,v)::l.drop (place l k)
def dropM(l:List (Key×P))(k:Key):List (Key×P):=if there l k then l.take (place l k)++l.drop (place l k+1)else l
theorem zfb{l:List (Key×P)}(x:zx l){k:Key}{j:Nat}{p:Key×P}(i:l[j]?=some p)(e:p.1=k):there l k=true∧place l k=j:=by
 have z:there l k=true:=List.any_eq_true.2 ⟨p,List.mem_of_getElem? i,by simpa using e⟩;refine⟨z,?_⟩;obtain⟨v,y⟩:=(zD x k).1 z;rcases Nat.lt_trichotomy (place l k) j with h|h|h
 ·have:=zeG x y i h;rw [e]at this;exact absurd this (zev k)
 ·exact h
 ·have:=zeG x i y h;rw [e]at this;exact absurd this (zev k)
theorem zkb{l:List (Key×P)}(x:zx l){k:Key}:∀p∈l.take (place l k),p.1<k:=by
 intro p v;obtain⟨j,i⟩:=List.getElem?_of_mem v;rw [List.getElem?_take]at i;split at i
 ·rename_i h;exact(zbj k l x j p i).1 h
 ·cases i
theorem zrh{l:List (Key×P)}(x:zx l){k:Key}{m:Nat}(y:place l k≤m):∀p∈l.drop m,¬p.1<k:=by intro p v h;obtain⟨j,i⟩:=List.getElem?_of_mem v;rw [List.getElem?_drop]at i;have:=(zbj k l x _ p i).2 h;omega
theorem zN{l:List (Key×P)}(x:zx l)(k:Key)(v:P):zx (zau l k v):=by
 have z:∀m,place l k≤m→(∀p∈l.drop m,p.1≠k)→zx (l.take (place l k)++(k,v)::l.drop m):=fun m hm hne=>by
  have B:∀p∈l.drop m,k<p.1:=fun p i=>by
   rcases zij k p.1 with h|h|h
   ·exact h
   ·exact absurd h.symm (hne p i)
   ·exact absurd h (zrh x hm p i)
  unfold zx;rw [List.pairwise_append,List.pairwise_cons];refine⟨x.sublist (List.take_sublist _ _),⟨B,x.sublist (List.drop_sublist _ _)⟩,fun p i q C=>?_⟩;have D:=zkb x p i;rcases List.mem_cons.1 C with rfl|C
  ·exact D
  ·exact zdC D (B q C)
 unfold zau;split
 ·rename_i h;obtain⟨u,E⟩:=(zD x k).1 h;refine z _ (Nat.le_succ _) fun p i e=>?_;obtain⟨j,y⟩:=List.getElem?_of_mem i;rw [List.getElem?_drop]at y;have:=zeG x E y (by omega);rw [e]at this;exact zev k this
 ·rename_i h;refine z _ (Nat.le_refl _) fun p i=>?_;obtain⟨j,y⟩:=List.getElem?_of_mem i;rw [List.getElem?_drop]at y;exact zjF (by simpa using h) y
theorem zcR{l:List (Key×P)}(i:zx l)(k:Key):zx (dropM l k):=by
 unfold dropM;split
 ·refine i.sublist ?_;have j:(l.drop (place l k+1)).Sublist (l.drop (place l k)):=by
   have:=List.drop_sublist 1 (l.drop (place l k));rwa [List.drop_drop]at this
  have:=(List.Sublist.refl (l.take (place l k))).append j;rwa [List.take_append_drop]at this
 ·exact i
theorem ziF(l:List (Key×P))(k:Key)(v:P):(zau l k v).length≤l.length+1:=by have:=zbb l k;unfold zau;split<;>simp<;>omega
theorem zm4(l:List (Key×P))(k:Key):(dropM l k).length≤l.length:=by have:=zbb l k;unfold dropM;split<;>simp<;>omega
abbrev zbW(l:List (Key×P))(i:Nat)(k:Key)(v:P):List (Key×P):=l.take i++(k,v)::l.drop i
theorem zcZ{l:List (Key×P)}{i:Nat}{k:Key}{v:P}(j:i≤l.length):(zbW l i k v).length=l.length+1:=by simp [zbW];omega
theorem zgP(x:∀p,(vc p).length=s){l:List (Key×P)}{i:Nat}{k:Key}{v:P}(D:i≤l.length)(j:Nat):(kps vc (zbW l i k v))[j]?=if j<i*(s+1)then(kps vc l)[j]? else if j<i*(s+1)+(s+1)then(Value.string ⟨k.toArray⟩::vc v)[j - i*(s+1)]? else(kps vc l)[j - (s+1)]?:=by
 have e:kps vc (zbW l i k v)=kps vc (l.take i)++((Value.string ⟨k.toArray⟩::vc v)++kps vc (l.drop i)):=by rw [zbC,zc8]
 have B:(kps vc (l.take i)).length=i*(s+1):=by rw [zc9 x,List.length_take,Nat.min_eq_left D]
 have C:(Value.string ⟨k.toArray⟩::vc v).length=s+1:=by rw [List.length_cons,x]
 rw [e];by_cases y:j<i*(s+1)
 ·rw [if_pos y,List.getElem?_append_left (by omega),zd7 x,List.getElem?_take,if_pos y]
 ·rw [if_neg y,List.getElem?_append_right (by omega),B];by_cases z:j<i*(s+1)+(s+1)
  ·rw [if_pos z,List.getElem?_append_left (by omega)]
  ·rw [if_neg z,List.getElem?_append_right (by omega),zd9 x,List.getElem?_drop,C]
   congr 1
   omega
theorem zg4(x:∀p,(vc p).length=s){l:List (Key×P)}{i:Nat}{k:Key}{u v:P}(y:l[i]?=some (k,u))(j:Nat):(kps vc (l.take i++(k,v)::l.drop (i+1)))[j]?=if i*(s+1)<j∧j<i*(s+1)+(s+1)then(vc v)[j - i*(s+1) - 1]? else(kps vc l)[j]?:=by
 have E:=(List.getElem?_eq_some_iff.1 y).1;have e:kps vc (l.take i++(k,v)::l.drop (i+1))=kps vc (l.take i)++((Value.string ⟨k.toArray⟩::vc v)++kps vc (l.drop (i+1))):=by rw [zbC,zc8]
 have C:(kps vc (l.take i)).length=i*(s+1):=by rw [zc9 x,List.length_take,Nat.min_eq_left (by omega)]
 have B:(Value.string ⟨k.toArray⟩::vc v).length=s+1:=by rw [List.length_cons,x]
 rw [e];by_cases D:j<i*(s+1)
 ·rw [if_neg (by omega),List.getElem?_append_left (by omega),zd7 x,List.getElem?_take,if_pos D]
 ·rw [List.getElem?_append_right (by omega),C];by_cases F:j<i*(s+1)+(s+1)
  ·rw [List.getElem?_append_left (by omega)];have z:=zet x y (j - i*(s+1)) (by omega);rw [show i*(s+1)+(j - i*(s+1))=j by omega]at z;by_cases G:j=i*(s+1)
   ·rw [if_neg (by omega),z,show j - i*(s+1)=0 by omega];rfl
   ·rw [if_pos (by omega)];obtain⟨t,ht⟩:∃t,j - i*(s+1)=t+1:=⟨j - i*(s+1) - 1,by omega⟩
    rw [ht,List.getElem?_cons_succ,Nat.add_sub_cancel]
  ·rw [if_neg (by omega),List.getElem?_append_right (by omega),zd9 x,List.getElem?_drop,B,Nat.succ_mul]
   congr 1
   omega
end
end
section
open Go.RowKit
section
variable{P Q:Type}
theorem zm2{l:List (Key×P)}{k:Key}(h:∀p∈l,p.1<k):place l k=l.length:=by unfold place;rw [List.countP_eq_length];intro p i;simpa using h p i
theorem zjQ{l:List (Key×P)}{k:Key}(h:∀p∈l,p.1≠k):there l k=false:=by unfold there;rw [List.any_eq_false];intro p i;simpa using h p i
theorem zkT{x y:Key}(h:x<y):x≠y:=fun e=>zev y (e▸h)
theorem zjK{l:List (Key×P)}{k:Key}(h:∀p∈l,p.1<k)(v:P):zau l k v=l++[(k,v)]:=by unfold zau;rw [zjQ (fun p i=>zkT (h p i)),zm2 h];simp
def zae(l:List (Key×P))(k:Key):Option P:=if there l k then(l[place l k]?).map (·.2)else none
theorem zhP{l:List (Key×P)}{k:Key}(h:there l k=false):zae l k=none:=by unfold zae;rw [h];rfl
theorem zv{l:List (Key×P)}(x:zx l){k:Key}{v:P}:zae l k=some v↔(k,v)∈l:=by
 unfold zae;constructor
 ·intro h;split at h
  ·rename_i z;obtain⟨u,i⟩:=(zD x k).1 z;rw [i]at h;injection h with h;dsimp only at h;subst h;exact List.mem_of_getElem? i
  ·cases h
 ·intro h;obtain⟨j,p⟩:=List.getElem?_of_mem h;obtain⟨y,B⟩:=zfb x p rfl;rw [y,if_pos rfl,B,p];rfl
theorem zfF{l:List (Key×P)}(C:zx l)(k:Key)(v:P)(f:Key×P):f∈zau l k v↔f=(k,v)∨f∈l∧f.1≠k:=by
 have y:∀m,(∀p∈l.drop m,p.1≠k)→(∀p∈l,p.1≠k→p∈l.take (place l k)∨p∈l.drop m)→(f∈l.take (place l k)++(k,v)::l.drop m↔f=(k,v)∨f∈l∧f.1≠k):=fun m h1 h2=>by
  rw [List.mem_append,List.mem_cons];constructor
  ·rintro(h|h|h)
   ·exact .inr ⟨List.mem_of_mem_take h,zkT (zkb C f h)⟩
   ·exact .inl h
   ·exact .inr ⟨List.mem_of_mem_drop h,h1 f h⟩
  ·rintro(h|⟨h,B⟩)
   ·exact .inr (.inl h)
   ·rcases h2 f h B with h|h
    ·exact .inl h
    ·exact .inr (.inr h)
 have E:∀p∈l,p∈l.take (place l k)∨p∈l.drop (place l k):=fun p i=>by
  have:p∈l.take (place l k)++l.drop (place l k):=by rwa [List.take_append_drop]
  exact List.mem_append.1 this
 unfold zau;split
 ·rename_i h;obtain⟨u,z⟩:=(zD C k).1 h;have D:=(List.getElem?_eq_some_iff.1 z).1;have F:l.drop (place l k)=(k,u)::l.drop (place l k+1):=by
   rw [List.drop_eq_getElem_cons D]
   congr 1
   exact(List.getElem?_eq_some_iff.1 z).2
  refine y _ (fun p i e=>?_) (fun p i B=>?_)
  ·obtain⟨j,x⟩:=List.getElem?_of_mem i;rw [List.getElem?_drop]at x;have:=zeG C z x (by omega);rw [e]at this;exact zev k this
  ·rcases E p i with h|h
   ·exact .inl h
   ·rw [F]at h;rcases List.mem_cons.1 h with h|h
    ·exact absurd (by rw [h]) B
    ·exact .inr h
 ·rename_i h;refine y _ (fun p i=>?_) (fun p i _=>E p i);obtain⟨j,x⟩:=List.getElem?_of_mem i;rw [List.getElem?_drop]at x;exact zjF (by simpa using h) x
theorem zbu{l:List (Key×P)}(i:zx l)(k:Key)(v:P)(x:Key):zae (zau l k v) x=if x=k then some v else zae l x:=by
 by_cases h:x=k
 ·rw [if_pos h,h];exact(zv (zN i k v)).2 ((zfF i k v _).2 (.inl rfl))
 ·rw [if_neg h]
  cases e:zae l x with
  |some u=>refine(zv (zN i k v)).2 ((zfF i k v _).2 (.inr ⟨(zv i).1 e,h⟩))
  |none=>
   cases e2:zae (zau l k v) x with
   |none=>rfl
   |some u=>
    rcases(zfF i k v _).1 ((zv (zN i k v)).1 e2)with j|⟨j,_⟩
    ·exact absurd (congrArg (·.1) j) h
    ·rw [(zv i).2 j]at e
     cases e
theorem zkZ{l i:List (Key×P)}(C:zx l)(y:zx i)(h:∀k,zae l k=zae i k):l=i:=by
 have j:∀p,p∈l↔p∈i:=fun p=>by obtain⟨k,v⟩:=p;rw [←zv C,←zv y,h k]
 clear h
 induction l generalizing i with
 |nil=>
  cases i with
  |nil=>rfl
  |cons q i=>exact absurd ((j q).2 (List.mem_cons_self ..)) (List.not_mem_nil)
 |cons p l ih=>
  cases i with
  |nil=>exact absurd ((j p).1 (List.mem_cons_self ..)) (List.not_mem_nil)
  |cons q i=>
   have z:=List.pairwise_cons.1 C;have B:=List.pairwise_cons.1 y;have e:p=q:=by
    rcases List.mem_cons.1 ((j p).1 (List.mem_cons_self ..))with e|e
    ·exact e
    ·rcases List.mem_cons.1 ((j q).2 (List.mem_cons_self ..))with e'|e'
     ·exact e'.symm
     ·exact absurd (zdC (z.1 q e') (B.1 p e)) (zev _)
   subst e
   congr 1
   refine ih z.2 B.2 (fun x=>⟨fun hx=>?_,fun hx=>?_⟩)
   ·rcases List.mem_cons.1 ((j x).1 (List.mem_cons_of_mem _ hx))with e|e
    ·exact absurd (z.1 x hx) (by rw [e];exact zev _)
    ·exact e
   ·rcases List.mem_cons.1 ((j x).2 (List.mem_cons_of_mem _ hx))with e|e
    ·exact absurd (B.1 x hx) (by rw [e];exact zev _)
    ·exact e
end
end
section
def zd(b:Nat):List Nat→Nat
 | []=>0
 |x::l=>x+b*zd b l
def zg(b:Nat)(l:List Nat):Prop:=∀x∈l,x<b
def zdl(l:List Nat):Prop:=l.getLast?≠some 0
theorem zaT(b:Nat):∀(l k:List Nat),zd b (l++k)=zd b l+b^l.length*zd b k
 | [],k=>by simp [zd]
 |x::l,k=>by
  have:=zaT b l k;simp only [List.cons_append,zd,this,List.length_cons,Nat.pow_succ,Nat.mul_add,Nat.add_assoc]
  congr 2
  rw [Nat.mul_comm (b^l.length) b,Nat.mul_assoc]
theorem zM(b:Nat)(l:List Nat)(x:Nat):zd b (l++[x])=zd b l+b^l.length*x:=by rw [zaT];simp [zd]
theorem zfx(b:Nat)(n:Nat):zd b (List.replicate n 0)=0:=by
 induction n with
 |zero=>rfl
 |succ n ih=>simp [List.replicate_succ,zd,ih]
theorem zaL{b:Nat}:∀{l:List Nat},zg b l→zd b l<b^l.length
 | [],_=>by simp [zd]
 |x::l,h=>by have p:=h x (by simp);have i:=zaL (l:=l) (fun y hy=>h y (by simp [hy]));simp only [zd,List.length_cons,Nat.pow_succ];have j:b*(zd b l+1)≤b*b^l.length:=Nat.mul_le_mul_left _ i;rw [Nat.mul_add]at j;rw [Nat.mul_comm (b^l.length) b];omega
theorem zfy{b:Nat}{l:List Nat}(p:0<b)(i:zdl l)(j:l≠[]):b^(l.length - 1)≤zd b l:=by
 rcases List.eq_nil_or_concat l with rfl|⟨k,x,rfl⟩
 ·exact absurd rfl j
 ·rw [List.concat_eq_append]at*
  have v:x≠0:=by rintro rfl;exact i (by simp)
  rw [zM];have:b^k.length*1≤b^k.length*x:=Nat.mul_le_mul_left _ (by omega);simp;omega
theorem zg.snoc{b:Nat}{l:List Nat}{x:Nat}(h:zg b l)(j:x<b):zg b (l++[x]):=by
 intro y i;rcases List.mem_append.1 i with i|i
 ·exact h y i
 ·simp at i;omega
theorem zg.take{b:Nat}{l:List Nat}(h:zg b l)(n:Nat):zg b (l.take n):=fun x i=>h x (List.mem_of_mem_take i)
theorem zg.nil(b:Nat):zg b []:=fun x i=>by simp at i
theorem zcz:zdl []:=by simp [zdl]
def zB(l:List Nat):List Nat:=(l.reverse.dropWhile (· ==0)).reverse
theorem zcy(l:List Nat):zB (l++[0])=zB l:=by simp [zB]
theorem zdh(l:List Nat){x:Nat}(h:x≠0):zB (l++[x])=l++[x]:=by simp [zB,h]
theorem zaH(l:List Nat):zdl (zB l):=by unfold zdl zB;rw [List.getLast?_reverse];intro h;have:=List.head?_dropWhile_not (fun x=>x==0) l.reverse;rw [h]at this;simp at this
theorem zfs{p:List Nat→Prop}(h0:∀k,p k→p (k++[0]))(h1:p [])(h2:∀k x,x≠0→p (k++[x]))(l:List Nat):p l:=by
 have:∀n (l:List Nat),l.length=n→p l:=by
  intro n
  induction n with
  |zero=>intro l hl;rw [List.length_eq_zero_iff.1 hl];exact h1
  |succ n ih=>
   intro l hl;rcases List.eq_nil_or_concat l with rfl|⟨k,x,rfl⟩
   ·exact h1
   ·rw [List.concat_eq_append]at*
    by_cases hx:x=0
    ·subst hx;exact h0 k (ih k (by simpa using hl))
    ·exact h2 k x hx
 exact this _ l rfl
theorem zar(b:Nat)(l:List Nat):zd b (zB l)=zd b l:=by
 induction l using zfs with
 |h0 k ih=>rw [zcy,ih,zM];simp
 |h1=>rfl
 |h2 k x hx=>rw [zdh k hx]
theorem zb7(l:List Nat):∃n,n≤l.length∧zB l=l.take n:=by
 induction l using zfs with
 |h0 k ih=>obtain⟨n,h1,h2⟩:=ih;exact⟨n,by simp;omega,by rw [zcy,h2,List.take_append_of_le_length h1]⟩
 |h1=>exact⟨0,Nat.le_refl _,rfl⟩
 |h2 k x hx=>exact⟨(k++[x]).length,Nat.le_refl _,by rw [zdh k hx,List.take_of_length_le (Nat.le_refl _)]⟩
theorem zaq{b:Nat}{l:List Nat}(h:zg b l):zg b (zB l):=by obtain⟨n,_,e⟩:=zb7 l;rw [e];exact h.take n
theorem zbE(l:List Nat):(zB l).length≤l.length:=by obtain⟨n,h,e⟩:=zb7 l;rw [e];simp;omega
def zeK(n:Nat):List Nat:=if n=0 then []else n%10::zeK (n/10)
decreasing_by omega
theorem zcS:zeK 0= []:=by unfold zeK;simp
theorem zdX{n:Nat}(h:n≠0):zeK n=n%10::zeK (n/10):=by rw [zeK];simp [h]
theorem zof{x:Nat}{l:List Nat}(h:zdl (x::l)):zdl l:=by
 cases l with
 |nil=>exact zcz
 |cons y l=>simpa [zdl]using h
theorem zjD{l:List Nat}(j:zdl l){b:Nat}(i:0<b)(h:zd b l=0):l= []:=by
 rcases Decidable.em (l= [])with e|e
 ·exact e
 ·have p:=zfy i j e;have v:0<b^(l.length - 1):=Nat.pow_pos i;omega
theorem zkf:∀{l:List Nat},zg 10 l→zdl l→l=zeK (zd 10 l)
 | [],_,_=>by simp [zd,zcS]
 |x::l,h,ht=>by
  have z:=h x (by simp);have p:=zkf (l:=l) (fun y hy=>h y (by simp [hy])) (zof ht);have i:zd 10 (x::l)≠0:=fun e=>by
   have:=zjD ht (by omega) e
   cases this
  rw [zdX i];simp only [zd]at*
  have j:(x+10*zd 10 l)%10=x:=by omega
  have v:(x+10*zd 10 l)/10=zd 10 l:=by omega
  rw [j,v,←p]
theorem zgT(n:Nat):zg 10 (zeK n):=by
 induction n using Nat.strongRecOn with
 |ind n ih=>
  by_cases h:n=0
  ·subst h;rw [zcS];exact zg.nil 10
  ·rw [zdX h];intro x i;rcases List.mem_cons.1 i with rfl|i
   ·omega
   ·exact ih _ (by omega) x i
theorem zhV(n:Nat):zd 10 (zeK n)=n:=by
 induction n using Nat.strongRecOn with
 |ind n ih=>
  by_cases h:n=0
  ·subst h;rw [zcS];rfl
  ·rw [zdX h,zd,ih _ (by omega)];omega
def za7(z:Int):List UInt8:=if z=0 then [48]else(if z<0 then [45]else [])++((zeK z.natAbs).reverse.map fun d=>UInt8.ofNat (48+d))
end
section
open Go.RowKit
def dby(d:Nat):UInt8:=UInt8.ofNat (48+d)
theorem znQ{d:Nat}(h:d<10):(dby d).toNat=48+d:=by unfold dby;rw [UInt8.toNat_ofNat'];omega
theorem zkQ{d:Nat}(h:d<10):(dby d==48)=(d==0):=by
 have i:=znQ h;by_cases e:d=0
 ·subst e;rfl
 ·have j:(d==0)=false:=by simp [e]
  rw [j];have:dby d≠48:=fun e2=>by rw [e2]at i;simp at i;omega
  simp [this]
theorem zo4{l:List Nat}(h:zg 10 l):Lib.trimRightB (l.map dby) 48=(zB l).map dby:=by
 revert h
 refine zfs (p:=fun l=>zg 10 l→Lib.trimRightB (l.map dby) 48=(zB l).map dby) ?_ ?_ ?_ l
 ·intro k v h;rw [zcy,←v (fun x i=>h x (by simp [i]))];have:=zkQ (d:=0) (by omega);simp [Lib.trimRightB,this]
 ·intro _;rfl
 ·intro k x i h;have:=zkQ (d:=x) (h x (by simp));have j:(x==0)=false:=by simp [i]
  rw [j]at this;rw [zdh k i];simp [Lib.trimRightB,this]
theorem znW{g:Bool}{V:Nat}(h:V≠0):za7 (if g then -(V:Int)else(V:Int))=(if g then [45]else [])++(zeK V).reverse.map dby:=by
 have e:(fun d=>UInt8.ofNat (48+d))=dby:=rfl
 cases g
 ·have i:¬((V:Int)<0):=by omega
  have j:¬((V:Int)=0):=by omega
  simp only [za7,Bool.false_eq_true,if_false,i,j,Int.natAbs_natCast,e]
 ·have i:(-(V:Int)<0):=by omega
  have j:¬(-(V:Int)=0):=by omega
  simp only [za7,if_true,if_neg j,if_pos i,Int.natAbs_neg,Int.natAbs_natCast,e]
abbrev zmD(b:UInt8):Value:= .int .u8 (b.toNat:Int)
theorem zir{P:Program}{w:World}{src dst e:TypeId}{A:Option Addr}{n c:Nat}(i:List UInt8)(B:P.underlying src=some (.slice e))(E:P.underlying e=some (.int .u8))(C:P.underlying dst=some .string) (p:Sl w 1 A n c (i.map zmD)) (y:0<n):(convert src dst (.slice A n c)).run P w= .ok (.string ⟨i.toArray⟩) w:=by
 have z:i.length=n:=by have:=p.1;simpa using this
 obtain⟨b,off,rfl,F,x⟩:=p.2.2 y;subst z;refine run_convert_bytes_back w src dst e _ c i B E C fun j D=>?_;have:=x j (zmD i[j]) (by simp [D]);unfold Addr.add;split
 ·rename_i v;subst v;simpa using this
 ·exact this
theorem zp2(w:World)(e:TypeId)(s:ByteArray):Pu w (Lib.bytesWorld w e s):=⟨rfl,rfl,rfl,by rw [Lib.bytesWorld_size];omega,fun k i _=>Lib.bytesWorld_at_old w e s k i⟩
theorem zgC(w:World)(e:TypeId)(l:List UInt8):Sort.Holds zmD (Lib.bytesWorld w e ⟨l.toArray⟩) w.heap.size 0 l.toArray:=fun j p=>by
 have i:j<l.length:=by simpa using p
 refine⟨?_,?_⟩
 ·rw [Nat.zero_add,Lib.bytesWorld_cell w e ⟨l.toArray⟩ j (by simpa [ByteArray.size]using i)];simp [List.getD,i,zmD]
 ·have v:(Lib.bytesCells w e ⟨l.toArray⟩).size≥l.length:=by simp [Lib.bytesCells]
  simp only [World.frozen?,Lib.bytesWorld_at_new,Nat.zero_add];simp;omega
theorem zom{P:Program}(w:World){src dst e:TypeId}(l:List UInt8)(p:P.underlying src=some .string)(i:P.underlying dst=some (.slice e))(v:P.underlying e=some (.int .u8)):∃c W,(convert src dst (.string ⟨l.toArray⟩)).run P w= .ok (.slice (some ⟨w.heap.size,0,none⟩) l.length c) W∧l.length≤c∧W=Lib.bytesWorld w e ⟨l.toArray⟩:=by
 have h:=Lib.run_convert_string_bytes (P:=P) w src dst e ⟨l.toArray⟩ p i v;have j:(⟨l.toArray⟩:ByteArray).size=l.length:=by simp [ByteArray.size]
 rw [j]at h;exact⟨_,_,h,grownCap_ge _ _ _ _,rfl⟩
theorem zpC(l k:List UInt8):(⟨l.toArray⟩:ByteArray)++(⟨k.toArray⟩:ByteArray)=⟨(l++k).toArray⟩:=by apply ByteArray.ext;simp
abbrev dbs(l:List Nat):List Value:=l.map fun d:Nat=>Value.int .u8 ((48+d:Nat):Int)
theorem zqk{l:List Nat}(h:zg 10 l):dbs l=(l.map dby).map zmD:=by rw [List.map_map];refine List.map_congr_left fun d i=>?_;show Value.int .u8 _=Value.int .u8 _;rw [znQ (h d i)]
theorem zrs{w:World}{base k n:Nat}{e t:TypeId}{v:Value}{xs:List Value}{b:Nat}{cs:Array Value}(h:w.ownsRow base e k v n xs)(j:Blk w b t cs)(p:t≠e):v.ownBlock≠some b:=by
 rcases h.2 with⟨rfl,_⟩|⟨g,B,z,rfl,_,x,_⟩
 ·intro i
  cases i
 ·intro i;injection i with i;have y:g=b:=i;subst y;unfold Blk at j;rw [x]at j;injection j with j;injection j with _ ht;exact p ht.symm
theorem zrV{w p:World}{e:TypeId}{l:List UInt8}{n:Nat}(c:Nat)(h:p=Sort.putRow zmD (Sort.ahead (Lib.bytesWorld w e ⟨l.toArray⟩) n) w.heap.size 0 l.reverse.toArray)(y:l.length≤c):Sl p 1 (some ⟨w.heap.size,0,none⟩) l.length c (l.reverse.map zmD)∧Pu w p:=by
 subst h;have x:=Sort.holds_ahead zmD _ n w.heap.size 0 _ (zgC w e l);refine⟨⟨by simp,y,fun D=>⟨_,0,rfl,?_,fun j u hu=>?_⟩⟩,?_⟩
 ·rw [Sort.size_putRow,Sort.heap_ahead,Lib.bytesWorld_size];omega
 ·have v:j<l.length:=by
   have:=(List.getElem?_eq_some_iff.1 hu).1;simpa using this
  rw [Sort.cell?_putRow zmD _ w.heap.size 0 l.toArray l.reverse.toArray x (by simp) j (by simpa using v)];rw [←hu];simp [v]
 ·have i:=zp2 w e ⟨l.toArray⟩;refine⟨i.os,i.tape,i.output,by rw [Sort.size_putRow];exact i.size,fun k C B=>?_⟩;rw [←i.block k C B];unfold Sort.putRow Sort.mapBlock;have z:w.heap.size≠k:=by omega
  simp [Array.getElem?_modify,z,Sort.ahead]
end
section
theorem zfj{b:Nat}:∀{l:List Nat} {j x:Nat} (y:Nat),l[j]?=some x→zd b (l.set j y)+b^j*x=zd b l+b^j*y
 | [],j,x,y,h=>by simp at h
 |a::l,0,x,y,h=>by simp at h;subst h;simp [zd];omega
 |a::l,j+1,x,y,h=>by have i:=zfj (b:=b) (l:=l) (j:=j) y (by simpa using h);have:=congrArg (b* ·) i;simp only [Nat.mul_add]at this;simp only [List.set_cons_succ,zd,Nat.pow_succ];rw [Nat.mul_comm (b^j) b,Nat.mul_assoc,Nat.mul_assoc];omega
theorem zg.set{b:Nat}{l:List Nat}{j y:Nat}(h:zg b l)(i:y<b):zg b (l.set j y):=by
 intro x p;rcases List.mem_or_eq_of_mem_set p with h1|h1
 ·exact h x h1
 ·rw [h1];exact i
theorem zg.append{b:Nat}{l k:List Nat}(h:zg b l)(g:zg b k):zg b (l++k):=by
 intro x i;rcases List.mem_append.1 i with i|i
 ·exact h x i
 ·exact g x i
theorem zg.drop{b:Nat}{l:List Nat}(h:zg b l)(n:Nat):zg b (l.drop n):=fun x i=>h x (List.mem_of_mem_drop i)
theorem zg.zeros{b:Nat}(i:0<b)(n:Nat):zg b (List.replicate n 0):=by intro x j;rw [List.eq_of_mem_replicate j];exact i
theorem zdW(b:Nat)(l:List Nat)(n:Nat)(h:n≤l.length):zd b l=zd b (l.take n)+b^n*zd b (l.drop n):=by
 conv=>lhs;rw [←List.take_append_drop n l]
 rw [zaT,List.length_take,Nat.min_eq_left h]
theorem zaf{b:Nat}{l:List Nat}{j x:Nat}(h:l[j]?=some x):zd b (l.take (j+1))=zd b (l.take j)+b^j*x:=by have i:=(List.getElem?_eq_some_iff.1 h).1;rw [List.take_add_one,h];show zd b (l.take j++[x])=_;rw [zM,List.length_take,Nat.min_eq_left (by omega)]
theorem zay{b:Nat}{l:List Nat}{j x:Nat}(h:l[j]?=some x):zd b (l.drop j)=x+b*zd b (l.drop (j+1)):=by
 have i:=(List.getElem?_eq_some_iff.1 h).1;rw [List.drop_eq_getElem_cons i];have e:l[j]=x:=by rw [List.getElem?_eq_getElem i]at h;injection h
 rw [e];rfl
theorem zf2{x y c o:Nat}(p:x<4294967296)(j:y<4294967296)(i:c<4294967296)(v:o<4294967296):x*y+o+c<18446744073709551616:=by have:=Nat.mul_le_mul (show x≤4294967295 by omega) (show y≤4294967295 by omega);omega
theorem zoQ{a p P c q r i j T:Nat}(y:p+P*i=a+P*r)(e:4294967296*q+r=c+(j+i))(x:a+P*c=T):p+P*4294967296*q=T+P*j:=by
 have v:P*(4294967296*q+r)=P*(c+(j+i)):=by rw [e]
 rw [Nat.mul_add,Nat.mul_add,Nat.mul_add,←Nat.mul_assoc]at v;omega
theorem zqK{i k x y p:Nat}:4294967296^i*(x*p)+4294967296^(i+k)*(x*y)=4294967296^i*(x*(p+4294967296^k*y)):=by
 rw [Nat.pow_add,Nat.mul_add x,Nat.mul_add (4294967296^i),Nat.mul_assoc]
 congr 1
 congr 1
 rw [Nat.mul_left_comm]
theorem zlE{s p m w d q r t:Nat}(j:s+p*m=t)(e:4294967296*q+r=m+w*d):s+p*r+p*4294967296*q=t+p*(w*d):=by
 have i:p*(4294967296*q+r)=p*(m+w*d):=by rw [e]
 rw [Nat.mul_add,Nat.mul_add,←Nat.mul_assoc]at i;omega
theorem zor{n o y p q c l w v low x i j:Nat}(z:n+q*y=o+p*(c+l))(D:4294967296*v+low=c+w*q)(F:i+low+l=x+4294967296*j):n+p*i+q*(y+p*w)=o+p*x+p*4294967296*(v+j):=by
 have B:p*(4294967296*v+low)=p*(c+w*q):=by rw [D]
 have E:p*(i+low+l)=p*(x+4294967296*j):=by rw [F]
 simp only [Nat.mul_add,←Nat.mul_assoc]at B E z⊢;have C:q*p*w=p*w*q:=by rw [Nat.mul_comm q p,Nat.mul_assoc,Nat.mul_comm q w,←Nat.mul_assoc]
 rw [C];omega
theorem zmC{S Y U V P q Q:Nat}(G:0<P)(x:V*P≤Y)(j:Y<(V+1)*P)(E:U*P≤S)(B:S<(U+1)*P)(F:4294967296≤V)(D:q<4294967296)(z:q*V≤U)(p:q=4294967295∨U<(q+1)*V)(y:S<4294967296*Y):(q - 1)*Y≤S∧S<(q+1)*Y:=by
 constructor
 ·rcases Nat.eq_zero_or_pos q with rfl|hq0
  ·simp
  ·have i:(q - 1)*(V+1)≤U:=by
    obtain⟨k,rfl⟩:∃k,q=k+1:=⟨q - 1,by omega⟩
    rw [Nat.add_sub_cancel,Nat.mul_add,Nat.mul_one];rw [Nat.add_mul,Nat.one_mul]at z;omega
   have v:(q - 1)*Y≤(q - 1)*((V+1)*P):=Nat.mul_le_mul_left _ (Nat.le_of_lt j);rw [←Nat.mul_assoc]at v;have C:(q - 1)*(V+1)*P≤U*P:=Nat.mul_le_mul_right _ i;omega
 ·rcases p with rfl|p
  ·exact y
  ·have i:(U+1)*P≤(q+1)*V*P:=Nat.mul_le_mul_right _ p;rw [Nat.mul_assoc]at i;have v:(q+1)*(V*P)≤(q+1)*Y:=Nat.mul_le_mul_left _ x;omega
theorem zgX{q i r U next low V U3:Nat}(v:V=i*4294967296+next)(j:U3=U*4294967296+low)(p:q*i+r=U):(q*next≤r*4294967296+low↔q*V≤U3):=by subst v j p;rw [Nat.mul_add,Nat.add_mul,Nat.mul_assoc];omega
theorem zkd{U i next low q V U3:Nat}(p:V=i*4294967296+next)(j:U3=U*4294967296+low)(v:low<4294967296)(h:U<(q+1)*i):U3<(q+1)*V:=by subst p j;rw [Nat.mul_add,←Nat.mul_assoc];have:(U+1)*4294967296≤(q+1)*i*4294967296:=Nat.mul_le_mul_right _ h;omega
theorem zsl{S Y q n b M:Nat}(h:n+q*Y=S+M*b)(C:b≤1)(D:n<M)(z:S<M)(p:(q - 1)*Y≤S)(v:S<(q+1)*Y)(i:0<Y):(b=0→q=S/Y∧n=S%Y)∧(b=1→0<q∧q - 1=S/Y∧n+Y=S%Y+M):=by
 have j:=Nat.div_add_mod S Y;have y:=Nat.mod_lt S i;constructor
 ·rintro rfl;have e:q=S/Y:=by
   refine Nat.le_antisymm ((Nat.le_div_iff_mul_le i).2 (by omega)) ?_;have:=(Nat.div_lt_iff_lt_mul i).2 v;omega
  refine⟨e,?_⟩;rw [Nat.mul_comm,←e]at j;omega
 ·rintro rfl;have B:0<q:=by
   rcases Nat.eq_zero_or_pos q with e|e
   ·subst e;omega
   ·exact e
  obtain⟨k,rfl⟩:∃k,q=k+1:=⟨q - 1,by omega⟩
  rw [Nat.add_sub_cancel]at p⊢;rw [Nat.add_mul,Nat.one_mul]at h;have e:k=S/Y:=by
   refine Nat.le_antisymm ((Nat.le_div_iff_mul_le i).2 p) ?_;have x:S<(k+1)*Y:=by rw [Nat.add_mul];omega
   have:=(Nat.div_lt_iff_lt_mul i).2 x;omega
  refine⟨by omega,e,?_⟩;rw [Nat.mul_comm,←e]at j;omega
theorem zmL{n x R:Nat}(E:n≤32)(G:x<4294967296):(x+4294967296*R)/2^n=(R%4294967296*4294967296+x)/2^n%4294967296+4294967296*(R/2^n):=by
 obtain⟨D,hD⟩:∃D,D=2^n:=⟨_,rfl⟩
 have i:0<D:=by rw [hD];exact Nat.pow_pos (by omega)
 have j:D∣4294967296:=by rw [hD,show(4294967296:Nat)=2^32 from rfl];exact Nat.pow_dvd_pow 2 E
 rw [←hD];have y:=Nat.div_add_mod R D;have v:=Nat.div_add_mod (R%4294967296) D;rw [Nat.mod_mod_of_dvd R j]at v;have B:=Nat.mod_lt R i;generalize R%D=s at*
 generalize R/D=q at*
 generalize R%4294967296/D=C at*
 have z:x+4294967296*R=(s*4294967296+x)+D*(4294967296*q):=by rw [←y,Nat.mul_add,Nat.mul_left_comm];omega
 have F:R%4294967296*4294967296+x=(s*4294967296+x)+D*(C*4294967296):=by rw [←v,Nat.add_mul,Nat.mul_assoc];omega
 rw [z,F,Nat.add_mul_div_left _ _ i,Nat.add_mul_div_left _ _ i,Nat.add_mul_mod_self_right];have p:(s*4294967296+x)/D<4294967296:=by rw [Nat.div_lt_iff_lt_mul i];have:(s+1)*4294967296≤D*4294967296:=Nat.mul_le_mul_right _ B;omega
 rw [Nat.mod_eq_of_lt p]
theorem zph{n w c:Nat}(p:n≤32)(j:c<2^n)(i:w<4294967296):c+w*2^n<4294967296*2^n:=by have:(w+1)*2^n≤4294967296*2^n:=Nat.mul_le_mul_right _ i;rw [Nat.add_mul]at this;omega
end
section
theorem znH(s:List UInt8)(j:Nat):(⟨s.toArray⟩:ByteArray)[j]?=s[j]?:=by
 rcases Nat.lt_or_ge j s.length with h|h
 ·rw [List.getElem?_eq_getElem h,getElem?_pos (⟨s.toArray⟩:ByteArray) j (by simpa [ByteArray.size]using h)];rfl
 ·rw [List.getElem?_eq_none h,getElem?_neg (⟨s.toArray⟩:ByteArray) j (by simp [ByteArray.size];omega)]
theorem zmQ{P:Program}{t:TypeId}{k:IntKind}(s:List UInt8)(j:Nat)(c:UInt8)(h:s[j]?=some c)(v:P.underlying t=some .string)(W:World):(Instr.index t (.string ⟨s.toArray⟩) (.int k (j:Int))).run P W= .ok (.int .u8 (c.toNat:Int)) W:=by
 have i:=znH s j;rw [h]at i;unfold Instr.index;simp only [asIntOf,Sem.run_bind,Sem.run_pure,Result.andThen_ok,run_underlying v];have p:(0:Int)≤(j:Int):=by omega
 simp [p,i]
end
end Go.Proofs.YtckfnbckoclhpaaGreatDoor

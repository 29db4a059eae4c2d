/- The law's lines in memory, and rows of made terms (plain). -/
import Derived.Test.YtckfnbckoclhpaaGreatDoorE26
import Derived.Test.YtckfnbckoclhpaaGreatDoorE23
namespace Go.Proofs.YtckfnbckoclhpaaGreatDoor
set_option linter.unusedVariables false
set_option linter.unusedSimpArgs false
section
open Go.RowKit
structure LineM where
 ps:List (Key×Int)
 rest:Int
 eq:Bool
structure zf7 where
 A:Option Addr
 n:Nat
 c:Nat
 rest:Int
 eq:Bool
def zf7.cells(q:zf7):List Value:=[.slice q.A q.n q.c,.int .i64 q.rest,.bool q.eq]
theorem zf7.cells_len(q:zf7):q.cells.length=3:=rfl
structure znA(ps:List (Key×Int)):Prop where
 each:∀p∈ps,(-9223372036854775808≤p.2∧p.2≤9223372036854775807)∧p.1.length≤9223372036854775807
 len:ps.length≤9223372036854775807
structure zhF(w:World)(q:zf7)(l:LineM):Prop where
 eq:q.eq=l.eq
 rest:q.rest=l.rest
 n:q.n=l.ps.length
 sl:Sl w 2 q.A q.n q.c (cat zfh l.ps)
 lo: -9223372036854775808≤l.rest
 hi:l.rest≤9223372036854775807
 ok:znA l.ps
theorem zhF.pu{w w':World}{q:zf7}{l:LineM}(h:zhF w q l)(p:Pu w w'):zhF w' q l:=⟨h.eq,h.rest,h.n,h.sl.pu p,h.lo,h.hi,h.ok⟩
def zgw(w:World)(Q:List zf7)(ls:List LineM):Prop:=Q.length=ls.length∧∀(i:Nat) (q:zf7) (l:LineM),Q[i]?=some q→ls[i]?=some l→zhF w q l
theorem zgw.pu{w w':World}{Q:List zf7}{j:List LineM}(h:zgw w Q j)(p:Pu w w'):zgw w' Q j:=⟨h.1,fun i q l k t=>(h.2 i q l k t).pu p⟩
theorem zgw.at_{w:World}{Q:List zf7}{j:List LineM}(h:zgw w Q j){i:Nat}{q:zf7}(p:Q[i]?=some q):∃l,j[i]?=some l∧zhF w q l:=by have k:=(List.getElem?_eq_some_iff.1 p).1;have t:j[i]?=some (j[i]'(by rw [←h.1];exact k)):=List.getElem?_eq_getElem (by rw [←h.1];exact k);exact⟨_,t,h.2 i q _ p t⟩
def zei(l:LineM):Bool:=okM l.ps l.rest
def okL(m:Nat)(ls:List LineM):Bool:=decide (ls.length≤m)&&ls.all zei
def zbU(l:LineM):RowM:=⟨l.rest,zh9 l.ps,l.eq⟩
theorem zpQ{m:Nat}{j:List LineM}{i:Nat}{l:LineM}(h:j[i]?=some l)(k:zei l=false):okL m j=false:=by
 unfold okL;have:j.all zei=false:=by rw [List.all_eq_false];exact⟨l,List.mem_of_getElem? h,by simp [k]⟩
 simp [this]
abbrev SlL(w:World)(A:Option Addr)(n c:Nat)(Q:List zf7):Prop:=Sl w 3 A n c (cat zf7.cells Q)
theorem SlL.at_{w:World}{A:Option Addr}{n c:Nat}{Q:List zf7}(h:SlL w A n c Q){j:Nat}{q:zf7}(p:Q[j]?=some q):∃b off,A=some ⟨b,off,none⟩∧b<w.heap.size∧w.cell? ⟨b,off+j*3,none⟩=some (.slice q.A q.n q.c)∧w.cell? ⟨b,off+j*3+1,none⟩=some (.int .i64 q.rest)∧w.cell? ⟨b,off+j*3+2,none⟩=some (.bool q.eq):=by obtain⟨b,off,rfl,k,i⟩:=zjH zf7.cells_len (by decide) h p;exact⟨b,off,rfl,k,i 0 _ rfl,i 1 _ rfl,i 2 _ rfl⟩
theorem SlL.len{w:World}{A:Option Addr}{n c:Nat}{Q:List zf7}(h:SlL w A n c Q):Q.length=n:=Sl.clen zf7.cells_len (by decide) h
def Ty(t:TypeId):Prop:=t≠169∧t≠126∧t≠119
theorem TMO.frY{S:Nat→Prop}{w w':World}{base:Nat}{v:Value}{rest:Int}{fs:List (Key×Int)}(h:TMO w base v rest fs)(x:Fr S w w')(C:∀g,S g→∃t i j,w.heap[g]?=some (.cells i t j)∧Ty t):TMO w' base v rest fs:=by
 have E:∀g,S g→∃t i j,w.heap[g]?=some (.cells i t j)∧t≠169:=fun g hg=>by obtain⟨t,i,j,e,B,_⟩:=C g hg;exact⟨t,i,j,e,B⟩
 obtain⟨g,A,n,c,b,r,L,B,p,K,F⟩:=h;refine⟨g,A,n,c,b,r,L,B,p.frT x E,?_,F.frT x E⟩;obtain⟨I,N,J,y,D,M,H⟩:=K;refine⟨I,N,J,y.fr x (fun z=>?_),zbp D x (fun g hg z=>?_),M,H⟩
 ·obtain⟨t,i,j,e,_,p,_⟩:=C _ z;unfold Blk at y;rw [y]at e;injection e with e;injection e with _ e _;exact p e.symm
 ·obtain⟨t,i,j,e,_,_,p⟩:=C g z;obtain⟨_,t',R,O,k,G⟩:=zah D g hg;rw [e]at k;injection k with k;injection k with _ k _;exact p (k.trans G)
theorem TMX.frY{S:Nat→Prop}{w w':World}{lo:Nat}{v:Value}{rest:Int}{fs:List (Key×Int)}(h:TMX w lo v rest fs)(k:Fr S w w')(p:∀g,S g→∃t i j,w.heap[g]?=some (.cells i t j)∧Ty t):TMX w' lo v rest fs:=by
 rcases h with⟨g,A,n,c,rfl,h,rfl⟩|⟨base,z,h⟩
 ·exact .inl ⟨g,A,n,c,rfl,h.frT k (fun g x=>by obtain⟨t,i,j,e,y,_⟩:=p g x;exact⟨t,i,j,e,y⟩),rfl⟩
 ·exact .inr ⟨base,z,h.frY k p⟩
def zsf(w:World)(lo:Nat)(q:RawR)(r:RowM):Prop:=q.eq=r.eq∧TMX w lo q.term r.rest r.fs
def zeh(w:World)(lo:Nat)(L:List RawR)(l:List RowM):Prop:=L.length=l.length∧∀(i:Nat) (q:RawR) (r:RowM),L[i]?=some q→l[i]?=some r→zsf w lo q r
section
variable{w w':World}{lo:Nat}{L L':List RawR}{l l':List RowM}
theorem zeh.hold(h:zeh w lo L l):zF w L l:=⟨h.1,fun i q r j k=>⟨(h.2 i q r j k).1,(h.2 i q r j k).2.tm⟩⟩
theorem zeh.frY{S:Nat→Prop}(h:zeh w lo L l)(j:Fr S w w')(k:∀g,S g→∃t cs fz,w.heap[g]?=some (.cells cs t fz)∧Ty t):zeh w' lo L l:=⟨h.1,fun i q r hq hr=>⟨(h.2 i q r hq hr).1,(h.2 i q r hq hr).2.frY j k⟩⟩
theorem zeh.pu(h:zeh w lo L l)(p:Pu w w'):zeh w' lo L l:=h.frY p (fun g i=>i.elim)
theorem zeh.nil(w:World)(lo:Nat):zeh w lo [] []:=⟨rfl,fun i q r h=>by simp at h⟩
theorem zeh.push{q:RawR}{r:RowM}(h:zeh w lo L l)(v:zsf w lo q r):zeh w lo (L++[q]) (l++[r]):=by
 refine⟨by simp [h.1],fun j p f i t=>?_⟩;rcases Nat.lt_or_ge j L.length with hj|hj
 ·rw [List.getElem?_append_left hj]at i;rw [List.getElem?_append_left (by rw [←h.1];exact hj)]at t;exact h.2 j p f i t
 ·rw [List.getElem?_append_right hj]at i;rw [List.getElem?_append_right (by rw [←h.1];exact hj),←h.1]at t
  cases hk:j - L.length with
  |zero=>rw [hk]at i t;simp at i t;subst i t;exact v
  |succ k=>rw [hk]at i;simp at i
end
theorem zrI{w:World}{base n c k:Nat}{e:TypeId}{A:Option Addr}{v:List Value}(z:w.ownsRow base e k (.slice A n c) n v)(p:Ty e):∀g,(Value.slice A n c).ownBlock=some g→∃t j i,w.heap[g]?=some (.cells j t i)∧Ty t:=fun g hg=>by obtain⟨_,t,j,i,x,y⟩:=zah z g hg;exact⟨t,j,i,x,by rw [y];exact p⟩
section
variable{P:Program}{w:World}{ops:Array Oper}{o:Oper}{a:Act}{Q:Exit→Act→World→Prop}
end
end
section
open Go.RowKit
end
end Go.Proofs.YtckfnbckoclhpaaGreatDoor

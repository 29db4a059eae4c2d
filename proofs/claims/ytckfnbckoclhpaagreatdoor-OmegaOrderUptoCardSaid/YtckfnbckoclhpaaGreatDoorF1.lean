/- Facts of drawn regions' operations, and how they stay. -/
import Derived.Test.YtckfnbckoclhpaaGreatDoorCT
import Derived.Test.YtckfnbckoclhpaaGreatDoorE12
import Derived.Test.YtckfnbckoclhpaaGreatDoorE15
import Derived.Test.YtckfnbckoclhpaaGreatDoorE29
import Derived.Test.YtckfnbckoclhpaaGreatDoorE31
import Derived.Test.YtckfnbckoclhpaaGreatDoorE30
namespace Go.Proofs.YtckfnbckoclhpaaGreatDoor
set_option linter.unusedVariables false
set_option linter.unusedSimpArgs false
section
open Go.RowKit
abbrev fZ(z:Int)(v:Value)(w:World):Prop:=∃g A n c,v= .agg #[.bool g,.slice A n c]∧ZR w (.agg #[.bool g,.slice A n c]) z
abbrev fT(r:Int)(fs:List (Key×Int))(v:Value)(w:World):Prop:=∃g A n c m,v= .agg #[.bool g,.slice A n c,.pointer m]∧TM w (.agg #[.bool g,.slice A n c,.pointer m]) r fs
abbrev fSZ(z:Int)(v:Value)(w:World):Prop:=∃q g A n c,v= .slice (some ⟨q,0,none⟩) 1 1∧Blk w q 30 #[.bool g,.slice A n c]∧ZR w (.agg #[.bool g,.slice A n c]) z
abbrev fST(r:Int)(fs:List (Key×Int))(v:Value)(w:World):Prop:=∃q g A n c m,v= .slice (some ⟨q,0,none⟩) 1 1∧Blk w q 33 #[.bool g,.slice A n c,.pointer m]∧TM w (.agg #[.bool g,.slice A n c,.pointer m]) r fs
section
variable{z r:Int}{fs:List (Key×Int)}{v:Value}{u u' V:World}
theorem fZ.pu(h:fZ z v u)(p:Pu u u'):fZ z v u':=by obtain⟨g,A,n,c,e,h⟩:=h;exact⟨g,A,n,c,e,h.pu p⟩
theorem fZ.ns(h:fZ z v u)(p:NS V u u'):fZ z v u':=by obtain⟨g,A,n,c,e,h⟩:=h;exact⟨g,A,n,c,e,h.ns p⟩
theorem fT.pu(h:fT r fs v u)(p:Pu u u'):fT r fs v u':=by obtain⟨g,A,n,c,m,e,h⟩:=h;exact⟨g,A,n,c,m,e,h.pu p⟩
theorem fSZ.pu(h:fSZ z v u)(p:Pu u u'):fSZ z v u':=by obtain⟨q,g,A,n,c,e,h,i⟩:=h;exact⟨q,g,A,n,c,e,h.pu p,i.pu p⟩
theorem fST.pu(h:fST r fs v u)(p:Pu u u'):fST r fs v u':=by obtain⟨q,g,A,n,c,m,e,h,i⟩:=h;exact⟨q,g,A,n,c,m,e,h.pu p,i.pu p⟩
theorem DJ.kp{w w':World}{p:Nat}{D:Nat→Value→World→Prop}{q:Int}{L:Nat→Bool}{y:Nat→Value}(h:DJ V p D q L y w)(o:∀j x u u',j<p→D j x u→NS V u u'→D j x u')(k:Nat)(i:L k=false)(B:Pu w w')
  (G:(k<p∧D k v w')∨(k=p∧∃g A n c K H J I,v= .tuple #[.agg #[.bool g,.slice A n c],.agg #[.bool K,.slice H J I],.int .i64 0]∧ZR w' (.agg #[.bool g,.slice A n c]) q)∨(k=p+1∧L p=true∧v=y p)∨(k=p+2∧L p=true∧∃x E C,y p= .tuple #[x,E,C]∧v=x)∨(k=p+3∧L p=true∧∃x E C,y p= .tuple #[x,E,C]∧v=E)∨(k=p+4∧L p=true∧v= .int .i64 0)∨((k=p+5∨k=p+6)∧v=zdD w.heap.size∧HZ w' w.heap.size)):DJ V p D q (zeg L k) (upd y k v) w':=by
 rcases G with⟨e,x⟩|⟨e,x⟩|⟨e,x⟩|⟨e,x⟩|⟨e,x⟩|⟨e,x⟩|⟨e,x⟩
 ·exact h.keep o k i B (fun _=>x) (fun e=>by omega) (fun e=>by omega) (fun e=>by omega) (fun e=>by omega) (fun e=>by omega) (fun e=>by omega) (by omega)
 ·exact h.keep o k i B (fun e=>by omega) (fun _=>x) (fun e=>by omega) (fun e=>by omega) (fun e=>by omega) (fun e=>by omega) (fun e=>by omega) (by omega)
 ·exact h.keep o k i B (fun e=>by omega) (fun e=>by omega) (fun _=>x) (fun e=>by omega) (fun e=>by omega) (fun e=>by omega) (fun e=>by omega) (by omega)
 ·exact h.keep o k i B (fun e=>by omega) (fun e=>by omega) (fun e=>by omega) (fun _=>x) (fun e=>by omega) (fun e=>by omega) (fun e=>by omega) (by omega)
 ·exact h.keep o k i B (fun e=>by omega) (fun e=>by omega) (fun e=>by omega) (fun e=>by omega) (fun _=>x) (fun e=>by omega) (fun e=>by omega) (by omega)
 ·exact h.keep o k i B (fun e=>by omega) (fun e=>by omega) (fun e=>by omega) (fun e=>by omega) (fun e=>by omega) (fun _=>x) (fun e=>by omega) (by omega)
 ·exact h.keep o k i B (fun e=>by omega) (fun e=>by omega) (fun e=>by omega) (fun e=>by omega) (fun e=>by omega) (fun e=>by omega) (fun _=>x) (by omega)
end
end
section
open Go.RowKit
def BB:Nat:=7000000
def RR:Nat:=30000000000
theorem zaB{n:Nat}(h:n<96000000000):2^n<4294967296^E3:=by
 have e:(2:Nat)^(32*E3)=(2^32)^E3:=Nat.pow_mul 2 32 E3;have i:(2:Nat)^32=4294967296:=by decide
 rw [i]at e;rw [←e];exact Nat.pow_lt_pow_right (by decide) (by unfold E3;omega)
theorem zbc{c m:Nat}(n:Nat)(i:c≤2^m):c*2^n≤2^(m+n):=by rw [Nat.pow_add];exact Nat.mul_le_mul_right _ i
theorem zbV{m n:Nat}(h:m≤n):2^m≤2^n:=Nat.pow_le_pow_right (by decide) h
theorem zdy(n:Nat):2^(n+1)=2^n*2:=Nat.pow_succ 2 n
theorem zf0(n:Nat):0<2^n:=Nat.pow_pos (by decide)
theorem zcx(m n:Nat):2^m*2^n=2^(m+n):=(Nat.pow_add 2 m n).symm
theorem zlh:Big (2^BB):=by have h:=zbc (c:=1100001) (m:=21) BB (by decide);have i:=zaB (n:=21+BB) (by unfold BB;omega);unfold Big;omega
structure zfo(NM:List Key):Prop where
 few:NM.length≤60
 short:∀k∈NM,k.length≤100
 plain:∀k∈NM,∀u∈k,u≠43
structure Fit(NM:List Key)(f:Nat)(l:List RowM):Prop where
 sys:zgx NM l
 min:za8 BB f l
 rest:zdt BB RR f l
 cnt:l.length+f≤2100
section
variable{NM:List Key}{f:Nat}{l:List RowM}
theorem Fit.up(h:Fit NM f l){r:RowM}(i:r∈l):zad (2^BB) r.fs:=fun p o=>by have j:=h.min.entry i p.1;rwa [zl (h.sys.rise r i) o]at j
theorem Fit.few(h:Fit NM f l)(j:zfo NM){r:RowM}(i:r∈l):r.fs.length≤60:=Nat.le_trans (zc7 NM r.fs (h.sys.rise r i) (h.sys.inN i)) j.few
theorem Fit.rest3(h:Fit NM f l){r:RowM}(i:r∈l):r.rest.natAbs<4294967296^E3:=Nat.lt_of_le_of_lt (h.rest.entry i) (zaB (by unfold RR;omega))
theorem Fit.good(h:Fit NM f l)(j:zfo NM){r:RowM}(i:r∈l):zou (2^BB) r where
 fs:=⟨h.up i,by have:=h.few j i;omega,h.sys.nz r i,fun p hp=>j.short _ (h.sys.inN i p hp)⟩
 rest:=h.rest3 i
theorem Fit.sub(h:Fit NM f l){k:List RowM}(j:∀r∈k,r∈l)(x:k.length≤l.length):Fit NM f k:=by refine⟨h.sys.sub fun r i=>⟨r,j r i,rfl⟩,h.min.sub fun r i=>⟨r,j r i,rfl⟩,?_,by have:=h.cnt;omega⟩;obtain⟨q,o,p⟩:=h.rest;exact⟨q,fun r i=>o r (j r i),p⟩
theorem Fit.le(h:Fit NM f l){g:Nat}(i:g≤f):Fit NM g l:=⟨h.sys,h.min.le i,h.rest.le i,by have:=h.cnt;omega⟩
theorem Fit.tidy(h:Fit NM f l)(o:zfo NM){k:List RowM}(j:k.Perm (zO (zi l).2)):Fit NM f k:=by
 have i:=h.sys.plain o.plain;have p:Fit NM f (zO (zi l).2):=⟨h.sys.tidy o.plain,h.min.tidy i h.sys.rise,h.rest.tidy i,by have:=zlv i;have:=h.cnt;omega⟩
 exact p.sub (fun r x=>j.mem_iff.1 x) (Nat.le_of_eq j.length_eq)
end
theorem zlP{v:Key→Int}{k l:List RowM}(j:k.Perm l):zR v k↔zR v l:=⟨fun h r i=>h r (j.mem_iff.2 i),fun h r i=>h r (j.mem_iff.1 i)⟩
theorem zn5{r:RowM}{fs:List (Key×Int)}(h:(zP r).of=some fs):fs≠[]:=by
 unfold zP at h;split at h
 ·split at h<;>cases h
 ·rename_i j;have o:r.fs≠[]:=fun e=>j (by rw [e];rfl);have i:∀d,zbI r.fs d≠[]:=fun d e=>o (List.map_eq_nil_iff.1 e);split at h
  ·split at h
   ·injection h with h;rw [←h];exact i _
   ·cases h
  ·split at h
   ·injection h with h;rw [←h];exact fun e=>i _ (List.map_eq_nil_iff.1 e)
   ·injection h with h;rw [←h];exact i _
theorem zn6{l:List RowM}(D:∀r∈l,Plain r.fs):∀t∈zO (zi l).2,t.fs≠[]:=by
 intro t i;unfold zO at i;obtain⟨e,E,i⟩:=List.mem_flatMap.1 i;have p:=zbq D;obtain⟨-,f,C,G⟩:=p.key e.1 e.2 ((zv p.rise).2 E);obtain⟨r,H,rfl⟩:=List.mem_map.1 C;have o:=zn5 G;have B:za9 e.2.fs (-1)≠[]:=fun e=>o (List.map_eq_nil_iff.1 e);rcases zaS e.2 with⟨x,_,j⟩|⟨x,y,_,_,_,_,j⟩|⟨x,y,_,_,_,_,j⟩|⟨x,y,_,_,_,_,j⟩|⟨x,_,_,_,j⟩|⟨x,_,_,_,j⟩|⟨_,_,_,j⟩<;>rw [j]at i
 ·rw [List.mem_singleton.1 i];exact o
 ·cases i
 ·rw [List.mem_singleton.1 i];exact o
 ·rcases List.mem_cons.1 i with i|i
  ·rw [i];exact o
  ·rw [List.mem_singleton.1 i];exact B
 ·rw [List.mem_singleton.1 i];exact o
 ·rw [List.mem_singleton.1 i];exact B
 ·cases i
theorem zde{fs:List (Key×Int)}(i:zx fs)(j:NZ fs){p:Key×Int}(h:p∈fs):factor fs p.1≠0:=by rw [zl i h];exact j p h
theorem zgd{p:Key×Int}{fs:List (Key×Int)}(j:zx (p::fs))(c:Key):factor (p::fs) c=if c=p.1 then p.2 else factor fs c:=by
 have x:=List.pairwise_cons.1 j;split
 ·rename_i e;rw [e];exact zl j (List.mem_cons_self ..)
 ·rename_i e;by_cases h:∃z,(c,z)∈fs
  ·obtain⟨z,y⟩:=h;rw [zl j (List.mem_cons_of_mem _ y),zl x.2 y]
  ·rw [zI j fun q i o=>?_,zI x.2 fun q i o=>h ⟨q.2,by rw [←o];exact i⟩];rcases List.mem_cons.1 i with rfl|i
   ·exact e o.symm
   ·exact h ⟨q.2,by rw [←o];exact i⟩
theorem zcb(c:Key):factor [] c=0:=rfl
def zc0(k:Key)(f:Int):List (Key×Int)→List (Key×Int)→List (Key×Int)
 |acc,[]=>acc
 |acc,p::fs=>zc0 k f (if p.1=k then acc else zG acc (zG [] [(p.1,1)] (p.2/f)) 1) fs
theorem zbf(k:Key)(z:Int):zx [(k,z)]:=List.pairwise_singleton ..
theorem zcP(k:Key)(n:Int)(c:Key):factor (zG [] [(k,1)] n) c=if c=k then n else 0:=by
 rw [zak _ _ List.Pairwise.nil (zbf k 1),zbt,zcb];split
 ·rw [Int.one_mul,Int.zero_add]
 ·rw [Int.zero_mul,Int.zero_add]
theorem zeU(k:Key)(n:Int):zx (zG [] [(k,1)] n):=zac _ _ List.Pairwise.nil
theorem zdS{k:Key}{f:Int}:∀(fs acc:List (Key×Int)),zx acc→zx (zc0 k f acc fs)
 | [],_,h=>h
 |p::fs,acc,h=>zdS fs _ (by split;exact h;exact zac _ _ h)
theorem zlq{k:Key}{f:Int}:∀(fs acc:List (Key×Int)),zx acc→NZ acc→NZ (zc0 k f acc fs)
 | [],_,_,h=>h
 |p::fs,acc,hr,h=>zlq fs _ (by split;exact hr;exact zac _ _ hr) (by split;exact h;exact zdE _ _ hr h)
theorem zbR{k:Key}{f:Int}:∀(fs acc:List (Key×Int)),zx fs→zx acc→∀c,factor (zc0 k f acc fs) c=factor acc c+if c=k then 0 else factor fs c/f
 | [],acc,_,_,c=>by show factor acc c=_;rw [zcb,Int.zero_ediv];split<;>omega
 |p::fs,acc,hr,ha,c=>by
  have j:=List.pairwise_cons.1 hr;have x:factor fs p.1=0:=zI j.2 fun q hq e=>by have:=j.1 q hq;rw [e]at this;exact zev _ this
  show factor (zc0 k f (if p.1=k then acc else zG acc (zG [] [(p.1,1)] (p.2/f)) 1) fs) c=_;by_cases e:p.1=k
  ·rw [if_pos e,zbR fs acc j.2 ha c,zgd hr];by_cases i:c=k
   ·rw [if_pos i,if_pos i]
   ·rw [if_neg i,if_neg i,if_neg (fun o=>i (o.trans e))]
  ·rw [if_neg e,zbR fs _ j.2 (zac _ _ ha) c,zak _ _ ha (zeU ..),zcP,zgd hr];by_cases i:c=p.1
   ·rw [if_pos i,if_pos i,if_neg (fun o=>e (i.symm.trans o)),if_neg (fun o=>e (i.symm.trans o)),i,x,Int.zero_ediv];omega
   ·rw [if_neg i,if_neg i,Int.zero_mul,Int.add_zero]
def zaR(k:Key)(t:RowM):Int:=if(factor t.fs k).natAbs=1 then t.rest* -(factor t.fs k)else -(t.rest/factor t.fs k)
def zai(k:Key)(t:RowM):List (Key×Int):=if(factor t.fs k).natAbs=1 then zG [] (zG t.fs (zG [] [(k,1)] (factor t.fs k)) (-1)) (-(factor t.fs k))else zG [(k,1)] (zc0 k (factor t.fs k) [] t.fs) (-1)
theorem zbH(k:Key)(t:RowM):zx (zai k t):=by
 unfold zai;split
 ·exact zac _ _ List.Pairwise.nil
 ·exact zac _ _ (zbf ..)
theorem zni(k:Key)(t:RowM):NZ (zai k t):=by
 unfold zai;split
 ·exact zdE _ _ List.Pairwise.nil NZ.nil
 ·exact zdE _ _ (zbf ..) fun q i=>by rw [List.mem_singleton.1 i];show(1:Int)≠0;decide
theorem zg3{k:Key}{t:RowM}(i:zx t.fs)(j:(factor t.fs k).natAbs=1)(c:Key):factor (zai k t) c=(factor t.fs c - (if c=k then factor t.fs k else 0))* -(factor t.fs k):=by
 unfold zai;rw [if_pos j,zak _ _ List.Pairwise.nil (zac _ _ i),zak _ _ i (zeU ..),zcP,zcb,Int.zero_add]
 congr 1
 split<;>omega
theorem zc5{k:Key}{t:RowM}(j:zx t.fs)(i:¬(factor t.fs k).natAbs=1)(c:Key):factor (zai k t) c=if c=k then 1 else -(factor t.fs c/factor t.fs k):=by unfold zai;rw [if_neg i,zak _ _ (zbf ..) (zdS _ _ List.Pairwise.nil),zbR _ _ j List.Pairwise.nil,zcb,zbt];split<;>omega
theorem zhL{k:Key}{t:RowM}(j:zx t.fs)(c:Key):(factor (zai k t) c).natAbs≤(factor t.fs c).natAbs+1∧(factor (zai k t) c≠0→factor t.fs c≠0∨c=k):=by
 by_cases i:(factor t.fs k).natAbs=1
 ·rw [zg3 j i];by_cases e:c=k
  ·rw [if_pos e,e,Int.sub_self,Int.zero_mul];exact⟨Nat.zero_le _,fun h=>absurd rfl h⟩
  ·rw [if_neg e,Int.sub_zero];refine⟨?_,fun h=> .inl fun e2=>h (by rw [e2,Int.zero_mul])⟩;rw [Int.natAbs_mul,Int.natAbs_neg,i,Nat.mul_one];omega
 ·rw [zc5 j i];by_cases e:c=k
  ·rw [if_pos e];exact⟨by show 1≤_;omega,fun _=> .inr e⟩
  ·rw [if_neg e];refine⟨?_,fun h=> .inl fun e2=>h (by rw [e2,Int.zero_ediv];rfl)⟩;rw [Int.natAbs_neg];have:=zbx (factor t.fs c) (factor t.fs k);omega
theorem zcY(k:Key)(t:RowM):(zaR k t).natAbs≤t.rest.natAbs:=by
 unfold zaR;split
 ·rename_i i;rw [Int.natAbs_mul,Int.natAbs_neg,i,Nat.mul_one];exact Nat.le_refl _
 ·rw [Int.natAbs_neg];exact zbx _ _
theorem zrL{k:Key}{t:RowM}(j:zx t.fs)(o:factor t.fs k≠0):∀c,(opq (zmE (zai k t) k) k (factor t.fs) c).natAbs≤(factor t.fs k).natAbs:=by
 by_cases i:(factor t.fs k).natAbs=1
 ·exact zpd i (zg3 j i)
 ·exact zpX o (by rw [zc5 j i,if_pos rfl]) fun c p=>by rw [zc5 j i,if_neg p]
section
variable{NM:List Key}{f:Nat}{l:List RowM}{t:RowM}{k:Key}
theorem Fit.eqNames(h:Fit NM f l)(i:t∈l)(j:factor t.fs k≠0):∀c,factor (zai k t) c≠0→c∈NM:=fun c hc=>by
 rcases(zhL (h.sys.rise t i) c).2 hc with h1|h1
 ·exact h.sys.nm t i c h1
 ·rw [h1];exact h.sys.nm t i k j
theorem Fit.eqFew(h:Fit NM f l)(x:zfo NM)(j:t∈l)(i:factor t.fs k≠0):(zai k t).length≤60:=Nat.le_trans (zc7 NM _ (zbH k t) fun p o=>h.eqNames j i p.1 (zde (zbH k t) (zni k t) o)) x.few
theorem Fit.eqUp(h:Fit NM f l)(i:t∈l):zad (2^(BB+1)) (zai k t):=fun p o=>by have j:=(zhL (k:=k) (h.sys.rise t i) p.1).1;rw [zl (zbH k t) o]at j;have y:=h.min.entry i p.1;have B:=zdy BB;have x:=zf0 BB;omega
theorem Fit.eqRest3(h:Fit NM f l)(i:t∈l):(zaR k t).natAbs<4294967296^E3:=Nat.lt_of_le_of_lt (zcY k t) (h.rest3 i)
theorem Fit.put(h:Fit NM (f+1) l)(p:zfo NM)(i:t∈l)(j:factor t.fs k≠0):Fit NM f (l.map (zeR k (zaR k t) (zai k t))) where
 sys:=h.sys.put (zbH k t) (h.sys.nm t i k j) (h.eqNames i j)
 min:=h.min.put h.sys.rise (zbH k t) i j (zrL (h.sys.rise t i) j)
 rest:=h.rest.put (fun r o c=>h.min.entry o c) i (zcY k t)
 cnt:=by rw [List.length_map];have:=h.cnt;omega
theorem Fit.putOk(h:Fit NM f l)(j:zfo NM)(i:t∈l)(o:factor t.fs k≠0):∀r∈l,zo0 (2^BB) (2^(BB+1)) r.fs (zai k t) r.rest (zaR k t):=fun r hr=>by
 have D:=zbc (c:=1100000) (m:=21) (BB+1+BB) (by decide);have p:=zcx (BB+1) BB;have y:=zbV (m:=BB+1) (n:=21+(BB+1+BB)) (by omega);have B:=zdy BB;have C:=zdy (21+(BB+1+BB));have x:=zaB (n:=21+(BB+1+BB)+1) (by unfold BB;omega);refine⟨h.up hr,h.eqUp i,?_,zlh,?_,?_,h.rest3 hr,h.eqRest3 i⟩
 ·have:=h.few j hr;have:=h.eqFew j i o;omega
 ·rw [p];omega
 ·exact zaB (by unfold BB;omega)
theorem Fit.eqSome(h:Fit NM f l)(j:t∈l)(p:t.eq=true)(x:factor t.fs k≠0):za4 (l.map (zeR k (zaR k t) (zai k t)))↔za4 l:=by
 have o:=h.sys.rise t j;by_cases i:(factor t.fs k).natAbs=1
 ·refine zoE h.sys.rise j p i (by unfold zaR;rw [if_pos i]) fun v=>?_;unfold zai;rw [if_pos i,zbw v _ _ List.Pairwise.nil,zbw v _ _ o,zbw v _ _ List.Pairwise.nil];simp only [zk];rw [Int.zero_add,Int.zero_add,Int.one_mul,Int.add_zero,Int.neg_one_mul,Int.mul_comm,Int.sub_eq_add_neg]
 ·exact zmj h.sys.rise (zbH k t) (by rw [zc5 o i,if_pos rfl])
theorem Fit.out(h:Fit NM (f+1) l)(B:zfo NM)(p:∀r∈l,r.eq=false)(o:t∈l)(j:factor t.fs k≠0){dark:Bool}{g:Nat}(y:g+(zm k 0 l).length*(zm k 1 l).length≤f):Fit NM g (zhh k dark l):=by have i:=Fit.le (g:=g+1) h (by omega);exact⟨i.sys.out,i.min.out i.sys.rise p o j,i.rest.out (fun r x c=>i.min.entry x c) i.sys.rise,by have:=zqU k dark l;have:=h.cnt;omega⟩
theorem Fit.near(h:Fit NM (f+1) l){a:RowM}{i:Nat}(j:a∈l){m:Int}(x:0≤m)(o:(i:Int)≤zl0 k m a):Fit NM f (l++[zhi a i]) where
 sys:=h.sys.near j
 min:=(h.min.near j).le (by omega)
 rest:=h.rest.near (fun r p c=>h.min.entry p c) j x o
 cnt:=by have:=h.cnt;simp;omega
end
def VB(f:Nat):Nat:=RR+f*(BB+10)
theorem zib{v:Key→Int}{K V:Nat}(i:∀k,(v k).natAbs≤V):∀{fs:List (Key×Int)},zad K fs→(zk v fs).natAbs≤fs.length*(V*K)
 | [],_=>Nat.zero_le _
 |p::fs,h=>by
  have o:=zib i (fs:=fs) fun q hq=>h q (List.mem_cons_of_mem _ hq);have j:(p.2*v p.1).natAbs≤V*K:=by rw [Int.natAbs_mul,Nat.mul_comm];exact Nat.mul_le_mul (i _) (h p (List.mem_cons_self ..))
  rw [zk,List.length_cons,Nat.succ_mul];omega
theorem zkU{f a n:Nat}(i:n≤61)(y:a≤2^RR):a+n*(2^VB f*2^(BB+1))≤2^VB (f+1):=by rw [zcx];have o:=Nat.mul_le_mul_right (2^(VB f+(BB+1))) i;have p:=zbc (c:=62) (m:=6) (VB f+(BB+1)) (by decide);have x:=zbV (m:=RR) (n:=VB f+(BB+1)) (by unfold VB;omega);have j:=zbV (m:=6+(VB f+(BB+1))) (n:=VB (f+1)) (by unfold VB;rw [Nat.succ_mul];omega);omega
theorem zrE{f:Nat}(h:f≤2100):2^VB f<4294967296^E3:=zaB (by
 have:=Nat.mul_le_mul_right (BB+10) h;unfold VB;unfold BB RR at*
 omega)
end
section
open Go.RowKit
structure zbQ(NM:List Key)(f:Nat)(l:List RowM)(ms:List (Key×Int)):Prop where
 rise:zx ms
 nm:∀p∈ms,p.1∈NM
 up:zad (2^VB f) ms
 says:zR (factor ms) l
theorem zqI{f g:Nat}(h:g≤f):VB g≤VB f:=by have:=Nat.mul_le_mul_right (BB+10) h;unfold VB;omega
section
variable{NM:List Key}{f g:Nat}{l:List RowM}{ms:List (Key×Int)}{k:Key}{t:RowM}
theorem zbQ.le(h:zbQ NM g l ms)(i:g≤f):zbQ NM f l ms:=⟨h.rise,h.nm,fun p j=>Nat.le_trans (h.up p j) (zbV (zqI i)),h.says⟩
theorem zbQ.few(h:zbQ NM f l ms)(i:zfo NM):ms.length≤60:=Nat.le_trans (zc7 NM ms h.rise fun p j=>h.nm p j) i.few
theorem zbQ.abs(h:zbQ NM f l ms)(k:Key):(factor ms k).natAbs≤2^VB f:=h.up.factor k
theorem zbQ.sub(h:zbQ NM f l ms){k:List RowM}(i:∀r∈k,r∈l):zbQ NM f k ms:=⟨h.rise,h.nm,h.up,fun r hr=>h.says r (i r hr)⟩
theorem zbQ.nil:zbQ NM f [] []:=⟨List.Pairwise.nil,fun p i=>(by cases i),zad.nil _,fun r hr=>(by cases hr)⟩
theorem zks(h:zx ms)(k:Key)(x:Int):factor (zau ms k x)=zdf (factor ms) k x:=funext fun c=>zhI h k x c
theorem zbQ.put{j:List RowM}(h:zbQ NM f j ms)(B:k∈NM){x:Int}(y:x.natAbs≤2^VB (f+1))(o:zR (zdf (factor ms) k x) l):zbQ NM (f+1) l (zau ms k x):=by
 refine⟨zN h.rise k x,fun p i=>?_,fun p i=>?_,by rw [zks h.rise];exact o⟩
 ·rcases zfn i with rfl|i
  ·exact B
  ·exact h.nm p i
 ·rcases zfn i with rfl|i
  ·exact y
  ·exact Nat.le_trans (h.up p i) (zbV (zqI (by omega)))
theorem zq9(p:∀c,(factor ms c).natAbs≤2^VB f){r:Int}{fs:List (Key×Int)}(i:zad (2^(BB+1)) fs)(j:fs.length≤61)(o:r.natAbs≤2^RR):(r+zk (factor ms) fs).natAbs≤2^VB (f+1):=by have x:=zkU (f:=f) j o;have y:=zib p i;omega
theorem zbQ.eq(h:zbQ NM f (l.map (zeR k (zaR k t) (zai k t))) ms)(i:Fit NM g l)(p:zfo NM)(j:t∈l)(o:factor t.fs k≠0):zbQ NM (f+1) l (zau ms k (zaR k t+zk (factor ms) (zai k t))):=h.put (i.sys.nm t j k o) (zq9 h.abs (i.eqUp j) (by have:=i.eqFew p j o;omega) (Nat.le_trans (zcY k t) (i.rest.entry j))) ((zda i.sys.rise).1 h.says)
theorem zqc(x:∀c,(factor ms c).natAbs≤2^VB f)(j:Fit NM g l)(B:zfo NM)(i:t∈l):(zfl (factor ms) k t).natAbs≤2^VB (f+1):=by
 have o:zad (2^(BB+1)) t.fs:=fun p hp=>Nat.le_trans (j.up i p hp) (zbV (by omega));have C:=zib x o;have D:(factor t.fs k*factor ms k).natAbs≤2^VB f*2^(BB+1):=by rw [Int.natAbs_mul,Nat.mul_comm];exact Nat.mul_le_mul (x k) (o.factor k)
 have y:=zkU (f:=f) (n:=t.fs.length+1) (by have:=j.few B i;omega) (j.rest.entry i);unfold zfl zcu;rw [Nat.succ_mul]at y;omega
theorem zqP(x:∀c,(factor ms c).natAbs≤2^VB f)(j:Fit NM g l)(p:zfo NM)(i:t∈l):(zbg (factor ms) k t).natAbs≤2^VB (f+1):=by
 have y:=zqc (k:=k) x j p i;have o:=zbx (-(zfl (factor ms) k t)) ((factor t.fs k).natAbs:Int);rw [Int.natAbs_neg]at o;have B:(zbg (factor ms) k t).natAbs=(-(zfl (factor ms) k t)/((factor t.fs k).natAbs:Int)).natAbs:=by
  unfold zbg;dsimp only;split
  ·exact Int.natAbs_neg _
  ·rfl
 omega
theorem zjc{v:Key→Int}:∀(l:List RowM) (o:Option Int) (x:Int),l.foldl (zdG v k) o=some x→o=some x∨∃r∈l,zbg v k r=x
 | [],o,x,h=> .inl h
 |r::l,o,x,h=>by
  rcases zjc l _ x h with h|⟨q,i,e⟩
  ·unfold zdG at h
   cases o with
   |none=>injection h with h;exact .inr ⟨r,List.mem_cons_self ..,h⟩
   |some y=>
    dsimp only at h;injection h with h;split at h<;>split at h
    ·exact .inr ⟨r,List.mem_cons_self ..,h⟩
    ·exact .inl (by rw [h])
    ·exact .inr ⟨r,List.mem_cons_self ..,h⟩
    ·exact .inl (by rw [h])
  ·exact .inr ⟨q,List.mem_cons_of_mem _ i,e⟩
theorem zlj(p:∀c,(factor ms c).natAbs≤2^VB f)(i:Fit NM g l)(j:zfo NM){s:Nat}{x:Int}(h:zeL (factor ms) k (zm k s l)=some x):x.natAbs≤2^VB (f+1):=by
 rcases zjc _ _ _ h with h|⟨r,o,rfl⟩
 ·cases h
 ·exact zqP p i j (zJ.1 o).1
theorem zqA(o:∀c,(factor ms c).natAbs≤2^VB f)(i:Fit NM g l)(j:zfo NM):(zdv (factor ms) k l).natAbs≤2^VB (f+1):=by
 unfold zdv;split
 ·rename_i x e;exact zlj o i j e
 ·cases e:zeL (factor ms) k (zm k 1 l)with
  |none=>exact Nat.zero_le _
  |some x=>exact zlj o i j e
theorem zbQ.fill(h:zbQ NM f (zhh k (!zel k l) l) ms)(j:Fit NM g l)(p:zfo NM)(o:∀r∈l,r.eq=false)(x:k∈NM):zbQ NM (f+1) l (zau ms k (zdv (factor ms) k l)):=by
 refine h.put x (zqA h.abs j p) ?_;have i:=h.says
 cases hx:zel k l with
 |true=>rw [hx]at i;exact znD j.sys.rise o hx i
 |false=>rw [hx]at i;exact zpu j.sys.rise o i
end
end
section
open Go.RowKit
theorem zla:∀{m n:Nat},m≤n→fac m≤fac n
 |m,0,h=>by rw [Nat.le_zero.1 h];exact Nat.le_refl _
 |m,n+1,h=>by
  rcases Nat.lt_or_ge m (n+1)with h1|h1
  ·exact Nat.le_trans (zla (Nat.le_of_lt_succ h1)) (Nat.le_mul_of_pos_left _ (Nat.succ_pos n))
  ·rw [Nat.le_antisymm h h1];exact Nat.le_refl _
section
variable{α:Type}
theorem zi7{S:(α→Int)→Prop}{M:Nat}(i:∀r,S r→∀c,(r c).natAbs≤M):∀R:List (α→Int),(∀r∈R,S r)→∀T,(zaK R T).natAbs≤fac R.length*M^R.length
 | [],_,[]=>by simp [zaK,fac]
 | [],_,c::T=>by rw [zfm];exact Nat.zero_le _
 |r::R,h,T=>by
  by_cases j:(r::R).length=T.length
  ·have p:=zi7 i R fun q hq=>h q (List.mem_cons_of_mem _ hq);have o:=zqH (r:=r) (K:=M) (P:=fac R.length*M^R.length) T (zaK R) (fun c _=>i r (h r (List.mem_cons_self ..)) c) p;rw [zT];refine Nat.le_trans o (Nat.le_of_eq ?_);rw [←j,List.length_cons,Nat.pow_succ];show(R.length+1)*(M*(fac R.length*M^R.length))=(R.length+1)*fac R.length*(M^R.length*M)
   rw [Nat.mul_assoc,Nat.mul_left_comm M,Nat.mul_comm M]
  ·rw [zg5 _ _ j];exact Nat.zero_le _
theorem zln{β:Type}:∀(R X:List β),(∀r∈R,r∈X)→X.length<R.length→∃r j i R',R=j++r::(i++r::R')
 | [],X,_,h=>absurd h (Nat.not_lt_zero _)
 |r::R,X,hX,h=>by
  by_cases o:r∈R
  ·obtain⟨a,b,e⟩:=List.append_of_mem o;exact⟨r,[],a,b,by rw [e];rfl⟩
  ·obtain⟨a,b,rfl⟩:=List.append_of_mem (hX r (List.mem_cons_self ..));have p:∀q∈R,q∈a++b:=fun q hq=>by
    have x:=hX q (List.mem_cons_of_mem _ hq);rcases List.mem_append.1 x with h3|h3
    ·exact List.mem_append_left _ h3
    ·rcases List.mem_cons.1 h3 with h4|h4
     ·rw [h4]at hq;exact absurd hq o
     ·exact List.mem_append_right _ h4
   obtain⟨q,j,i,R',e⟩:=zln R (a++b) p (by rw [List.length_append]at h⊢;rw [List.length_cons,List.length_cons]at h;omega);exact⟨q,r::j,i,R',by rw [e];rfl⟩
theorem Box.start{S:(α→Int)→Prop}{m:Nat}{X:List (α→Int)}(E:∀r,S r→r∈X)(I:X.length≤6)(C:∀r,S r→∀c,(r c).natAbs≤2^m):Box S 6 (2^(10+6*m)):=by
 have i:∀R:List (α→Int),(∀r∈R,S r)→6<R.length→∀T,zaK R T=0:=fun R j o T=>by obtain⟨r,y,x,R',e⟩:=zln R X (fun q p=>E q (j q p)) (by omega);rw [e];exact zm5 r y x R' T
 refine⟨fun R j T=>?_,i⟩;by_cases o:6<R.length
 ·rw [i R j o];exact Nat.zero_le _
 ·have J:=zi7 C R j T;have D:=zla (m:=R.length) (n:=6) (by omega);have B:(2^m)^R.length≤2^(6*m):=by
   rw [←Nat.pow_mul,Nat.mul_comm 6];exact zbV (Nat.mul_le_mul_left _ (by omega))
  have G:=Nat.mul_le_mul D B;have H:=zbc (c:=fac 6) (m:=10) (6*m) (by decide);omega
end
theorem zgE{NM:List Key}{l X:List RowM}{f:Nat}(x:zgx NM l)(B:∀r∈l,r∈X)(y:X.length≤6)(o:∀r∈l,∀c,(factor r.fs c).natAbs≤2^100)(i:∀r∈l,r.rest.natAbs≤2^100)(C:l.length≤12)(j:f≤2000):Fit NM f l where
 sys:=x
 min:=by
  refine⟨6,10+6*100,by omega,Box.start (X:=X.map fun r=>factor r.fs) (fun q hq=>?_) (by rw [List.length_map];exact y) fun q hq c=>?_,?_⟩
  ·obtain⟨r,i,rfl⟩:=hq;exact List.mem_map.2 ⟨r,B r i,rfl⟩
  ·obtain⟨r,i,rfl⟩:=hq;exact o r i c
  ·have p:fac 6=720:=by decide
   rw [p];unfold BB;omega
 rest:=⟨100,i,by
  have:=Nat.mul_le_mul_right (2*BB+3) j;unfold BB RR at*
  omega⟩
 cnt:=by omega
def zr4(k nk:Key)(l:List RowM):List RowM:=l.map (zeR k 0 [(nk,1)])
theorem zhx{k i:Key}{r:RowM}(j:zx r.fs)(c:Key):factor (zeR k 0 [(i,1)] r).fs c=factor r.fs c - ((if c=k then 1 else 0) - (if c=i then 1 else 0))*factor r.fs k:=by rw [zeD j (zbf ..)];show factor r.fs c - zmE [(i,1)] k c*factor r.fs k=_;unfold zmE;rw [zbt]
theorem zpp{k i:Key}{l:List RowM}(o:∀r∈l,zx r.fs)(E:i≠k)(y:∀r∈l,factor r.fs i=0):za4 (zr4 k i l)↔za4 l:=by
 constructor
 ·rintro⟨v,j⟩;exact⟨_,(zda o).1 j⟩
 ·rintro⟨v,j⟩;refine⟨zdf v i (v k),(zda o).2 fun r p=>?_⟩;have e:zdf (zdf v i (v k)) k (0+zk (zdf v i (v k)) [(i,1)])=zdf v i (v k):=funext fun c=>by
   have B:zdf v i (v k) i=v k:=if_pos rfl;have C:zdf v i (v k) k=v k:=if_neg fun e=>E e.symm;show(if c=k then 0+(1*zdf v i (v k) i+0)else zdf v i (v k) c)=_;split
   ·rename_i e;rw [e,B,C];omega
   ·rfl
  rw [e];have D:zcu (zdf v i (v k)) r=zcu v r:=by unfold zcu;rw [zdA (o r p),y r p,Int.zero_mul,Int.add_zero]
  have x:=j r p;unfold zaF at x⊢;rw [D];exact x
theorem zqQ{k i:Key}{r:RowM}{m:Nat}(j:zx r.fs)(h:∀c,(factor r.fs c).natAbs≤2^m)(c:Key):(factor (zeR k 0 [(i,1)] r).fs c).natAbs≤2^(m+1):=by rw [zhx j,Nat.pow_succ];have o:=h c;have p:=h k;split<;>split<;>simp<;>omega
def zbl(i:Nat):Key:=List.replicate 45 0++[UInt8.ofNat (90 - i)]
theorem zd5(i:Nat):(zbl i).length=46:=by simp [zbl]
theorem zlF{i j:Nat}(y:i≤40)(B:j≤40)(h:zbl i=zbl j):i=j:=by
 have o: [UInt8.ofNat (90 - i)]= [UInt8.ofNat (90 - j)]:=List.append_cancel_left h;have p:UInt8.ofNat (90 - i)=UInt8.ofNat (90 - j):=by injection o
 have x:=congrArg UInt8.toNat p;rw [UInt8.toNat_ofNat',UInt8.toNat_ofNat',Nat.mod_eq_of_lt (by omega),Nat.mod_eq_of_lt (by omega)]at x;omega
theorem zjj{i:Nat}(x:i≤40):∀u∈zbl i,u≠43:=by
 intro u j e;subst e;rcases List.mem_append.1 j with h|h
 ·have:=(List.mem_replicate.1 h).2
  revert this
  decide
 ·have o:=List.mem_singleton.1 h;have p:=congrArg UInt8.toNat o;rw [UInt8.toNat_ofNat',Nat.mod_eq_of_lt (by omega)]at p;have:(43:UInt8).toNat=43:=rfl;omega
structure Ren(NM:List Key)(l0:List RowM)(i:Nat)(l:List RowM):Prop where
 sys:zgx NM l
 abs:∀r∈l,∀c,(factor r.fs c).natAbs≤2^(50+i)
 rest:∀r∈l,r.rest.natAbs≤2^100
 some:za4 l↔za4 l0
 fresh:∀r∈l,∀j,i≤j→j≤40→factor r.fs (zbl j)=0
 len:l.length=l0.length
theorem Ren.next{NM:List Key}{D l:List RowM}{i:Nat}{k:Key}(h:Ren NM D i l)(E:i≤40)(H:k∈NM)(G:zbl i∈NM)(I:k.length≤40):Ren NM D (i+1) (zr4 k (zbl i) l) where
 sys:=h.sys.put (zbf ..) H fun c B=>by
  rw [zbt]at B;split at B
  ·rename_i e;rw [e];exact G
  ·exact absurd rfl B
 abs:=fun r p c=>by obtain⟨q,o,rfl⟩:=List.mem_map.1 p;exact zqQ (h.sys.rise q o) (h.abs q o) c
 rest:=fun r p=>by obtain⟨q,o,rfl⟩:=List.mem_map.1 p;show(q.rest+0*factor q.fs k).natAbs≤_;rw [Int.zero_mul,Int.add_zero];exact h.rest q o
 some:=by
  have x:zbl i≠k:=fun e=>by have:=zd5 i;rw [e]at this;omega
  rw [zpp h.sys.rise x fun r p=>h.fresh r p i (Nat.le_refl _) E];exact h.some
 fresh:=fun r p j J y=>by
  obtain⟨q,o,rfl⟩:=List.mem_map.1 p;have x:zbl j≠k:=fun e=>by have:=zd5 j;rw [e]at this;omega
  have C:zbl j≠zbl i:=fun e=>by have:=zlF y E e;omega
  rw [zhx (h.sys.rise q o),if_neg x,if_neg C,h.fresh q o j (by omega) y,Int.sub_self,Int.zero_mul];rfl
 len:=by unfold zr4;rw [List.length_map,h.len]
end
section
open Go.RowKit
abbrev zgS(w:World)(b F U:Nat):Prop:=Blk w b 137 #[.int .i64 (F:Int),.int .i64 (U:Int)]
section
variable{w w':World}{b F U:Nat}
theorem ZR.sv{v:Value}{z:Int}(h:ZR w v z)(j:zgS w b F U)(i:Fr (fun k=>k=b) w w'):ZR w' v z:=h.frBlk j (by simp) i
theorem zH.sv{L:List (Key×Part)}{fs:List (Key×Int)}(h:zH w L fs)(j:zgS w b F U)(i:Fr (fun k=>k=b) w w'):zH w' L fs:=h.frT i (zh j (by decide))
theorem Sl.sv{k n c:Nat}{A:Option Addr}{j:List Value}(h:Sl w k A n c j)(B:0<k)(y:∀u∈j,∀z:Int,u≠ .int .i64 z)(x:zgS w b F U)(o:Fr (fun k=>k=b) w w'):Sl w' k A n c j:=h.fr o (h.ne_blk B x fun u p i=>by simp at i;rcases i with i|i<;>exact y u p _ i)
theorem zms(L:List RawR):∀u∈cat RawR.cells L,∀z:Int,u≠ .int .i64 z:=by intro u i z e;unfold cat at i;obtain⟨p,_,j⟩:=List.mem_flatMap.1 i;simp [RawR.cells]at j;subst e;rcases j with h|h|h|h<;>cases h
theorem Sl.ne_head{k n c g:Nat}{t:TypeId}{A:Option Addr}{o:List Value}{p:Array Value}(h:Sl w k A n c o)(H:0<k)(I:Blk w g t p)(C:∀u,o[0]?=some u→u∉p.toList):0<n→∀b off,A=some ⟨b,off,none⟩→¬b=g:=by
 intro y b off E e;obtain⟨b',G,j,J,D⟩:=h.2.2 y;rw [E]at j;injection j with j;injection j with e1 e2;subst e1 e2 e;have B:0<o.length:=by rw [h.1];exact Nat.mul_pos y H
 have x:=D 0 _ (List.getElem?_eq_getElem B);rw [I.cell]at x;refine C _ (List.getElem?_eq_getElem B) ?_;have:=List.mem_of_getElem? (l:=p.toList) (i:=off+0) (a:=o[0]) (by simpa using x);exact this
theorem zoD(L:List (Key×Part)):∀u,(kps vcZ L)[0]?=some u→∃s,u= .string s:=by
 intro u i
 cases L with
 |nil=>simp [kps]at i
 |cons p L=>simp [kps]at i;exact⟨_,i.symm⟩
theorem MRZ.frB{m g:Nat}{t:TypeId}{y:Array Value}{L:List (Key×Part)}(h:MRZ w m L)(p:Blk w g t y)(C:126≠t)(x:∀s,Value.string s∉y.toList)(i:Fr (fun k=>k=g) w w'):MRZ w' m L:=by obtain⟨A,n,c,j,o,D⟩:=h;exact⟨A,n,c,j.fr i (j.ne_ p C),o.fr i (o.ne_head (by decide) p fun u B=>by obtain⟨s,rfl⟩:=zoD L u B;exact x s),D⟩
theorem TM.frB{g:Nat}{t:TypeId}{y:Array Value}{v:Value}{rest:Int}{fs:List (Key×Int)}(h:TM w v rest fs)(p:Blk w g t y)(E:126≠t)(j:t≠169)(x:∀s,Value.string s∉y.toList)(o:Fr (fun k=>k=g) w w'):TM w' v rest fs:=by
 obtain⟨q,A,n,c,m,G,H,i⟩:=h;refine⟨q,A,n,c,m,G,H.frT o (zh p j),?_⟩;rcases i with i|⟨D,L,i,B,C⟩
 ·exact .inl i
 ·exact .inr ⟨D,L,i,B.frB p E x o,C.frT o (zh p j)⟩
theorem TM.sv{v:Value}{rest:Int}{fs:List (Key×Int)}(h:TM w v rest fs)(j:zgS w b F U)(i:Fr (fun k=>k=b) w w'):TM w' v rest fs:=h.frB j (by decide) (by decide) (by simp) i
theorem zF.sv{L:List RawR}{l:List RowM}(h:zF w L l)(x:zgS w b F U)(p:Fr (fun k=>k=b) w w'):zF w' L l:=⟨h.1,fun i q r j o=>⟨(h.2 i q r j o).1,(h.2 i q r j o).2.sv x p⟩⟩
theorem SlR.sv{A:Option Addr}{n c:Nat}{L:List RawR}(h:SlR w A n c L)(j:zgS w b F U)(i:Fr (fun k=>k=b) w w'):SlR w' A n c L:=Sl.sv h (by decide) (zms L) j i
end
inductive zjM:Nat→List RowM→Prop
 |bad {f:Nat} {l:List RowM}:((zi l).1&&zcH (zi l).2)=false→zjM (f+1) l
 |none {f:Nat} {l:List RowM}:((zi l).1&&zcH (zi l).2)=true→zO (zi l).2= []→zjM (f+1) l
 |one {f:Nat} {l:List RowM} {t:RowM}:((zi l).1&&zcH (zi l).2)=true→zO (zi l).2= [t]→t.eq=true→(∀k,factor t.fs k≠0→zjM f ([t].map (zeR k (zaR k t) (zai k t))))→zjM (f+1) l
def zat (NM : List Key) (f : Nat) (l : List RowM) (E : Prop) (sb F U : Nat) (w : World) (e : Ending) (w' : World) : Prop :=
  ∃ U', U ≤ U' ∧ U' ≤ F ∧ zgS w' sb F U' ∧ Fr (fun k => k = sb) w w' ∧
    ((∃ mb r L ms, e = .returned (.tuple #[.int .i64 1, .pointer (some ⟨mb, 0, .none⟩)]) ∧ MOZ w' w.heap.size mb r L ∧ zH w' L ms ∧ zbQ NM f l ms ∧ U < U') ∨
     (∃ p, e = .returned (.tuple #[.int .i64 2, .pointer p]) ∧ ¬ za4 l ∧ U < U') ∨
     (∃ p, e = .returned (.tuple #[.int .i64 3, .pointer p]) ∧ ¬ E))
def zer(d:Nat):Prop:=∀(NM:List Key) (l:List RowM) (A:Option Addr) (n c:Nat) (L:List RawR) (sb F U:Nat) (w:World),zfo NM→Fit NM (F - U) l→U≤F→F≤2000→F - U<d→zgS w sb F U→SlR w A n c L→zF w L l→Calls Tryz.prog 61 #[.pointer (some ⟨sb,0,none⟩),.slice A n c] w (zat NM (F - U) l (zjM (F - U) l) sb F U w)
end
end Go.Proofs.YtckfnbckoclhpaaGreatDoor

/- Rows. -/
import Derived.Test.YtckfnbckoclhpaaGreatDoorE17
import Derived.Test.YtckfnbckoclhpaaGreatDoorE15
import Derived.Test.YtckfnbckoclhpaaGreatDoorE10
import Derived.Deep.RegionHeld3
namespace Go.Proofs.YtckfnbckoclhpaaGreatDoor
set_option linter.unusedVariables false
set_option linter.unusedSimpArgs false
set_option maxRecDepth 100000
set_option maxHeartbeats 16000000
section
open Go.RowKit
theorem MOP.typed{w:World}{base b:Nat}{r:Option Nat}{L:List (Key×Nat)}(h:MOP w base b r L):∀g,(g=b∨r=some g)→base≤g∧∃t cs fz,w.heap[g]?=some (.cells cs t fz)∧(t=153∨t=102):=by
 have z:=h;obtain⟨A,n,c,p,x,j,v⟩:=h;rintro g (rfl|i)
 ·exact⟨v.1,_,_,_,p,.inl rfl⟩
 ·refine⟨(z.row g i).1,?_⟩;rcases x.2 with⟨k,_⟩|⟨y,C,B,k,_,o,_⟩
  ·rw [k]at j;rw [←j]at i
   cases i
  ·rw [k]at j;rw [←j]at i;have e:y=g:=by injection i
   subst e;exact⟨_,_,_,o,.inr rfl⟩
theorem MOP.apart{w:World}{base b g:Nat}{t:TypeId}{p:Array Value}{r:Option Nat}{L:List (Key×Nat)}(h:MOP w base b r L)(k:Blk w g t p)(o:t≠153∧t≠102):¬(g=b∨r=some g):=fun e=>by
 obtain⟨_,t',v,x,i,j⟩:=h.typed g e;unfold Blk at k;rw [k]at i;injection i with i;injection i with _ i;rw [←i]at j;rcases j with h1|h1
 ·exact o.1 h1
 ·exact o.2 h1
theorem MOP.tt{w:World}{base b:Nat}{r:Option Nat}{L:List (Key×Nat)}(h:MOP w base b r L):∀g,(g=b∨r=some g)→base≤g∧∃t j i,w.heap[g]?=some (.cells j t i)∧Tt t:=fun g hg=>by
 obtain⟨a,t,j,i,e,k⟩:=h.typed g hg;refine⟨a,t,j,i,e,?_⟩;rcases k with rfl|rfl
 ·exact .inl rfl
 ·exact .inr (.inl rfl)
def zec(ps:List (Key×Pr))(fs:List (Key×Int)):List (Key×Pr):=if there ps (zy 0 fs)then ps else zau ps (zy 0 fs) ⟨fs,none,none,none⟩
theorem zhv{ps:List (Key×Pr)}(h:zx ps)(fs:List (Key×Int)):zx (zec ps fs):=by
 unfold zec;split
 ·exact h
 ·exact zN h _ _
theorem zd3{ps:List (Key×Pr)}(h:zx ps)(fs:List (Key×Int)):zae (zec ps fs) (zy 0 fs)=some (zz ps fs):=by
 unfold zec zz;split
 ·rename_i i;obtain⟨v,j⟩:=(zD h _).1 i;unfold zae;rw [i,if_pos rfl,j];rfl
 ·rename_i i;rw [zbu h,if_pos rfl,zhP (by simpa using i)];rfl
theorem zew{ps:List (Key×Pr)}(h:zx ps)(fs:List (Key×Int)):there (zec ps fs) (zy 0 fs)=true:=by
 refine(zD (zhv h fs) _).2 ?_;have i:=zd3 h fs;unfold zae at i;split at i
 ·rename_i j;exact(zD (zhv h fs) _).1 j
 ·cases i
theorem zgn{ps:List (Key×Pr)}(h:zx ps)(fs:List (Key×Int))(p:Pr):zau (zec ps fs) (zy 0 fs) p=zau ps (zy 0 fs) p:=by
 unfold zec;split
 ·rfl
 ·exact zi5 h _ _ _
theorem zgB(base tb F:Nat)(N:Nat→Prop)(ok:Bool)(r:Option Nat)(L:List (Key×Nat))(ps:List (Key×Pr))(v:Value)(fs:List (Key×Int))(w:World) (h:zK w base N tb ok F r L ps) (J:TMO w base v 0 fs) (hb:base≤w.heap.size) (aA:ps.length<1100000) (hf:∀f∈fs,f.2.natAbs<4294967296^E4) (hl:(zcr fs).length≤140737488355328):Calls Tryz.prog 104 #[ptr tb,v] w fun e w'=>∃q r' L',e= .returned (ptr q)∧zK w' base N tb ok F r' L' (zec ps fs)∧L'[place (zec ps fs) (zy 0 fs)]?=some (zy 0 fs,q)∧Qf base w w':=by
 obtain⟨g,A,n,c,m,rfl⟩:=J.tm.shape;have C:Pu w (w.alloc (.cells #[.bool g,.slice A n c,.pointer m] 33)):=(Pu.refl w).alloc _;have kA:Blk (w.alloc (.cells #[.bool g,.slice A n c,.pointer m] 33)) w.heap.size 33 #[.bool g,.slice A n c,.pointer m]:=Blk.new _ _ _;have M:=zeq _ 0 fs _ (J.tm.pu C) (by exact zC (n:=0) (a:=1) (b:=E4) (by decide) (by decide)) hf hl;have T:=h.rise;have aH:=h.hp.1;have e1:=zbk L ps (zy 0 fs) h.hp.keys;have R:=Qh M;clear M hf hl;generalize hk:zy 0 fs=k at*
 have Hk:=Qh hk;clear hk
 cases hth:there ps k with
 |true=>
  obtain⟨q,p,hq,aw,a9,O,z,Q⟩:=h.hp.get T.1 hth;have o:∀V,Pu w V→Calls Tryz.prog 151 #[.pointer (some ⟨F,0,none⟩),.string ⟨k.toArray⟩] V fun e w'=>e= .returned (.tuple #[ptr q,.bool true])∧Pu V w':=fun V S=>by have:=zse F L k V (h.mo.mr.pu S);unfold gvP at this;rw [z]at this;rw [Q,hq]at this;exact this
  have D:=Qh o;have HT:=Qh (AI h (AI hq hth));have I:=h.blk;clear o h J hq aw a9 O z Q hth e1 T;go_enter Tryz.func104,Tryz.ntmps104;go_wp2_with fail;refine R.out.mono ?_;rintro e w1 ⟨rfl,y⟩;have c0:=((I.pu C).pu y).cell 0;go_wp2_with fail;refine(D.out _ (C.trans y)).mono ?_;rintro e t ⟨rfl,U⟩;have B:=(C.trans y).trans U;clear c0;go_wp2;go_ret;have K:zec ps fs=ps:=by unfold zec;rw [Hk.out,HT.out.2.2,if_pos rfl]
  exact⟨q,r,L,rfl,by rw [K];exact HT.out.1.pu B,by rw [K];exact HT.out.2.1,B.qf base⟩
 |false=>
  have z:=e1.trans hth;have o:∀V,Pu w V→Calls Tryz.prog 151 #[.pointer (some ⟨F,0,none⟩),.string ⟨k.toArray⟩] V fun e w'=>(∃x,e= .returned (.tuple #[x,.bool false]))∧Pu V w':=fun V S=>by have:=zse F L k V (h.mo.mr.pu S);rw [z]at this;exact this.mono fun e w' ⟨a,b⟩=>⟨⟨_,a⟩,b⟩
  have D:=Qh o;have HT:=Qh (AI h (AI J hth));have I:=h.blk;clear o h J z hth e1 T;go_enter Tryz.func104,Tryz.ntmps104;go_wp2_with fail;refine R.out.mono ?_;rintro e w1 ⟨rfl,y⟩;have c0:=((I.pu C).pu y).cell 0;go_wp2_with fail;refine(D.out _ (C.trans y)).mono ?_;rintro e t ⟨⟨x,rfl⟩,U⟩;have B:=(C.trans y).trans U;have Y:=I.pu B;have ai:=(kA.pu y).pu U;obtain⟨y0,y1,y2⟩:=ai.c3_;have t0:=Y.cell 0;have aI:=Y.lt;obtain⟨V,hV⟩:∃V,V=t.alloc (.cells #[.bool g,.slice A n c,.pointer m,.pointer none,.pointer none,.pointer none] 159):=⟨_,rfl⟩
  have S:Pu t V:=by rw [hV];exact(Pu.refl _).alloc _
  have E:=B.trans S;have kq:Blk V t.heap.size 159 #[.bool g,.slice A n c,.pointer m,.pointer none,.pointer none,.pointer none]:=by rw [hV];exact Blk.new _ _ _
  have G:=zsk base F r L k t.heap.size V (HT.out.1.mo.pu E) (by omega);have HV:=Qh hV;rw [hV]at G;have ae:=Qh G;clear hV G c0 y U;go_wp2_with fail;refine ae.out.mono ?_;rintro e w3 ⟨rfl,r',Z,aJ,W⟩;rw [←HV.out]at W;go_wp2;go_ret;have H:=HT.out.1.mo.pu E;have O:zaE V base N t.heap.size ⟨fs,none,none,none⟩:=⟨g,A,n,c,m,_,_,_,kq,by have:=B.size;omega,HT.out.2.1.pu E,NPt.none _ _,NPt.none _ _,NPt.none _ _⟩
  have av:=HT.out.1.hp.lt;have P:=(HT.out.1.hp.pu E).put HT.out.2.2 O (fun x hx e=>by have h5:=(av x hx).2;have h6:=B.size;omega);have X:zcc w3 base N (zau L k t.heap.size) (zau ps k ⟨fs,none,none,none⟩):=P.fr W H.tt (fun x hx=>by obtain⟨i,hi⟩:=List.getElem?_of_mem hx;have am:=(List.getElem?_eq_some_iff.1 hi).1;obtain⟨a1,a2,a3,a4,a5,a6,a7,a8,hp⟩:=(P.2.1 i x _ hi (List.getElem?_eq_getElem (by rw [←P.1];exact am))).2;exact H.apart hp.blk (by decide));have K:zec ps fs=zau ps k ⟨fs,none,none,none⟩:=by unfold zec;rw [Hk.out,HT.out.2.2];rfl
  refine⟨t.heap.size,r',zau L k t.heap.size,rfl,?_,?_,(E.qf base).trans (Qf.of W H.tt)⟩
  ·rw [K];exact⟨(I.pu E).fr W (H.apart (I.pu E) (by decide)),HT.out.1.ge,Z,X⟩
  ·have az:=Z.mr.rise;have ax:=X.keys;rw [K,←zbD _ _ k ax];have h5:(k,t.heap.size)∈zau L k t.heap.size:=(zfF HT.out.1.rise.1 k _ _).2 (.inl rfl);obtain⟨j,hj⟩:=List.getElem?_of_mem h5;rw [(zfb az hj rfl).2];exact hj
end
section
open Go.RowKit
theorem zm3{w:World}{base q i:Nat}{t:TypeId}{j:Array Value}(k:Blk w q t j)(p:base≤q)(o:Tt t):∀g,g=q→base≤g∧∃t j fz,w.heap[g]?=some (.cells j t fz)∧Tt t:=fun g hg=>by subst hg;exact⟨p,_,_,_,k,o⟩
theorem zao.qfset{N:Nat→Prop}{w:World}{base q i:Nat}{g:Bool}{A:Option Addr}{n c:Nat}{m:Option Addr}{o k j:Value}{p:Pr}(h:zao w base N q g A n c m o k j p)(u:Value):Qf base w (w.setCell ⟨q,i,none⟩ u):=Qf.of (Fr.one w q i u) (zm3 (i:=i) h.blk h.ge (by decide))
theorem zao.set_up{N:Nat→Prop}{w:World}{base q:Nat}{g:Bool}{A:Option Addr}{n c:Nat}{m:Option Addr}{v k j:Value}{p:Pr}(h:zao w base N q g A n c m v k j p){u:Value}{o:Option Int}(t:NPt w N u o):zaE (w.setCell ⟨q,3,none⟩ u) base N q {p with up:=o}:=
 have Q:=h.qfset (i:=3) u
 ⟨g,A,n,c,m,u,k,j,h.blk.set_ 3 u,h.ge,h.tm.qf Q,t.qf Q,h.l.qf Q,h.e.qf Q⟩
theorem zao.set_lo{N:Nat→Prop}{w:World}{base q:Nat}{g:Bool}{A:Option Addr}{n c:Nat}{m:Option Addr}{k v j:Value}{p:Pr}(h:zao w base N q g A n c m k v j p){u:Value}{o:Option Int}(t:NPt w N u o):zaE (w.setCell ⟨q,4,none⟩ u) base N q {p with lo:=o}:=
 have Q:=h.qfset (i:=4) u
 ⟨g,A,n,c,m,k,u,j,h.blk.set_ 4 u,h.ge,h.tm.qf Q,h.u.qf Q,t.qf Q,h.e.qf Q⟩
theorem zao.set_eq{N:Nat→Prop}{w:World}{base q:Nat}{g:Bool}{A:Option Addr}{n c:Nat}{m:Option Addr}{k j t:Value}{p:Pr}(h:zao w base N q g A n c m k j t p){u:Value}{o:Option Int}(v:NPt w N u o):zaE (w.setCell ⟨q,5,none⟩ u) base N q {p with eq:=o}:=
 have Q:=h.qfset (i:=5) u
 ⟨g,A,n,c,m,k,j,u,h.blk.set_ 5 u,h.ge,h.tm.qf Q,h.u.qf Q,h.l.qf Q,v.qf Q⟩
theorem zK.get{N:Nat→Prop}{w:World}{base z B:Nat}{v:Bool}{r:Option Nat}{L:List (Key×Nat)}{ps:List (Key×Pr)}(h:zK w base N z v B r L ps){k:Key}{q:Nat}{p:Pr}(x:L[place ps k]?=some (k,q))(j:zae ps k=some p):zaE w base N q p:=by
 have y:there ps k=true:=by
  unfold zae at j;split at j
  ·assumption
  ·cases j
 obtain⟨E,C,i,o,D,t,_⟩:=h.hp.get h.rise.1 y;rw [x]at i;injection i with i;injection i with _ i;rw [j]at o;injection o with o;rw [i,o];exact t
theorem zK.set{N:Nat→Prop}{w:World}{base v y:Nat}{t:Bool}{r:Option Nat}{L:List (Key×Nat)}{ps:List (Key×Pr)}(h:zK w base N v t y r L ps){k:Key}{q i:Nat}{u:Value}{E:Array Value}{p:Pr}(D:there ps k=true)(C:L[place ps k]?=some (k,q))(o:Blk w q 159 E)(z:base≤q)(B:zaE (w.setCell ⟨q,i,none⟩ u) base N q p):zK (w.setCell ⟨q,i,none⟩ u) base N v t y r L (zau ps k p)∧Qf base w (w.setCell ⟨q,i,none⟩ u):=by have F:=Fr.one w q i u;have T:=zm3 (i:=i) o z (by decide);have j:=h.mo.apart o (by decide);refine⟨⟨h.blk.fr F (h.blk.ne_ o (by decide)),h.ge,h.mo.fr F (fun e=>j (.inl e.symm)) (fun g hg2 e=>j (.inr (by rw [hg2,e]))),h.hp.set h.rise.1 D C F T (fun x hx hne=>hne) B⟩,Qf.of F T⟩
theorem zK.set_ok{N:Nat→Prop}{w:World}{base k p:Nat}{z:Bool}{r:Option Nat}{L:List (Key×Nat)}{ps:List (Key×Pr)}(h:zK w base N k z p r L ps)(b:Bool):zK (w.setCell ⟨k,1,none⟩ (.bool b)) base N k b p r L ps∧Qf base w (w.setCell ⟨k,1,none⟩ (.bool b)):=by have F:=Fr.one w k 1 (.bool b);have T:=zm3 (i:=1) h.blk h.ge (by decide);have o:=h.mo.apart h.blk (by decide);refine⟨⟨h.blk.set_ 1 _,h.ge,h.mo.fr F (fun e=>o (.inl e.symm)) (fun g hg2 e=>o (.inr (by rw [hg2,e]))),h.hp.fr F T (fun x hx e=>?_)⟩,Qf.of F T⟩;obtain⟨j,v⟩:=List.getElem?_of_mem hx;have t:=(List.getElem?_eq_some_iff.1 v).1;obtain⟨J,H,D,G,I,B,C,E,y⟩:=(h.hp.2.1 j x _ v (List.getElem?_eq_getElem (by rw [←h.hp.1];exact t))).2;exact y.blk.ne_ h.blk (by decide) e
theorem HT.one{w:World}{a:Nat}(k:HT w a)(i:Nat)(u:Value):Fr (fun j=>j=a) w (w.setCell ⟨a,i,none⟩ u)∧∀g t v p,w.heap[g]?=some (.cells v t p)→t≠30→¬g=a:=by refine⟨Fr.one w a i u,fun g t v p e x h=>?_⟩;subst h;obtain⟨y,z,o⟩:=k;rw [e]at o;injection o with o;injection o with _ o;exact x o
theorem TMO.num{w:World}{base:Nat}{v:Value}{r:Int}{fs:List (Key×Int)}(h:TMO w base v r fs){a:Nat}(k:HT w a)(i:Nat)(u:Value):TMO (w.setCell ⟨a,i,none⟩ u) base v r fs:=by
 obtain⟨F,x⟩:=k.one i u;obtain⟨g,A,n,c,b,K,L,e,M,D,J⟩:=h;have T:∀j,j=a→∃t z B,w.heap[j]?=some (.cells z t B)∧t≠169:=fun j o=>by subst o;obtain⟨z,B,e⟩:=k;exact⟨_,z,B,e,by decide⟩
 have C:=D;obtain⟨Q,S,R,H,I,p,P⟩:=D;refine⟨g,A,n,c,b,K,L,e,M.frT F T,C.fr F (x b _ _ _ H (by decide)) (fun j o=>?_),J.frT F T⟩;rcases I.2 with⟨y,_⟩|⟨G,O,N,y,_,E,_⟩
 ·rw [y]at p;rw [←p]at o
  cases o
 ·rw [y]at p;rw [←p]at o;have e:G=j:=by injection o
  subst e;exact x G _ _ _ E (by decide)
theorem NPt.num{N:Nat→Prop}{w:World}{p:Value}{o:Option Int}(h:NPt w N p o){a:Nat}(k:HT w a)(B:¬N a)(i:Nat)(u:Value):NPt (w.setCell ⟨a,i,Option.none⟩ u) N p o:=by
 rcases h with h|⟨b,g,A,n,c,z,y,C,j,t,x⟩
 ·exact .inl h
 ·exact .inr ⟨b,g,A,n,c,z,y,C,j,t.far (fun e=>by have v:b=a:=e;exact B (by rw [←v];exact j)) u,x.put k i u⟩
theorem zK.num{N:Nat→Prop}{w:World}{base z v:Nat}{H:Bool}{r:Option Nat}{L:List (Key×Nat)}{ps:List (Key×Pr)}(h:zK w base N z H v r L ps){a:Nat}(k:HT w a)(C:¬N a)(i:Nat)(u:Value):zK (w.setCell ⟨a,i,none⟩ u) base N z H v r L ps:=by
 obtain⟨F,p⟩:=k.one i u;refine⟨h.blk.fr F (p z _ _ _ h.blk (by decide)),h.ge,h.mo.fr F (fun e=>?_) (fun g hg e=>?_),h.hp.1,fun j x y hx hy=>⟨(h.hp.2.1 j x y hx hy).1,?_⟩,h.hp.2.2⟩
 ·obtain⟨_,t,B,E,D,G⟩:=h.mo.typed v (.inl rfl);exact p v t B E D (by rcases G with rfl|rfl<;>decide) e
 ·obtain⟨_,t,B,E,D,G⟩:=h.mo.typed g (.inr hg);exact p g t B E D (by rcases G with rfl|rfl<;>decide) e
 ·obtain⟨R,P,K,O,Q,I,J,M,o⟩:=(h.hp.2.1 j x y hx hy).2;exact⟨R,P,K,O,Q,I,J,M,o.blk.fr F (p _ _ _ _ o.blk (by decide)),o.ge,o.tm.num k i u,o.u.num k C i u,o.l.num k C i u,o.e.num k C i u⟩
theorem Qf.alloc{base:Nat}{a w:World}(h:Qf base a w)(o:Obj):Qf base a (w.alloc o):=h.trans (((Pu.refl w).alloc o).qf base)
theorem Qf.drew{base:Nat}{a w:World}(h:Qf base a w):Qf base a w.drew:=h.trans ((Pu.refl w).drew.qf base)
theorem Qf.setNew{base:Nat}{a w:World}(h:Qf base a w){p:Addr}(j:a.heap.size≤p.block)(u:Value):Qf base a (w.setCell p u):=by obtain⟨S,i,k⟩:=h;exact⟨S,i.setCell (.inr j) u,k⟩
def PsB(ps:List (Key×Pr)):Prop:=∀e∈ps,∀m,(e.2.up=some m∨e.2.lo=some m∨e.2.eq=some m)→m.natAbs<4294967296^E3
theorem PsB.of{ps:List (Key×Pr)}(h:PsB ps)(j:zx ps)(fs:List (Key×Int)):∀m,((zz ps fs).up=some m∨(zz ps fs).lo=some m∨(zz ps fs).eq=some m)→m.natAbs<4294967296^E3:=by
 intro m i;unfold zz at i
 cases e:zae ps (zy 0 fs)with
 |some p=>rw [e]at i;exact h _ ((zv j).1 e) m i
 |none=>rw [e]at i;rcases i with h1|h1|h1<;>cases h1
end
section
open Go.RowKit
structure zrW(ps:List (Key×Pr))(fs:List (Key×Int))(K:Nat):Prop where
 len:ps.length<1100000
 psb:PsB ps
 up:zad K fs
 big:K+1100000*K<4294967296^E3
 few:fs.length<300
 text:∀gs:List (Key×Int),gs.map (·.1)=fs.map (·.1)→zad K gs→(zcr gs).length≤140737488355328
def zkz(base tb mb:Nat)(s:Bool×List (Key×Pr))(w:World)(e:Ending)(w':World):Prop:=∃r' L',e= .returned (.tuple #[])∧zK w' base (fun b=>base≤b) tb s.1 mb r' L' s.2∧Qf base w w'
theorem zej{z:Int}(h:z.natAbs<4294967296^E3):z.natAbs<4294967296^E4:=zC (n:=z.natAbs) (a:=E3) (b:=E4) h (by decide)
theorem zad.big{K:Nat}{fs:List (Key×Int)}(h:zad K fs)(i:K+1100000*K<4294967296^E3):∀f∈fs,f.2.natAbs<4294967296^E3:=fun f hf=>Nat.lt_of_le_of_lt (Nat.le_trans (h f hf) (Nat.le_add_right _ _)) i
theorem zad.big2{K:Nat}{fs:List (Key×Int)}(h:zad K fs)(i:K+1100000*K<4294967296^E3):∀f∈fs,f.2.natAbs<4294967296^E4:=fun f hf=>zej (h.big i f hf)
theorem zeb{d z:Int}(h:z%d=0)(k:d≠0):(z/d).natAbs≤z.natAbs:=by
 have i:d*(z/d)=z:=Int.mul_ediv_cancel' (Int.dvd_of_emod_eq_zero h);have j:z.natAbs=d.natAbs*(z/d).natAbs:=by rw [←Int.natAbs_mul,i]
 rw [j];exact Nat.le_mul_of_pos_left _ (by omega)
theorem zi8{r d:Int}{fs:List (Key×Int)}(h:exM r fs d=true):r%d=0∧∀f∈fs,f.2%d=0:=by unfold exM at h;rw [Bool.and_eq_true,List.all_eq_true]at h;exact⟨by simpa using h.1,fun f i=>by simpa using h.2 f i⟩
theorem zlx{r d:Int}{fs:List (Key×Int)}{K:Nat}(h:exM r fs d=true)(k:d≠0)(o:zad K fs):zad K (zbI fs d):=by intro f j;obtain⟨q,i,rfl⟩:=List.mem_map.1 j;exact Nat.le_trans (zeb ((zi8 h).2 q i) k) (o q i)
theorem zsc{base U a:Nat}(h:U≤a):¬(fun b=>base≤b∧b<U) a:=fun x=>Nat.not_lt.2 h x.2
theorem zfi(fs:List (Key×Int))(d:Int):(zbI fs d).map (·.1)=fs.map (·.1):=by simp [zbI]
theorem zjA(fs:List (Key×Int))(d:Int):(za9 fs d).map (·.1)=fs.map (·.1):=by simp [za9]
theorem zrw{V:World}{P:Nat}{t:TypeId}{a b c:Value}(k:Blk V P t #[a,b,c]):V.cell? ⟨P,0,none⟩=some a∧V.cell? ⟨P,1,none⟩=some b∧V.cell? ⟨P,2,none⟩=some c:=⟨k.cell 0,k.cell 1,k.cell 2⟩
theorem zmh(base y X:Nat)(ok:Bool)(r:Option Nat)(L:List (Key×Nat))(ps:List (Key×Pr))(v1 v2:Value)(rest g:Int)(k:Key)(z:Int)(fs:List (Key×Int))(K:Nat)(w:World) (h:zK w base (fun b=>base≤b) y ok X r L ps) (h1:TM w v1 rest ((k,z)::fs)) (h2:ZR w v2 g) (cG:g≠0) (hb:base≤w.heap.size) (hR:zrW ps ((k,z)::fs) K) (hr:rest.natAbs<4294967296^E3) (aX:g.natAbs<4294967296^E3) (d:Int) (hd:d=if z<0 then -g else g):Calls Tryz.prog 69 #[ptr y,v1,v2] w (zkz base y X (zb0 (ok,ps) (if exM rest ((k,z)::fs) d=true then .eq (zbI ((k,z)::fs) d) (rest/d)else .bad)) w):=by
 obtain⟨g1,A1,n1,c1,m1,rfl⟩:=h1.shape;obtain⟨g2,A2,n2,c2,rfl⟩:=h2.shape2;obtain⟨W,hWe⟩:∃W,W=(w.alloc (.cells #[.bool g1,.slice A1 n1 c1,.pointer m1] 33)).alloc (.cells #[.bool g2,.slice A2 n2 c2] 30):=⟨_,rfl⟩
 have pW:Pu w W:=by rw [hWe];exact((Pu.refl w).alloc _).alloc _
 have aK:=zkF _ _ rest g k z fs W (h1.pu pW) (h2.pu pW) cG hr (hR.up.big hR.big) aX hR.few;rw [←hd]at aK;have aY:d≠0:=by rw [hd];split<;>omega
 have M:=Qh aK;rw [hWe]at M;have b8:=Qh hWe;have bl:=Qh h;have R:=Qh hR;have Hr:=Qh hr;clear hWe aK h1 h2 hr aX h hR hd
 cases hx:exM rest ((k,z)::fs) d with
 |false=>rw [hx]at M;clear hx Hr;go_enter Tryz.func69,Tryz.ntmps69;go_wp2_with fail;refine M.out.mono ?_;rintro e H ⟨Q,Z,Y,c5,O,rfl,-,S⟩;rw [←b8.out]at S;have P4:=(pW.trans S).alloc (.cells #[.bool Q,.slice Z Y c5,.pointer O] 33);have ah:=bl.out.pu P4;have t1:=ah.blk.cell 1;have f1:=ah.blk.frozen 1;have HQ:=Qh (ah.set_ok false);have cN:=Qh P4;clear ah P4 S;go_wp2;exact bodyPost_ret (v:= .tuple #[]) (by simp [results,Tryz.results69,go_sem]) rfl ⟨r,L,rfl,HQ.out.1,(cN.out.qf base).trans HQ.out.2⟩
 |true=>
  rw [hx]at M;have Hx:=Qh hx;clear hx;go_enter Tryz.func69,Tryz.ntmps69;go_wp2_with fail;refine M.out.mono ?_;rintro e H ⟨Q,Z,Y,c5,O,rfl,ak,S⟩;rw [←b8.out]at S;have ak:=ak trivial;obtain⟨U,hU⟩:∃U,U=H.alloc (.cells #[.bool Q,.slice Z Y c5,.pointer O] 33):=⟨_,rfl⟩
  have pU:Pu H U:=by rw [hU];exact(Pu.refl _).alloc _
  have kU:Blk U H.heap.size 33 #[.bool Q,.slice Z Y c5,.pointer O]:=by rw [hU];exact Blk.new _ _ _
  have PU:=(pW.trans S).trans pU;have bV:=(ak.pu pU).base_ (base':=base) (by simp;omega);have I:=(bl.out.pu PU).mono (N':=fun b=>base≤b∧b<U.heap.size) (fun b h1 h2=>⟨h2,h1⟩);have bO:base≤U.heap.size:=Nat.le_trans hb PU.size;have HU:=Qh hU;have T:=zlx Hx.out aY R.out.up;have aO:(rest/d).natAbs<4294967296^E3:=Nat.lt_of_le_of_lt (zeb (zi8 Hx.out).1 aY) Hr.out;have aA:(zbI ((k,z)::fs) d).length<300:=by rw [zid];exact R.out.few
  have bs:=R.out.text _ (zfi _ d) T;generalize hfd:zbI ((k,z)::fs) d=i at*
  generalize hnd:rest/d=D at*
  have aT:=Qh (show∀V,Pu U V→Calls Tryz.prog 105 #[.agg #[.bool Q,.slice Z Y c5,.pointer O]] V fun e w'=>∃v,e= .returned v∧TMO w' base v 0 i∧Pu V w' from fun V p=>by refine(zh1 _ D i K V (bV.pu p).tm T aA R.out.big aO).mono ?_;rintro e w' ⟨v,e1,ht,p'⟩;rw [show D+D*(-1)=(0:Int) by omega]at ht;exact⟨v,e1,ht.base_ (Nat.le_trans bO p.size),p'⟩);have aW:=Qh (fun V v (p:Pu U V) (ht:TMO V base v 0 i)=>zgB base y X (fun b=>base≤b∧b<U.heap.size) ok r L ps v i V (I.pu p) ht (Nat.le_trans bO p.size) R.out.len (T.big2 R.out.big) bs);have aU:=Qh (fun V (p:Qf base U V)=>zco _ D i V (bV.qf p).tm);have av:=Qh (AI PU (AI aO I));have ai:=I.rise;clear hU S pU ak aO aA bs I Hr;go_wp2_with fail;rw [←HU.out];rename_i K4 aB;have aP:∀(x1 x2 x3 x4 x5 x6 x7 bp bE b0 bD b9 bJ bN bj b4 bh bo bB bS b7 bq bU bQ bc bH bt bz bn bW bL bF bT bi aZ ba bC b6 bI bg bf bb bR bM bk bP:Value) (q P:Nat) (gn:Bool) (An:Option Addr) (nz cn:Nat) (G:Option Nat) (E:List (Key×Nat)) (F:World),Blk F P 30 #[.bool gn,.slice An nz cn]→ZR F (.agg #[.bool gn,.slice An nz cn]) D→base≤P→zK F base (fun b=>base≤b∧b<U.heap.size) y ok X G E (zec ps i)→E[place (zec ps i) (zy 0 i)]?=some (zy 0 i,q)→Qf base U F→K4 {tmps:=#[ptr y,x1,x2,x3,x4,x5,x6,x7,ptr q,ptr P,bp,bE,b0,bD,b9,bJ,bN,bj,b4,bh,bo,bB,bS,b7,bq,bU,bQ,bc,bH,bt,bz,bn,bW,bL,bF,bT,bi,aZ,ba,bC,b6,bI,bg,bf,bb,bR,bM,bk,bP],defers:=[]} F:=by
   intro x1 x2 x3 x4 x5 x6 x7 bp bE b0 bD b9 bJ bN bj b4 bh bo bB bS b7 bq bU bQ bc bH bt bz bn bW bL bF bT bi aZ ba bC b6 bI bg bf bb bR bM bk bP q P gn An nz cn G E F kP hz cK B hq o;refine aB _ _ ?_;clear aB;have aG:=zd3 ai.2 i;have aC:=zew ai.2 i;have aJ:=zgn ai.2 i;obtain⟨gq,Aq,nq,cq,mq,pu,pl,pe,N⟩:=B.get hq aG;have aF:zK F base (fun b=>base≤b) y ok X G E (zec ps i):=B.mono (fun b _ h=>h.1);have C:zao F base (fun b=>base≤b) q gq Aq nq cq mq pu pl pe (zz ps i):=N.nlt (fun b _ h=>h.1);have ax:∀V,Pu F V→NPt V (fun b=>base≤b) (ptr P) (some D):=fun V p=> .inr ⟨P,gn,An,nz,cn,D,rfl,rfl,cK,kP.pu p,hz.pu p⟩;have c0:y≠q:=B.blk.ne_ N.blk (by decide);have dt:q≠y:=c0.symm;have a5:∀V,Pu F V→zK (V.setCell ⟨q,5,none⟩ (ptr P)) base (fun b=>base≤b) y ok X G E (zau ps (zy 0 i) {zz ps i with eq:=some D})∧Qf base w (V.setCell ⟨q,5,none⟩ (ptr P)):=fun V p=>by
    have a0:zao V base (fun b=>base≤b) q gq Aq nq cq mq pu pl pe (zz ps i):=⟨C.blk.pu p,C.ge,C.tm.pu p,C.u.pu p,C.l.pu p,C.e.pu p⟩
    obtain⟨a1,a2⟩:=(aF.pu p).set aC hq a0.blk a0.ge (a0.set_eq (ax V p));rw [aJ]at a1;exact⟨a1,(av.out.1.qf base).trans ((o.trans (p.qf base)).trans a2)⟩
   have af:∀V,Pu F V→zK ((V.setCell ⟨y,1,none⟩ (.bool false)).setCell ⟨q,5,none⟩ (ptr P)) base (fun b=>base≤b) y false X G E (zau ps (zy 0 i) {zz ps i with eq:=some D})∧Qf base w ((V.setCell ⟨y,1,none⟩ (.bool false)).setCell ⟨q,5,none⟩ (ptr P)):=fun V p=>by obtain⟨b1,b2⟩:=(aF.pu p).set_ok false;obtain⟨gx,Ax,nx,cx,mx,du,dn,ds,az⟩:=b1.get hq aG;have ck:NPt (V.setCell ⟨y,1,none⟩ (.bool false)) (fun b=>base≤b) (ptr P) (some D):=(ax V p).qf b2;obtain⟨a1,a2⟩:=b1.set aC hq az.blk az.ge (az.set_eq ck);rw [aJ]at a1;exact⟨a1,(av.out.1.qf base).trans ((o.trans (p.qf base)).trans (b2.trans a2))⟩
   have HF:=Qh (AI a5 af);have kq:=N.blk;have kt:=B.blk;have bw:∀V,Pu F V→V.cell? ⟨q,5,none⟩=some pe∧V.frozen? ⟨q,5,none⟩=false∧(∃x,V.cell? ⟨y,1,none⟩=some x)∧V.frozen? ⟨y,1,none⟩=false:=fun V p=>⟨(kq.pu p).cell 5,(kq.pu p).frozen 5,⟨_,(kt.pu p).cell 1⟩,(kt.pu p).frozen 1⟩
   have ag:=Qh bw;have cI:=N.e;have a6:=R.out.psb.of ai.2 i;have ca:=Qh a6;clear a5 af ax N C aF B aJ aC aG bw a6;rcases cI with⟨rfl,he⟩|⟨b5,g8,A8,n8,c8,mm,rfl,he,dr,cu,cH⟩
   ·obtain⟨d0,f0,-,-⟩:=ag.out _ (Pu.refl F);have j:Pu F F.drew:=(Pu.refl F).drew;have HP:=Qh j;have He:=Qh he;clear he j;go_wp2_with fail;go_region;go_wp2
    go_end0
    refine⟨G,E,rfl,?_,(HF.out.1 _ HP.out).2⟩;have h9:=(HF.out.1 _ HP.out).1;unfold zb0;dsimp only;rw [He.out,decide_eq_true (Or.inl rfl),Bool.and_true];exact h9
   ·have bu:=ca.out mm (.inr (.inr he));have aL:∀V,Pu F V→Calls Tryz.prog 106 #[.agg #[.bool g8,.slice A8 n8 c8],.agg #[.bool gn,.slice An nz cn]] V fun e w'=>e= .returned (.int .i64 (zee mm D))∧Pu V w':=fun V p=>
     zbF _ _ mm D V (cH.pu p) (hz.pu p) (zej bu) (zej av.out.2.1)
    obtain⟨d0,f0,⟨x0,t0⟩,t1⟩:=ag.out _ (Pu.refl F);obtain⟨d1,d2⟩:=cu.c2_;obtain⟨d3,d4⟩:=kP.c2_;have j:Pu F F.drew:=(Pu.refl F).drew;have He:=Qh he;have ad:=Qh aL;clear he aL bu;obtain⟨s,hs,hcase⟩:∃s:Int,zee mm D=s∧((s=0∧mm=D)∨(s≠0∧mm≠D)):=by
     refine⟨_,rfl,?_⟩;unfold zee;split
     ·exact .inr ⟨by omega,by omega⟩
     ·split
      ·exact .inr ⟨by omega,by omega⟩
      ·exact .inl ⟨rfl,by omega⟩
    rw [hs]at ad;clear hs;rcases hcase with⟨rfl,J⟩|⟨cm,J⟩
    ·have aI:=Qh J;clear J;go_wp2_with fail;go_region_with (first
      | (go_at_call 106;refine(ad.out _ j).mono ?_;rintro e u2 ⟨rfl,p9⟩;replace j:=j.trans p9;obtain⟨y0,y1,-,-⟩:=ag.out _ j))
     all_goals
      go_wp2
      go_end0
      refine⟨G,E,rfl,?_,(HF.out.1 _ j).2⟩;have h9:=(HF.out.1 _ j).1;unfold zb0;dsimp only;rw [He.out,aI.out,decide_eq_true (Or.inr rfl),Bool.and_true];exact h9
    ·have aI:=Qh J;have dq:(s==0)=false:=by simpa using cm
     clear J;go_wp2_with fail;go_region_with (first
      | (go_at_call 106;refine(ad.out _ j).mono ?_;rintro e u2 ⟨rfl,p9⟩;replace j:=j.trans p9;obtain⟨y0,y1,⟨x2,y2⟩,y3⟩:=ag.out _ j))
     all_goals
      go_wp2
      go_end0
      refine⟨G,E,rfl,?_,(HF.out.2 _ j).2⟩;have h9:=(HF.out.2 _ j).1;unfold zb0;dsimp only;rw [He.out,decide_eq_false (fun h=>by
       rcases h with h|h
       ·cases h
       ·injection h with h;exact aI.out h),Bool.and_false]
      exact h9
  have j:Pu U U.drew:=(Pu.refl U).drew;have o:Qf base U U.drew:=j.qf base;have d0:U.cell? ⟨H.heap.size,0,none⟩=some (.bool Q):=kU.cell 0;have d1:U.cell? ⟨H.heap.size,1,none⟩=some (.slice Z Y c5):=kU.cell 1;have d2:U.cell? ⟨H.heap.size,2,none⟩=some (.pointer O):=kU.cell 2;clear aB;go_region_held3 (fun t=>t.cell? ⟨H.heap.size,0,none⟩=some (.bool Q)∧t.cell? ⟨H.heap.size,1,none⟩=some (.slice Z Y c5)∧t.cell? ⟨H.heap.size,2,none⟩=some (.pointer O))
   (first|exact zrw (kU.qf (base:=base) (by repeat' (first|with_reducible exact o|with_reducible exact Qf.drew (Qf.alloc (Pu.qf (Pu.refl _) _) _)|with_reducible refine Qf.alloc ?_ _|with_reducible refine Qf.drew ?_|with_reducible refine Qf.setNew ?_ ?_ _| (dsimp only;omega))) (by decide))|go_keep)
   (first
    | (go_at_call 105;refine(aT.out _ (by with_reducible first|exact j|exact j.alloc _|exact Pu.drew (Pu.alloc (Pu.refl _) _))).mono ?_;rintro e u2 ⟨v5,rfl,h5,p9⟩;with_reducible (first| (have bA:=(Blk.new U 30 #[.bool false,.slice none 0 0]).drew.pu p9)|skip);replace j:=Pu.trans (a:=U) (by with_reducible first|exact j|exact j.alloc _|exact Pu.drew (Pu.alloc (Pu.refl _) _)) p9;replace o:=j.qf base;have z12:=j.size;obtain⟨g6,A6,m6,c6,q6,rfl⟩:=h5.tm.shape;(try clear lA);(try clear ka0 ka1 kf0 kf1);(try(have lA:=bA.lt;have ka0:=bA.cell 0;have ka1:=bA.cell 1;have kf0:=bA.frozen 0;have kf1:=bA.frozen 1)))
    | (go_at_call 104;refine(aW.out _ _ (by with_reducible first|exact j|exact j.alloc _|exact Pu.drew (Pu.alloc (Pu.refl _) _)) (h5.pu (by with_reducible first|exact Pu.refl _|exact(Pu.refl _).alloc _))).mono ?_;rintro e u3 ⟨q,G,E,rfl,B,hq,aD⟩;with_reducible (first| (replace bA:=bA.qf aD (by decide))| (have bA:=(Blk.new u2 30 #[.bool false,.slice none 0 0]).qf aD (by decide))|skip);replace o:=Qf.trans (a:=U) (b:=_) (by with_reducible first|exact o|exact o.alloc _) aD;have z13:=o.size;(try clear lA);(try clear ka0 ka1 kf0 kf1);(try(have lA:=bA.lt;have ka0:=bA.cell 0;have ka1:=bA.cell 1;have kf0:=bA.frozen 0;have kf1:=bA.frozen 1)))
    | (go_at_call 68;refine(aU.out _ (by with_reducible first|exact o|exact o.alloc _)).mono ?_;rintro e u4 ⟨v7,rfl,h7,aj⟩;with_reducible (first| (replace bA:=bA.pu aj)| (have bA:=(Blk.new u3 30 #[.bool false,.slice none 0 0]).pu aj)|skip);replace B:=(B.pu (by with_reducible first|exact Pu.refl _|exact(Pu.refl _).alloc _)).pu aj;replace o:=Qf.trans (a:=U) (b:=_) (by with_reducible first|exact o|exact o.alloc _) (aj.qf base);have z14:=o.size;obtain⟨g7,A7,m7,c7,rfl⟩:=h7.shape2;(try clear lA);(try clear ka0 ka1 kf0 kf1);(try(have lA:=bA.lt;have ka0:=bA.cell 0;have ka1:=bA.cell 1;have kf0:=bA.frozen 0;have kf1:=bA.frozen 1))))
  all_goals
   first
    |exact aP _ _ _ _ _ _ _ _ _ _ _ _ _ _ _ _ _ _ _ _ _ _ _ _ _ _ _ _ _ _ _ _ _ _ _ _ _ _ _ _ _ _ _ _ _ _ q _ g7 A7 m7 c7 G E _ (zjN g7 A7 m7 c7 bA) ((h7.put (HT.blk bA) _ _).put ((HT.blk bA).set _ _) _ _) (by omega) ((B.num (HT.blk bA) (zsc (by omega)) _ _).num ((HT.blk bA).set _ _) (zsc (by omega)) _ _) hq ((o.setNew (by dsimp only;omega) _).setNew (by dsimp only;omega) _)
    |exact aP _ _ _ _ _ _ _ _ _ _ _ _ _ _ _ _ _ _ _ _ _ _ _ _ _ _ _ _ _ _ _ _ _ _ _ _ _ _ _ _ _ _ _ _ _ _ q _ g7 A7 m7 c7 G E _ (Blk.new _ _ _) (h7.pu ((Pu.refl _).alloc _)) (by omega) (B.pu ((Pu.refl _).alloc _)) hq (o.alloc _)
end
end Go.Proofs.YtckfnbckoclhpaaGreatDoor

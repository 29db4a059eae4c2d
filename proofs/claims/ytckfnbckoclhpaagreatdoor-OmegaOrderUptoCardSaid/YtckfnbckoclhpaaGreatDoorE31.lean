/- Determinants of rows at columns, by expansion along rows. -/
import Derived.Lib.Hide
import Derived.Test.YtckfnbckoclhpaaGreatDoorE20
import Derived.Test.YtckfnbckoclhpaaGreatDoorE28
import Derived.Test.YtckfnbckoclhpaaGreatDoorE23
import Derived.Test.YtckfnbckoclhpaaGreatDoorE29
namespace Go.Proofs.YtckfnbckoclhpaaGreatDoor
set_option linter.unusedVariables false
set_option linter.unusedSimpArgs false
section
section
variable{α:Type}
def Lx(r:α→Int):(List α→Int)→List α→Int
 |_,[]=>0
 |F,c::T=>r c*F T - Lx r (fun T'=>F (c::T')) T
theorem zjR(r:α→Int):∀(T:List α) (F G:List α→Int),Lx r (fun T=>F T+G T) T=Lx r F T+Lx r G T
 | [],F,G=>rfl
 |c::T,F,G=>by simp only [Lx];rw [zjR r T,Int.mul_add];omega
theorem zck(r:α→Int)(k:Int):∀(T:List α) (F:List α→Int),Lx r (fun T=>k*F T) T=k*Lx r F T
 | [],F=>by simp [Lx]
 |c::T,F=>by simp only [Lx];rw [zck r k T,Int.mul_sub,Int.mul_left_comm]
theorem zdU(r q:α→Int):∀(T:List α) (F:List α→Int),Lx (fun c=>r c+q c) F T=Lx r F T+Lx q F T
 | [],F=>rfl
 |c::T,F=>by simp only [Lx];rw [zdU r q T,Int.add_mul];omega
theorem zbG(r:α→Int)(k:Int):∀(T:List α) (F:List α→Int),Lx (fun c=>k*r c) F T=k*Lx r F T
 | [],F=>by simp [Lx]
 |c::T,F=>by simp only [Lx];rw [zbG r k T,Int.mul_sub,Int.mul_assoc]
theorem zhb(r:α→Int):∀(T:List α),Lx r (fun _=>0) T=0
 | []=>rfl
 |c::T=>by simp only [Lx];rw [zhb r T];simp
theorem zc3{r:α→Int}{F G:List α→Int}(h:∀T,F T=G T)(T:List α):Lx r F T=Lx r G T:=by have:F=G:=funext h;rw [this]
theorem zit(r q:α→Int):∀(T:List α) (F:List α→Int),Lx r (Lx q F) T= - Lx q (Lx r F) T
 | [],F=>rfl
 |c::T,F=>by
  have j:∀(a b:α→Int),Lx a (fun i=>Lx b F (c::i)) T=b c*Lx a F T - Lx a (Lx b (fun i=>F (c::i))) T:=by
   intro a b;have e:(fun i=>Lx b F (c::i))=(fun i=>b c*F i+(-1)*Lx b (fun T''=>F (c::T'')) i):=by
    funext i
    simp only [Lx];omega
   rw [e,zjR,zck,zck];omega
  show r c*Lx q F T - Lx r (fun i=>Lx q F (c::i)) T= -(q c*Lx r F T - Lx q (fun i=>Lx r F (c::i)) T)
  rw [j,j,zit r q T];omega
theorem znB(q:α→Int)(T:List α)(F:List α→Int):Lx q (Lx q F) T=0:=by have:=zit q q T F;omega
def zaK:List (α→Int)→List α→Int
 | []=>fun T=>if T.isEmpty then 1 else 0
 |r::R=>Lx r (zaK R)
theorem zfm(c:α)(T:List α):zaK [] (c::T)=0:=rfl
theorem zT(r:α→Int)(R:List (α→Int))(T:List α):zaK (r::R) T=Lx r (zaK R) T:=rfl
theorem zg5:∀(R:List (α→Int)) (T:List α),R.length≠T.length→zaK R T=0
 | [],[],h=>absurd rfl h
 | [],c::T,_=>rfl
 |r::R,T,h=>by
  rw [zT];have o:∀(T:List α) (F:List α→Int),(∀i,i.length+1=T.length→F i=0)→Lx r F T=0:=by
   intro T
   induction T with
   |nil=>intro F _;rfl
   |cons c T ih=>intro F k;simp only [Lx];rw [k T (by simp),ih (fun i=>F (c::i)) (fun i j=>k _ (by simp;omega))];simp
  refine o T _ fun i j=>zg5 R i fun e=>h ?_;simp [e,j]
section
def opq(q:α→Int)(p:α)(r:α→Int):α→Int:=fun c=>r c - q c*r p
theorem zqg(q:α→Int)(p:α):∀(R:List (α→Int)) (T:List α),zaK (R.map (opq q p)) T=zaK R T - Lx q (fun i=>zaK R (p::i)) T
 | [],T=>by simp only [List.map_nil,zfm];rw [zhb];omega
 |r::R,T=>by
  rw [List.map_cons,zT];have t:zaK (R.map (opq q p))=fun T=>zaK R T - Lx q (fun i=>zaK R (p::i)) T:=funext (zqg q p R);have k:opq q p r=fun c=>r c+(- r p)*q c:=by
   funext c
   unfold opq;rw [Int.neg_mul,Int.mul_comm (r p)];omega
  have j:∀s:α→Int,Lx s (fun T=>zaK R T - Lx q (fun i=>zaK R (p::i)) T) T=Lx s (zaK R) T - Lx s (Lx q (fun i=>zaK R (p::i))) T:=by
   intro s;have:(fun T=>zaK R T - Lx q (fun i=>zaK R (p::i)) T)=fun T=>zaK R T+(-1)*Lx q (fun i=>zaK R (p::i)) T:=by
    funext T
    omega
   rw [this,zjR,zck];omega
  have o:∀i,zaK (r::R) (p::i)=r p*zaK R i+(-1)*Lx r (fun T''=>zaK R (p::T'')) i:=by intro i;rw [zT];simp only [Lx];omega
  rw [t,k,zdU,zbG,j,j,znB,funext o,zjR,zck,zck,zT,zit q r,Int.sub_zero];simp only [Int.neg_mul];omega
theorem zht(q:α→Int)(p:α)(a:α→Int)(R:List (α→Int))(T:List α):a p*zaK (R.map (opq q p)) T=zaK (a::R) (p::T)+Lx (opq q p a) (fun j=>zaK R (p::j)) T:=by
 have i:opq q p a=fun c=>a c+(- a p)*q c:=by
  funext c
  unfold opq;rw [Int.neg_mul,Int.mul_comm (a p)];omega
 rw [zqg,i,zdU,zbG,zT];simp only [Lx];rw [Int.mul_sub,Int.neg_mul];omega
end
theorem zfw{a b:Int}{A B:Nat}(j:a.natAbs≤A)(i:b.natAbs≤B):(a*b).natAbs≤A*B:=by rw [Int.natAbs_mul];exact Nat.mul_le_mul j i
theorem zmz(a b:Int):(a - b).natAbs≤a.natAbs+b.natAbs:=by omega
theorem zqH{r:α→Int}{K P:Nat}:∀(T:List α) (F:List α→Int),(∀c∈T,(r c).natAbs≤K)→(∀T',(F T').natAbs≤P)→(Lx r F T).natAbs≤T.length*(K*P)
 | [],F,_,_=>by simp [Lx]
 |c::T,F,h,hF=>by simp only [Lx,List.length_cons];have i:=zfw (h c (List.mem_cons_self ..)) (hF T);have j:=zqH T (fun T'=>F (c::T')) (fun x hx=>h x (List.mem_cons_of_mem _ hx)) (fun T'=>hF _);have k:=zmz (r c*F T) (Lx r (fun T'=>F (c::T')) T);rw [Nat.succ_mul];omega
theorem ziW(p:α):∀(R:List (α→Int)),(∀r∈R,r p=0)→∀T,zaK R (p::T)=0
 | [],_,T=>rfl
 |r::R,h,T=>by rw [zT];simp only [Lx];rw [h r (List.mem_cons_self ..),zc3 (fun i=>ziW p R (fun x hx=>h x (List.mem_cons_of_mem _ hx)) i),zhb];simp
theorem zpl(r q:α→Int)(R:List (α→Int))(T:List α):zaK (r::q::R) T= - zaK (q::r::R) T:=zit r q T (zaK R)
theorem zmS{R R':List (α→Int)}{k:Int}:∀(O:List (α→Int)),(∀T,zaK R T=k*zaK R' T)→∀T,zaK (O++R) T=k*zaK (O++R') T
 | [],h,T=>h T
 |o::O,h,T=>by rw [List.cons_append,List.cons_append,zT,zT,zc3 (fun i=>zmS O h i),zck]
theorem zlp{R k j:List (α→Int)}{i p:Int}:∀(O:List (α→Int)),(∀T,zaK R T=i*zaK k T+p*zaK j T)→∀T,zaK (O++R) T=i*zaK (O++k) T+p*zaK (O++j) T
 | [],h,T=>h T
 |o::O,h,T=>by rw [List.cons_append,List.cons_append,List.cons_append,zT,zT,zT,zc3 (fun t=>zlp O h t),zjR,zck,zck]
theorem zhe(r:α→Int)(R:List (α→Int)):∀(O:List (α→Int)),∃k:Int,(k=1∨k= -1)∧∀T,zaK (O++r::R) T=k*zaK (r::(O++R)) T
 | []=>⟨1,.inl rfl,fun T=>by simp⟩
 |o::O=>by obtain⟨k,j,h⟩:=zhe r R O;refine⟨-k,by omega,fun T=>?_⟩;rw [List.cons_append,zT,zc3 (fun i=>h i),zck,←zT o,zpl,List.cons_append];rw [Int.neg_mul,Int.mul_neg]
theorem zm5(r:α→Int)(j i R:List (α→Int))(T:List α):zaK (j++r::(i++r::R)) T=0:=by
 obtain⟨t,-,k⟩:=zhe r (i++r::R) j;rw [k];obtain⟨o,-,p⟩:=zhe r R (j++i);have e:zaK (r::(j++(i++r::R))) T=o*zaK (r::r::(j++i++R)) T:=by rw [←List.append_assoc];exact zmS (R:=j++i++r::R) (R':=r::(j++i++R)) [r] p T
 rw [e];have:=znB r T (zaK (j++i++R));rw [zT,show zaK (r::(j++i++R))=Lx r (zaK (j++i++R))from rfl,this];simp
end
end
section
open Go.RowKit
def zcu(v:Key→Int)(r:RowM):Int:=r.rest+zk v r.fs
def zaF(v:Key→Int)(r:RowM):Prop:=(r.eq=true→zcu v r=0)∧(r.eq=false→zcu v r≤0)
def zR(v:Key→Int)(l:List RowM):Prop:=∀r∈l,zaF v r
theorem zbS(v:Key→Int)(n:Int):∀fs:List (Key×Int),zk v (za9 fs n)=zk v fs*n
 | []=>by simp [za9,zk]
 |f::fs=>by have i:=zbS v n fs;show f.2*n*v f.1+zk v (za9 fs n)=(f.2*v f.1+zk v fs)*n;rw [i,Int.add_mul,Int.mul_right_comm]
theorem zhf(v:Key→Int)(d:Int):∀fs:List (Key×Int),(∀f∈fs,f.2%d=0)→zk v fs=d*zk v (zbI fs d)
 | [],_=>by simp [zbI,zk]
 |f::fs,h=>by
  have k:=zhf v d fs (fun g hg=>h g (List.mem_cons_of_mem _ hg));have i:=h f (List.mem_cons_self ..);have j:f.2=d*(f.2/d):=(Int.mul_ediv_cancel' (Int.dvd_of_emod_eq_zero i)).symm;show f.2*v f.1+zk v fs=d*(f.2/d*v f.1+zk v (zbI fs d))
  rw [Int.mul_add,←k,←Int.mul_assoc,←j]
theorem zhs(v:Key→Int):∀fs:List (Key×Int),(∀f∈fs,f.2=0)→zk v fs=0
 | [],_=>rfl
 |f::fs,h=>by rw [zk,h f (List.mem_cons_self ..),zhs v fs (fun g i=>h g (List.mem_cons_of_mem _ i)),Int.zero_mul];rfl
def zrj(v:Key→Int):zcs→Prop
 | .bad=>False
 | .nothing=>True
 | .eq fs n=>n+zk v fs=0
 | .up fs n=>n+zk v fs≤0
 | .lo fs n=>n - zk v fs≤0
theorem zrx{g w r:Int}(j:0<g):r+g*w≤0↔ -((-r)/g)+w≤0:=by have i:w≤(-r)/g↔w*g≤ -r:=Int.le_ediv_iff_mul_le j;rw [Int.mul_comm]at i;omega
theorem zkX(v:Key→Int)(r:RowM):zaF v r↔zrj v (zP r):=by
 unfold zP;have x:∀f∈r.fs,f.2%zbZ r.fs=0:=zb3;by_cases y:zbZ r.fs=0
 ·rw [if_pos y];have p:zk v r.fs=0:=zhs v _ (fun f hf=>by
   have:=x f hf;rw [y,Int.emod_zero]at this;exact this)
  unfold zaF zcu;rw [p,Int.add_zero];split
  ·rename_i h;refine⟨fun i=>?_,fun i=>i.elim⟩;rcases h with h|⟨k,o⟩
   ·cases j:r.eq with
    |true=>have:=i.1 j;omega
    |false=>have:=i.2 j;omega
   ·have:=i.1 k;omega
  ·rename_i h;refine⟨fun _=>trivial,fun _=>⟨fun j=>?_,fun j=>?_⟩⟩
   ·by_cases k:r.rest>0
    ·exact absurd (.inl k) h
    ·by_cases o:r.rest<0
     ·exact absurd (.inr ⟨j,o⟩) h
     ·omega
   ·by_cases k:r.rest>0
    ·exact absurd (.inl k) h
    ·omega
 ·rw [if_neg y];have z:0<zbZ r.fs:=by
   have:0≤zbZ r.fs:=zes _;omega
  by_cases j:r.eq=true
  ·rw [if_pos j];have D:zaa r.fs≠0:=by
    unfold zaa;split<;>omega
   have p:=zhf v (zaa r.fs) r.fs zdo;unfold zaF zcu;split
   ·rename_i B;have E:r.rest=zaa r.fs*(r.rest/zaa r.fs):=(Int.mul_ediv_cancel' (Int.dvd_of_emod_eq_zero B)).symm;have w:r.rest+zk v r.fs=zaa r.fs*(r.rest/zaa r.fs+zk v (zbI r.fs (zaa r.fs))):=by rw [Int.mul_add,←E,←p]
    refine⟨fun i=>?_,fun i=>⟨fun _=>?_,fun o=>(by rw [j]at o;cases o)⟩⟩
    ·have t:=i.1 j;rw [w]at t;rcases Int.mul_eq_zero.1 t with k|k
     ·exact absurd k D
     ·exact k
    ·have k:r.rest/zaa r.fs+zk v (zbI r.fs (zaa r.fs))=0:=i;rw [w,k,Int.mul_zero]
   ·rename_i B;refine⟨fun i=>?_,fun i=>i.elim⟩;have t:=i.1 j;rw [p]at t;refine B ?_;have:r.rest=zaa r.fs*(-(zk v (zbI r.fs (zaa r.fs)))):=by rw [Int.mul_neg];omega
    rw [this];exact Int.mul_emod_right _ _
  ·rw [if_neg j];have C:r.eq=false:=by
    cases h:r.eq with
    |true=>exact absurd h j
    |false=>rfl
   have p:=zhf v (zbZ r.fs) r.fs x;have i:zaF v r↔r.rest+zbZ r.fs*zk v (zbI r.fs (zbZ r.fs))≤0:=by unfold zaF zcu;rw [p];exact⟨fun h=>h.2 C,fun h=>⟨fun o=>absurd o j,fun _=>h⟩⟩
   rw [i,zrx z];split
   ·show _↔ -((-r.rest)/zbZ r.fs) - zk v (za9 (zbI r.fs (zbZ r.fs)) (-1))≤0;rw [zbS];constructor<;>intro h<;>omega
   ·exact Iff.rfl
def zgO(v:Key→Int)(p:Pr):Prop:=(∀a,p.up=some a→a+zk v p.fs≤0)∧(∀b,p.lo=some b→b - zk v p.fs≤0)∧(∀e,p.eq=some e→e+zk v p.fs=0)
theorem zl9{v:Key→Int}{F:List zcs}{s:Bool×List (Key×Pr)}(h:ziH F s)(G:zg2 F):(∀f∈F,zrj v f)↔s.1=true∧∀k p,zae s.2 k=some p→zgO v p:=by
 constructor
 ·intro i;refine⟨h.ok.2 ⟨fun f L e=>(by have:=i f L;rw [e]at this;exact this),fun fs n m j E=>?_⟩,fun k p y=>⟨fun a e=>?_,fun b e=>?_,fun x e=>?_⟩⟩
  ·have N:n+zk v fs=0:=i _ j;have M:m+zk v fs=0:=i _ E;omega
  ·have:=h.up k p y;rw [e]at this;exact i _ this.1
  ·have:=h.lo k p y;rw [e]at this;exact i _ this.1
  ·exact i _ (h.eq0 k p y x e)
 ·rintro⟨J,y⟩ f i;have z:=h.ok.1 J
  match f,i with
  | .bad,i=>exact absurd rfl (z.1 _ i)
  | .nothing,_=>exact trivial
  | .eq fs n,i=>obtain⟨p,t⟩:=h.there _ i fs rfl;obtain⟨D,g,C,w⟩:=h.key _ p t;have o:p.fs=fs:=G g C _ i p.fs fs w rfl D;have j:=h.eq1 _ p t n (by rw [o];exact i);obtain⟨e,H⟩:=Option.ne_none_iff_exists'.1 j;have E:=h.eq0 _ p t e H;rw [o]at E;have K:=z.2 fs e n E i;have B:=(y _ p t).2.2 e H;rw [o,K]at B;exact B
  | .up fs n,i=>
   obtain⟨p,t⟩:=h.there _ i fs rfl;obtain⟨D,g,C,w⟩:=h.key _ p t;have o:p.fs=fs:=G g C _ i p.fs fs w rfl D;have j:=h.up _ p t;rw [o]at j
   cases hu:p.up with
   |none=>rw [hu]at j;exact absurd i (j n)
   |some m=>rw [hu]at j;have B:=(y _ p t).1 m hu;rw [o]at B;have I:=j.2 n i;show n+zk v fs≤0;omega
  | .lo fs n,i=>
   obtain⟨p,t⟩:=h.there _ i fs rfl;obtain⟨D,g,C,w⟩:=h.key _ p t;have o:p.fs=fs:=G g C _ i p.fs fs w rfl D;have j:=h.lo _ p t;rw [o]at j
   cases hu:p.lo with
   |none=>rw [hu]at j;exact absurd i (j n)
   |some m=>rw [hu]at j;have B:=(y _ p t).2.1 m hu;rw [o]at B;have I:=j.2 n i;show n - zk v fs≤0;omega
theorem zgk(v:Key→Int)(p:Pr):zgO v p↔(zaV p).2=true∧zR v (zaV p).1:=by
 have D:∀(e:Int),zR v [⟨e,p.fs,true⟩]↔e+zk v p.fs=0:=fun e=>by
  unfold zR;constructor
  ·intro h;exact(h _ (List.mem_singleton.2 rfl)).1 rfl
  ·intro h r i;rw [List.mem_singleton.1 i];exact⟨fun _=>h,fun t=>by cases t⟩
 have j:∀(e:Int) (fs:List (Key×Int)),zaF v ⟨e,fs,false⟩↔e+zk v fs≤0:=fun e fs=>⟨fun h=>h.2 rfl,fun h=>⟨fun t=>(by cases t),fun _=>h⟩⟩
 rcases zaS p with⟨e,w,i⟩|⟨a,b,w,o,k,E,i⟩|⟨a,b,w,o,k,E,i⟩|⟨a,b,w,o,k,E,i⟩|⟨a,w,o,k,i⟩|⟨b,w,o,k,i⟩|⟨w,o,k,i⟩
 ·rw [i];dsimp only;rw [D];unfold zgO zdK;simp only [Bool.and_eq_true];constructor
  ·rintro⟨y,t,F⟩;have B:=F e w;refine⟨⟨?_,?_⟩,B⟩
   ·cases o:p.up with
    |none=>rfl
    |some a=>have:=y a o;exact decide_eq_true (by omega)
   ·cases k:p.lo with
    |none=>rfl
    |some b=>have:=t b k;exact decide_eq_true (by omega)
  ·rintro⟨⟨y,t⟩,B⟩;refine⟨fun a o=>?_,fun b k=>?_,fun x hx=>?_⟩
   ·rw [o]at y;have:=of_decide_eq_true y;omega
   ·rw [k]at t;have:=of_decide_eq_true t;omega
   ·rw [w]at hx;rw [←Option.some.inj hx];exact B
 ·rw [i];refine⟨fun h=>?_,fun h=>(by cases h.1)⟩;have y:=h.1 a o;have t:=h.2.1 b k;omega
 ·rw [i];dsimp only;rw [D];unfold zgO zdK;rw [o,k,w];simp only [Bool.and_eq_true,decide_eq_true_eq];constructor
  ·rintro⟨y,t,-⟩;have z:=y a rfl;have C:=t b rfl;exact⟨⟨by omega,by omega⟩,by omega⟩
  ·rintro⟨-,B⟩;refine⟨fun x e=>?_,fun x e=>?_,fun x e=>by cases e⟩
   ·have:=Option.some.inj e;omega
   ·have:=Option.some.inj e;omega
 ·rw [i];unfold zgO;rw [o,k,w];constructor
  ·rintro⟨y,t,-⟩;have z:=y a rfl;have C:=t b rfl;refine⟨rfl,fun r i=>?_⟩;rcases List.mem_cons.1 i with rfl|i
   ·exact(j _ _).2 z
   ·rw [List.mem_singleton.1 i,j,zbS];omega
  ·rintro⟨-,h⟩;have z:=(j _ _).1 (h _ (List.mem_cons_self ..));have C:=(j _ _).1 (h _ (List.mem_cons_of_mem _ (List.mem_singleton.2 rfl)));rw [zbS]at C;refine⟨fun x e=>?_,fun x e=>?_,fun x e=>by cases e⟩
   ·have:=Option.some.inj e;omega
   ·have:=Option.some.inj e;omega
 ·rw [i];unfold zgO;rw [o,k,w];constructor
  ·rintro⟨y,-,-⟩;refine⟨rfl,fun r i=>?_⟩;rw [List.mem_singleton.1 i];exact(j _ _).2 (y a rfl)
  ·rintro⟨-,h⟩;have z:=(j _ _).1 (h _ (List.mem_singleton.2 rfl));refine⟨fun x e=>?_,fun x e=>(by cases e),fun x e=>by cases e⟩;have:=Option.some.inj e;omega
 ·rw [i];unfold zgO;rw [o,k,w];constructor
  ·rintro⟨-,t,-⟩;have C:=t b rfl;refine⟨rfl,fun r i=>?_⟩;rw [List.mem_singleton.1 i,j,zbS];omega
  ·rintro⟨-,h⟩;have z:=(j _ _).1 (h _ (List.mem_singleton.2 rfl));rw [zbS]at z;refine⟨fun x e=>(by cases e),fun x e=>?_,fun x e=>by cases e⟩;have:=Option.some.inj e;omega
 ·rw [i];unfold zgO;rw [o,k,w];exact⟨fun _=>⟨rfl,fun r i=>by cases i⟩,fun _=>⟨fun x e=>(by cases e),fun x e=>(by cases e),fun x e=>by cases e⟩⟩
theorem zjP{v:Key→Int}{l:List RowM}(t:∀r∈l,Plain r.fs):zR v l↔((zi l).1&&zcH (zi l).2)=true∧zR v (zO (zi l).2):=by
 have o:=zbq t;have C:=zeO t;have z:zR v l↔∀f∈l.map zP,zrj v f:=by
  constructor
  ·intro h f y;obtain⟨r,j,rfl⟩:=List.mem_map.1 y;exact(zkX v r).1 (h r j)
  ·intro h r j;exact(zkX v r).2 (h _ (List.mem_map_of_mem j))
 rw [z,zl9 o C];have D:(∀k p,zae (zi l).2 k=some p→zgO v p)↔∀e∈(zi l).2,zgO v e.2:=by
  constructor
  ·rintro h ⟨k,p⟩ i;exact h k p ((zv o.rise).2 i)
  ·intro h k p i;exact h (k,p) ((zv o.rise).1 i)
 rw [D];simp only [Bool.and_eq_true];have B:(∀e∈(zi l).2,zgO v e.2)↔zcH (zi l).2=true∧zR v (zO (zi l).2):=by
  unfold zcH zO zR;rw [List.all_eq_true];constructor
  ·intro h;refine⟨fun e i=>((zgk v e.2).1 (h e i)).1,fun r j=>?_⟩;obtain⟨e,i,j⟩:=List.mem_flatMap.1 j;exact((zgk v e.2).1 (h e i)).2 r j
  ·rintro⟨w,x⟩ e i;exact(zgk v e.2).2 ⟨w e i,fun r j=>x r (List.mem_flatMap.2 ⟨e,i,j⟩)⟩
 rw [B];constructor
 ·rintro⟨a,b,c⟩;exact⟨⟨a,b⟩,c⟩
 ·rintro⟨⟨a,b⟩,c⟩;exact⟨a,b,c⟩
end
section
open Go.RowKit
def zdf(v:Key→Int)(k:Key)(x:Int):Key→Int:=fun j=>if j=k then x else v j
theorem zdA{v:Key→Int}{k:Key}{x:Int}:∀{l:List (Key×Int)},zx l→zk (zdf v k x) l=zk v l+factor l k*(x - v k)
 | [],_=>by simp [zk,factor,there]
 |f::l,hl=>by
  have i:=List.pairwise_cons.1 hl;rw [zk,zk,zdA i.2];by_cases c:f.1=k
  ·have t:factor (f::l) k=f.2:=zl hl (by rw [←c];exact List.mem_cons_self ..);have j:factor l k=0:=zI i.2 (fun g p e=>by
    have:=i.1 g p;rw [e,c]at this;exact zev _ this)
   rw [t,j,show zdf v k x f.1=x from if_pos c,c,Int.zero_mul,Int.mul_sub];omega
  ·have t:factor (f::l) k=factor l k:=by
    cases e:zae l k with
    |some u'=>have o:=(zv i.2).1 e;rw [zl i.2 o];exact zl hl (List.mem_cons_of_mem _ o)
    |none=>
     rw [zaz l,e];refine zI hl (fun g p j=>?_);rcases List.mem_cons.1 p with h3|h3
     ·rw [h3]at j;exact c j
     ·have w:=(zv i.2 (k:=k) (v:=g.2)).2 (by rw [←j];exact h3);rw [e]at w
      cases w
   rw [t,show zdf v k x f.1=v f.1 from if_neg c];omega
theorem zm6(v:Key→Int)(k:Key):zdf v k (v k)=v:=by
 funext j
 unfold zdf;split
 ·rename_i h;rw [h]
 ·rfl
def zfl(v:Key→Int)(k:Key)(r:RowM):Int:=zcu v r - factor r.fs k*v k
theorem zhZ{v:Key→Int}{k:Key}{x:Int}{r:RowM}(h:zx r.fs):zcu (zdf v k x) r=zfl v k r+factor r.fs k*x:=by unfold zfl zcu;rw [zdA h,Int.mul_sub];omega
theorem zda{v:Key→Int}{l:List RowM}{k:Key}{gs:List (Key×Int)}{r2:Int}(t:∀r∈l,zx r.fs):zR v (l.map (zeR k r2 gs))↔zR (zdf v k (r2+zk v gs)) l:=by
 have o:∀r∈l,zcu v (zeR k r2 gs r)=zcu (zdf v k (r2+zk v gs)) r:=fun r i=>by have:=zmy (v:=v) (gs:=gs) (u:=zdf v k (r2+zk v gs)) (t r i) k r2 _ rfl (fun j=>rfl);show r.rest+r2*factor r.fs k+zk v (zrX r.fs k gs)=r.rest+zk (zdf v k (r2+zk v gs)) r.fs;rw [←this,Int.mul_comm r2];omega
 constructor
 ·intro h r i;have:=h _ (List.mem_map_of_mem i);unfold zaF at this⊢;rw [o r i]at this;exact this
 ·intro h q p;obtain⟨r,i,rfl⟩:=List.mem_map.1 p;have:=h r i;unfold zaF at this⊢;rw [o r i];exact this
def za2(k:Key)(dark:Bool)(a b:RowM):RowM:=⟨a.rest*factor b.fs k+b.rest*((factor a.fs k).natAbs:Int)*1+(if dark=true then(((factor a.fs k).natAbs:Int) - 1)*(factor b.fs k - 1)else 0),zG (za9 a.fs (factor b.fs k)) (za9 b.fs ((factor a.fs k).natAbs:Int)) 1,false⟩
def za1(k:Key)(dark:Bool)(lo up:List RowM):List RowM:=lo.flatMap fun a=>up.map (za2 k dark a)
theorem zcl{fs:List (Key×Int)}{n:Int}(h:zx fs):zx (za9 fs n):=by
 unfold zx za9 at*
 rw [List.pairwise_map];exact h
theorem zdw{v:Key→Int}{k:Key}{dark:Bool}{a b:RowM}(i:zx a.fs)(j:zx b.fs):zcu v (za2 k dark a b)=factor b.fs k*zcu v a+((factor a.fs k).natAbs:Int)*zcu v b+(if dark=true then(((factor a.fs k).natAbs:Int) - 1)*(factor b.fs k - 1)else 0):=by unfold zcu za2;dsimp only;rw [zbw v _ _ (zcl i),zbS,zbS,Int.mul_add,Int.mul_add,Int.mul_comm a.rest,Int.mul_comm b.rest,Int.mul_comm (zk v a.fs),Int.mul_comm (zk v b.fs)];omega
theorem zoU{v:Key→Int}{k:Key}{dark:Bool}{a b:RowM}(j:zx a.fs)(i:zx b.fs)(p:factor a.fs k<0):zcu v (za2 k dark a b)=factor b.fs k*zfl v k a+(-(factor a.fs k))*zfl v k b+(if dark=true then(-(factor a.fs k) - 1)*(factor b.fs k - 1)else 0):=by
 rw [zdw j i];have e:((factor a.fs k).natAbs:Int)= -(factor a.fs k):=by omega
 rw [e];unfold zfl;generalize factor a.fs k=x at*
 generalize factor b.fs k=y at*
 have o:y*(zcu v a - x*v k)+ -x*(zcu v b - y*v k)=y*zcu v a+ -x*zcu v b:=by rw [Int.mul_sub,Int.mul_sub,Int.neg_mul,Int.neg_mul,←Int.mul_assoc,←Int.mul_assoc,Int.mul_comm y x];omega
 rw [o]
theorem zmR{v:Key→Int}{k:Key}{lo up:List RowM}(o:∀r∈lo,zx r.fs∧r.eq=false∧factor r.fs k<0)(j:∀r∈up,zx r.fs∧r.eq=false∧0<factor r.fs k) (B:zR v lo) (E:zR v up):zR v (za1 k false lo up):=by intro q i;obtain⟨a,p,i⟩:=List.mem_flatMap.1 i;obtain⟨b,t,rfl⟩:=List.mem_map.1 i;refine⟨fun e=>(by cases e),fun _=>?_⟩;obtain⟨y,D,H⟩:=o a p;obtain⟨C,z,w⟩:=j b t;rw [zdw y C];have x:=(B a p).2 D;have F:=(E b t).2 z;have G:factor b.fs k*zcu v a≤0:=Int.mul_nonpos_of_nonneg_of_nonpos (Int.le_of_lt w) x;have I:((factor a.fs k).natAbs:Int)*zcu v b≤0:=Int.mul_nonpos_of_nonneg_of_nonpos (Int.natCast_nonneg _) F;rw [if_neg (by simp)];omega
theorem zjr{r x:Int}(i:0<x):r≤x*(-((-r)/x))∧x*(-((-r)/x))≤r+x - 1:=by have j:=Int.emod_add_mul_ediv (-r) x;have k:=Int.emod_nonneg (-r) (show x≠0 by omega);have o:=Int.emod_lt_of_pos (-r) i;rw [Int.mul_neg];omega
def zbg(v:Key→Int)(k:Key)(r:RowM):Int:=
 let q:=(-(zfl v k r))/((factor r.fs k).natAbs:Int)
 if factor r.fs k<0 then -q else q
theorem zl3{v:Key→Int}{k:Key}{r:RowM}{x:Int}(h:zx r.fs)(o:r.eq=false)(w:factor r.fs k<0):zaF (zdf v k x) r↔zbg v k r≤x:=by
 have e:((factor r.fs k).natAbs:Int)= -(factor r.fs k):=by omega
 have p:zaF (zdf v k x) r↔zcu (zdf v k x) r≤0:=⟨fun i=>i.2 o,fun i=>⟨fun e2=>(by rw [o]at e2;cases e2),fun _=>i⟩⟩
 rw [p,zhZ h];unfold zbg;dsimp only;rw [if_pos w,e];generalize hx: -(factor r.fs k)=y;have t:factor r.fs k= -y:=by omega
 rw [t,Int.neg_mul];have j:0<y:=by omega
 obtain⟨z,B⟩:=zjr (r:=zfl v k r) j;generalize -((-(zfl v k r))/y)=q at*
 constructor
 ·intro i;have:y*q<y*(x+1):=by rw [Int.mul_add];omega
  have:=Int.lt_of_mul_lt_mul_left this (Int.le_of_lt j);omega
 ·intro i;have:=Int.mul_le_mul_of_nonneg_left i (Int.le_of_lt j);omega
theorem zlA{v:Key→Int}{k:Key}{r:RowM}{x:Int}(h:zx r.fs)(i:r.eq=false)(o:0<factor r.fs k):zaF (zdf v k x) r↔x≤zbg v k r:=by
 have e:((factor r.fs k).natAbs:Int)=factor r.fs k:=by omega
 have j:zaF (zdf v k x) r↔zcu (zdf v k x) r≤0:=⟨fun hh=>hh.2 i,fun hh=>⟨fun e2=>(by rw [i]at e2;cases e2),fun _=>hh⟩⟩
 rw [j,zhZ h];unfold zbg;dsimp only;rw [if_neg (by omega),e,Int.le_ediv_iff_mul_le o,Int.mul_comm x];omega
theorem zlM{v:Key→Int}{k:Key}{r:RowM}{x:Int}(h:zx r.fs)(i:factor r.fs k=0):zaF (zdf v k x) r↔zaF v r:=by
 have:zcu (zdf v k x) r=zcu v r:=by unfold zcu;rw [zdA h,i,Int.zero_mul,Int.add_zero]
 unfold zaF;rw [this]
theorem zlJ{v:Key→Int}{k:Key}{a b:RowM}(E:zx a.fs)(p:zx b.fs)(D:b.eq=false)(o:factor a.fs k<0)(z:0<factor b.fs k)(h:zaF v (za2 k true a b)):zaF (zdf v k (zbg v k a)) b:=by
 refine⟨fun e=>(by rw [D]at e;cases e),fun _=>?_⟩;have j:=h.2 rfl;rw [zoU E p o,if_pos rfl]at j;rw [zhZ p];have e:((factor a.fs k).natAbs:Int)= -(factor a.fs k):=by omega
 unfold zbg;dsimp only;rw [if_pos o,e];have i:0< -(factor a.fs k):=by omega
 generalize -(factor a.fs k)=x at*
 generalize factor b.fs k=y at*
 obtain⟨I,t⟩:=zjr (r:=zfl v k a) i;generalize -((-(zfl v k a))/x)=q at*
 generalize zfl v k a=A at*
 generalize zfl v k b=B at*
 have F:y*(x*q)≤y*(A+x - 1):=Int.mul_le_mul_of_nonneg_left t (Int.le_of_lt z);have w:x*(B+y*q)<x*1:=by
  have G:(x - 1)*(y - 1)=x*y - x - y+1:=by rw [Int.sub_mul,Int.mul_sub];omega
  have H:x*(B+y*q)=x*B+y*(x*q):=by rw [Int.mul_add,←Int.mul_assoc,←Int.mul_assoc,Int.mul_comm x y]
  have C:y*(A+x - 1)=y*A+x*y - y:=by rw [Int.mul_sub,Int.mul_add,Int.mul_comm y x];omega
  rw [H];rw [G]at j;rw [C]at F;omega
 have:=Int.lt_of_mul_lt_mul_left w (Int.le_of_lt i);omega
theorem zmU{v:Key→Int}{k:Key}{a b:RowM}(p:zx a.fs)(o:zx b.fs)(i:(factor a.fs k).natAbs=1∨(factor b.fs k).natAbs=1)(t:0<factor b.fs k)(h:zaF v (za2 k false a b)):zaF v (za2 k true a b):=by
 refine⟨fun e=>(by cases e),fun _=>?_⟩;have j:=h.2 rfl;rw [zdw p o,if_neg (by simp)]at j;rw [zdw p o,if_pos rfl];have e:(((factor a.fs k).natAbs:Int) - 1)*(factor b.fs k - 1)=0:=by
  rcases i with i|i
  ·rw [i];simp
  ·have:factor b.fs k=1:=by omega
   rw [this];simp
 rw [e];exact j
theorem zh3{v:Key→Int}{k:Key}{lo up:List RowM}{m:Int}(C:∀r∈lo,zx r.fs∧r.eq=false∧factor r.fs k<0)(B:∀r∈up,zx r.fs∧r.eq=false∧0<factor r.fs k) (N:∀r∈up,factor r.fs k≤m) (K:zR v lo) (Q:zR v up) (O:¬zR v (za1 k true lo up)):∃a∈lo,∃i:Nat,(i:Int)≤((-(factor a.fs k))*m - (-(factor a.fs k)) - m)/m∧zcu v a+i=0:=by
 have:∃a∈lo,∃b∈up,¬zaF v (za2 k true a b):=by
  by_cases h:∃a∈lo,∃b∈up,¬zaF v (za2 k true a b)
  ·exact h
  ·refine absurd (fun q w=>?_) O;obtain⟨a,o,w⟩:=List.mem_flatMap.1 w;obtain⟨b,p,rfl⟩:=List.mem_map.1 w;by_cases t:zaF v (za2 k true a b)
   ·exact t
   ·exact absurd ⟨a,o,b,p,t⟩ h
 obtain⟨a,o,b,p,t⟩:=this;obtain⟨I,P,na⟩:=C a o;obtain⟨M,J,G⟩:=B b p;have H:=(K a o).2 P;have R:=(Q b p).2 J;have U:=N b p;have j:0<zcu v (za2 k true a b):=by
  by_cases c:0<zcu v (za2 k true a b)
  ·exact c
  ·exact absurd ⟨fun e=>(by cases e),fun _=>by omega⟩ t
 rw [zdw I M,if_pos rfl]at j;have e:((factor a.fs k).natAbs:Int)= -(factor a.fs k):=by omega
 rw [e]at j;refine⟨a,o,(zcu v a).natAbs,?_,by omega⟩;have E:0< -(factor a.fs k):=by omega
 generalize -(factor a.fs k)=x at*
 generalize factor b.fs k=y at*
 have F:((zcu v a).natAbs:Int)= -(zcu v a):=by omega
 rw [F];generalize -(zcu v a)=A at*
 have z:zcu v a= -A:=by omega
 rw [z]at j H;have D:0<m:=by omega
 rw [Int.le_ediv_iff_mul_le D];have T:x*zcu v b≤0:=Int.mul_nonpos_of_nonneg_of_nonpos (Int.le_of_lt E) R;have L:y*A<(x - 1)*(y - 1):=by rw [Int.mul_neg]at j;omega
 have S:0≤x - 1:=by omega
 have V:A<x - 1:=by
  have:y*A<y*(x - 1):=by rw [Int.mul_sub (x - 1) y 1,Int.mul_comm (x - 1) y]at L;omega
  exact Int.lt_of_mul_lt_mul_left this (Int.le_of_lt G)
 have Y:(m - y)*A≤(m - y)*(x - 1):=Int.mul_le_mul_of_nonneg_left (by omega) (by omega);have W:A*m=y*A+(m - y)*A:=by
  rw [←Int.add_mul,Int.mul_comm A]
  congr 1
  omega
 have X:(x - 1)*(y - 1)=y*(x - 1) - (x - 1):=by rw [Int.mul_sub,Int.mul_comm (x - 1) y];omega
 have e7:(m - y)*(x - 1)=m*(x - 1) - y*(x - 1):=Int.sub_mul ..;have Z:m*(x - 1)=x*m - m:=by rw [Int.mul_sub,Int.mul_comm];omega
 omega
end
section
open Go.RowKit
def za4(l:List RowM):Prop:=∃v,zR v l
theorem zbM{v:Key→Int}{l k:List RowM}:zR v (l++k)↔zR v l∧zR v k:=⟨fun h=>⟨fun r hr=>h r (List.mem_append.2 (.inl hr)),fun r hr=>h r (List.mem_append.2 (.inr hr))⟩,fun h r hr=>(List.mem_append.1 hr).elim (h.1 r) (h.2 r)⟩
theorem zJ{k:Key}{s:Nat}{l:List RowM}{r:RowM}:r∈zm k s l↔r∈l∧zeM k r=s:=by unfold zm;rw [List.mem_filter];simp
theorem zcW(k:Key)(r:RowM):(zeM k r=2∧(r.eq=true∨factor r.fs k=0))∨(zeM k r=0∧r.eq=false∧factor r.fs k<0)∨(zeM k r=1∧r.eq=false∧0<factor r.fs k):=by
 unfold zeM;by_cases h:r.eq=true∨factor r.fs k=0
 ·rw [if_pos h];exact .inl ⟨rfl,h⟩
 ·rw [if_neg h];have j:r.eq=false:=by
   cases e:r.eq with
   |true=>exact absurd (.inl e) h
   |false=>rfl
  have o:factor r.fs k≠0:=fun e=>h (.inr e);by_cases i:factor r.fs k<0
  ·rw [if_pos i];exact .inr (.inl ⟨rfl,j,i⟩)
  ·rw [if_neg i];exact .inr (.inr ⟨rfl,j,by omega⟩)
theorem zbY{k:Key}{l:List RowM}(o:∀r∈l,zx r.fs):∀r∈zm k 0 l,zx r.fs∧r.eq=false∧factor r.fs k<0:=fun r hr=>by
 obtain⟨j,i⟩:=zJ.1 hr;rcases zcW k r with⟨h,_⟩|⟨_,h⟩|⟨h,_⟩
 ·rw [i]at h;cases h
 ·exact⟨o r j,h⟩
 ·rw [i]at h;cases h
theorem zbX{k:Key}{l:List RowM}(o:∀r∈l,zx r.fs):∀r∈zm k 1 l,zx r.fs∧r.eq=false∧0<factor r.fs k:=fun r hr=>by
 obtain⟨j,i⟩:=zJ.1 hr;rcases zcW k r with⟨h,_⟩|⟨h,_⟩|⟨_,h⟩
 ·rw [i]at h;cases h
 ·rw [i]at h;cases h
 ·exact⟨o r j,h⟩
theorem ziY{k:Key}{l:List RowM}(o:∀r∈l,zx r.fs)(p:∀r∈l,r.eq=false):∀r∈zm k 2 l,zx r.fs∧factor r.fs k=0:=fun r hr=>by
 obtain⟨i,j⟩:=zJ.1 hr;rcases zcW k r with⟨_,h⟩|⟨h,_⟩|⟨h,_⟩
 ·rcases h with h|h
  ·rw [p r i]at h;cases h
  ·exact⟨o r i,h⟩
 ·rw [j]at h;cases h
 ·rw [j]at h;cases h
theorem zeA{v:Key→Int}{k:Key}{l:List RowM}:zR v l↔zR v (zm k 0 l)∧zR v (zm k 1 l)∧zR v (zm k 2 l):=by
 constructor
 ·intro h;exact⟨fun r i=>h r (zJ.1 i).1,fun r i=>h r (zJ.1 i).1,fun r i=>h r (zJ.1 i).1⟩
 ·rintro⟨j,o,p⟩ r i;rcases zcW k r with⟨h,_⟩|⟨h,_⟩|⟨h,_⟩
  ·exact p r (zJ.2 ⟨i,h⟩)
  ·exact j r (zJ.2 ⟨i,h⟩)
  ·exact o r (zJ.2 ⟨i,h⟩)
def zhh(k:Key)(dark:Bool)(l:List RowM):List RowM:=zm k 2 l++za1 k dark (zm k 0 l) (zm k 1 l)
theorem zlc{v:Key→Int}{k:Key}{l:List RowM}(i:∀r∈l,zx r.fs)(h:zR v l):zR v (zhh k false l):=by obtain⟨j,o,p⟩:=(zeA (k:=k)).1 h;exact zbM.2 ⟨p,zmR (zbY i) (zbX i) j o⟩
def zdG(v:Key→Int)(k:Key)(o:Option Int)(r:RowM):Option Int:=
 match o with
 |none=>some (zbg v k r)
 |some x=>some (if factor r.fs k<0 then(if x<zbg v k r then zbg v k r else x)else(if zbg v k r<x then zbg v k r else x))
def zeL(v:Key→Int)(k:Key)(l:List RowM):Option Int:=l.foldl (zdG v k) none
theorem ziy{v:Key→Int}{k:Key}:∀(l:List RowM) (o:Option Int),(∀r∈l,factor r.fs k<0)→(o≠none∨l≠[])→∃x,l.foldl (zdG v k) o=some x∧(∀y,o=some y→y≤x)∧(∀r∈l,zbg v k r≤x)∧(o=some x∨∃r∈l,zbg v k r=x)
 | [],o,_,h=>by
  cases o with
  |none=>simp at h
  |some y=>exact⟨y,rfl,fun z e=>by injection e with e;omega,fun r hr=>(by cases hr),.inl rfl⟩
 |r::l,o,hl,_=>by
  have t:=hl r (List.mem_cons_self ..);obtain⟨x,w,p,B,i⟩:=ziy l (zdG v k o r) (fun q j=>hl q (List.mem_cons_of_mem _ j)) (.inl (by cases o<;>simp [zdG]));refine⟨x,w,?_,?_,?_⟩
  ·intro y e;subst e;have:=p _ rfl;rw [if_pos t]at this;split at this<;>omega
  ·intro q j;rcases List.mem_cons.1 j with rfl|j
   ·cases o with
    |none=>exact p _ rfl
    |some y=>have:=p _ rfl;rw [if_pos t]at this;split at this<;>omega
   ·exact B q j
  ·rcases i with i|⟨q,j,e⟩
   ·cases o with
    |none=>injection i with i;exact .inr ⟨r,List.mem_cons_self ..,i⟩
    |some y=>
     unfold zdG at i;dsimp only at i;injection i with i;rw [if_pos t]at i;split at i
     ·exact .inr ⟨r,List.mem_cons_self ..,i⟩
     ·exact .inl (by rw [i])
   ·exact .inr ⟨q,List.mem_cons_of_mem _ j,e⟩
theorem zkS{v:Key→Int}{k:Key}:∀(l:List RowM) (o:Option Int),(∀r∈l,0<factor r.fs k)→∀x,l.foldl (zdG v k) o=some x→(∀y,o=some y→x≤y)∧(∀r∈l,x≤zbg v k r)
 | [],o,_,x,h=>⟨fun y e=>by rw [e]at h;injection h with h;omega,fun r hr=>(by cases hr)⟩
 |r::l,o,hl,x,h=>by
  have w:=hl r (List.mem_cons_self ..);have j:¬factor r.fs k<0:=by omega
  obtain⟨p,t⟩:=zkS l (zdG v k o r) (fun q i=>hl q (List.mem_cons_of_mem _ i)) x h;refine⟨?_,?_⟩
  ·intro y e;subst e;have:=p _ rfl;rw [if_neg j]at this;split at this<;>omega
  ·intro q i;rcases List.mem_cons.1 i with rfl|i
   ·cases o with
    |none=>exact p _ rfl
    |some y=>have:=p _ rfl;rw [if_neg j]at this;split at this<;>omega
   ·exact t q i
def zdv(v:Key→Int)(k:Key)(l:List RowM):Int:=
 match zeL v k (zm k 0 l)with
 |some x=>x
 |none=>(zeL v k (zm k 1 l)).getD 0
theorem zjC{v:Key→Int}{k:Key}{l:List RowM}(B:∀r∈l,zx r.fs)(I:∀r∈l,r.eq=false)(h:zR v (zm k 2 l))(G:∀a∈zm k 0 l,∀b∈zm k 1 l,zaF v (za2 k true a b)):zR (zdf v k (zdv v k l)) l:=by
 have o:=zbY (k:=k) B;have j:=zbX (k:=k) B;have w:=ziY (k:=k) B I;refine(zeA (k:=k)).2 ⟨?_,?_,fun r i=>(zlM (w r i).1 (w r i).2).2 (h r i)⟩
 ·intro r i;rw [zl3 (o r i).1 (o r i).2.1 (o r i).2.2];obtain⟨x,D,_,E,_⟩:=ziy (v:=v) (zm k 0 l) none (fun q p=>(o q p).2.2) (.inr (List.ne_nil_of_mem i));have:zdv v k l=x:=by
   unfold zdv zeL;rw [D]
  rw [this];exact E r i
 ·intro r i;by_cases c:zm k 0 l= []
  ·rw [zlA (j r i).1 (j r i).2.1 (j r i).2.2];have H:zdv v k l=(zeL v k (zm k 1 l)).getD 0:=by
    unfold zdv;rw [c];rfl
   cases e:zeL v k (zm k 1 l)with
   |none=>
    exfalso
    cases hh:zm k 1 l with
    |nil=>rw [hh]at i;cases i
    |cons a t=>
     rw [hh]at e;have F:∀(t:List RowM) (y:Int),t.foldl (zdG v k) (some y)≠none:=by
      intro t
      induction t with
      |nil=>intro y e;cases e
      |cons b t ih=>intro y;exact ih _
     exact F t _ e
   |some x=>rw [H,e];exact(zkS (zm k 1 l) none (fun q p=>(j q p).2.2) x e).2 r i
  ·obtain⟨x,D,_,E,z⟩:=ziy (v:=v) (zm k 0 l) none (fun q p=>(o q p).2.2) (.inr c);have:zdv v k l=x:=by
    unfold zdv zeL;rw [D]
   rw [this];rcases z with z|⟨a,C,rfl⟩
   ·cases z
   ·exact zlJ (o a C).1 (j r i).1 (j r i).2.1 (o a C).2.2 (j r i).2.2 (G a C r i)
theorem zpu{v:Key→Int}{k:Key}{l:List RowM}(j:∀r∈l,zx r.fs)(t:∀r∈l,r.eq=false)(h:zR v (zhh k true l)):zR (zdf v k (zdv v k l)) l:=by obtain⟨i,o⟩:=zbM.1 h;exact zjC j t i fun a w b p=>o _ (List.mem_flatMap.2 ⟨a,w,List.mem_map_of_mem p⟩)
def zel(k:Key)(l:List RowM):Bool:=(zm k 0 l).all (fun r=>(factor r.fs k).natAbs==1)|| (zm k 1 l).all (fun r=>(factor r.fs k).natAbs==1)
theorem znD{v:Key→Int}{k:Key}{l:List RowM}(j:∀r∈l,zx r.fs)(x:∀r∈l,r.eq=false)(i:zel k l=true)(h:zR v (zhh k false l)):zR (zdf v k (zdv v k l)) l:=by
 obtain⟨t,w⟩:=zbM.1 h;refine zjC j x t fun a p b o=>?_;have y:=w _ (List.mem_flatMap.2 ⟨a,p,List.mem_map_of_mem o⟩);refine zmU (zbY j a p).1 (zbX j b o).1 ?_ (zbX j b o).2.2 y;unfold zel at i;rw [Bool.or_eq_true,List.all_eq_true,List.all_eq_true]at i;rcases i with i|i
 ·exact .inl (by simpa using i a p)
 ·exact .inr (by simpa using i b o)
def zgZ(k:Key)(l:List RowM):Int:=l.foldl (fun m r=>if m<factor r.fs k then factor r.fs k else m) 0
theorem zkB{k:Key}:∀(l:List RowM) (m:Int),m≤l.foldl (fun m r=>if m<factor r.fs k then factor r.fs k else m) m∧∀r∈l,factor r.fs k≤l.foldl (fun m r=>if m<factor r.fs k then factor r.fs k else m) m
 | [],m=>⟨Int.le_refl _,fun r p=>(by cases p)⟩
 |r::l,m=>by
  obtain⟨j,o⟩:=zkB l (if m<factor r.fs k then factor r.fs k else m);rw [List.foldl_cons];refine⟨Int.le_trans ?_ j,fun q i=>?_⟩
  ·split<;>omega
  ·rcases List.mem_cons.1 i with rfl|i
   ·exact Int.le_trans (by split<;>omega) j
   ·exact o q i
def zl0(k:Key)(m:Int)(a:RowM):Int:=(((factor a.fs k).natAbs:Int)*m - ((factor a.fs k).natAbs:Int) - m)/m
def zhi(a:RowM)(i:Nat):RowM:=⟨a.rest+(i:Int),a.fs,true⟩
theorem zil{k:Key}{l:List RowM}(j:∀r∈l,zx r.fs)(F:∀r∈l,r.eq=false)(C:¬za4 (zhh k true l)) (z:∀a∈zm k 0 l,∀i:Nat,(i:Int)≤zl0 k (zgZ k (zm k 1 l)) a→¬za4 (l++[zhi a i])):¬za4 l:=by
 rintro⟨v,o⟩;obtain⟨w,y,D⟩:=(zeA (k:=k)).1 o;have p:¬zR v (za1 k true (zm k 0 l) (zm k 1 l)):=fun h=>C ⟨v,zbM.2 ⟨D,h⟩⟩;obtain⟨a,t,i,B,e⟩:=zh3 (zbY j) (zbX j) (zkB (zm k 1 l) 0).2 w y p;refine z a t i ?_ ⟨v,zbM.2 ⟨o,fun q x=>?_⟩⟩
 ·have E:((factor a.fs k).natAbs:Int)= -(factor a.fs k):=by
   have:=(zbY j a t).2.2;omega
  unfold zl0;rw [E];exact B
 ·rw [List.mem_singleton.1 x];refine⟨fun _=>?_,fun e=>(by cases e)⟩;show a.rest+(i:Int)+zk v a.fs=0;unfold zcu at e;omega
theorem zmj{l:List RowM}{k:Key}{gs:List (Key×Int)}{r2:Int}(o:∀r∈l,zx r.fs)(p:zx gs)(t:factor gs k=1):za4 (l.map (zeR k r2 gs))↔za4 l:=by
 constructor
 ·rintro⟨v,i⟩;exact⟨_,(zda o).1 i⟩
 ·rintro⟨v,i⟩;refine⟨zdf v k (2*v k - r2 - zk v gs),(zda o).2 ?_⟩;have e:r2+zk (zdf v k (2*v k - r2 - zk v gs)) gs=v k:=by
   rw [zdA p,t];omega
  rw [e];have:zdf (zdf v k (2*v k - r2 - zk v gs)) k (v k)=v:=by
   funext j
   unfold zdf;split
   ·rename_i h;rw [h]
   ·rfl
  rw [this];exact i
theorem zoE{l:List RowM}{k:Key}{gs:List (Key×Int)}{r2:Int}{t:RowM}(j:∀r∈l,zx r.fs)(w:t∈l)(y:t.eq=true)(B:(factor t.fs k).natAbs=1) (x:r2=t.rest*(-(factor t.fs k))) (p:∀v,zk v gs=(zk v t.fs - factor t.fs k*v k)*(-(factor t.fs k))):za4 (l.map (zeR k r2 gs))↔za4 l:=by
 constructor
 ·rintro⟨v,i⟩;exact⟨_,(zda j).1 i⟩
 ·rintro⟨v,i⟩;refine⟨v,(zda j).2 ?_⟩;have o:=(i t w).1 y;have e:r2+zk v gs=v k:=by
   rw [p,x];unfold zcu at o;have z:t.rest= -(zk v t.fs):=by omega
   rw [z];have:factor t.fs k=1∨factor t.fs k= -1:=by omega
   rcases this with c|c<;>rw [c]<;>omega
  rw [e,zm6];exact i
end
section
section
variable{α:Type}
structure Box(S:(α→Int)→Prop)(n P:Nat):Prop where
 bd:∀R:List (α→Int),(∀r∈R,S r)→∀T,(zaK R T).natAbs≤P
 rk:∀R:List (α→Int),(∀r∈R,S r)→n<R.length→∀T,zaK R T=0
theorem znF(r:α→Int)(c:α):zaK [r] [c]=r c:=by show Lx r (zaK []) [c]=r c;simp [Lx,zaK]
theorem Box.one{S:(α→Int)→Prop}{n P:Nat}(h:Box S n P):1≤P:=by have:=h.bd [] (fun r hr=>by cases hr) [];simpa [zaK]using this
theorem Box.entry{S:(α→Int)→Prop}{n P:Nat}(h:Box S n P){r:α→Int}(i:S r)(c:α):(r c).natAbs≤P:=by have:=h.bd [r] (fun q hq=>by rw [List.mem_singleton.1 hq];exact i) [c];rwa [znF]at this
theorem Box.none{S:(α→Int)→Prop}{P:Nat}(h:Box S 0 P){r:α→Int}(i:S r)(c:α):r c=0:=by have:=h.rk [r] (fun q hq=>by rw [List.mem_singleton.1 hq];exact i) (by simp) [c];rwa [znF]at this
theorem Box.le{S:(α→Int)→Prop}{n m P Q:Nat}(h:Box S n P)(k:n≤m)(j:P≤Q):Box S m Q:=⟨fun R i T=>Nat.le_trans (h.bd R i T) j,fun R i hl T=>h.rk R i (by omega) T⟩
theorem Box.sub{S j:(α→Int)→Prop}{n P:Nat}(h:Box S n P)(k:∀r,j r→S r):Box j n P:=⟨fun R i T=>h.bd R (fun r hr=>k r (i r hr)) T,fun R i hl T=>h.rk R (fun r hr=>k r (i r hr)) hl T⟩
theorem zkI{S:(α→Int)→Prop}:∀R':List (α→Int),(∀t∈R',∃r d,S r∧d≠0∧∀c,r c=d*t c)→∃R:List (α→Int),∃k:Int,(∀r∈R,S r)∧R.length=R'.length∧k≠0∧∀T,zaK R T=k*zaK R' T
 | [],_=>⟨[],1,fun r j=>(by cases j),rfl,by decide,fun T=>by rw [Int.one_mul]⟩
 |t::R',h=>by
  obtain⟨r,d,j,o,e⟩:=h t (List.mem_cons_self ..);obtain⟨R,k,v,w,x,p⟩:=zkI R' (fun q i=>h q (List.mem_cons_of_mem _ i));refine⟨r::R,d*k,?_,by simp [w],Int.mul_ne_zero o x,fun T=>?_⟩
  ·intro q i;rcases List.mem_cons.1 i with rfl|i
   ·exact j
   ·exact v q i
  ·rw [zT,zT,zc3 (fun y=>p y),zck,show r=fun c=>d*t c from funext e,zbG,Int.mul_assoc,←Int.mul_assoc k,Int.mul_comm k d,Int.mul_assoc d k]
theorem zqm{k a b:Int}{P:Nat}(j:k≠0)(h:b=k*a)(i:b.natAbs≤P):a.natAbs≤P:=by
 rw [h,Int.natAbs_mul]at i;have:1≤k.natAbs:=by omega
 have:=Nat.mul_le_mul_right a.natAbs this;omega
theorem Box.div{S x:(α→Int)→Prop}{n P:Nat}(h:Box S n P)(w:∀t,x t→∃r d,S r∧d≠0∧∀c,r c=d*t c):Box x n P:=by
 constructor
 ·intro R' i T;obtain⟨R,k,o,y,v,j⟩:=zkI R' (fun t p=>w t (i t p));exact zqm v (j T) (h.bd R o T)
 ·intro R' i z T;obtain⟨R,k,o,y,v,j⟩:=zkI R' (fun t p=>w t (i t p));have:=j T;rw [h.rk R o (by omega) T]at this;exact(Int.mul_eq_zero.1 this.symm).resolve_left v
theorem zkl{S:(α→Int)→Prop}{q:α→Int}{p:α}:∀R':List (α→Int),(∀t∈R',∃r,S r∧t=opq q p r)→∃R:List (α→Int),(∀r∈R,S r)∧R'=R.map (opq q p)
 | [],_=>⟨[],fun r j=>(by cases j),rfl⟩
 |t::R',h=>by
  obtain⟨r,j,rfl⟩:=h t (List.mem_cons_self ..);obtain⟨R,k,rfl⟩:=zkl R' (fun q i=>h q (List.mem_cons_of_mem _ i));refine⟨r::R,fun q i=>?_,rfl⟩;rcases List.mem_cons.1 i with rfl|i
  ·exact j
  ·exact k q i
theorem zlK{a b:Int}{P:Nat}(i:a≠0)(h:(a*b).natAbs≤a.natAbs*P):b.natAbs≤P:=by rw [Int.natAbs_mul]at h;exact Nat.le_of_mul_le_mul_left h (by omega)
theorem Box.eq{S x:(α→Int)→Prop}{n P:Nat}(h:Box S n P){a q:α→Int}{p:α}(C:S a)(z:a p≠0)(D:∀c,(opq q p a c).natAbs≤(a p).natAbs)(B:∀t,x t→∃r,S r∧t=opq q p r):Box x n ((n+1)*P):=by
 have J:=h.one;have v:∀R':List (α→Int),(∀t∈R',x t)→n<R'.length→∀T,zaK R' T=0:=by
  intro R' i o T;obtain⟨R,k,rfl⟩:=zkl R' (fun t j=>B t (i t j));rw [List.length_map]at o;have e:=zht q p a R T;have y:∀r∈a::R,S r:=fun r hr=>by
   rcases List.mem_cons.1 hr with rfl|hr
   ·exact C
   ·exact k r hr
  rw [h.rk (a::R) y (by simp;omega),zc3 (fun w=>h.rk R k o (p::w)),zhb]at e;exact(Int.mul_eq_zero.1 e).resolve_left z
 refine⟨fun R' i T=>?_,v⟩;by_cases o:n<R'.length
 ·rw [v R' i o];exact Nat.zero_le _
 by_cases j:R'.length=T.length
 ·obtain⟨R,k,rfl⟩:=zkl R' (fun t j=>B t (i t j));rw [List.length_map]at o j;have e:=zht q p a R T;have y:∀r∈a::R,S r:=fun r hr=>by
   rcases List.mem_cons.1 hr with rfl|hr
   ·exact C
   ·exact k r hr
  have H:=h.bd (a::R) y (p::T);have F:=zqH (r:=opq q p a) (K:=(a p).natAbs) (P:=P) T (fun w=>zaK R (p::w)) (fun c _=>D c) (fun w=>h.bd R k _);refine zlK z ?_;rw [e];have E:T.length*((a p).natAbs*P)≤n*((a p).natAbs*P):=Nat.mul_le_mul_right _ (by omega);have I:1*P≤(a p).natAbs*P:=Nat.mul_le_mul_right _ (by omega);have G:(a p).natAbs*((n+1)*P)=n*((a p).natAbs*P)+(a p).natAbs*P:=by rw [←Nat.mul_assoc,Nat.mul_comm _ (n+1),Nat.mul_assoc,Nat.succ_mul]
  omega
 ·rw [zg5 R' T j];exact Nat.zero_le _
theorem zig{S:(α→Int)→Prop}{n P M:Nat}(h:Box S n P)(w:1≤M):∀(R' O:List (α→Int)),(∀r∈O,S r)→(∀t∈R',S t∨∃a b x y,S a∧S b∧x.natAbs≤M∧y.natAbs≤M∧∀c,t c=y*a c+x*b c)→∀T,(zaK (O++R') T).natAbs≤(2*M)^R'.length*P∧(n<(O++R').length→zaK (O++R') T=0)
 | [],O,hO,_,T=>by rw [List.append_nil,List.length_nil,Nat.pow_zero,Nat.one_mul];exact⟨h.bd O hO T,fun j=>h.rk O hO j T⟩
 |t::R',O,hO,hR,T=>by
  have v:=fun q hq=>hR q (List.mem_cons_of_mem _ hq);have i:∀a,S a→∀T,(zaK (O++a::R') T).natAbs≤(2*M)^R'.length*P∧(n<(O++a::R').length→zaK (O++a::R') T=0):=by
   intro a p T;have:=zig h w R' (O++[a]) (fun r hr=>by
    rcases List.mem_append.1 hr with hr|hr
    ·exact hO r hr
    ·rw [List.mem_singleton.1 hr];exact p) v T
   rwa [List.append_assoc]at this
  have k:(2*M)^(t::R').length*P=M*((2*M)^R'.length*P)+M*((2*M)^R'.length*P):=by rw [List.length_cons,Nat.pow_succ,Nat.mul_comm _ (2*M),Nat.mul_assoc,Nat.mul_assoc];omega
  rcases hR t (List.mem_cons_self ..)with ht|⟨a,b,x,y,p,G,z,B,e⟩
  ·obtain⟨J,F⟩:=i t ht T;refine⟨?_,F⟩;rw [k];have:=Nat.mul_le_mul_right ((2*M)^R'.length*P) w;omega
  ·have o:∀T,zaK (O++t::R') T=y*zaK (O++a::R') T+x*zaK (O++b::R') T:=zlp O fun T=>by
    rw [zT,zT,zT,show t=fun c=>y*a c+x*b c from funext e,zdU (fun c=>y*a c) (fun c=>x*b c),zbG,zbG]
   obtain⟨H,D⟩:=i a p T;obtain⟨E,C⟩:=i b G T;have K:=zfw B H;have I:=zfw z E;refine⟨?_,fun j=>?_⟩
   ·rw [o,k];have:(y*zaK (O++a::R') T+x*zaK (O++b::R') T).natAbs≤(y*zaK (O++a::R') T).natAbs+(x*zaK (O++b::R') T).natAbs:=by omega
    omega
   ·rw [o,D (by simpa using j),C (by simpa using j)];simp
theorem Box.out{S o:(α→Int)→Prop}{n P:Nat}(h:Box S n P){a:α→Int}{p:α}(C:S a)(v:a p≠0)(B:∀t,o t→t p=0) (z:∀t,o t→S t∨∃a b x y,S a∧S b∧x.natAbs≤P∧y.natAbs≤P∧∀c,t c=y*a c+x*b c):0<n∧Box o (n - 1) ((2*P)^(n - 1)*P):=by
 have D:=h.one;have F:0<n:=by
  cases n with
  |zero=>exact absurd (h.none C p) v
  |succ n=>exact Nat.succ_pos _
 have j:∀R':List (α→Int),(∀t∈R',o t)→n - 1<R'.length→∀T,zaK R' T=0:=by
  intro R' i w T;have k:=(zig h D R' [a] (fun r hr=>by rw [List.mem_singleton.1 hr];exact C) (fun t ht=>z t (i t ht)) (p::T)).2 (by simp;omega);have e:zaK ([a]++R') (p::T)=a p*zaK R' T:=by show Lx a (zaK R') (p::T)=_;simp only [Lx];rw [zc3 (fun E=>ziW p R' (fun r hr=>B r (i r hr)) E),zhb];omega
  rw [k]at e;exact(Int.mul_eq_zero.1 e.symm).resolve_left v
 refine⟨F,fun R' i T=>?_,j⟩;by_cases w:n - 1<R'.length
 ·rw [j R' i w];exact Nat.zero_le _
 ·have k:=(zig h D R' [] (fun r hr=>by cases hr) (fun t ht=>z t (i t ht)) T).1;rw [List.nil_append]at k;have G:(2*P)^R'.length≤(2*P)^(n - 1):=Nat.pow_le_pow_right (by omega) (by omega);exact Nat.le_trans k (Nat.mul_le_mul_right _ G)
end
end
section
open Go.RowKit
def zsm(l:List RowM)(f:Key→Int):Prop:=∃r∈l,f=factor r.fs
def zj1(l:List RowM)(n P:Nat):Prop:=Box (zsm l) n P
theorem zfR{fs:List (Key×Int)}(j:zx fs)(g:Int→Int)(t:g 0=0)(k:Key):factor (fs.map fun f=>(f.1,g f.2)) k=g (factor fs k):=by
 have o:zx (fs.map fun f=>(f.1,g f.2)):=by
  unfold zx at*
  rw [List.pairwise_map];exact j
 cases e:zae fs k with
 |some z=>have i:=(zv j).1 e;rw [zl j i];exact zl o (List.mem_map_of_mem (f:=fun f:Key×Int=>(f.1,g f.2)) i)
 |none=>
  have i:∀f∈fs,f.1≠k:=fun f p e2=>by
   have:=(zv j (k:=k) (v:=f.2)).2 (by rw [←e2];exact p);rw [e]at this
   cases this
  rw [zI j i,t];refine zI o fun f p=>?_;obtain⟨q,w,rfl⟩:=List.mem_map.1 p;exact i q w
theorem zdT{fs:List (Key×Int)}(i:zx fs)(n:Int)(k:Key):factor (za9 fs n) k=factor fs k*n:=zfR i (fun z=>z*n) (Int.zero_mul n) k
theorem zlW{fs:List (Key×Int)}(i:zx fs)(n:Int)(k:Key):factor (zbI fs n) k=factor fs k/n:=zfR i (fun z=>z/n) (Int.zero_ediv n) k
theorem zft{fs:List (Key×Int)}(i:zx fs){d:Int}(h:∀f∈fs,f.2%d=0)(k:Key):factor fs k=d*factor (zbI fs d) k:=by
 rw [zlW i]
 cases e:zae fs k with
 |some z=>have j:=(zv i).1 e;rw [zl i j];exact(Int.mul_ediv_cancel' (Int.dvd_of_emod_eq_zero (h _ j))).symm
 |none=>
  have:factor fs k=0:=by rw [zaz fs,e];rfl
  rw [this,Int.zero_ediv,Int.mul_zero]
theorem zfa{fs:List (Key×Int)}{n:Int}(h:zx fs):zx (zbI fs n):=by
 unfold zx zbI at*
 rw [List.pairwise_map];exact h
theorem zrc{r:RowM}(i:zx r.fs){fs:List (Key×Int)}(h:(zP r).of=some fs):zx fs∧∃d:Int,d≠0∧∀c,factor r.fs c=d*factor fs c:=by
 unfold zP at h;have j:∀f∈r.fs,f.2%zbZ r.fs=0:=zb3;split at h
 ·split at h<;>cases h
 ·rename_i k;split at h
  ·split at h
   ·injection h with h;rw [←h];refine⟨zfa i,zaa r.fs,?_,zft i zdo⟩;unfold zaa;split<;>omega
   ·cases h
  ·split at h
   ·injection h with h;rw [←h];refine⟨zcl (zfa i),-(zbZ r.fs),by omega,fun c=>?_⟩;rw [zdT (zfa i),zft i j,Int.neg_mul,Int.mul_neg,Int.mul_one,Int.mul_neg,Int.neg_neg]
   ·injection h with h;rw [←h];exact⟨zfa i,zbZ r.fs,k,zft i j⟩
theorem zjw{l:List RowM}(w:∀r∈l,Plain r.fs)(E:∀r∈l,zx r.fs):∀t∈zO (zi l).2,zx t.fs∧∃r∈l,∃d:Int,d≠0∧∀c,factor r.fs c=d*factor t.fs c:=by
 intro t i;unfold zO at i;obtain⟨e,D,i⟩:=List.mem_flatMap.1 i;have p:=zbq w;obtain⟨-,f,B,z⟩:=p.key e.1 e.2 ((zv p.rise).2 D);obtain⟨r,k,rfl⟩:=List.mem_map.1 B;obtain⟨o,d,C,v⟩:=zrc (E r k) z;have:t.fs=e.2.fs∨t.fs=za9 e.2.fs (-1):=by
  rcases zaS e.2 with⟨x,_,j⟩|⟨x,y,_,_,_,_,j⟩|⟨x,y,_,_,_,_,j⟩|⟨x,y,_,_,_,_,j⟩|⟨x,_,_,_,j⟩|⟨x,_,_,_,j⟩|⟨_,_,_,j⟩<;>rw [j]at i
  ·rw [List.mem_singleton.1 i];exact .inl rfl
  ·cases i
  ·rw [List.mem_singleton.1 i];exact .inl rfl
  ·rcases List.mem_cons.1 i with i|i
   ·rw [i];exact .inl rfl
   ·rw [List.mem_singleton.1 i];exact .inr rfl
  ·rw [List.mem_singleton.1 i];exact .inl rfl
  ·rw [List.mem_singleton.1 i];exact .inr rfl
  ·cases i
 rcases this with e1|e1
 ·rw [e1];exact⟨o,r,k,d,C,v⟩
 ·rw [e1];refine⟨zcl o,r,k,-d,by omega,fun c=>?_⟩;rw [zdT o,v c,Int.neg_mul,Int.mul_neg,Int.mul_one,Int.mul_neg,Int.neg_neg]
theorem zj1.tidy{l:List RowM}{n P:Nat}(h:zj1 l n P)(p:∀r∈l,Plain r.fs)(v:∀r∈l,zx r.fs):zj1 (zO (zi l).2) n P:=Box.div h fun t o=>by obtain⟨q,k,rfl⟩:=o;obtain⟨-,r,i,d,j,e⟩:=zjw p v q k;exact⟨factor r.fs,d,⟨r,i,rfl⟩,j,e⟩
theorem zj1.sub{l k:List RowM}{n P:Nat}(h:zj1 l n P)(o:∀r∈k,∃q∈l,q.fs=r.fs):zj1 k n P:=Box.sub h fun f i=>by obtain⟨r,p,rfl⟩:=i;obtain⟨q,j,e⟩:=o r p;exact⟨q,j,by rw [e]⟩
theorem zj1.near{l:List RowM}{n P:Nat}(h:zj1 l n P){a:RowM}{i:Nat}(k:a∈l):zj1 (l++[zhi a i]) n P:=h.sub fun r j=>(List.mem_append.1 j).elim (fun j=>⟨r,j,rfl⟩) fun j=>⟨a,k,by rw [List.mem_singleton.1 j];rfl⟩
def zmE(gs:List (Key×Int))(k:Key):Key→Int:=fun c=>(if c=k then 1 else 0) - factor gs c
theorem zbt(k:Key)(c:Key):factor [(k,(1:Int))] c=if c=k then 1 else 0:=by
 split
 ·rename_i h;rw [h];exact zl (List.pairwise_singleton _ _) (List.mem_singleton.2 rfl)
 ·rename_i h;exact zI (List.pairwise_singleton _ _) fun f i e=>h (by rw [List.mem_singleton.1 i]at e;exact e.symm)
theorem zeD{k:Key}{r2:Int}{gs:List (Key×Int)}{r:RowM}(i:zx r.fs)(j:zx gs):factor (zeR k r2 gs r).fs=opq (zmE gs k) k (factor r.fs):=by
 funext c
 show factor (zG (zG r.fs [(k,1)] (-(factor r.fs k))) gs (factor r.fs k)) c=_;rw [zak gs _ (zac _ _ i) j,zak [(k,1)] _ i (List.pairwise_singleton _ _),zbt];unfold opq zmE;rw [Int.sub_mul,Int.mul_neg];omega
theorem zj1.put{l:List RowM}{n P:Nat}(h:zj1 l n P)(w:∀r∈l,zx r.fs){k:Key}{r2:Int}{gs:List (Key×Int)}(p:zx gs){t:RowM}(v:t∈l)(i:factor t.fs k≠0) (j:∀c,(opq (zmE gs k) k (factor t.fs) c).natAbs≤(factor t.fs k).natAbs):zj1 (l.map (zeR k r2 gs)) n ((n+1)*P):=Box.eq h ⟨t,v,rfl⟩ i j fun f i=>by obtain⟨q,j,rfl⟩:=i;obtain⟨r,o,rfl⟩:=List.mem_map.1 j;exact⟨factor r.fs,⟨r,o,rfl⟩,zeD (w r o) p⟩
theorem zpX{t gs:List (Key×Int)}{k:Key}(i:factor t k≠0)(j:factor gs k=1)(p:∀c,c≠k→factor gs c= -(factor t c/factor t k)):∀c,(opq (zmE gs k) k (factor t) c).natAbs≤(factor t k).natAbs:=by
 intro c;unfold opq zmE;by_cases h:c=k
 ·rw [if_pos h,h,j];simp
 ·rw [if_neg h,p c h];have v:=Int.emod_add_mul_ediv (factor t c) (factor t k);have x:=Int.emod_nonneg (factor t c) i;have w:=Int.emod_lt (factor t c) i;have:factor t c - (0 - -(factor t c/factor t k))*factor t k=factor t c%factor t k:=by
   have o:(0:Int) - -(factor t c/factor t k)=factor t c/factor t k:=by omega
   rw [o,Int.mul_comm];omega
  rw [this];omega
theorem zpd{t gs:List (Key×Int)}{k:Key}(j:(factor t k).natAbs=1)(i:∀c,factor gs c=(factor t c - (if c=k then factor t k else 0))* -(factor t k)):∀c,(opq (zmE gs k) k (factor t) c).natAbs≤(factor t k).natAbs:=by
 intro c;unfold opq zmE;rw [i c];have:factor t k=1∨factor t k= -1:=by omega
 by_cases h:c=k
 ·rw [if_pos h,if_pos h,h];simp
 ·rw [if_neg h,if_neg h];rcases this with e|e<;>rw [e]<;>omega
theorem zeB{k:Key}{dark:Bool}{a b:RowM}(j:zx a.fs)(i:zx b.fs)(c:Key):factor (za2 k dark a b).fs c=factor b.fs k*factor a.fs c+((factor a.fs k).natAbs:Int)*factor b.fs c:=by show factor (zG (za9 a.fs (factor b.fs k)) (za9 b.fs ((factor a.fs k).natAbs:Int)) 1) c=_;rw [zak _ _ (zcl j) (zcl i),zdT j,zdT i,Int.mul_one,Int.mul_comm (factor a.fs c),Int.mul_comm (factor b.fs c)]
theorem zj1.out{l:List RowM}{n P:Nat}(h:zj1 l n P)(j:∀r∈l,zx r.fs)(B:∀r∈l,r.eq=false){k:Key}{dark:Bool}{t:RowM}(z:t∈l)(y:factor t.fs k≠0):0<n∧zj1 (zhh k dark l) (n - 1) ((2*P)^(n - 1)*P):=by
 refine Box.out (a:=factor t.fs) (p:=k) h ⟨t,z,rfl⟩ y ?_ ?_
 ·rintro f ⟨r,i,rfl⟩;rcases List.mem_append.1 i with i|i
  ·exact(ziY j B r i).2
  ·obtain⟨a,o,i⟩:=List.mem_flatMap.1 i;obtain⟨b,v,rfl⟩:=List.mem_map.1 i;have w:=zbY j a o;have x:=zbX j b v;rw [zeB w.1 x.1];have e:((factor a.fs k).natAbs:Int)= -(factor a.fs k):=by omega
   rw [e,Int.neg_mul,Int.mul_comm];omega
 ·rintro f ⟨r,i,rfl⟩;rcases List.mem_append.1 i with i|i
  ·exact .inl ⟨r,(zJ.1 i).1,rfl⟩
  ·obtain⟨a,o,i⟩:=List.mem_flatMap.1 i;obtain⟨b,v,rfl⟩:=List.mem_map.1 i;have w:=zbY j a o;have x:=zbX j b v;refine .inr ⟨factor a.fs,factor b.fs,_,_,⟨a,(zJ.1 o).1,rfl⟩,⟨b,(zJ.1 v).1,rfl⟩,?_,?_,zeB w.1 x.1⟩
   ·exact h.entry ⟨a,(zJ.1 o).1,rfl⟩ k
   ·exact h.entry ⟨b,(zJ.1 v).1,rfl⟩ k
end
section
open Go.RowKit
def zrl(o:Option Int):Nat:=if o.isSome=true then 1 else 0
def cnt(p:Pr):Nat:=zrl p.up+zrl p.lo+zrl p.eq
def zfV:List (Key×Pr)→Nat
 | []=>0
 |e::l=>cnt e.2+zfV l
theorem zce:∀a b:List (Key×Pr),zfV (a++b)=zfV a+zfV b
 | [],b=>by simp [zfV]
 |e::a,b=>by rw [List.cons_append,zfV,zfV,zce a b];omega
theorem zkK{l:List (Key×Pr)}(p:zx l)(k:Key)(v:Pr):zfV (zau l k v)+((zae l k).map cnt).getD 0=zfV l+cnt v:=by
 unfold zau zae;split
 ·rename_i h;obtain⟨u,i⟩:=(zD p k).1 h;have j:l=l.take (place l k)++(k,u)::l.drop (place l k+1):=by
   obtain⟨t,o⟩:=List.getElem?_eq_some_iff.1 i;rw [←o,List.getElem_cons_drop,List.take_append_drop]
  have e:=congrArg zfV j;rw [zce,zfV]at e;rw [zce,zfV,i];show _+cnt u=_;dsimp only at e⊢;omega
 ·have e:zfV l=zfV (l.take (place l k))+zfV (l.drop (place l k)):=by rw [←zce,List.take_append_drop]
  rw [zce,zfV];show _+0=_;dsimp only;omega
theorem zfI(ps:List (Key×Pr))(fs:List (Key×Int)):cnt (zz ps fs)=((zae ps (zy 0 fs)).map cnt).getD 0:=by
 unfold zz
 cases zae ps (zy 0 fs)with
 |none=>rfl
 |some p=>rfl
theorem zkH(o:Option Int):zrl o≤1:=by unfold zrl;split<;>omega
theorem zmd{s:Bool×List (Key×Pr)}(i:zx s.2):∀f:zcs,zfV (zb0 s f).2≤zfV s.2+1
 | .bad=>Nat.le_succ _
 | .nothing=>Nat.le_succ _
 | .eq fs n=>by
  have h:=zkK i (zy 0 fs) {zz s.2 fs with eq:=some n};rw [←zfI]at h;have j:cnt {zz s.2 fs with eq:=some n}≤cnt (zz s.2 fs)+1:=by have:=zkH (some n);unfold cnt;dsimp only;omega
  show zfV (zau s.2 (zy 0 fs) _)≤_;omega
 | .up fs n=>by
  have h:=zkK i (zy 0 fs) {zz s.2 fs with up:=za3 (zz s.2 fs).up n};rw [←zfI]at h;have j:cnt {zz s.2 fs with up:=za3 (zz s.2 fs).up n}≤cnt (zz s.2 fs)+1:=by have:=zkH (za3 (zz s.2 fs).up n);unfold cnt;dsimp only;omega
  show zfV (zau s.2 (zy 0 fs) _)≤_;omega
 | .lo fs n=>by
  have h:=zkK i (zy 0 fs) {zz s.2 fs with lo:=za3 (zz s.2 fs).lo n};rw [←zfI]at h;have j:cnt {zz s.2 fs with lo:=za3 (zz s.2 fs).lo n}≤cnt (zz s.2 fs)+1:=by have:=zkH (za3 (zz s.2 fs).lo n);unfold cnt;dsimp only;omega
  show zfV (zau s.2 (zy 0 fs) _)≤_;omega
theorem zjW:∀(F G:List zcs) (s:Bool×List (Key×Pr)),ziH F s→zg2 (F++G)→zfV (G.foldl zb0 s).2≤zfV s.2+G.length
 |F,[],s,_,_=>Nat.le_refl _
 |F,g::G,s,h,ha=>by
  have e:F++g::G=(F++[g])++G:=by rw [List.append_assoc];rfl
  have i:=h.next g (ha.sub fun f hf=>by rw [e];exact List.mem_append.2 (.inl hf));have j:=zjW (F++[g]) G _ i (by rw [←e];exact ha);have k:=zmd h.rise g;rw [List.foldl_cons,List.length_cons];omega
theorem zcV{o:Option Int}{a:Int}(h:o=some a):zrl o=1:=by rw [h];rfl
theorem znb(p:Pr):(zaV p).1.length≤cnt p:=by
 unfold cnt;rcases zaS p with⟨x,k,i⟩|⟨x,y,_,_,_,_,i⟩|⟨x,y,k,j,o,_,i⟩|⟨x,y,k,j,o,_,i⟩|⟨x,k,j,o,i⟩|⟨x,k,j,o,i⟩|⟨_,_,_,i⟩<;>rw [i]
 ·rw [zcV k];simp
 ·simp
 ·rw [zcV j];simp;omega
 ·rw [zcV j,zcV o];simp
 ·rw [zcV j];simp;omega
 ·rw [zcV o];simp;omega
 ·simp
theorem zg6:∀ps:List (Key×Pr),(zO ps).length≤zfV ps
 | []=>Nat.le_refl _
 |e::ps=>by have h:=zg6 ps;have i:=znb e.2;show((zaV e.2).1++zO ps).length≤cnt e.2+zfV ps;rw [List.length_append];omega
theorem zlv{l:List RowM}(j:∀r∈l,Plain r.fs):(zO (zi l).2).length≤l.length:=by
 have i:=zjW [] (l.map zP) (true,[]) zlk (by rw [List.nil_append];exact zeO j);have k:(zi l)=(l.map zP).foldl zb0 (true,[]):=by unfold zi;rw [List.foldl_map];rfl
 rw [←k,List.length_map]at i;have p:=zg6 (zi l).2;have o:zfV ((true,[]):Bool×List (Key×Pr)).2=0:=rfl;omega
def InN(NM:List Key)(fs:List (Key×Int)):Prop:=∀f∈fs,f.1∈NM
theorem zc7:∀(NM:List Key) (fs:List (Key×Int)),zx fs→InN NM fs→fs.length≤NM.length
 | [],[],_,_=>Nat.le_refl _
 | [],f::fs,_,h=>absurd (h f (List.mem_cons_self ..)) (by simp)
 |n::NM,fs,hr,h=>by
  by_cases c:∃f∈fs,f.1=n
  ·obtain⟨f,p,e⟩:=c;obtain⟨a,b,rfl⟩:=List.append_of_mem p;have k:zx (a++b):=List.Pairwise.sublist (by simp) hr;have i:∀g∈a++b,g.1≠n:=fun g hg e2=>by
    have o:=List.pairwise_append.1 hr;rcases List.mem_append.1 hg with hg|hg
    ·have:=o.2.2 g hg f (List.mem_cons_self ..);rw [e,e2]at this;exact zev _ this
    ·have:=(List.pairwise_cons.1 o.2.1).1 g hg;rw [e,e2]at this;exact zev _ this
   have:=zc7 NM (a++b) k fun g hg=>by
    have j:g∈a++f::b:=by
     rcases List.mem_append.1 hg with hg|hg
     ·exact List.mem_append.2 (.inl hg)
     ·exact List.mem_append.2 (.inr (List.mem_cons_of_mem _ hg))
    rcases List.mem_cons.1 (h g j)with e3|e3
    ·exact absurd e3 (i g hg)
    ·exact e3
   simp only [List.length_append,List.length_cons]at this⊢;omega
  ·have:=zc7 NM fs hr fun g hg=>by
    rcases List.mem_cons.1 (h g hg)with e3|e3
    ·exact absurd ⟨g,hg,e3⟩ c
    ·exact e3
   simp only [List.length_cons];omega
end
section
open Go.RowKit
structure zgx(NM:List Key)(l:List RowM):Prop where
 rise:∀r∈l,zx r.fs
 nz:∀r∈l,NZ r.fs
 nm:∀r∈l,∀c,factor r.fs c≠0→c∈NM
theorem zgx.inN{NM:List Key}{l:List RowM}(h:zgx NM l){r:RowM}(i:r∈l):InN NM r.fs:=fun f j=>h.nm r i f.1 (by rw [zl (h.rise r i) j];exact h.nz r i f j)
theorem zgx.plain{NM:List Key}{l:List RowM}(h:zgx NM l)(i:∀k∈NM,∀u∈k,u≠43):∀r∈l,Plain r.fs:=fun r hr f hf=>i f.1 (h.inN hr f hf)
theorem zrf{r:RowM}(k:NZ r.fs){fs:List (Key×Int)}(h:(zP r).of=some fs):NZ fs:=by
 unfold zP at h;have i:∀f∈r.fs,zbZ r.fs∣f.2:=fun f j=>Int.dvd_of_emod_eq_zero (zb3 f j);split at h
 ·split at h<;>cases h
 ·rename_i o;split at h
  ·split at h
   ·injection h with h;rw [←h];exact zgo k fun f j=>Int.dvd_of_emod_eq_zero (zdo f j)
   ·cases h
  ·split at h
   ·injection h with h;rw [←h];exact zgH (zgo k i) (by decide)
   ·injection h with h;rw [←h];exact zgo k i
theorem zre{l:List RowM}(w:∀r∈l,Plain r.fs)(B:∀r∈l,NZ r.fs):∀t∈zO (zi l).2,NZ t.fs:=by
 intro t i;unfold zO at i;obtain⟨e,z,i⟩:=List.mem_flatMap.1 i;have o:=zbq w;obtain⟨-,f,v,C⟩:=o.key e.1 e.2 ((zv o.rise).2 z);obtain⟨r,p,rfl⟩:=List.mem_map.1 v;have k:=zrf (B r p) C;rcases zaS e.2 with⟨x,_,j⟩|⟨x,y,_,_,_,_,j⟩|⟨x,y,_,_,_,_,j⟩|⟨x,y,_,_,_,_,j⟩|⟨x,_,_,_,j⟩|⟨x,_,_,_,j⟩|⟨_,_,_,j⟩<;>rw [j]at i
 ·rw [List.mem_singleton.1 i];exact k
 ·cases i
 ·rw [List.mem_singleton.1 i];exact k
 ·rcases List.mem_cons.1 i with i|i
  ·rw [i];exact k
  ·rw [List.mem_singleton.1 i];exact zgH k (by decide)
 ·rw [List.mem_singleton.1 i];exact k
 ·rw [List.mem_singleton.1 i];exact zgH k (by decide)
 ·cases i
theorem zgx.tidy{NM:List Key}{l:List RowM}(h:zgx NM l)(w:∀k∈NM,∀u∈k,u≠43):zgx NM (zO (zi l).2):=by have i:=h.plain w;have p:=zjw i h.rise;refine⟨fun t j=>(p t j).1,zre i h.nz,fun t j c hc=>?_⟩;obtain⟨-,r,o,d,v,e⟩:=p t j;exact h.nm r o c (by rw [e c];exact Int.mul_ne_zero v hc)
theorem zgx.sub{NM:List Key}{l k:List RowM}(h:zgx NM l)(o:∀r∈k,∃q∈l,q.fs=r.fs):zgx NM k:=by
 refine⟨fun r j=>?_,fun r j=>?_,fun r j=>?_⟩<;>obtain⟨q,i,e⟩:=o r j<;>rw [←e]
 ·exact h.rise q i
 ·exact h.nz q i
 ·exact h.nm q i
theorem zgx.near{NM:List Key}{l:List RowM}(h:zgx NM l){a:RowM}{i:Nat}(k:a∈l):zgx NM (l++[zhi a i]):=h.sub fun r j=>(List.mem_append.1 j).elim (fun j=>⟨r,j,rfl⟩) fun j=>⟨a,k,by rw [List.mem_singleton.1 j];rfl⟩
theorem zgx.put{NM:List Key}{l:List RowM}(h:zgx NM l){k:Key}{r2:Int}{gs:List (Key×Int)}(p:zx gs)(v:k∈NM)(t:∀c,factor gs c≠0→c∈NM):zgx NM (l.map (zeR k r2 gs)):=by
 refine⟨fun q j=>?_,fun q j=>?_,fun q j c hc=>?_⟩<;>obtain⟨r,i,rfl⟩:=List.mem_map.1 j
 ·exact zac _ _ (zac _ _ (h.rise r i))
 ·exact zdE _ _ (zac _ _ (h.rise r i)) (zdE _ _ (h.rise r i) (h.nz r i))
 ·rw [zeD (h.rise r i) p]at hc;unfold opq zmE at hc;by_cases e:c=k
  ·rw [e];exact v
  ·rw [if_neg e]at hc;by_cases o:factor gs c=0
   ·rw [o]at hc;exact h.nm r i c (by simpa using hc)
   ·exact t c o
theorem zgx.out{NM:List Key}{l:List RowM}(h:zgx NM l){k:Key}{dark:Bool}:zgx NM (zhh k dark l):=by
 have t:∀r∈zhh k dark l,r∈l∨∃a∈zm k 0 l,∃b∈zm k 1 l,r=za2 k dark a b:=fun r i=>by
  rcases List.mem_append.1 i with i|i
  ·exact .inl (zJ.1 i).1
  ·obtain⟨a,j,i⟩:=List.mem_flatMap.1 i;obtain⟨b,o,e⟩:=List.mem_map.1 i;exact .inr ⟨a,j,b,o,e.symm⟩
 refine⟨fun r i=>?_,fun r i=>?_,fun r i c hc=>?_⟩<;>rcases t r i with hl|⟨a,j,b,o,rfl⟩
 ·exact h.rise r hl
 ·exact zac _ _ (zcl (zbY h.rise a j).1)
 ·exact h.nz r hl
 ·have p:=zbY h.rise a j;have v:=zbX h.rise b o;exact zdE _ _ (zcl p.1) (zgH (h.nz a (zJ.1 j).1) (by omega))
 ·exact h.nm r hl c hc
 ·have p:=zbY h.rise a j;have v:=zbX h.rise b o;rw [zeB p.1 v.1]at hc;by_cases e:factor a.fs c=0
  ·by_cases w:factor b.fs c=0
   ·rw [e,w]at hc;simp at hc
   ·exact h.nm b (zJ.1 o).1 c w
  ·exact h.nm a (zJ.1 j).1 c e
theorem zhw(k:Key)(dark:Bool)(up:List RowM):∀lo:List RowM,(za1 k dark lo up).length=lo.length*up.length
 | []=>by simp [za1]
 |a::lo=>by have h:=zhw k dark up lo;show(up.map (za2 k dark a)++za1 k dark lo up).length=_;rw [List.length_append,List.length_map,h,List.length_cons,Nat.succ_mul];omega
theorem zqU(k:Key)(dark:Bool)(l:List RowM):(zhh k dark l).length≤l.length+(zm k 0 l).length*(zm k 1 l).length:=by unfold zhh;rw [List.length_append,zhw];have:(zm k 2 l).length≤l.length:=List.length_filter_le ..;omega
end
section
open Go.RowKit
def fac:Nat→Nat
 |0=>1
 |n+1=>(n+1)*fac n
theorem znP:∀n,1≤fac n
 |0=>Nat.le_refl _
 |n+1=>Nat.le_trans (znP n) (Nat.le_mul_of_pos_left _ (Nat.succ_pos n))
def za8(B f:Nat)(l:List RowM):Prop:=∃n b,n≤6∧zj1 l n (2^b)∧(b+4*f)*fac n≤B
theorem za8.le{B f g:Nat}{l:List RowM}(h:za8 B f l)(o:g≤f):za8 B g l:=by obtain⟨n,b,i,j,k⟩:=h;exact⟨n,b,i,j,Nat.le_trans (Nat.mul_le_mul_right _ (by omega)) k⟩
theorem za8.entry{B f:Nat}{l:List RowM}(h:za8 B f l){r:RowM}(k:r∈l)(c:Key):(factor r.fs c).natAbs≤2^B:=by obtain⟨n,b,o,j,p⟩:=h;have i:=Box.entry j ⟨r,k,rfl⟩ c;have t:b*1≤(b+4*f)*fac n:=Nat.mul_le_mul (by omega) (znP n);exact Nat.le_trans i (Nat.pow_le_pow_right (by decide) (by omega))
theorem za8.tidy{B f:Nat}{l:List RowM}(h:za8 B f l)(j:∀r∈l,Plain r.fs)(p:∀r∈l,zx r.fs):za8 B f (zO (zi l).2):=by obtain⟨n,b,i,k,o⟩:=h;exact⟨n,b,i,k.tidy j p,o⟩
theorem za8.sub{B f:Nat}{l k:List RowM}(h:za8 B f l)(j:∀r∈k,∃q∈l,q.fs=r.fs):za8 B f k:=by obtain⟨n,b,i,o,p⟩:=h;exact⟨n,b,i,o.sub j,p⟩
theorem za8.near{B f:Nat}{l:List RowM}(h:za8 B f l){a:RowM}{i:Nat}(k:a∈l):za8 B f (l++[zhi a i]):=h.sub fun r j=>(List.mem_append.1 j).elim (fun j=>⟨r,j,rfl⟩) fun j=>⟨a,k,by rw [List.mem_singleton.1 j];rfl⟩
theorem za8.put{B f:Nat}{l:List RowM}(h:za8 B (f+1) l)(w:∀r∈l,zx r.fs){k:Key}{r2:Int}{gs:List (Key×Int)}(i:zx gs){t:RowM}(p:t∈l)(j:factor t.fs k≠0) (o:∀c,(opq (zmE gs k) k (factor t.fs) c).natAbs≤(factor t.fs k).natAbs):za8 B f (l.map (zeR k r2 gs)):=by obtain⟨n,b,v,y,x⟩:=h;refine⟨n,b+3,v,Box.le (y.put w i p j o) (Nat.le_refl _) ?_,Nat.le_trans (Nat.mul_le_mul_right _ (by omega)) x⟩;rw [Nat.pow_add,Nat.mul_comm (2^b)];exact Nat.mul_le_mul_right _ (by omega)
theorem za8.out{B f:Nat}{l:List RowM}(h:za8 B (f+1) l)(p:∀r∈l,zx r.fs)(x:∀r∈l,r.eq=false){k:Key}{dark:Bool}{t:RowM}(o:t∈l)(j:factor t.fs k≠0):za8 B f (zhh k dark l):=by
 obtain⟨n,b,D,w,v⟩:=h;obtain⟨C,i⟩:=w.out (dark:=dark) p x o j
 cases n with
 |zero=>omega
 |succ n=>
  rw [Nat.succ_sub_one]at i;refine⟨n,(b+1)*(n+1),by omega,Box.le i (Nat.le_refl _) ?_,?_⟩
  ·have e:(2:Nat)*2^b=2^(b+1):=by rw [Nat.pow_succ,Nat.mul_comm]
   rw [e,←Nat.pow_mul,←Nat.pow_add];exact Nat.pow_le_pow_right (by decide) (by rw [Nat.mul_succ];omega)
  ·refine Nat.le_trans ?_ v;show((b+1)*(n+1)+4*f)*fac n≤(b+4*(f+1))*((n+1)*fac n)
   rw [←Nat.mul_assoc];refine Nat.mul_le_mul_right _ ?_;have E:(b+4*(f+1))*(n+1)=b*(n+1)+4*(f+1)*(n+1):=Nat.add_mul ..;have F:(b+1)*(n+1)=b*(n+1)+(n+1):=Nat.succ_mul ..;have z:4*(f+1)*(n+1)=4*(f+1)*n+4*(f+1):=Nat.mul_succ ..;have y:4*n≤4*(f+1)*n:=Nat.mul_le_mul_right _ (by omega);omega
def zdt(B R f:Nat)(l:List RowM):Prop:=∃q,(∀r∈l,r.rest.natAbs≤2^q)∧q+f*(2*B+3)≤R
theorem zdt.le{B R f g:Nat}{l:List RowM}(h:zdt B R f l)(j:g≤f):zdt B R g l:=by obtain⟨q,i,k⟩:=h;have:g*(2*B+3)≤f*(2*B+3):=Nat.mul_le_mul_right _ j;exact⟨q,i,by omega⟩
theorem zdt.entry{B R f:Nat}{l:List RowM}(h:zdt B R f l){r:RowM}(j:r∈l):r.rest.natAbs≤2^R:=by obtain⟨q,i,k⟩:=h;exact Nat.le_trans (i r j) (Nat.pow_le_pow_right (by decide) (by omega))
theorem zbx(a b:Int):(a/b).natAbs≤a.natAbs:=Int.natAbs_ediv_le_natAbs a b
theorem zoS{r:RowM}{n:Int}(h:(zP r).num=some n):n.natAbs≤r.rest.natAbs:=by
 unfold zP at h;split at h
 ·split at h<;>cases h
 ·split at h
  ·split at h
   ·injection h with h;rw [←h];exact zbx _ _
   ·cases h
  ·have e:(-((-r.rest)/zbZ r.fs)).natAbs≤r.rest.natAbs:=by
    have:=zbx (-r.rest) (zbZ r.fs);rw [Int.natAbs_neg]at this⊢;exact this
   split at h
   ·injection h with h;rw [←h];exact e
   ·injection h with h;rw [←h];exact e
theorem zqi{S:Int→Prop}{o:Option Int}{a:Int}(h:Top S o)(e:o=some a):S a:=by rw [e]at h;exact h.1
theorem zlH{l:List RowM}{M:Nat}(B:∀r∈l,Plain r.fs)(C:∀r∈l,r.rest.natAbs≤M):∀t∈zO (zi l).2,t.rest.natAbs≤M:=by
 intro t i;unfold zO at i;obtain⟨e,D,i⟩:=List.mem_flatMap.1 i;have w:=zbq B;have z:=(zv w.rise).2 D;have v:∀(f:zcs) (a:Int),f∈l.map zP→f.num=some a→a.natAbs≤M:=fun f a hf hn=>by obtain⟨r,E,rfl⟩:=List.mem_map.1 hf;exact Nat.le_trans (zoS hn) (C r E)
 have up:∀a,e.2.up=some a→a.natAbs≤M:=fun a h=>v _ a (zqi (w.up e.1 e.2 z) h) rfl;have lo:∀a,e.2.lo=some a→a.natAbs≤M:=fun a h=>v _ a (zqi (w.lo e.1 e.2 z) h) rfl;have eq:∀a,e.2.eq=some a→a.natAbs≤M:=fun a h=>v _ a (w.eq0 e.1 e.2 z a h) rfl;rcases zaS e.2 with⟨x,o,j⟩|⟨x,y,_,_,_,_,j⟩|⟨x,y,o,k,p,_,j⟩|⟨x,y,o,k,p,_,j⟩|⟨x,o,k,p,j⟩|⟨x,o,k,p,j⟩|⟨_,_,_,j⟩<;>rw [j]at i
 ·rw [List.mem_singleton.1 i];exact eq x o
 ·cases i
 ·rw [List.mem_singleton.1 i];exact up x k
 ·rcases List.mem_cons.1 i with i|i
  ·rw [i];exact up x k
  ·rw [List.mem_singleton.1 i];exact lo y p
 ·rw [List.mem_singleton.1 i];exact up x k
 ·rw [List.mem_singleton.1 i];exact lo x p
 ·cases i
theorem zdt.tidy{B R f:Nat}{l:List RowM}(h:zdt B R f l)(j:∀r∈l,Plain r.fs):zdt B R f (zO (zi l).2):=by obtain⟨q,i,k⟩:=h;exact⟨q,zlH j i,k⟩
theorem ziM(a b c:Nat)(h:a≤b)(j:b+1≤c):(2:Nat)^a+2^b≤2^c:=by have k:(2:Nat)^a≤2^b:=Nat.pow_le_pow_right (by decide) h;have i:(2:Nat)^(b+1)≤2^c:=Nat.pow_le_pow_right (by decide) j;rw [Nat.pow_succ]at i;omega
theorem zdt.put{B R f:Nat}{l:List RowM}(h:zdt B R (f+1) l)(w:∀r∈l,∀c,(factor r.fs c).natAbs≤2^B){k:Key}{r2:Int}{gs:List (Key×Int)}{t:RowM}(v:t∈l)(j:r2.natAbs≤t.rest.natAbs):zdt B R f (l.map (zeR k r2 gs)):=by obtain⟨q,i,z⟩:=h;refine⟨q+(2*B+3),fun x p=>?_,by rw [Nat.succ_mul]at z;omega⟩;obtain⟨r,o,rfl⟩:=List.mem_map.1 p;have D:=i r o;have y:=Nat.mul_le_mul (Nat.le_trans j (i t v)) (w r o k);rw [←Nat.pow_add,←Int.natAbs_mul]at y;have C:=ziM q (q+B) (q+(2*B+3)) (by omega) (by omega);show(r.rest+r2*factor r.fs k).natAbs≤_;omega
theorem zdt.out{B R f:Nat}{l:List RowM}(h:zdt B R (f+1) l)(t:∀r∈l,∀c,(factor r.fs c).natAbs≤2^B){k:Key}{dark:Bool}(v:∀r∈l,zx r.fs):zdt B R f (zhh k dark l):=by
 obtain⟨q,p,G⟩:=h;refine⟨q+(2*B+3),fun x i=>?_,by rw [Nat.succ_mul]at G;omega⟩;rcases List.mem_append.1 i with i|i
 ·exact Nat.le_trans (p x (zJ.1 i).1) (Nat.pow_le_pow_right (by decide) (by omega))
 ·obtain⟨a,y,i⟩:=List.mem_flatMap.1 i;obtain⟨b,z,rfl⟩:=List.mem_map.1 i;have j:=(zJ.1 y).1;have o:=(zJ.1 z).1;have K:=(zbX v b z).2.2;have M:=(zbY v a y).2.2;have F:=t a j k;have E:=t b o k;have C:=Nat.mul_le_mul (p a j) E;have w:=Nat.mul_le_mul (p b o) F;have D:(((((factor a.fs k).natAbs:Int) - 1)*(factor b.fs k - 1))).natAbs≤2^B*2^B:=by rw [Int.natAbs_mul];exact Nat.mul_le_mul (by omega) (by omega)
  rw [←Nat.pow_add]at C w D;rw [←Int.natAbs_mul]at C;have H:(b.rest*((factor a.fs k).natAbs:Int)).natAbs≤2^(q+B):=by rw [Int.natAbs_mul,Int.natAbs_natCast];exact w
  have L:=ziM (q+B) (q+B) (q+B+1) (Nat.le_refl _) (Nat.le_refl _);have J:(2:Nat)^(B+B)≤2^(q+2*B+1):=Nat.pow_le_pow_right (by decide) (by omega);have I:=ziM (q+B+1) (q+2*B+1) (q+(2*B+3)) (by omega) (by omega);show(a.rest*factor b.fs k+b.rest*((factor a.fs k).natAbs:Int)*1+(if dark=true then(((factor a.fs k).natAbs:Int) - 1)*(factor b.fs k - 1)else 0)).natAbs≤_;rw [Int.mul_one];split<;>omega
theorem zrn{k:Key}{m:Int}{a:RowM}{i:Nat}(p:0≤m)(h:(i:Int)≤zl0 k m a):i≤(factor a.fs k).natAbs:=by
 unfold zl0 at h;by_cases j:0<m
 ·rw [Int.le_ediv_iff_mul_le j]at h;have:(i:Int)*m≤((factor a.fs k).natAbs:Int)*m:=by omega
  have:=Int.le_of_mul_le_mul_right this j;omega
 ·have o:m=0:=by omega
  rw [o,Int.ediv_zero]at h;omega
theorem zdt.near{B R f:Nat}{l:List RowM}(h:zdt B R (f+1) l)(t:∀r∈l,∀c,(factor r.fs c).natAbs≤2^B){k:Key}{m:Int}{a:RowM}{i:Nat}(p:a∈l)(v:0≤m)(w:(i:Int)≤zl0 k m a):zdt B R f (l++[zhi a i]):=by
 obtain⟨q,o,y⟩:=h;refine⟨q+(2*B+3),fun x j=>?_,by rw [Nat.succ_mul]at y;omega⟩;rcases List.mem_append.1 j with j|j
 ·exact Nat.le_trans (o x j) (Nat.pow_le_pow_right (by decide) (by omega))
 ·rw [List.mem_singleton.1 j];have F:=o a p;have E:=zrn v w;have z:=t a p k;have D:(2:Nat)^B≤2^(q+B):=Nat.pow_le_pow_right (by decide) (by omega);have C:=ziM q (q+B) (q+(2*B+3)) (by omega) (by omega);show(a.rest+(i:Int)).natAbs≤_;omega
end
end Go.Proofs.YtckfnbckoclhpaaGreatDoor

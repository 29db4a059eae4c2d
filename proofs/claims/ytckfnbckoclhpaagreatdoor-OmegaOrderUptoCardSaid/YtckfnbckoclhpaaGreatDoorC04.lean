/- zed. -/
import Derived.Test.YtckfnbckoclhpaaGreatDoorC01
import Derived.Laws.BitsAllLaws
import Derived.Test.YtckfnbckoclhpaaGreatDoorC02
import Derived.Laws.MakeOwn
import Derived.Lib.SliceRun
namespace Go.Proofs.YtckfnbckoclhpaaGreatDoor
set_option linter.unusedVariables false
set_option linter.unusedSimpArgs false
set_option maxRecDepth 100000
set_option maxHeartbeats 2000000
section
open Go.RowKit
theorem zrD(a b:Nat)(h:a<4294967296):a ||| (b*4294967296)=b*4294967296+a:=by have e:(4294967296:Nat)=2^32:=rfl;rw [e]at h⊢;rw [Nat.or_comm,←Nat.shiftLeft_eq,Nat.shiftLeft_add_eq_or_of_lt h]
theorem zoi(a b:Nat)(i:a<4294967296)(j:b<4294967296):bits BinOp.or IntKind.u64 ((b:Int)*4294967296) (a:Int)=(b:Int)*4294967296+(a:Int):=by
 have e:((b:Int)*4294967296)=((b*4294967296:Nat):Int):=by omega
 rw [e,u64_or_nat (b*4294967296) a (by omega) (by omega),Nat.or_comm,zrD a b i];omega
theorem zL{a:Nat}(h:a<18446744073709551616):IntKind.u64.wrap (a:Int)=(a:Int):=by rw [IntKind.wrap_u64];omega
theorem zif{a:Nat}(h:a<4294967296):IntKind.u64.wrap ((a:Int)*4294967296)=(a:Int)*4294967296:=by rw [IntKind.wrap_u64];omega
theorem zki:zcE Tryz.prog 28 169 (.int .u32 0) 1 4:=⟨Tryz.underlying28,by kernel_rfl,rfl,by decide⟩
def WA(w:World)(g:Nat)(o:List Nat):Prop:=Blk w g 169 (wds o).toArray
section
variable{w w':World}{g:Nat}{o:List Nat}
theorem WA.lt(h:WA w g o):g<w.heap.size:=Blk.lt h
theorem WA.cell(h:WA w g o){j x:Nat}(i:o[j]?=some x):w.cell? ⟨g,j,none⟩=some (.int .u32 (x:Int)):=by rw [Blk.cell h j,List.getElem?_toArray,List.getElem?_map,i];rfl
theorem WA.frozen(h:WA w g o)(j:Nat):w.frozen? ⟨g,j,none⟩=false:=Blk.frozen h j
theorem WA.set_(h:WA w g o)(j y:Nat):WA (w.setCell ⟨g,j,none⟩ (.int .u32 (y:Int))) g (o.set j y):=by
 have:=Blk.set_ h j (.int .u32 (y:Int));have e:(wds o).toArray.setIfInBounds j (.int .u32 (y:Int))=(wds (o.set j y)).toArray:=by simp [List.map_set]
 rw [e]at this;exact this
theorem WA.fr{S:Nat→Prop}(h:WA w g o)(i:Fr S w w')(j:¬S g):WA w' g o:=Blk.fr h i j
theorem WA.pu(h:WA w g o)(i:Pu w w'):WA w' g o:=Blk.pu h i
theorem WA.drewN(h:WA w g o)(n:Nat):WA (w.drewN n) g o:=Blk.drewN h n
theorem WA.drew(h:WA w g o):WA w.drew g o:=Blk.drew h
theorem WA.sl(h:WA w g o){n c:Nat}(k:n≤o.length)(i:n≤c):Sl w 1 (some ⟨g,0,none⟩) n c (wds (o.take n)):=by
 refine⟨by simp;omega,i,fun _=>⟨g,0,rfl,h.lt,fun j u hu=>?_⟩⟩;rw [List.getElem?_map,List.getElem?_take]at hu;split at hu
 ·cases hj:o[j]? with
  |none=>rw [hj]at hu;cases hu
  |some x=>rw [hj]at hu;injection hu with hu;rw [Nat.zero_add,h.cell hj,←hu]
 ·cases hu
end
theorem zip(n:Nat):madeCells (Value.int .u32 0).cells n=Array.replicate n (.int .u32 0):=by
 apply Array.ext
 ·simp [madeCells]
 ·intro i j k;simp [madeCells,Value.cells,Nat.mod_one]
theorem zap(n m:Nat)(y:m≤400000000000)(x:n≤m)(w:World):(Instr.makeSlice 28 (.int .i64 (n:Int)) (.int .i64 (m:Int))).run Tryz.prog w= .ok (.slice (some ⟨w.heap.size,0,none⟩) n m) (w.alloc (.cells (Array.replicate m (.int .u32 0)) 169)):=by obtain⟨i,t,v,k,p⟩:=info_parts zki.info;have j:=run_make (P:=Tryz.prog) w 28 169 i _ zki.under t v .i64 .i64 n m (by omega) (by omega) (by rw [p];omega) (by omega);simp only [Int.toNat_natCast]at j;rw [k,Nat.mul_one,zip]at j;exact j
theorem WA.made(w:World)(m:Nat):WA (w.alloc (.cells (Array.replicate m (.int .u32 0)) 169)) w.heap.size (List.replicate m 0):=by
 have e:(wds (List.replicate m 0)).toArray=Array.replicate m (.int .u32 0):=by simp
 unfold WA;rw [e];exact Blk.new w _ _
theorem WA.new(w:World)(o:List Nat):WA (w.alloc (.cells (wds o).toArray 169)) w.heap.size o:=Blk.new w _ _
theorem zin{j y:Nat}{i:List Nat}:(List.replicate (j+1) 0++i).set j y=List.replicate j 0++y::i:=by rw [List.replicate_succ',List.append_assoc,List.set_append_right _ _ (by simp)];simp
end
section
open Go.RowKit
theorem zjx(A:Option Addr)(n c:Nat)(l:List Nat)(d:Nat)(w:World)(h:Sl w 1 A n c (wds l))(hn:n≤100000000000)(hb:zg 4294967296 l)(D:0<d)(az:d<4294967296):Calls Tryz.prog 90 #[.slice A n c,.int .u64 (d:Int)] w fun e w'=>∃A' n' c' q,e= .returned (.tuple #[.slice A' n' c',.int .u64 ((zd 4294967296 l%d:Nat):Int)])∧n'≤n∧c'≤maxLen∧Sl w' 1 A' n' c' (wds q)∧zg 4294967296 q∧zdl q∧zd 4294967296 q=zd 4294967296 l/d∧Pu w w'∧(∀b off,A'=some ⟨b,off,none⟩→∃cs,Blk w' b 169 cs):=by
 have hl:=h.wlen;have F:=fun W=>zap n n (by omega) (Nat.le_refl _) W;have V:=Qh F;clear F;have hW:Pu w (w.alloc (.cells (Array.replicate n (.int .u32 0)) 169)):=(Pu.refl w).alloc _;have k:=WA.made w n;go_enter Tryz.func90,Tryz.ntmps90;go_wp2_with (simp only [V.out])
 go_loopw [7,8] (fun a v R=>∃(j rest:Nat) (i:List Nat),j≤n∧v= .int .i64 ((j:Int) - 1)∧a= .int .u64 (rest:Int)∧rest<d∧zg 4294967296 i∧j+i.length=n∧zd 4294967296 (l.drop j)=zd 4294967296 i*d+rest∧WA R w.heap.size (List.replicate j 0++i)∧Pu w R) (fun _ v _=>(intOf v+1).toNat)
 case atStart=>exact⟨n,0,[],Nat.le_refl _,rfl,rfl,D,zg.nil _,by simp,by rw [List.drop_eq_nil_of_le (by omega)];simp [zd],by simpa using k,hW⟩
 case round=>
  obtain⟨j,rest,i,hj,rfl,rfl,Y,O,ad,M,k,L⟩:=hrel;have X:=Qh M;clear M;rcases j with _|j
  ·have N:Sl wr 1 (some ⟨w.heap.size,0,none⟩) n n (wds i):=by
    have:=k.sl (n:=n) (c:=n) (by simp;omega) (Nat.le_refl _);rwa [List.replicate_zero,List.nil_append,List.take_of_length_le (by omega)]at this
   have C:zd 4294967296 l=zd 4294967296 i*d+rest:=by simpa using X.out
   have B:zd 4294967296 l/d=zd 4294967296 i:=by rw [C,Nat.mul_comm,Nat.mul_add_div D,Nat.div_eq_of_lt Y,Nat.add_zero]
   have p:zd 4294967296 l%d=rest:=by rw [C,Nat.mul_comm,Nat.mul_add_mod,Nat.mod_eq_of_lt Y]
   have I:=Qh B;have H:=Qh p;have U:=zch N;have ax:=zbE i;have z:=Qh (AI (zaq O) (AI (zaH i) (zar 4294967296 i)));have HT:=Qh U;clear B p C U;go_wp2_with fail;refine(zdk _ n n i _ N (by omega) (by simp [maxLen];omega)).mono ?_;rintro e w1 ⟨rfl,rfl⟩;go_wp2;go_ret2;exact⟨some ⟨w.heap.size,0,none⟩,(zB i).length,n,zB i,by rw [H.out];rfl,by omega,by simp [maxLen];omega,HT.out,z.out.1,z.out.2.1,by rw [I.out];exact z.out.2.2,L,fun b off t=>by injection t with t;injection t with t;subst t;exact⟨_,k⟩⟩
  ·obtain⟨x,hx⟩:∃x,l[j]?=some x:=⟨_,List.getElem?_eq_getElem (by omega)⟩
   have Q:=hb x (List.mem_of_getElem? hx);obtain⟨b,o,ea,aq,aw⟩:=(h.pu L).wat hx;subst ea;have Hx:=Qh hx;clear hx;have Z:((j+1:Nat):Int) - 1=(j:Int):=by omega
   rw [Z];have ap:j<n:=by omega
   have ak:IntKind.i64.wrap ((j:Int) - 1)=(j:Int) - 1:=IntWalk.i64_in _ (by omega);have av:=zif (a:=rest) (by omega);have ai:=zL (a:=x) (by omega);have ho:=zoi x rest Q (by omega);have am:wr.cell? ⟨w.heap.size,j,none⟩=some (.int .u32 0):=by have:=k.cell (j:=j) (x:=0) (by rw [List.getElem?_append_left (by simp)];simp);simpa using this
   have au:=k.frozen j;have ao:¬((d:Int)=0):=by omega
   go_wp2;have P:rest*4294967296+x<4294967296*d:=by have:(rest+1)*4294967296≤d*4294967296:=Nat.mul_le_mul_right _ (by omega);omega
   have hy:(rest*4294967296+x)/d<4294967296:=(Nat.div_lt_iff_lt_mul D).2 P;have S:=Nat.div_add_mod (rest*4294967296+x) d;have G:=Nat.mod_lt (rest*4294967296+x) D;have J:((rest*4294967296+x:Nat):Int)=(rest:Int)*4294967296+(x:Int):=by omega
   have T:((rest:Int)*4294967296+(x:Int))% (d:Int)=(((rest*4294967296+x)%d:Nat):Int):=by rw [←J,Int.natCast_emod]
   have e2:((rest:Int)*4294967296+(x:Int))/(d:Int)%4294967296=(((rest*4294967296+x)/d:Nat):Int):=by
    rw [←J,←Int.natCast_ediv];clear S G T J;generalize (rest*4294967296+x)/d=y at*
    omega
   rw [T,e2];generalize (rest*4294967296+x)/d=y at*
   generalize (rest*4294967296+x)%d=r at*
   have E:=k.set_ j y;rw [zin]at E;go_roundw
   case rel=>exact⟨j,r,y::i,by omega,rfl,rfl,G,by
    intro u K;rcases List.mem_cons.1 K with rfl|K
    ·exact hy
    ·exact O u K,by simp;omega,by
    rw [zgr Hx.out];simp only [zd];rw [X.out,Nat.mul_add,Nat.add_mul,Nat.mul_assoc,Nat.mul_comm y d];omega,E,L.setCell (Nat.le_refl _) _⟩
   case measure=>simp [intOf]
end
section
open Go.RowKit
theorem zdB(x y c:Nat)(w:World)(B:x<4294967296)(p:y<4294967296)(i:c≤1):Calls Tryz.prog 161 #[.int .u32 (x:Int),.int .u32 (y:Int),.int .u32 (c:Int)] w fun e w'=>e= .returned (.tuple #[.int .u32 (((x+y+c)%4294967296:Nat):Int),.int .u32 (((x+y+c)/4294967296:Nat):Int)])∧w=w':=by
 have k:=zL (a:=x) (by omega);have t:=zL (a:=y) (by omega);have v:=zL (a:=c) (by omega);have j:IntKind.u64.wrap ((x:Int)+(y:Int))=(x:Int)+(y:Int):=by rw [IntKind.wrap_u64];omega
 have z:IntKind.u64.wrap ((x:Int)+(y:Int)+(c:Int))=(x:Int)+(y:Int)+(c:Int):=by rw [IntKind.wrap_u64];omega
 go_enter Tryz.func161,Tryz.ntmps161;go_wp2;go_ret2;refine⟨?_,rfl⟩;show Ending.returned (.tuple #[.int .u32 _,.int .u32 _])=_
 congr 5<;>omega
theorem zio{v:Nat}(h:v<4294967296):v.testBit 31=decide (2147483648≤v):=by rw [Nat.testBit_eq_decide_div_mod_eq,show(2:Nat)^31=2147483648 from rfl];rw [Bool.eq_iff_iff,decide_eq_true_iff,decide_eq_true_iff];omega
theorem zj5(x y c:Nat)(p:x<4294967296)(k:y<4294967296)(H:c≤1):bits BinOp.or IntKind.u32 (bits BinOp.and IntKind.u32 (bits BinOp.xor IntKind.u32 IntKind.u32.max (x:Int)) (y:Int)) (bits BinOp.and IntKind.u32 (bits BinOp.xor IntKind.u32 IntKind.u32.max (bits BinOp.xor IntKind.u32 (x:Int) (y:Int))) (((x:Int) - (y:Int) - (c:Int))%4294967296))/2147483648=((if x<y+c then 1 else 0:Nat):Int):=by
 obtain⟨d,hd,hd2⟩:∃d:Nat,((x:Int) - (y:Int) - (c:Int))%4294967296=(d:Int)∧d=(x+4294967296 - y - c)%4294967296:=⟨_,by omega,rfl⟩
 have j:d<4294967296:=by omega
 have t:IntKind.u32.max=((4294967295:Nat):Int):=by decide
 have G:4294967295 ^^^ x<4294967296:=Nat.xor_lt_two_pow (n:=32) (by omega) (by omega);have E:x ^^^ y<4294967296:=Nat.xor_lt_two_pow (n:=32) (by omega) (by omega);have D:4294967295 ^^^(x ^^^ y)<4294967296:=Nat.xor_lt_two_pow (n:=32) (by omega) (by omega);have B:(4294967295 ^^^ x)&&& y<4294967296:=Nat.lt_of_le_of_lt Nat.and_le_right k;have z:(4294967295 ^^^(x ^^^ y))&&& d<4294967296:=Nat.lt_of_le_of_lt Nat.and_le_right j;rw [hd,t,u32_xor_nat 4294967295 x (by omega) p,u32_and_nat _ y G k,u32_xor_nat x y p k,u32_xor_nat 4294967295 _ (by omega) E,u32_and_nat _ d D j,u32_or_nat _ _ B z];have C:((4294967295 ^^^ x)&&& y)||| ((4294967295 ^^^(x ^^^ y))&&& d)<4294967296:=Nat.or_lt_two_pow (n:=32) B z;have v:(((4294967295 ^^^ x)&&& y)||| ((4294967295 ^^^(x ^^^ y))&&& d)).testBit 31=decide (x<y+c):=by rw [Nat.testBit_or,Nat.testBit_and,Nat.testBit_and,Nat.testBit_xor,Nat.testBit_xor,Nat.testBit_xor,zio p,zio k,zio j,show(4294967295:Nat).testBit 31=true from by decide];by_cases F:2147483648≤x<;>by_cases c2:2147483648≤y<;>by_cases i:x<y+c<;>simp [F,c2,i]<;>omega
 rw [zio C]at v;generalize ((4294967295 ^^^ x)&&& y)||| ((4294967295 ^^^(x ^^^ y))&&& d)=V at*
 by_cases i:x<y+c
 ·rw [if_pos i];simp [i]at v;omega
 ·rw [if_neg i];simp [i]at v;omega
theorem zeV(x y c:Nat)(w:World)(k:x<4294967296)(j:y<4294967296)(i:c≤1):Calls Tryz.prog 162 #[.int .u32 (x:Int),.int .u32 (y:Int),.int .u32 (c:Int)] w fun e w'=>e= .returned (.tuple #[.int .u32 (((x+4294967296 - y - c)%4294967296:Nat):Int),.int .u32 ((if x<y+c then 1 else 0:Nat):Int)])∧w=w':=by
 have p:IntKind.u32.signed=false:=rfl;have t:=zj5 x y c k j i;generalize (if x<y+c then 1 else 0:Nat)=B at*
 go_enter Tryz.func162,Tryz.ntmps162;go_wp2;go_ret2;refine⟨?_,rfl⟩;show Ending.returned (.tuple #[.int .u32 _,.int .u32 _])=_
 congr 5
 omega
theorem zey(A:Option Addr)(n c:Nat)(l:List Nat)(w:World)(h:Sl w 1 A n c (wds l))(F:n≤100000000000):Calls Tryz.prog 82 #[.slice A n c] w fun e w'=>∃A' i,e= .returned (.slice A' n i)∧w'.ownsRow w.heap.size 169 1 (.slice A' n i) n (wds l)∧Pu w w':=by
 have B:=h.wlen;have q:∀(w:World) (a:Option Addr) (n c p i:Nat),(binOp .eql 28 (.slice a n c) (.slice none p i)).run Tryz.prog w= .ok (.bool a.isNone) w:=fun w a n c p i=>Lib.run_eql_slice_nil w _ _ a n c p i Tryz.underlying28;have t:∀u∈wds l,u.oneCell'=true:=by intro u y;simp only [wds,List.mem_map]at y;obtain⟨x,_,rfl⟩:=y;rfl
 rcases A with _|a
 ·have j:n=0:=by
   rcases Nat.eq_zero_or_pos n with j|j
   ·exact j
   ·obtain⟨b,off,e,_⟩:=h.2.2 j
    cases e
  subst j;obtain rfl:l= []:=List.eq_nil_of_length_eq_zero B;go_enter Tryz.func82,Tryz.ntmps82;go_wp2;go_ret;exact⟨none,0,rfl,World.ownsRow_nil _ _ _ _,Pu.refl _⟩
 ·have v:(w.alloc (.cells #[] 169)).ownsRow w.heap.size 169 1 (.slice (some ⟨w.heap.size,0,none⟩) 0 0) 0 []:=World.ownsRow_made w #[] 0 (Nat.le_refl _) (Nat.zero_le _) rfl;go_enter Tryz.func82,Tryz.ntmps82;go_wp2_with (at_builtin;refine zaY zki rfl (.tmp 5) (.tmp 6) rfl rfl rfl v (h.pu ((Pu.refl _).alloc _)) t (by simp [maxLen];omega) (by omega) (by simp) ?_);intro D C G k z;have E:=zam ((Pu.refl w).alloc _) v (Nat.le_refl _) z;go_wp2;go_ret;exact⟨D,C,rfl,by simpa using k,E⟩
end
section
open Go.RowKit
theorem zfg{i:List Nat}{j n y:Nat}(h:i.length=j)(k:j<n):(i++List.replicate (n - j) 0).set j y=(i++[y])++List.replicate (n - (j+1)) 0:=by rw [List.set_append_right _ _ (by omega),h,Nat.sub_self,show n - j=(n - (j+1))+1 by omega,List.replicate_succ];simp
theorem zbA{l:List Nat}{j x:Nat}(h:l[j]?=some x):zd 4294967296 (l.take (j+1))=zd 4294967296 (l.take j)+4294967296^j*x:=by have i:=(List.getElem?_eq_some_iff.1 h).1;rw [List.take_add_one,h];show zd 4294967296 (l.take j++[x])=_;rw [zM,List.length_take,Nat.min_eq_left (by omega)]
theorem zd1{p s c t r q v:Nat}(h:s+p*c=t)(e:4294967296*q+r=v+c):s+p*r+p*4294967296*q=t+p*v:=by
 have i:p*(4294967296*q+r)=p*(v+c):=by rw [e]
 rw [Nat.mul_add,Nat.mul_add,←Nat.mul_assoc]at i;omega
theorem zlt{l k i:List Nat}{j x y p q r:Nat}(B:i.length=j)(z:l[j]?=some x)(v:k[j]?=some y)(t:zd 4294967296 i+4294967296^j*p=zd 4294967296 (l.take j)+zd 4294967296 (k.take j))(e:4294967296*q+r=x+y+p):zd 4294967296 (i++[r])+4294967296^(j+1)*q=zd 4294967296 (l.take (j+1))+zd 4294967296 (k.take (j+1)):=by rw [zM,B,Nat.pow_succ,zbA z,zbA v];have:=zd1 t e;rw [Nat.mul_add]at this;omega
theorem zjt{l k i:List Nat}{j x t q r:Nat}(B:i.length=j)(z:l[j]?=some x)(y:k.length≤j)(p:zd 4294967296 i+4294967296^j*t=zd 4294967296 (l.take j)+zd 4294967296 (k.take j))(e:4294967296*q+r=x+0+t):zd 4294967296 (i++[r])+4294967296^(j+1)*q=zd 4294967296 (l.take (j+1))+zd 4294967296 (k.take (j+1)):=by rw [zM,B,Nat.pow_succ,zbA z,List.take_of_length_le (show k.length≤j+1 by omega)];rw [List.take_of_length_le y]at p;have:=zd1 p (v:=x) (by omega);omega
theorem zpj(A C:Option Addr)(n c m d:Nat)(l k:List Nat)(w:World)(h:Sl w 1 A n c (wds l))(g:Sl w 1 C m d (wds k))(hn:n≤10000000000)(hm:m≤10000000000)(hl:zg 4294967296 l)(hk:zg 4294967296 k):Calls Tryz.prog 125 #[.slice A n c,.slice C m d] w fun e w'=>∃A' n' c' o,e= .returned (.slice A' n' c')∧n'≤n+m+1∧c'≤maxLen∧Sl w' 1 A' n' c' (wds o)∧zg 4294967296 o∧zd 4294967296 o=zd 4294967296 l+zd 4294967296 k∧W32 w' A' n'∧Pu w w':=by
 have ll:=h.wlen;have lk:=g.wlen;rcases Nat.lt_or_ge n m with hnm|hnm
 ·have d1:decide ((n:Int)<(m:Int))=true:=by simp;omega
  have L:=fun W=>zap m (m+1) (by omega) (by omega) W;have P:=Qh L;clear L;have a5:IntKind.i64.wrap ((m:Int)+1)=(m:Int)+1:=IntWalk.i64_in _ (by omega);have K:((m+1:Nat):Int)=(m:Int)+1:=by omega
  rw [K]at P;have hW:Pu w (w.alloc (.cells (Array.replicate (m+1) (.int .u32 0)) 169)):=(Pu.refl w).alloc _;have z:=WA.made w (m+1);go_enter Tryz.func125,Tryz.ntmps125;go_wp2_with (simp only [P.out])
  go_loopw [6,24] (fun cv v ws=>∃(j i:Nat) (t:List Nat),j≤m∧v= .int .i64 j∧cv= .int .u32 (i:Int)∧i≤1∧t.length=j∧zg 4294967296 t∧zd 4294967296 t+4294967296^j*i=zd 4294967296 (k.take j)+zd 4294967296 (l.take j)∧WA ws w.heap.size (t++List.replicate (m+1 - j) 0)∧Pu w ws) (fun _ v _=>m - (intOf v).toNat)
  case atStart=>exact⟨0,0,[],Nat.zero_le _,rfl,rfl,by omega,rfl,zg.nil _,by simp [zd],by simpa using z,hW⟩
  case round=>
   obtain⟨j,i,t,hj,rfl,rfl,M,p,G,U,z,E⟩:=hrel;have T:=Qh U;clear U;have Q:=z;by_cases a4:j<m
   ·obtain⟨x,hx⟩:∃x,k[j]?=some x:=⟨_,List.getElem?_eq_getElem (by omega)⟩
    have O:=hk x (List.mem_of_getElem? hx);obtain⟨b1,o1,Z,av,aw⟩:=(g.pu E).wat hx;have Y:=Qh hx;clear hx;have a6:wr.cell? ⟨w.heap.size,j,none⟩=some (.int .u32 0):=by have:=z.cell (j:=j) (x:=0) (by rw [List.getElem?_append_right (by omega),p,Nat.sub_self,List.getElem?_replicate,if_pos (by omega)]);simpa using this
    have a7:=z.frozen j;have B:∀y,WA (wr.setCell ⟨w.heap.size,j,none⟩ (.int .u32 (y:Nat))) w.heap.size ((t++[y])++List.replicate (m+1 - (j+1)) 0):=fun y=>by have h2:=Q.set_ j y;rwa [zfg p (by omega)]at h2
    have D:=Qh B;clear B z Q;by_cases az:j<n
    ·obtain⟨y,hy⟩:∃y,l[j]?=some y:=⟨_,List.getElem?_eq_getElem (by omega)⟩
     have aa:=hl y (List.mem_of_getElem? hy);obtain⟨b2,o2,eb,a9,a0⟩:=(h.pu E).wat hy;have Hy:=Qh hy;clear hy;subst Z eb;go_wp2_with fail;refine(zdB x y i _ O aa M).mono ?_;rintro e w1 ⟨rfl,rfl⟩;have I:=Nat.div_add_mod (x+y+i) 4294967296;have S:(x+y+i)%4294967296<4294967296:=Nat.mod_lt _ (by omega);have H:(x+y+i)/4294967296≤1:=by omega
     generalize (x+y+i)/4294967296=q at*
     generalize (x+y+i)%4294967296=r at*
     go_wp2;go_roundw
     case rel=>exact⟨j+1,q,t++[r],by omega,by go_num,rfl,H,by simp [p],G.snoc S,zlt p Y.out Hy.out T.out I,D.out r,E.setCell (Nat.le_refl _) _⟩
     case measure=>simp [intOf];omega
    ·subst Z;go_wp2_with fail;refine(zdB x 0 i _ O (by omega) M).mono ?_;rintro e w1 ⟨rfl,rfl⟩;have I:=Nat.div_add_mod (x+0+i) 4294967296;have S:(x+0+i)%4294967296<4294967296:=Nat.mod_lt _ (by omega);have H:(x+0+i)/4294967296≤1:=by omega
     generalize (x+0+i)/4294967296=q at*
     generalize (x+0+i)%4294967296=r at*
     go_wp2;go_roundw
     case rel=>exact⟨j+1,q,t++[r],by omega,by go_num,rfl,H,by simp [p],G.snoc S,zjt p Y.out (by omega) T.out I,D.out r,E.setCell (Nat.le_refl _) _⟩
     case measure=>simp [intOf];omega
   ·obtain rfl:j=m:=by omega
    have F:wr.ownsRow w.heap.size 169 1 (.slice (some ⟨w.heap.size,0,none⟩) j (j+1)) j (wds t):=by refine⟨by simp [p],.inr ⟨w.heap.size,j+1,_,rfl,Nat.le_refl _,z,by omega,by simp [maxLen];omega,by simp [p],?_⟩⟩;simp [p]
    have ad:=E.size;go_wp2_with (at_builtin;refine zS zki rfl (.tmp 49) (.tmp 51) rfl #[.int .u32 (i:Int)] rfl (by simp [Value.oneCell']) rfl rfl F (by simp [maxLen];omega) (by omega) ad ?_);intro X c3 w3 J ae;have ai:=zam E F (Nat.le_refl _) ae;have R:=zci J;have V:Sl w3 1 X (j+1) c3 (wds (t++[i])):=by have:=Sl.of_own J;simpa using this
    have N:zd 4294967296 (t++[i])=zd 4294967296 k+zd 4294967296 l:=by have:=T.out;rw [List.take_of_length_le (by omega),List.take_of_length_le (by omega)]at this;rw [zM,p,this]
    have ag:=Qh N;clear N;go_wp2;go_ret;exact⟨X,j+1,c3,t++[i],rfl,by omega,R.2,V,G.snoc (by omega),by rw [ag.out,Nat.add_comm],W32.of_own J,ai⟩
 ·have d1:decide ((n:Int)<(m:Int))=false:=by simp;omega
  have L:=fun W=>zap n (n+1) (by omega) (by omega) W;have P:=Qh L;clear L;have a5:IntKind.i64.wrap ((n:Int)+1)=(n:Int)+1:=IntWalk.i64_in _ (by omega);have K:((n+1:Nat):Int)=(n:Int)+1:=by omega
  rw [K]at P;have hW:Pu w (w.alloc (.cells (Array.replicate (n+1) (.int .u32 0)) 169)):=(Pu.refl w).alloc _;have z:=WA.made w (n+1);go_enter Tryz.func125,Tryz.ntmps125;go_wp2_with (simp only [P.out])
  go_loopw [6,24] (fun cv v ws=>∃(j i:Nat) (t:List Nat),j≤n∧v= .int .i64 j∧cv= .int .u32 (i:Int)∧i≤1∧t.length=j∧zg 4294967296 t∧zd 4294967296 t+4294967296^j*i=zd 4294967296 (l.take j)+zd 4294967296 (k.take j)∧WA ws w.heap.size (t++List.replicate (n+1 - j) 0)∧Pu w ws) (fun _ v _=>n - (intOf v).toNat)
  case atStart=>exact⟨0,0,[],Nat.zero_le _,rfl,rfl,by omega,rfl,zg.nil _,by simp [zd],by simpa using z,hW⟩
  case round=>
   obtain⟨j,i,t,hj,rfl,rfl,M,p,G,U,z,E⟩:=hrel;have T:=Qh U;clear U;have Q:=z;by_cases a4:j<n
   ·obtain⟨x,hx⟩:∃x,l[j]?=some x:=⟨_,List.getElem?_eq_getElem (by omega)⟩
    have O:=hl x (List.mem_of_getElem? hx);obtain⟨b1,o1,Z,av,aw⟩:=(h.pu E).wat hx;have Y:=Qh hx;clear hx;have a6:wr.cell? ⟨w.heap.size,j,none⟩=some (.int .u32 0):=by have:=z.cell (j:=j) (x:=0) (by rw [List.getElem?_append_right (by omega),p,Nat.sub_self,List.getElem?_replicate,if_pos (by omega)]);simpa using this
    have a7:=z.frozen j;have B:∀y,WA (wr.setCell ⟨w.heap.size,j,none⟩ (.int .u32 (y:Nat))) w.heap.size ((t++[y])++List.replicate (n+1 - (j+1)) 0):=fun y=>by have h2:=Q.set_ j y;rwa [zfg p (by omega)]at h2
    have D:=Qh B;clear B z Q;by_cases az:j<m
    ·obtain⟨y,hy⟩:∃y,k[j]?=some y:=⟨_,List.getElem?_eq_getElem (by omega)⟩
     have aa:=hk y (List.mem_of_getElem? hy);obtain⟨b2,o2,eb,a9,a0⟩:=(g.pu E).wat hy;have Hy:=Qh hy;clear hy;subst Z eb;go_wp2_with fail;refine(zdB x y i _ O aa M).mono ?_;rintro e w1 ⟨rfl,rfl⟩;have I:=Nat.div_add_mod (x+y+i) 4294967296;have S:(x+y+i)%4294967296<4294967296:=Nat.mod_lt _ (by omega);have H:(x+y+i)/4294967296≤1:=by omega
     generalize (x+y+i)/4294967296=q at*
     generalize (x+y+i)%4294967296=r at*
     go_wp2;go_roundw
     case rel=>exact⟨j+1,q,t++[r],by omega,by go_num,rfl,H,by simp [p],G.snoc S,zlt p Y.out Hy.out T.out I,D.out r,E.setCell (Nat.le_refl _) _⟩
     case measure=>simp [intOf];omega
    ·subst Z;go_wp2_with fail;refine(zdB x 0 i _ O (by omega) M).mono ?_;rintro e w1 ⟨rfl,rfl⟩;have I:=Nat.div_add_mod (x+0+i) 4294967296;have S:(x+0+i)%4294967296<4294967296:=Nat.mod_lt _ (by omega);have H:(x+0+i)/4294967296≤1:=by omega
     generalize (x+0+i)/4294967296=q at*
     generalize (x+0+i)%4294967296=r at*
     go_wp2;go_roundw
     case rel=>exact⟨j+1,q,t++[r],by omega,by go_num,rfl,H,by simp [p],G.snoc S,zjt p Y.out (by omega) T.out I,D.out r,E.setCell (Nat.le_refl _) _⟩
     case measure=>simp [intOf];omega
   ·obtain rfl:j=n:=by omega
    have F:wr.ownsRow w.heap.size 169 1 (.slice (some ⟨w.heap.size,0,none⟩) j (j+1)) j (wds t):=by refine⟨by simp [p],.inr ⟨w.heap.size,j+1,_,rfl,Nat.le_refl _,z,by omega,by simp [maxLen];omega,by simp [p],?_⟩⟩;simp [p]
    have ad:=E.size;go_wp2_with (at_builtin;refine zS zki rfl (.tmp 49) (.tmp 51) rfl #[.int .u32 (i:Int)] rfl (by simp [Value.oneCell']) rfl rfl F (by simp [maxLen];omega) (by omega) ad ?_);intro X c3 w3 J ae;have ai:=zam E F (Nat.le_refl _) ae;have R:=zci J;have V:Sl w3 1 X (j+1) c3 (wds (t++[i])):=by have:=Sl.of_own J;simpa using this
    have N:zd 4294967296 (t++[i])=zd 4294967296 l+zd 4294967296 k:=by have:=T.out;rw [List.take_of_length_le (by omega),List.take_of_length_le (by omega)]at this;rw [zM,p,this]
    have ag:=Qh N;clear N;go_wp2;go_ret;exact⟨X,j+1,c3,t++[i],rfl,by omega,R.2,V,G.snoc (by omega),by rw [ag.out],W32.of_own J,ai⟩
theorem zgQ{p s i j c x y r q:Nat}(h:s+i=j+p*c)(e:r+y+c=x+4294967296*q):s+p*r+(i+p*y)=j+p*x+p*4294967296*q:=by
 have k:p*(r+y+c)=p*(x+4294967296*q):=by rw [e]
 rw [Nat.mul_add,Nat.mul_add,Nat.mul_add,←Nat.mul_assoc]at k;omega
theorem zqh{x y c:Nat}(k:x<4294967296)(j:y<4294967296)(i:c≤1):(x+4294967296 - y - c)%4294967296+y+c=x+4294967296*(if x<y+c then 1 else 0):=by split<;>omega
theorem zoX{l k i:List Nat}{j x y p q r:Nat}(B:i.length=j)(z:l[j]?=some x)(v:k[j]?=some y)(t:zd 4294967296 i+zd 4294967296 (k.take j)=zd 4294967296 (l.take j)+4294967296^j*p)(e:r+y+p=x+4294967296*q):zd 4294967296 (i++[r])+zd 4294967296 (k.take (j+1))=zd 4294967296 (l.take (j+1))+4294967296^(j+1)*q:=by rw [zM,B,Nat.pow_succ,zbA z,zbA v];exact zgQ t e
theorem zmK{l k i:List Nat}{j x t q r:Nat}(z:i.length=j)(y:l[j]?=some x)(v:k.length≤j)(p:zd 4294967296 i+zd 4294967296 (k.take j)=zd 4294967296 (l.take j)+4294967296^j*t)(e:r+0+t=x+4294967296*q):zd 4294967296 (i++[r])+zd 4294967296 (k.take (j+1))=zd 4294967296 (l.take (j+1))+4294967296^(j+1)*q:=by rw [zM,z,Nat.pow_succ,zbA y,List.take_of_length_le (show k.length≤j+1 by omega)];rw [List.take_of_length_le v]at p;have:=zgQ p e;omega
theorem zjv(A C:Option Addr)(n c m d:Nat)(l k:List Nat)(w:World)(h:Sl w 1 A n c (wds l))(g:Sl w 1 C m d (wds k))(hn:n≤10000000000)(hm:m≤10000000000)(V:zg 4294967296 l)(hk:zg 4294967296 k)(tk:zdl k) (au:zd 4294967296 k≤zd 4294967296 l):Calls Tryz.prog 127 #[.slice A n c,.slice C m d] w fun e w'=>∃A' n' c' o,e= .returned (.slice A' n' c')∧n'=n∧c'≤maxLen∧Sl w' 1 A' n' c' (wds o)∧zg 4294967296 o∧zd 4294967296 o=zd 4294967296 l - zd 4294967296 k∧W32 w' A' n'∧Pu w w':=by
 have ll:=h.wlen;have lk:=g.wlen;have ax:m≤n:=by have U:=zaL V;have:=zaC tk (k:=l.length) (by omega);omega
 have K:=fun W=>zap n n (by omega) (by omega) W;have aa:=Qh K;clear K;have hW:Pu w (w.alloc (.cells (Array.replicate n (.int .u32 0)) 169)):=(Pu.refl w).alloc _;have z:=WA.made w n;go_enter Tryz.func127,Tryz.ntmps127;go_wp2_with (simp only [aa.out])
 go_loopw [6,14] (fun cv v X=>∃(j i:Nat) (t:List Nat),j≤n∧v= .int .i64 j∧cv= .int .u32 (i:Int)∧i≤1∧t.length=j∧zg 4294967296 t∧zd 4294967296 t+zd 4294967296 (k.take j)=zd 4294967296 (l.take j)+4294967296^j*i∧WA X w.heap.size (t++List.replicate (n - j) 0)∧Pu w X) (fun _ v _=>n - (intOf v).toNat)
 case atStart=>exact⟨0,0,[],Nat.zero_le _,rfl,rfl,by omega,rfl,zg.nil _,by simp [zd],by simpa using z,hW⟩
 case round=>
  obtain⟨j,i,t,hj,rfl,rfl,B,p,F,R,z,J⟩:=hrel;have Q:=Qh R;clear R;have N:=z;by_cases av:j<n
  ·obtain⟨x,hx⟩:∃x,l[j]?=some x:=⟨_,List.getElem?_eq_getElem (by omega)⟩
   have D:=V x (List.mem_of_getElem? hx);obtain⟨b1,o1,Z,az,ap⟩:=(h.pu J).wat hx;have Y:=Qh hx;clear hx;have ao:wr.cell? ⟨w.heap.size,j,none⟩=some (.int .u32 0):=by have:=z.cell (j:=j) (x:=0) (by rw [List.getElem?_append_right (by omega),p,Nat.sub_self,List.getElem?_replicate,if_pos (by omega)]);simpa using this
   have aw:=z.frozen j;have G:∀y,WA (wr.setCell ⟨w.heap.size,j,none⟩ (.int .u32 (y:Nat))) w.heap.size ((t++[y])++List.replicate (n - (j+1)) 0):=fun y=>by have P:=N.set_ j y;rwa [zfg p (by omega)]at P
   have E:=Qh G;clear G z N;by_cases am:j<m
   ·obtain⟨y,hy⟩:∃y,k[j]?=some y:=⟨_,List.getElem?_eq_getElem (by omega)⟩
    have M:=hk y (List.mem_of_getElem? hy);obtain⟨b2,o2,eb,a0,aq⟩:=(g.pu J).wat hy;have Hy:=Qh hy;clear hy;subst Z eb;go_wp2_with fail;refine(zeV x y i _ D M B).mono ?_;rintro e w1 ⟨rfl,rfl⟩;have I:=zqh D M B;have O:(x+4294967296 - y - i)%4294967296<4294967296:=Nat.mod_lt _ (by omega);have H:(if x<y+i then 1 else 0)≤1:=by split<;>omega
    generalize (if x<y+i then 1 else 0)=q at*
    generalize (x+4294967296 - y - i)%4294967296=r at*
    go_wp2;go_roundw
    case rel=>exact⟨j+1,q,t++[r],by omega,by go_num,rfl,H,by simp [p],F.snoc O,zoX p Y.out Hy.out Q.out I,E.out r,J.setCell (Nat.le_refl _) _⟩
    case measure=>simp [intOf];omega
   ·subst Z;go_wp2_with fail;refine(zeV x 0 i _ D (by omega) B).mono ?_;rintro e w1 ⟨rfl,rfl⟩;have I:=zqh (y:=0) D (by omega) B;have O:(x+4294967296 - 0 - i)%4294967296<4294967296:=Nat.mod_lt _ (by omega);have H:(if x<0+i then 1 else 0)≤1:=by split<;>omega
    generalize (if x<0+i then 1 else 0)=q at*
    generalize (x+4294967296 - 0 - i)%4294967296=r at*
    go_wp2;go_roundw
    case rel=>exact⟨j+1,q,t++[r],by omega,by go_num,rfl,H,by simp [p],F.snoc O,zmK p Y.out (by omega) Q.out I,E.out r,J.setCell (Nat.le_refl _) _⟩
    case measure=>simp [intOf];omega
  ·obtain rfl:j=n:=by omega
   have S:Sl wr 1 (some ⟨w.heap.size,0,none⟩) j j (wds t):=by have:=z.sl (n:=j) (c:=j) (by simp [p]) (Nat.le_refl _);rwa [Nat.sub_self,List.replicate_zero,List.append_nil,List.take_of_length_le (by omega)]at this
   have L:zd 4294967296 t=zd 4294967296 l - zd 4294967296 k:=by
    have U:=Q.out;have P:=zaL F;rw [List.take_of_length_le (by omega),List.take_of_length_le (by omega)]at U;rw [p]at P;have h3:i=0∨i=1:=by omega
    rcases h3 with rfl|rfl
    ·omega
    ·omega
   have T:=Qh L;clear L;go_wp2;go_ret;exact⟨_,j,j,t,rfl,rfl,by simp [maxLen];omega,S,F,T.out,W32.of_blk z,J⟩
end
section
open Go.RowKit
theorem zpG(w:World)(n:Nat)(i:n≤100000000000):(w.alloc (.cells (Array.replicate (n+1) (.int .u32 0)) 169)).ownsRow w.heap.size 169 1 (.slice (some ⟨w.heap.size,0,none⟩) 0 (n+1)) 0 (wds []):=by refine⟨by simp,.inr ⟨w.heap.size,n+1,_,rfl,Nat.le_refl _,heap_alloc_new w _,by omega,by simp [maxLen];omega,by simp,by simp⟩⟩
theorem zk7{w:World}{base n c r:Nat}{A:Option Addr}{i:List Nat}(h:w.ownsRow base 169 1 (.slice A n c) n (wds i++#[Value.int .u32 (r:Int)].toList)):w.ownsRow base 169 1 (.slice A n c) n (wds (i++[r])):=by show w.ownsRow _ _ _ _ _ (List.map _ (_++_));rw [List.map_append];exact h
theorem zpn(k x s:Nat)(i:k<2^s)(t:x<4294967296)(j:s≤31):bits BinOp.or IntKind.u64 (k:Int) (IntKind.u64.wrap ((x:Int)*2^s))=((k+x*2^s:Nat):Int)∧k+x*2^s<9223372036854775808:=by
 have p:2^s≤2^31:=Nat.pow_le_pow_right (by omega) j;have v:x*2^s≤4294967295*2^31:=Nat.mul_le_mul (by omega) p;have e:(x:Int)*2^s=((x*2^s:Nat):Int):=by simp
 rw [e,zL (by omega),u64_or_nat k _ (by omega) (by omega),Nat.or_comm,←Nat.shiftLeft_eq,←Nat.shiftLeft_add_eq_or_of_lt i,Nat.shiftLeft_eq];exact⟨by rw [Nat.add_comm],by omega⟩
theorem ziQ(A:Option Addr)(n c:Nat)(l:List Nat)(s:Nat)(w:World)(h:Sl w 1 A n c (wds l))(hn:n≤10000000000)(hb:zg 4294967296 l)(hs:s≤31):Calls Tryz.prog 199 #[.slice A n c,.int .i64 (s:Int)] w fun e w'=>∃A' c' o,e= .returned (.slice A' (n+1) c')∧c'≤maxLen∧Sl w' 1 A' (n+1) c' (wds o)∧zg 4294967296 o∧zd 4294967296 o=zd 4294967296 l*2^s∧Pu w w'∧(∃cs,w'.ownsRow w.heap.size 169 1 (.slice A' (n+1) c') (n+1) cs∧cs=wds o):=by
 have hl:=h.wlen;have D:=fun W=>zap 0 (n+1) (by omega) (by omega) W;have B:((n+1:Nat):Int)=(n:Int)+1:=by omega
 rw [B,show((0:Nat):Int)=0 from rfl]at D;have ah:=Qh D;have a7:IntKind.i64.wrap ((n:Int)+1)=(n:Int)+1:=IntWalk.i64_in _ (by omega);have hW:Pu w (w.alloc (.cells (Array.replicate (n+1) (.int .u32 0)) 169)):=(Pu.refl w).alloc _;have t:=zpG w n (by omega);clear D B;go_enter Tryz.func199,Tryz.ntmps199;go_wp2_with (simp only [ah.out])
 go_loopw [5,6,15] (fun ov mv U ws=>∃(j k Q:Nat) (T:Option Addr) (y:List Nat),j≤n∧mv= .int .u64 (k:Int)∧ov= .slice T j Q∧U= .int .i64 j∧ws.ownsRow w.heap.size 169 1 (.slice T j Q) j (wds y)∧y.length=j∧zg 4294967296 y∧k<2^s∧zd 4294967296 y+4294967296^j*k=zd 4294967296 (l.take j)*2^s∧Pu w ws) (fun _ _ U _=>n - (intOf U).toNat)
 case atStart=>exact⟨0,0,n+1,_,[],Nat.zero_le _,rfl,rfl,rfl,t,rfl,zg.nil _,Nat.pow_pos (by omega),by simp [zd],hW⟩
 case round=>
  clear t hW;obtain⟨j,k,Q,T,y,hj,rfl,rfl,rfl,t,F,K,S,V,E⟩:=hrel;have HV:=Qh V;clear V;have C:=E.size;by_cases a8:j<n
  ·obtain⟨x,hx⟩:∃x,l[j]?=some x:=⟨_,List.getElem?_eq_getElem (by omega)⟩
   have I:=hb x (List.mem_of_getElem? hx);obtain⟨b1,o1,ea,aA,a9⟩:=(h.pu E).wat hx;have Hx:=Qh hx;clear hx;subst ea;have a5:=zL (a:=x) (by omega);obtain⟨L,hM⟩:=zpn k x s S I hs;have H:=zph (show s≤32 by omega) S I;obtain⟨p,hp⟩:∃p,p=x*2^s:=⟨_,rfl⟩
   rw [←hp]at hM H L;have hq:(k+p)/4294967296<2^s:=(Nat.div_lt_iff_lt_mul (by omega)).2 (by rw [Nat.mul_comm];exact H);have N:=Nat.div_add_mod (k+p) 4294967296;have hr:=Nat.mod_lt (k+p) (show 4294967296>0 by omega);have e1:((k+p:Nat):Int)%4294967296=(((k+p)%4294967296:Nat):Int):=by omega
   have e2:((k+p:Nat):Int)/4294967296=(((k+p)/4294967296:Nat):Int):=by omega
   generalize (k+p)/4294967296=q at*
   generalize (k+p)%4294967296=r at*
   have Hp:=Qh hp;have Y:=Qh N;generalize k+p=M at L e1 e2 hM;clear hp N H;go_wp2_with (at_builtin;refine zS zki rfl (.tmp 25) (.tmp 28) rfl #[.int .u32 (r:Int)] rfl (by simp [Value.oneCell']) rfl rfl t (by simp [maxLen];omega) (by omega) C ?_);intro O P w3 v z;have G:=zam E t (Nat.le_refl _) z;have i:=zk7 v;clear t z v C E;go_wp2;go_roundw
   case rel=>exact⟨j+1,q,P,O,y++[r],by omega,rfl,rfl,by go_num,i,by simp [F],K.snoc hr,hq,by have h2:=zlE HV.out (by rw [←Hp.out];exact Y.out);rw [zM,F,Nat.pow_succ,h2,zbA Hx.out,Nat.add_mul,Nat.mul_assoc],G⟩
   case measure=>simp [intOf];omega
  ·obtain rfl:j=n:=by omega
   have aa:k<4294967296:=Nat.lt_of_lt_of_le S (show 2^s≤2^32 from Nat.pow_le_pow_right (by omega) (by omega));have ak:(k:Int)%4294967296=(k:Int):=by omega
   go_wp2_with (at_builtin;refine zS zki rfl (.tmp 33) (.tmp 36) rfl #[.int .u32 (k:Int)] rfl (by simp [Value.oneCell']) rfl rfl t (by simp [maxLen];omega) (by omega) C ?_);intro O P w3 v z;have G:=zam E t (Nat.le_refl _) z;have i:=zk7 v;have R:=zci i;have X:=Sl.of_own i;have J:zd 4294967296 (y++[k])=zd 4294967296 l*2^s:=by have:=HV.out;rw [List.take_of_length_le (by omega)]at this;rw [zM,F,this]
   have Z:=Qh J;have ad:=Qh i;clear J t z v i C;go_wp2;go_ret;exact⟨O,P,y++[k],rfl,R.2,X,K.snoc aa,Z.out,G,_,ad.out,rfl⟩
end
section
open Go.RowKit
theorem zpY(A:Option Addr)(n c:Nat)(l:List Nat)(s:Nat)(w:World)(h:Sl w 1 A n c (wds l))(hn:n≤100000000000)(hb:zg 4294967296 l)(hs:s≤31):Calls Tryz.prog 203 #[.slice A n c,.int .i64 (s:Int)] w fun e w'=>∃A' n' c' q,e= .returned (.slice A' n' c')∧n'≤n∧c'≤maxLen∧Sl w' 1 A' n' c' (wds q)∧zg 4294967296 q∧zdl q∧zd 4294967296 q=zd 4294967296 l/2^s∧Pu w w':=by
 have hl:=h.wlen;have G:=fun W=>zap n n (by omega) (Nat.le_refl _) W;have Z:=Qh G;clear G;have hW:Pu w (w.alloc (.cells (Array.replicate n (.int .u32 0)) 169)):=(Pu.refl w).alloc _;have z:=WA.made w n;go_enter Tryz.func203,Tryz.ntmps203;go_wp2_with (simp only [Z.out])
 go_loopw [6,7] (fun a v T=>∃(j k:Nat) (i:List Nat),j≤n∧v= .int .i64 ((j:Int) - 1)∧a= .int .u64 (k:Int)∧k<18446744073709551616∧k%4294967296=zd 4294967296 (l.drop j)%4294967296∧zg 4294967296 i∧j+i.length=n∧zd 4294967296 i=zd 4294967296 (l.drop j)/2^s∧WA T w.heap.size (List.replicate j 0++i)∧Pu w T) (fun _ v _=>(intOf v+1).toNat)
 case atStart=>exact⟨n,0,[],Nat.le_refl _,rfl,rfl,by omega,by rw [List.drop_eq_nil_of_le (by omega)];rfl,zg.nil _,by simp,by rw [List.drop_eq_nil_of_le (by omega)];simp [zd],by simpa using z,hW⟩
 case round=>
  obtain⟨j,k,i,hj,rfl,rfl,hk,I,O,af,L,z,K⟩:=hrel;have HV:=Qh L;have HK:=Qh I;clear L I;rcases j with _|j
  ·have N:Sl wr 1 (some ⟨w.heap.size,0,none⟩) n n (wds i):=by
    have:=z.sl (n:=n) (c:=n) (by simp;omega) (Nat.le_refl _);rwa [List.replicate_zero,List.nil_append,List.take_of_length_le (by omega)]at this
   have Y:=zch N;have aw:=zbE i;have B:=Qh (AI (zaq O) (AI (zaH i) (zar 4294967296 i)));have HT:=Qh Y;clear Y;go_wp2_with fail;refine(zdk _ n n i _ N (by omega) (by simp [maxLen];omega)).mono ?_;rintro e w1 ⟨rfl,rfl⟩;go_wp2;go_ret;exact⟨some ⟨w.heap.size,0,none⟩,(zB i).length,n,zB i,rfl,by omega,by simp [maxLen];omega,HT.out,B.out.1,B.out.2.1,by rw [B.out.2.2,HV.out];rfl,K⟩
  ·obtain⟨x,hx⟩:∃x,l[j]?=some x:=⟨_,List.getElem?_eq_getElem (by omega)⟩
   have H:=hb x (List.mem_of_getElem? hx);obtain⟨b,o,ea,aq,av⟩:=(h.pu K).wat hx;subst ea;have V:=Qh hx;clear hx;have ej:((j+1:Nat):Int) - 1=(j:Int):=by omega
   rw [ej];have ap:j<n:=by omega
   have am:IntKind.i64.wrap ((j:Int) - 1)=(j:Int) - 1:=IntWalk.i64_in _ (by omega);have aj:=zL (a:=x) (by omega);have S:IntKind.u64.wrap ((k:Int)*4294967296)=((k%4294967296:Nat):Int)*4294967296:=by rw [IntKind.wrap_u64];omega
   have C:=zoi x (k%4294967296) H (by omega);have t:((k%4294967296:Nat):Int)*4294967296+(x:Int)=((k%4294967296*4294967296+x:Nat):Int):=by omega
   rw [t]at C;have p:k%4294967296*4294967296+x<18446744073709551616:=by omega
   obtain⟨D,hkm0⟩:∃D,D=k%4294967296:=⟨_,rfl⟩
   rw [←hkm0]at C S p;obtain⟨M,hM⟩:∃M,M=D*4294967296+x:=⟨_,rfl⟩
   rw [←hM]at C p;have P:=Qh hM;have U:=Qh hkm0;have ao:wr.cell? ⟨w.heap.size,j,none⟩=some (.int .u32 0):=by have:=z.cell (j:=j) (x:=0) (by rw [List.getElem?_append_left (by simp)];simp);simpa using this
   have au:=z.frozen j;clear t hM hkm0;go_wp2;have X:(M:Int)/2^s%4294967296=((M/2^s%4294967296:Nat):Int):=by rw [show(2:Int)^s=((2^s:Nat):Int) by simp];simp
   rw [X];clear X;have hy:M/2^s%4294967296<4294967296:=Nat.mod_lt _ (by omega);have Q:D=zd 4294967296 (l.drop (j+1))%4294967296:=by rw [U.out,HK.out]
   have E:=zmL (n:=s) (x:=x) (R:=zd 4294967296 (l.drop (j+1))) (by omega) H;rw [←Q,←P.out]at E;generalize M/2^s%4294967296=y at*
   have F:=z.set_ j y;rw [zin]at F;go_roundw
   case rel=>exact⟨j,M,y::i,by omega,rfl,rfl,p,by
    rw [zay V.out,P.out];omega,by
    intro u J;rcases List.mem_cons.1 J with rfl|J
    ·exact hy
    ·exact O u J,by simp;omega,by
    rw [zay V.out,E];simp only [zd];rw [HV.out],F,K.setCell (Nat.le_refl _) _⟩
   case measure=>simp [intOf]
theorem zop(j t low i next:Nat)(w:World)(h1:j≤i)(h2:t<4294967296)(W:low<4294967296)(h4:i<4294967296)(h5:next<4294967296)(h0:0<i):Calls Tryz.prog 200 #[.int .u64 (j:Int),.int .u64 (t:Int),.int .u64 (low:Int),.int .u64 (i:Int),.int .u64 (next:Int)] w fun e w'=>∃q:Nat,e= .returned (.int .u64 (q:Int))∧q<4294967296∧q*(i*4294967296+next)≤(j*4294967296+t)*4294967296+low∧(q=4294967295∨(j*4294967296+t)*4294967296+low<(q+1)*(i*4294967296+next))∧Pu w w':=by
 have au:IntKind.u64.wrap ((t:Int)+(i:Int))=(t:Int)+(i:Int):=by rw [IntKind.wrap_u64];omega
 have av:=zif (a:=j) (by omega);have N:=zoi t j h2 (by omega);have aw:¬((i:Int)=0):=by omega
 have M:(j:Int)*4294967296+(t:Int)=((j*4294967296+t:Nat):Int):=by omega
 rw [M]at N;obtain⟨U,hU⟩:∃U,U=j*4294967296+t:=⟨_,rfl⟩
 rw [←hU]at N;have D:=Qh hU;clear M hU;rcases Nat.lt_or_ge j i with hlt|hge
 ·go_enter Tryz.func200,Tryz.ntmps200;go_wp2_with fail;go_region;go_wp2_with fail
  go_loopw [11,12] (fun S J X=>∃q r:Nat,S= .int .u64 (q:Int)∧J= .int .u64 (r:Int)∧q<4294967296∧r<8589934592∧q*i+r=U∧(q=4294967295∨U*4294967296+low<(q+1)*(i*4294967296+next))∧Pu w X) (fun _ J _=>8589934592 - (intOf J).toNat)
  case atStart=>have ak:=Nat.div_add_mod U i;have ax:=Nat.mod_lt U h0;have Z:U/i<4294967296:=(Nat.div_lt_iff_lt_mul h0).2 (by rw [D.out];have:(j+1)*4294967296≤i*4294967296:=Nat.mul_le_mul_right _ hlt;rw [Nat.mul_comm];omega);exact⟨U/i,U%i,by rw [show(U:Int)/(i:Int)=((U/i:Nat):Int) by simp,zL (by omega)],by simp,Z,by omega,by rw [Nat.mul_comm];exact ak,.inr (zkd rfl rfl W (by rw [Nat.add_mul,Nat.one_mul,Nat.mul_comm];omega)),(Pu.refl w).drew⟩
  case round=>
   obtain⟨q,r,rfl,rfl,H,hr,v,B,K⟩:=hrel;have I:=Qh v;have y:=Qh B;have F:=zgX (next:=next) (low:=low) (V:=i*4294967296+next) (U3:=U*4294967296+low) rfl rfl v;have C:=Qh F;clear v B F N;obtain⟨p,hp⟩:∃p,p=q*next:=⟨_,rfl⟩
   have ao:(q:Int)*(next:Int)=(p:Int):=by rw [hp,Int.natCast_mul]
   have L:=zf2 (c:=0) (o:=0) H h5 (by omega) (by omega);rw [←hp]at L;have am:p≤4294967295*4294967295:=by rw [hp];exact Nat.mul_le_mul (by omega) (by omega)
   have P:=zL (a:=p) (by omega);have E:=Qh hp;clear hp;by_cases ag:r<4294967296
   ·have Y:decide ((r:Int)<4294967296)=true:=by simp;omega
    have aj:=zif (a:=r) (by omega);have z:=zoi low r W (by omega);have G:(r:Int)*4294967296+(low:Int)=((r*4294967296+low:Nat):Int):=by omega
    rw [G]at z;obtain⟨R,hR⟩:∃R,R=r*4294967296+low:=⟨_,rfl⟩
    rw [←hR]at z;have O:=Qh hR;clear G;by_cases ai:R<p
    ·have T:decide ((p:Int)>(R:Int))=true:=by simp;omega
     have Q:decide ((R:Int)<(p:Int))=true:=by simp;omega
     have ah:0<q:=by
      rcases Nat.eq_zero_or_pos q with e|e
      ·subst e;have:=E.out;simp at this;omega
      ·exact e
     have af:IntKind.u64.wrap ((q:Int) - 1)=((q - 1:Nat):Int):=by rw [IntKind.wrap_u64];omega
     have aa:IntKind.u64.wrap ((r:Int)+(i:Int))=((r+i:Nat):Int):=by rw [IntKind.wrap_u64];omega
     clear hR;go_wp2;go_roundw
     case rel=>exact⟨q - 1,r+i,rfl,rfl,by omega,by omega,by
      have:=I.out;obtain⟨k,rfl⟩:∃k,q=k+1:=⟨q - 1,by omega⟩
      rw [Nat.add_mul]at this;rw [Nat.add_sub_cancel];omega,.inr (by
      rw [show q - 1+1=q by omega];have x:=C.out;rw [←E.out,←O.out]at x;omega),K⟩
     case measure=>simp [intOf];omega
    ·have T:decide ((p:Int)>(R:Int))=false:=by simp;omega
     have Q:decide ((R:Int)<(p:Int))=false:=by simp;omega
     clear hR;go_wp2;go_ret;exact⟨q,rfl,H,by rw [←D.out];have x:=C.out;rw [←E.out,←O.out]at x;exact x.1 (by omega),by rw [←D.out];exact y.out,K⟩
   ·have Y:decide ((r:Int)<4294967296)=false:=by simp;omega
    go_wp2;go_ret;exact⟨q,rfl,H,by rw [←D.out];have x:=C.out;rw [←E.out]at x;exact x.1 (by omega),by rw [←D.out];exact y.out,K⟩
 ·obtain rfl:j=i:=by omega
  go_enter Tryz.func200,Tryz.ntmps200;go_wp2_with fail
  go_loopw [11,12] (fun S J X=>∃q r:Nat,S= .int .u64 (q:Int)∧J= .int .u64 (r:Int)∧q<4294967296∧r<8589934592∧q*j+r=U∧(q=4294967295∨U*4294967296+low<(q+1)*(j*4294967296+next))∧Pu w X) (fun _ J _=>8589934592 - (intOf J).toNat)
  case atStart=>exact⟨4294967295,t+j,rfl,by simp,by omega,by omega,by rw [D.out];omega,.inl rfl,Pu.refl w⟩
  case round=>
   obtain⟨q,r,rfl,rfl,H,hr,v,B,K⟩:=hrel;have I:=Qh v;have y:=Qh B;have F:=zgX (next:=next) (low:=low) (V:=j*4294967296+next) (U3:=U*4294967296+low) rfl rfl v;have C:=Qh F;clear v B F N;obtain⟨p,hp⟩:∃p,p=q*next:=⟨_,rfl⟩
   have ao:(q:Int)*(next:Int)=(p:Int):=by rw [hp,Int.natCast_mul]
   have L:=zf2 (c:=0) (o:=0) H h5 (by omega) (by omega);rw [←hp]at L;have am:p≤4294967295*4294967295:=by rw [hp];exact Nat.mul_le_mul (by omega) (by omega)
   have P:=zL (a:=p) (by omega);have E:=Qh hp;clear hp;by_cases ag:r<4294967296
   ·have Y:decide ((r:Int)<4294967296)=true:=by simp;omega
    have aj:=zif (a:=r) (by omega);have z:=zoi low r W (by omega);have G:(r:Int)*4294967296+(low:Int)=((r*4294967296+low:Nat):Int):=by omega
    rw [G]at z;obtain⟨R,hR⟩:∃R,R=r*4294967296+low:=⟨_,rfl⟩
    rw [←hR]at z;have O:=Qh hR;clear G;by_cases ai:R<p
    ·have T:decide ((p:Int)>(R:Int))=true:=by simp;omega
     have Q:decide ((R:Int)<(p:Int))=true:=by simp;omega
     have ah:0<q:=by
      rcases Nat.eq_zero_or_pos q with e|e
      ·subst e;have:=E.out;simp at this;omega
      ·exact e
     have af:IntKind.u64.wrap ((q:Int) - 1)=((q - 1:Nat):Int):=by rw [IntKind.wrap_u64];omega
     have aa:IntKind.u64.wrap ((r:Int)+(j:Int))=((r+j:Nat):Int):=by rw [IntKind.wrap_u64];omega
     clear hR;go_wp2;go_roundw
     case rel=>exact⟨q - 1,r+j,rfl,rfl,by omega,by omega,by
      have:=I.out;obtain⟨k,rfl⟩:∃k,q=k+1:=⟨q - 1,by omega⟩
      rw [Nat.add_mul]at this;rw [Nat.add_sub_cancel];omega,.inr (by
      rw [show q - 1+1=q by omega];have x:=C.out;rw [←E.out,←O.out]at x;omega),K⟩
     case measure=>simp [intOf];omega
    ·have T:decide ((p:Int)>(R:Int))=false:=by simp;omega
     have Q:decide ((R:Int)<(p:Int))=false:=by simp;omega
     clear hR;go_wp2;go_ret;exact⟨q,rfl,H,by rw [←D.out];have x:=C.out;rw [←E.out,←O.out]at x;exact x.1 (by omega),by rw [←D.out];exact y.out,K⟩
   ·have Y:decide ((r:Int)<4294967296)=false:=by simp;omega
    go_wp2;go_ret;exact⟨q,rfl,H,by rw [←D.out];have x:=C.out;rw [←E.out]at x;exact x.1 (by omega),by rw [←D.out];exact y.out,K⟩
end
section
open Go.RowKit
def XA(w:World)(g:Nat)(o:List Nat):Prop:=∃ys:List Value,Blk w g 169 (wds o++ys).toArray
section
variable{w w':World}{g:Nat}{o:List Nat}
theorem XA.cell(h:XA w g o){j x:Nat}(i:o[j]?=some x):w.cell? ⟨g,j,none⟩=some (.int .u32 (x:Int)):=by obtain⟨p,h⟩:=h;have k:=(List.getElem?_eq_some_iff.1 i).1;rw [Blk.cell h j,List.getElem?_toArray,List.getElem?_append_left (by simpa using k),List.getElem?_map,i];rfl
theorem XA.frozen(h:XA w g o)(j:Nat):w.frozen? ⟨g,j,none⟩=false:=by obtain⟨i,h⟩:=h;exact h.frozen j
theorem XA.set_(h:XA w g o){j:Nat}(k:j<o.length)(y:Nat):XA (w.setCell ⟨g,j,none⟩ (.int .u32 (y:Int))) g (o.set j y):=by
 obtain⟨i,h⟩:=h;refine⟨i,?_⟩;have:=Blk.set_ h j (.int .u32 (y:Int));have e:(wds o++i).toArray.setIfInBounds j (.int .u32 (y:Int))=(wds (o.set j y)++i).toArray:=by simp [List.map_set,List.set_append_left _ _ (show j<(o.map fun x:Nat=>Value.int .u32 (x:Int)).length by simpa using k)]
 rw [e]at this;exact this
theorem XA.pu(h:XA w g o)(i:Pu w w'):XA w' g o:=by obtain⟨j,h⟩:=h;exact⟨j,h.pu i⟩
theorem XA.fr{S:Nat→Prop}(h:XA w g o)(i:Fr S w w')(j:¬S g):XA w' g o:=by obtain⟨k,h⟩:=h;exact⟨k,h.fr i j⟩
theorem XA.lt(h:XA w g o):g<w.heap.size:=by obtain⟨i,h⟩:=h;exact h.lt
theorem XA.sl(h:XA w g o){n c:Nat}(k:n=o.length)(i:n≤c):Sl w 1 (some ⟨g,0,none⟩) n c (wds o):=by
 refine⟨by simp;omega,i,fun _=>⟨g,0,rfl,h.lt,fun j u hu=>?_⟩⟩;rw [List.getElem?_map]at hu
 cases hj:o[j]? with
 |none=>rw [hj]at hu;cases hu
 |some x=>rw [hj]at hu;injection hu with hu;rw [Nat.zero_add,h.cell hj,←hu]
theorem XA.of_own{base n c:Nat}{A:Option Addr}(h:w.ownsRow base 169 1 (.slice A n c) n (wds o))(y:0<n):∃g,A=some ⟨g,0,none⟩∧base≤g∧XA w g o:=by
 rcases h.2 with⟨_,x⟩|⟨g,v,i,j,t,k,_,_,_,p⟩
 ·omega
 ·injection j with hA _ _;refine⟨g,hA,t,i.toList.drop (n*1),?_⟩;unfold Blk;rw [←p,List.take_append_drop];simpa using k
end
theorem znN(P Q:List Nat)(a:Nat):(P++a::Q)[P.length]?=some a:=by simp
theorem znu(P Q:List Nat)(a r:Nat):(P++a::Q).set P.length r=P++r::Q:=by simp
theorem zoC(z J cx:Nat)(lo y G:List Nat)(C:Option Addr)(m d:Nat)(K:List Nat)(t q:Nat)(w:World)(E:XA w z (lo++(y++G)))(L:J=(lo++(y++G)).length)(aJ:J≤cx)(hn:J≤10000000000)(aX:lo.length=t)(aW:y.length=m+1) (hY:Sl w 1 C m d (wds K)) (ax:∀b off,C=some ⟨b,off,none⟩→b≠z) (am:zg 4294967296 y) (az:zg 4294967296 K) (hq:q<4294967296):Calls Tryz.prog 201 #[.slice (some ⟨z,0,none⟩) J cx,.slice C m d,.int .i64 (t:Int),.int .u64 (q:Int)] w fun e w'=>∃(b:Bool) (I:List Nat),e= .returned (.bool b)∧XA w' z (lo++(I++G))∧I.length=m+1∧zg 4294967296 I∧zd 4294967296 I+q*zd 4294967296 K=zd 4294967296 y+4294967296^(m+1)*b.toNat∧Fr (fun k=>k=z) w w':=by
 have aY:=hY.wlen;have bb:t+m+1≤J:=by rw [L];simp;omega
 have aP:=Qh L;clear L;go_enter Tryz.func201,Tryz.ntmps201;go_wp2_with fail
 go_loopw [9,10,15] (fun cv lv iv ws=>∃(i c l:Nat) (v:List Nat),i≤m∧cv= .int .u64 (c:Int)∧lv= .int .u32 (l:Int)∧iv= .int .i64 (i:Int)∧c<4294967296∧l≤1∧v.length=i∧zg 4294967296 v∧zd 4294967296 v+q*zd 4294967296 (K.take i)=zd 4294967296 (y.take i)+4294967296^i*(c+l)∧XA ws z ((lo++v)++(y.drop i++G))∧Fr (fun k=>k=z) w ws) (fun _ _ iv _=>m - (intOf iv).toNat)
 case atStart=>exact⟨0,0,0,[],Nat.zero_le _,rfl,rfl,rfl,by omega,by omega,rfl,zg.nil _,by simp [zd],by simpa using E,Fr.refl _ _⟩
 case round=>
  clear E;obtain⟨i,c,l,v,aU,rfl,rfl,rfl,hc,hl,F,aa,hv,E,hF⟩:=hrel;have HV:=Qh hv;clear hv;obtain⟨o,ho⟩:∃o,y[i]?=some o:=⟨_,List.getElem?_eq_getElem (by omega)⟩
  have W:=am o (List.mem_of_getElem? ho);have V:y.drop i=o::y.drop (i+1):=by
   have hj:=(List.getElem?_eq_some_iff.1 ho).1;rw [List.drop_eq_getElem_cons hj]
   congr 1
   exact(List.getElem?_eq_some_iff.1 ho).2
  rw [V]at E;have O:(lo++v).length=t+i:=by rw [List.length_append];omega
  have a8:wr.cell? ⟨z,t+i,none⟩=some (.int .u32 (o:Int)):=E.cell (by rw [←O];exact znN (lo++v) _ o);have aV:=E.frozen (t+i);have T:∀r:Nat,XA (wr.setCell ⟨z,t+i,none⟩ (.int .u32 (r:Int))) z ((lo++v)++r::(y.drop (i+1)++G)):=fun r=>by have M:=E.set_ (j:=t+i) (by rw [List.length_append,O];simp) r;have U:=znu (lo++v) (y.drop (i+1)++G) o r;rw [O]at U;rw [List.cons_append,U]at M;exact M
  have H:=Qh T;have Ho:=Qh ho;have bc:IntKind.i64.wrap ((t:Int)+(i:Int))=(t:Int)+(i:Int):=IntWalk.i64_in _ (by omega);have aQ:(0:Int)≤(t:Int)+(i:Int):=by omega
  have aT:(t:Int)+(i:Int)<(J:Int):=by omega
  clear T ho V E;by_cases ba:i<m
  ·obtain⟨x,hx⟩:∃x,K[i]?=some x:=⟨_,List.getElem?_eq_getElem (by omega)⟩
   have au:=az x (List.mem_of_getElem? hx);obtain⟨b1,o1,ea,aS,c1⟩:=(hY.fr hF (fun _ b off e e1=>ax b off e e1)).wat hx;have Hx:=Qh hx;clear hx;subst ea;have ag:=zf2 au hq hc (o:=0) (by omega);have a4:x*q≤4294967295*4294967295:=Nat.mul_le_mul (by omega) (by omega);obtain⟨p,hp⟩:∃p,p=x*q:=⟨_,rfl⟩
   have aZ:(x:Int)*(q:Int)=(p:Int):=by rw [hp,Int.natCast_mul]
   rw [←hp]at ag a4;have Z:=Nat.div_add_mod (c+p) 4294967296;have ah:=Nat.mod_lt (c+p) (show 4294967296>0 by omega);have aj:(c+p)/4294967296<4294967296:=by omega
   have e1:((c:Int)+(p:Int))%4294967296=(((c+p)%4294967296:Nat):Int):=by omega
   have e2:((c:Int)+(p:Int))/4294967296=(((c+p)/4294967296:Nat):Int):=by omega
   have Hp:=Qh hp;generalize (c+p)/4294967296=ci at*
   generalize (c+p)%4294967296=low at*
   have a5:=Qh Z;have aO:=zL (a:=x) (by omega);have aD:=zL (a:=p) (by omega);have aR:IntKind.u64.wrap ((c:Int)+(p:Int))=(c:Int)+(p:Int):=by rw [IntKind.wrap_u64];omega
   clear hp Z;go_wp2_with fail;refine(zeV o low l _ W ah hl).mono ?_;rintro e w1 ⟨rfl,rfl⟩;obtain⟨B,hl'⟩:∃B,B=(if o<low+l then 1 else 0):=⟨_,rfl⟩
   obtain⟨r,hr⟩:∃r,r=(o+4294967296 - low - l)%4294967296:=⟨_,rfl⟩
   rw [←hl',←hr];have D:B≤1∧r<4294967296∧r+low+l=o+4294967296*B:=by rw [hl',hr];split<;>omega
   have HL:=Qh D;clear hl' hr D;go_wp2;go_roundw
   case rel=>exact⟨i+1,ci,B,v++[r],by omega,rfl,rfl,by go_num,aj,HL.out.1,by simp [F],aa.snoc HL.out.2.1,by
    have h5:=zor (w:=x) HV.out (by rw [←Hp.out];exact a5.out) HL.out.2.2;rw [zM,F,zaf Hx.out,zaf Ho.out,Nat.pow_succ];exact h5,by
    have h6:=H.out r;rw [←List.append_assoc lo,List.append_assoc (lo++v)];exact h6,hF.trans (Fr.one _ z _ _)⟩
   case measure=>simp [intOf];omega
  ·obtain rfl:i=m:=by omega
   have aF:(c:Int)%4294967296=(c:Int):=by omega
   go_wp2_with fail;refine(zeV o c l _ W hc hl).mono ?_;rintro e w1 ⟨rfl,rfl⟩;obtain⟨B,hl'⟩:∃B,B=(if o<c+l then 1 else 0):=⟨_,rfl⟩
   obtain⟨r,hr⟩:∃r,r=(o+4294967296 - c - l)%4294967296:=⟨_,rfl⟩
   rw [←hl',←hr];have D:(B=0∨B=1)∧r<4294967296∧r+c+l=o+4294967296*B:=by rw [hl',hr];split<;>omega
   have P:zd 4294967296 (v++[r])+q*zd 4294967296 K=zd 4294967296 y+4294967296^(i+1)*B:=by
    have M:=HV.out;rw [List.take_of_length_le (by omega)]at M;have U:zd 4294967296 y=zd 4294967296 (y.take i)+4294967296^i*o:=by rw [←zaf Ho.out,List.take_of_length_le (by omega)]
    rw [zM,F,U,Nat.pow_succ];have h3:4294967296^i*(r+c+l)=4294967296^i*(o+4294967296*B):=by rw [D.2.2]
    simp only [Nat.mul_add,←Nat.mul_assoc]at h3 M⊢;omega
   have S:=Qh P;have N:=H.out r;have R:XA (wr.setCell ⟨z,t+i,none⟩ (.int .u32 (r:Int))) z (lo++((v++[r])++G)):=by rw [show y.drop (i+1)= []from List.drop_eq_nil_of_le (by omega),List.nil_append]at N;rw [List.append_assoc v,←List.append_assoc lo];exact N
   have Y:=Qh R;have Q:=aa.snoc D.2.1;have X:=hF.trans (Fr.one wr z (t+i) (.int .u32 (r:Int)));have aq:=D.1;clear N R P D hl' hr H;rcases aq with rfl|rfl
   ·go_wp2;go_ret;exact⟨false,v++[r],rfl,Y.out,by simp [F],Q,S.out,X⟩
   ·go_wp2;go_ret;exact⟨true,v++[r],rfl,Y.out,by simp [F],Q,S.out,X⟩
theorem zpL(z J cx:Nat)(lo t E:List Nat)(C:Option Addr)(m d:Nat)(F:List Nat)(p:Nat)(w:World)(B:XA w z (lo++(t++E)))(K:J=(lo++(t++E)).length)(a5:J≤cx)(hn:J≤10000000000)(aI:lo.length=p)(aH:t.length=m+1) (hY:Sl w 1 C m d (wds F)) (ao:∀b off,C=some ⟨b,off,none⟩→b≠z) (ad:zg 4294967296 t) (ap:zg 4294967296 F):Calls Tryz.prog 202 #[.slice (some ⟨z,0,none⟩) J cx,.slice C m d,.int .i64 (p:Int)] w fun e w'=>∃(b:Nat) (H:List Nat),e= .returned (.tuple #[])∧XA w' z (lo++(H++E))∧H.length=m+1∧zg 4294967296 H∧zd 4294967296 H+4294967296^(m+1)*b=zd 4294967296 t+zd 4294967296 F∧Fr (fun k=>k=z) w w':=by
 have aJ:=hY.wlen;have aL:p+m+1≤J:=by rw [K];simp;omega
 have aB:=Qh K;clear K;go_enter Tryz.func202,Tryz.ntmps202;go_wp2_with fail
 go_loopw [6,11] (fun cv V ws=>∃(i c:Nat) (y:List Nat),i≤m∧cv= .int .u32 (c:Int)∧V= .int .i64 (i:Int)∧c≤1∧y.length=i∧zg 4294967296 y∧zd 4294967296 y+4294967296^i*c=zd 4294967296 (t.take i)+zd 4294967296 (F.take i)∧XA ws z ((lo++y)++(t.drop i++E))∧Fr (fun k=>k=z) w ws) (fun _ V _=>m - (intOf V).toNat)
 case atStart=>exact⟨0,0,[],Nat.zero_le _,rfl,rfl,by omega,rfl,zg.nil _,by simp [zd],by simpa using B,Fr.refl _ _⟩
 case round=>
  clear B;obtain⟨i,c,y,aF,rfl,rfl,hc,I,T,Z,B,U⟩:=hrel;have HV:=Qh Z;clear Z;obtain⟨o,ho⟩:∃o,t[i]?=some o:=⟨_,List.getElem?_eq_getElem (by omega)⟩
  have ag:=ad o (List.mem_of_getElem? ho);have S:t.drop i=o::t.drop (i+1):=by
   have hj:=(List.getElem?_eq_some_iff.1 ho).1;rw [List.drop_eq_getElem_cons hj]
   congr 1
   exact(List.getElem?_eq_some_iff.1 ho).2
  rw [S]at B;have N:(lo++y).length=p+i:=by rw [List.length_append];omega
  have av:wr.cell? ⟨z,p+i,none⟩=some (.int .u32 (o:Int)):=B.cell (by rw [←N];exact znN (lo++y) _ o);have aG:=B.frozen (p+i);have Q:∀r:Nat,XA (wr.setCell ⟨z,p+i,none⟩ (.int .u32 (r:Int))) z ((lo++y)++r::(t.drop (i+1)++E)):=fun r=>by have L:=B.set_ (j:=p+i) (by rw [List.length_append,N];simp) r;have R:=znu (lo++y) (t.drop (i+1)++E) o r;rw [N]at R;rw [List.cons_append,R]at L;exact L
  have G:=Qh Q;have Ho:=Qh ho;have aM:IntKind.i64.wrap ((p:Int)+(i:Int))=(p:Int)+(i:Int):=IntWalk.i64_in _ (by omega);have aC:(0:Int)≤(p:Int)+(i:Int):=by omega
  have aE:(p:Int)+(i:Int)<(J:Int):=by omega
  clear Q ho S B;by_cases aK:i<m
  ·obtain⟨x,hx⟩:∃x,F[i]?=some x:=⟨_,List.getElem?_eq_getElem (by omega)⟩
   have aj:=ap x (List.mem_of_getElem? hx);obtain⟨b1,o1,ea,aD,c1⟩:=(hY.fr U (fun _ b off e e1=>ao b off e e1)).wat hx;have Hx:=Qh hx;clear hx;subst ea;go_wp2_with fail;refine(zdB o x c _ ag aj hc).mono ?_;rintro e w1 ⟨rfl,rfl⟩;have D:=Nat.div_add_mod (o+x+c) 4294967296;have X:=Nat.mod_lt (o+x+c) (show 4294967296>0 by omega);have hq:(o+x+c)/4294967296≤1:=by omega
   generalize (o+x+c)/4294967296=q at*
   generalize (o+x+c)%4294967296=r at*
   have au:=Qh D;clear D;go_wp2;go_roundw
   case rel=>exact⟨i+1,q,y++[r],by omega,rfl,by go_num,hq,by simp [I],T.snoc X,by
    rw [zM,I,zaf Hx.out,zaf Ho.out,Nat.pow_succ];have h5:=zd1 HV.out (v:=o+x) au.out;rw [Nat.mul_add]at h5;omega,by
    have h6:=G.out r;rw [←List.append_assoc lo,List.append_assoc (lo++y)];exact h6,U.trans (Fr.one _ z _ _)⟩
   case measure=>simp [intOf];omega
  ·obtain rfl:i=m:=by omega
   have D:=Nat.div_add_mod (o+c) 4294967296;have X:=Nat.mod_lt (o+c) (show 4294967296>0 by omega);have aA:IntKind.u32.wrap ((o:Int)+(c:Int))=(((o+c)%4294967296:Nat):Int):=by rw [IntKind.wrap_u32];omega
   have aw:((o:Int)+(c:Int))%4294967296=(((o+c)%4294967296:Nat):Int):=by omega
   generalize (o+c)/4294967296=q at*
   generalize (o+c)%4294967296=r at*
   have O:zd 4294967296 (y++[r])+4294967296^(i+1)*q=zd 4294967296 t+zd 4294967296 F:=by
    have L:=HV.out;rw [List.take_of_length_le (l:=F) (by omega)]at L;have R:zd 4294967296 t=zd 4294967296 (t.take i)+4294967296^i*o:=by rw [←zaf Ho.out,List.take_of_length_le (by omega)]
    rw [zM,I,R,Nat.pow_succ];have h5:=zd1 L (v:=o) D;omega
   have Y:=Qh O;have M:=G.out r;have P:XA (wr.setCell ⟨z,p+i,none⟩ (.int .u32 (r:Int))) z (lo++((y++[r])++E)):=by rw [show t.drop (i+1)= []from List.drop_eq_nil_of_le (by omega),List.nil_append]at M;rw [List.append_assoc y,←List.append_assoc lo];exact M
   have ai:=Qh P;have W:=T.snoc X;have ah:=U.trans (Fr.one wr z (p+i) (.int .u32 (r:Int)));clear M P O D G;go_wp2;refine bodyPost_end (results_none rfl _ _ _) rfl ?_;exact⟨q,y++[r],rfl,ai.out,by simp [I],W,Y.out,ah⟩
theorem zmc(k y:List Nat)(i m v p low j next:Nat)(E:zg 4294967296 k)(F:zg 4294967296 y)(hm:2≤m)(L:y.length=m)(hN:i+m<k.length)(hr:zd 4294967296 (k.drop (i+1))<zd 4294967296 y)(Z:0<j) (Y:k[i+m]?=some v) (Q:k[i+m - 1]?=some p) (h3:k[i+m - 2]?=some low) (S:y[m - 1]?=some j) (I:y[m - 2]?=some next):∃lo t N,k=lo++(t++N)∧lo.length=i∧t.length=m+1∧zg 4294967296 t∧zd 4294967296 N=0∧zd 4294967296 (k.drop i)=zd 4294967296 t∧zd 4294967296 t<4294967296*zd 4294967296 y∧zd 4294967296 t<4294967296^(m+1)∧v≤j∧(j*4294967296+next)*4294967296^(m - 2)≤zd 4294967296 y∧zd 4294967296 y<(j*4294967296+next+1)*4294967296^(m - 2)∧((v*4294967296+p)*4294967296+low)*4294967296^(m - 2)≤zd 4294967296 t∧zd 4294967296 t<((v*4294967296+p)*4294967296+low+1)*4294967296^(m - 2):=by
 obtain⟨n,rfl⟩:∃n,m=n+2:=⟨m - 2,by omega⟩
 simp only [Nat.add_sub_cancel,show n+2 - 1=n+1 by omega,show i+(n+2) - 1=i+n+1 by omega,show i+(n+2) - 2=i+n by omega]at*
 obtain⟨P,hP⟩:∃P,P=4294967296^n:=⟨_,rfl⟩
 have B:=zdW 4294967296 y n (by omega);have K:=zaL (F.take n);rw [List.length_take,Nat.min_eq_left (by omega)]at K;rw [zay I,zay S,List.drop_eq_nil_of_le (show y.length≤n+1+1 by omega)]at B;simp only [zd,Nat.mul_zero,Nat.add_zero]at B;have C:=zdW 4294967296 (k.drop i) (n+3) (by rw [List.length_drop];omega);have G:((k.drop i).take (n+3)).length=n+3:=by rw [List.length_take,List.length_drop];omega
 obtain⟨x,hx0⟩:∃x,k[i]?=some x:=⟨_,List.getElem?_eq_getElem (by omega)⟩
 have ae:=E x (List.mem_of_getElem? hx0);have X:=zay (b:=4294967296) hx0;have O:zd 4294967296 (k.drop i)<4294967296*zd 4294967296 y:=by rw [X];omega
 have M:=zaL F;rw [L]at M;have U:zd 4294967296 (k.drop i)<4294967296^(n+3):=by rw [show n+3=(n+2)+1 by omega,Nat.pow_succ];omega
 have H:zd 4294967296 ((k.drop i).drop (n+3))=0:=by
  rcases Nat.eq_zero_or_pos (zd 4294967296 ((k.drop i).drop (n+3)))with h|h
  ·exact h
  ·have:=Nat.mul_le_mul_left (4294967296^(n+3)) h;omega
 rw [H,Nat.mul_zero,Nat.add_zero]at C;have D:zg 4294967296 ((k.drop i).take (n+3)):=(E.drop i).take _;generalize hsg:(k.drop i).take (n+3)=t at*
 have V:t[n+2]?=some v:=by rw [←hsg,List.getElem?_take,if_pos (by omega),List.getElem?_drop];exact Y
 have T:t[n+1]?=some p:=by rw [←hsg,List.getElem?_take,if_pos (by omega),List.getElem?_drop];exact Q
 have W:t[n]?=some low:=by rw [←hsg,List.getElem?_take,if_pos (by omega),List.getElem?_drop];exact h3
 have z:=zdW 4294967296 t n (by omega);have J:=zaL (D.take n);rw [List.length_take,Nat.min_eq_left (by omega)]at J;rw [zay W,zay T,zay V,List.drop_eq_nil_of_le (show t.length≤n+2+1 by omega)]at z;simp only [zd,Nat.mul_zero,Nat.add_zero]at z;rw [←hP]at B K z J;have af:0<P:=by rw [hP];exact Nat.pow_pos (by decide)
 have ad:=E p (List.mem_of_getElem? Q);have R:=F next (List.mem_of_getElem? I)
 refine⟨k.take i,t,(k.drop i).drop (n+3),?_,by rw [List.length_take];omega,G,D,H,C,by rw [←C];exact O,by rw [←C];exact U,?_,?_,?_,?_,?_⟩
 ·rw [←hsg,List.take_append_drop,List.take_append_drop]
 ·
  rcases Nat.lt_or_ge j v with h|h
  ·exfalso;have e1:P*(low+4294967296*(p+4294967296*v))≥P*(4294967296*(4294967296*(j+1))):=Nat.mul_le_mul_left _ (by omega);have e2:P*(next+4294967296*j)≤P*(4294967296*(j+1) - 1):=Nat.mul_le_mul_left _ (by omega);have e3:P*(4294967296*(j+1) - 1)=P*(4294967296*(j+1)) - P:=by rw [Nat.mul_sub,Nat.mul_one]
   have e4:P*(4294967296*(4294967296*(j+1)))=4294967296*(P*(4294967296*(j+1))):=by rw [Nat.mul_left_comm]
   have e5:P≤P*(4294967296*(j+1)):=Nat.le_mul_of_pos_right _ (by omega);rw [C]at O;omega
  ·exact h
 ·rw [←hP,B,Nat.mul_comm];have:next+4294967296*j=j*4294967296+next:=by omega
  rw [this];omega
 ·rw [←hP,Nat.add_mul (j*4294967296+next),Nat.one_mul,Nat.mul_comm (j*4294967296+next),B];have:next+4294967296*j=j*4294967296+next:=by omega
  rw [this];omega
 ·rw [←hP,z,Nat.mul_comm];have:low+4294967296*(p+4294967296*v)=(v*4294967296+p)*4294967296+low:=by omega
  rw [this];omega
 ·rw [←hP,Nat.add_mul ((v*4294967296+p)*4294967296+low),Nat.one_mul,Nat.mul_comm ((v*4294967296+p)*4294967296+low),z];have:low+4294967296*(p+4294967296*v)=(v*4294967296+p)*4294967296+low:=by omega
  rw [this];omega
end
section
open Go.RowKit
def zp0(X Y:Nat):Prop:=∀(A1 A2:Option Addr) (n1 c1 n2 c2:Nat) (l1 l2:List Nat) (W:World),Sl W 1 A1 n1 c1 (wds l1)→Sl W 1 A2 n2 c2 (wds l2)→zg 4294967296 l1→zg 4294967296 l2→zdl l1→zdl l2→n1≤4000000000→n2≤4000000000→c1≤maxLen→c2≤maxLen→zd 4294967296 l1=X→zd 4294967296 l2=Y→Calls Tryz.prog 177 #[.slice A1 n1 c1,.slice A2 n2 c2] W fun e w'=>∃A3 n3 c3 q A4 n4 c4 r,e= .returned (.tuple #[.slice A3 n3 c3,.slice A4 n4 c4])∧Sl w' 1 A3 n3 c3 (wds q)∧Sl w' 1 A4 n4 c4 (wds r)∧n3≤8000000000∧n4≤8000000000∧c3≤maxLen∧c4≤maxLen∧zg 4294967296 q∧zg 4294967296 r∧zd 4294967296 q=X/Y∧zd 4294967296 r=X%Y∧Pu W w'
theorem zk2(X Y:Nat)(i:X<Y):zp0 X Y:=by intro G J H D I K C L w k y j F x B P N E O t p;have z:=zbh G J H D I K C L w k y (by omega) (by omega) j F x B;rw [t,p,zfv i]at z;have M:=Qh t;have Q:=Qh p;clear t p;go_enter Tryz.func177,Tryz.ntmps177;go_wp2_with fail;refine z.mono ?_;rintro e R ⟨rfl,v⟩;go_wp2;go_ret2;exact⟨none,0,0,[],G,H,D,C,rfl,Sl.nil _ _ _ _,k.pu v,by omega,by omega,by simp [maxLen],E,zg.nil _,j,by rw [Nat.div_eq_of_lt i];rfl,by rw [Nat.mod_eq_of_lt i,M.out],v⟩
theorem zoj{x y:Nat}(h:y≤x):∃s,zfY x y=s∧decide (s<0)=false:=by
 rcases Nat.lt_or_eq_of_le h with h|h
 ·exact⟨1,zfE h,rfl⟩
 ·subst h;exact⟨0,zik _,rfl⟩
theorem zoG{l:List Nat}(p:zdl l)(i:0<zd 4294967296 l)(h:zd 4294967296 l<4294967296):l= [zd 4294967296 l]:=by
 have j:=zaC p (k:=1) (by rw [Nat.pow_one];exact h)
 match l,j,i with
 | [],_,i=>simp [zd]at i
 | [x],_,_=>simp [zd]
 |x::y::t,j,_=>simp at j
theorem znM(X Y:Nat)(B:0<Y)(V:Y<4294967296):zp0 X Y:=by
 rcases Nat.lt_or_ge X Y with hlt|hge
 ·exact zk2 X Y hlt
 intro A1 A2 n1 T I c2 p l2 w E k C Z L y a9 a6 aA a8 H G;have P:=zbh A1 A2 n1 T I c2 p l2 w E k (by omega) (by omega) C Z L y;obtain⟨s,U,d0⟩:=zoj hge;rw [H,G,U]at P;have e2:=zoG y (by omega) (by omega);rw [G]at e2;subst e2;have z:=k.wlen;obtain rfl:I=1:=z.symm;obtain⟨b,off,rfl,O,i⟩:=k.wat (j:=0) (x:=Y) rfl;simp only [Nat.add_zero]at i;have ag:=zL (a:=Y) (by omega);have S:=Qh H;clear H G U z;go_enter Tryz.func177,Tryz.ntmps177;go_wp2_with fail;refine P.mono ?_;rintro e w1 ⟨rfl,t⟩;have ae:=t.cellv i;have ax:b<w1.heap.size:=Nat.lt_of_lt_of_le O t.size;go_wp2_with fail;refine(zjx A1 n1 T p Y _ (E.pu t) (by omega) C B V).mono ?_;rintro e w2 ⟨A3,n3,c3,q,rfl,aB,J,K,Q,a7,v,p3,_⟩;have F:zd 4294967296 p%Y<4294967296:=by have:=Nat.mod_lt (zd 4294967296 p) B;omega
 have Hq:=Qh v;obtain⟨R,hR⟩:∃R,R=zd 4294967296 p%Y:=⟨_,rfl⟩
 rw [←hR]at F⊢;have HR:=Qh hR;clear hR v;go_wp2_with fail;refine(zgK R _ (by omega)).mono ?_;rintro e w3 ⟨A4,n4,c4,r,rfl,aD,a5,W,M,aC,D,-,N⟩;have Hr:=Qh D;clear D;go_wp2;go_ret2;exact⟨A3,n3,c3,q,A4,n4,c4,r,rfl,K.pu N,W,by omega,by omega,J,by simp [maxLen];omega,Q,M,by rw [Hq.out,S.out],by rw [Hr.out,HR.out,S.out],(t.trans p3).trans N⟩
end
section
open Go.RowKit
theorem zj7(i j:Bool)(x y:Nat):sgn i x*sgn j y=sgn (i != j) (x*y):=by
 cases i<;>cases j<;>simp [sgn,Int.natCast_mul,Int.mul_neg,Int.neg_mul]
theorem zfK(v1 v2:Value)(z1 z2:Int)(w:World)(h1:ZR w v1 z1)(L:ZR w v2 z2)(b1:z1.natAbs<4294967296^E9)(b2:z2.natAbs<4294967296^E9):Calls Tryz.prog 50 #[v1,v2] w fun e w'=>∃v',e= .returned v'∧ZR w' v' (z1*z2)∧Pu w w':=by
 obtain⟨g1,A1,B,c1,l1,rfl,R,a9,aW,bI,⟨bJ,bN⟩,rfl⟩:=h1;obtain⟨g2,Z,t,Y,l2,rfl,S,bi,aY,bR,⟨bT,bO⟩,rfl⟩:=L;rw [zaA]at b1 b2;rw [zj7];have aj:=zaC (k:=E9) aW b1;rw [show E9=9000000000 from rfl]at aj;have af:=zaC (k:=E9) aY b2;rw [show E9=9000000000 from rfl]at af;have ba:=R.wlen;have bc:=S.wlen;rw [ba]at aj;rw [bc]at af;obtain⟨W,hWe⟩:∃W,W=((w.alloc (.cells #[.bool g1,.slice A1 B c1] 30)).alloc (.cells #[.bool g2,.slice Z t Y] 30)).alloc (.cells #[.bool false,.slice none 0 0] 30):=⟨_,rfl⟩
 have aC:W.heap.size=w.heap.size+3:=by rw [hWe];simp
 have hW:Pu w W:=by rw [hWe];exact(((Pu.refl w).alloc _).alloc _).alloc _
 have k1:Blk W w.heap.size 30 #[.bool g1,.slice A1 B c1]:=by rw [hWe];exact((Blk.new w _ _).alloc _).alloc _
 have k2:Blk W (w.heap.size+1) 30 #[.bool g2,.slice Z t Y]:=by rw [hWe];exact(Blk.at_new _ _ _ (by simp)).alloc _
 have k3:Blk W (w.heap.size+2) 30 #[.bool false,.slice none 0 0]:=by rw [hWe];exact Blk.at_new _ _ _ (by simp)
 have M:=fun W=>zap (B+t+1) (B+t+1) (by omega) (Nat.le_refl _) W;have J:((B+t+1:Nat):Int)=(B:Int)+(t:Int)+1:=by omega
 rw [J]at M;have aS:=Qh M;have bV:IntKind.i64.wrap ((B:Int)+(t:Int))=(B:Int)+(t:Int):=IntWalk.i64_in _ (by omega);have bU:IntKind.i64.wrap ((B:Int)+(t:Int)+1)=(B:Int)+(t:Int)+1:=IntWalk.i64_in _ (by omega);have X:=WA.made W (B+t+1);have ae:Pu W (W.alloc (.cells (Array.replicate (B+t+1) (.int .u32 0)) 169)):=(Pu.refl W).alloc _;rw [aC]at X;rw [hWe]at X ae;have aM:=Qh hWe;have aG:=R.pu hW;have a8:=S.pu hW;clear M hWe J R S;go_enter Tryz.func50,Tryz.ntmps50;go_wp2_with (simp only [aS.out])
 go_loopw [23] (fun iv U=>∃(i:Nat) (F:List Nat),i≤B∧iv= .int .i64 i∧F.length=i+t∧zg 4294967296 F∧zd 4294967296 F=zd 4294967296 (l1.take i)*zd 4294967296 l2∧WA U (w.heap.size+3) (F++List.replicate (B+t+1 - (i+t)) 0)∧Pu W U) (fun iv _=>B - (intOf iv).toNat)
 case atStart=>exact⟨0,List.replicate t 0,Nat.zero_le _,rfl,by simp,zg.zeros (by omega) _,by simp [zd,zfx],by
  have e:List.replicate t 0++List.replicate (B+t+1 - (0+t)) 0=List.replicate (B+t+1) 0:=by
   rw [List.replicate_append_replicate]
   congr 1
   omega
  rw [e];exact X,by rw [aM.out];exact ae⟩
 case round=>
  obtain⟨i,F,hi,rfl,aA,ag,hv,E,C⟩:=hrel;have HV:=Qh hv;clear hv;by_cases bQ:i<B
  ·obtain⟨x,hx⟩:∃x,l1[i]?=some x:=⟨_,List.getElem?_eq_getElem (by omega)⟩
   have aO:=a9 x (List.mem_of_getElem? hx);obtain⟨q1,o1,ea,a6,aE⟩:=(aG.pu C).wat hx;have Hx:=Qh hx;clear hx;subst ea;have Q:wr.cell? ⟨w.heap.size+1,1,none⟩=some (.slice Z t Y):=(k2.pu C).cell 1;go_wp2_with fail
   go_loopw [8,31] (fun cv kv U=>∃(k c:Nat) (D:List Nat),k≤t∧kv= .int .i64 k∧cv= .int .u64 (c:Int)∧c<4294967296∧D.length=i+t∧zg 4294967296 D∧zd 4294967296 D+4294967296^(i+k)*c=zd 4294967296 F+4294967296^i*(x*zd 4294967296 (l2.take k))∧WA U (w.heap.size+3) (D++List.replicate (B+t+1 - (i+t)) 0)∧Pu W U) (fun _ kv _=>t - (intOf kv).toNat)
   case atStart=>exact⟨0,0,F,Nat.zero_le _,rfl,rfl,by omega,aA,ag,by simp [zd],E,C⟩
   case round=>
    clear E C aE Q a6;obtain⟨k,c,D,hk,rfl,rfl,hc,G,H,K,E,C⟩:=hrel;have ah:=Qh K;clear K;have I:=E;by_cases bS:k<t
    ·obtain⟨y,hy⟩:∃y,l2[k]?=some y:=⟨_,List.getElem?_eq_getElem (by omega)⟩
     have aH:=bi y (List.mem_of_getElem? hy);obtain⟨q2,o2,eb,bE,bP⟩:=(a8.pu C).wat hy;have Hy:=Qh hy;clear hy;subst eb;obtain⟨z,ho⟩:∃z,D[i+k]?=some z:=⟨_,List.getElem?_eq_getElem (by omega)⟩
     have aB:=H z (List.mem_of_getElem? ho);have aV:wr.cell? ⟨w.heap.size+3,i+k,none⟩=some (.int .u32 (z:Int)):=E.cell (by rw [List.getElem?_append_left (by omega)];exact ho);have aZ:=E.frozen (i+k);have Ho:=Qh ho;have ax:=zf2 aO aH hc aB;obtain⟨p,hp⟩:∃p,p=x*y:=⟨_,rfl⟩
     have bM:(x:Int)*(y:Int)=(p:Int):=by rw [hp,Int.natCast_mul]
     rw [←hp]at ax;have Hp:=Qh hp;have N:=Qh I;have bb:IntKind.i64.wrap ((i:Int)+(k:Int))=(i:Int)+(k:Int):=IntWalk.i64_in _ (by omega);have b8:=zL (a:=x) (by omega);have bz:=zL (a:=y) (by omega);have b0:=zL (a:=p) (by omega);have bn:=zL (a:=z) (by omega);have bH:IntKind.u64.wrap ((p:Int)+(z:Int))=(p:Int)+(z:Int):=by rw [IntKind.wrap_u64];omega
     have bL:IntKind.u64.wrap ((c:Int)+((p:Int)+(z:Int)))=(c:Int)+((p:Int)+(z:Int)):=by rw [IntKind.wrap_u64];omega
     clear hp ho I;go_wp2;have aR:=Nat.div_add_mod (c+(p+z)) 4294967296;have hr:=Nat.mod_lt (c+(p+z)) (show 4294967296>0 by omega);have hq:(c+(p+z))/4294967296<4294967296:=by omega
     have e1:((c:Int)+((p:Int)+(z:Int)))%4294967296=(((c+(p+z))%4294967296:Nat):Int):=by omega
     have e2:((c:Int)+((p:Int)+(z:Int)))/4294967296=(((c+(p+z))/4294967296:Nat):Int):=by omega
     rw [e1,e2];clear e1 e2;generalize (c+(p+z))/4294967296=q at*
     generalize (c+(p+z))%4294967296=r at*
     go_roundw
     case rel=>exact⟨k+1,q,D.set (i+k) r,by omega,by go_num,rfl,hq,by simp [G],H.set hr,by
      have hs:=zfj (b:=4294967296) r Ho.out;have L:=zoQ hs aR ah.out;rw [zbA Hy.out,←zqK,←Hp.out,←Nat.add_assoc i k 1,Nat.pow_succ,L,Nat.add_assoc],by
      have V:=N.out.set_ (i+k) r;rw [List.set_append_left _ _ (by omega)]at V;exact V,C.setCell (by show W.heap.size≤w.heap.size+3;omega) _⟩
     case measure=>simp [intOf];omega
    ·obtain rfl:k=t:=by omega
     have aV:wr.cell? ⟨w.heap.size+3,i+k,none⟩=some (.int .u32 0):=by have:=E.cell (j:=i+k) (x:=0) (by rw [List.getElem?_append_right (by omega),G,Nat.sub_self,List.getElem?_replicate,if_pos (by omega)]);simpa using this
     have aZ:=E.frozen (i+k);have Q:wr.cell? ⟨w.heap.size+1,1,none⟩=some (.slice Z k Y):=(k2.pu C).cell 1;have bb:IntKind.i64.wrap ((i:Int)+(k:Int))=(i:Int)+(k:Int):=IntWalk.i64_in _ (by omega);have N:=Qh I;clear I;go_wp2;go_roundw
     case rel=>exact⟨i+1,D++[c],by omega,by go_num,by simp;omega,H.snoc hc,by
      have L:=ah.out;rw [List.take_of_length_le (by omega),HV.out]at L;rw [zM,G,L,zbA Hx.out,Nat.add_mul,Nat.mul_assoc],by
      have V:=N.out.set_ (i+k) c;rw [zfg G (by omega)]at V;rw [show i+1+k=i+k+1 by omega];exact V,C.setCell (by show W.heap.size≤w.heap.size+3;omega) _⟩
     case measure=>simp [intOf];omega
  ·obtain rfl:i=B:=by omega
   have bF:wr.cell? ⟨w.heap.size,0,none⟩=some (.bool g1):=(k1.pu C).cell 0;have Q:wr.cell? ⟨w.heap.size+1,0,none⟩=some (.bool g2):=(k2.pu C).cell 0;have ai:zd 4294967296 (F++List.replicate (i+t+1 - (i+t)) 0)=zd 4294967296 l1*zd 4294967296 l2:=by rw [zaT,zfx,HV.out,List.take_of_length_le (by omega)];simp
   have O:=E.sl (n:=i+t+1) (c:=i+t+1) (by simp;omega) (Nat.le_refl _);rw [List.take_of_length_le (by simp;omega)]at O;have ak:zg 4294967296 (F++List.replicate (i+t+1 - (i+t)) 0):=ag.append (zg.zeros (by omega) _);have T:=fun g=>zbJ g _ _ _ _ wr O (by omega) (by simp [maxLen];omega) ak (W32.of_blk E);rw [ai]at T;have aF:=Qh T;have aL:=k3.pu C;have aK:=hW.trans C;clear T O ak ai E C;go_wp2_with fail;refine(aF.out _).mono ?_;rintro e w2 ⟨v',rfl,am,p2⟩;have P:=aL.pu p2;have K:=am;obtain⟨g',A',n',c',l',rfl,_⟩:=K;have q0:w2.cell? ⟨w.heap.size+2,0,none⟩=some (.bool false):=P.cell 0;have q1:w2.cell? ⟨w.heap.size+2,1,none⟩=some (.slice none 0 0):=P.cell 1;have f0:w2.frozen? ⟨w.heap.size+2,0,none⟩=false:=P.frozen 0;have f1:w2.frozen? ⟨w.heap.size+2,1,none⟩=false:=P.frozen 1;obtain⟨r0,r1,rz,rp⟩:=zA P g' A' n' c';go_wp2;refine bodyPost_ret (v:= .agg #[.bool g',.slice A' n' c']) (by simp [results,Tryz.results50,go_sem,r0,r1]) rfl ⟨_,rfl,rz _ _ am,rp _ (aK.trans p2) (by omega)⟩
end
end Go.Proofs.YtckfnbckoclhpaaGreatDoor

/- Rows. -/
import Derived.Test.YtckfnbckoclhpaaGreatDoorE20
import Derived.Shelf.SlSortCmp.NoneTotal
import Derived.Test.YtckfnbckoclhpaaGreatDoorE21
namespace Go.Proofs.YtckfnbckoclhpaaGreatDoor
set_option linter.unusedVariables false
set_option linter.unusedSimpArgs false
set_option maxRecDepth 100000
set_option maxHeartbeats 1000000
section
open Go.RowKit
abbrev Rw(w:World)(base:Nat):={p:RawR×RowM // ziu w base p.1 p.2∧Sml p.2}
def ziJ{w:World}{base:Nat}(x:Rw w base):List Value:=x.1.1.cells
def cfR{w:World}{base:Nat}(x y:Rw w base):Int:=zhz x.1.2 y.1.2
theorem zlg{w:World}{base:Nat}(x y:Rw w base):ltOf cfR x y=true↔zjS x.1.2 y.1.2:=by unfold ltOf cfR zjS;simp
theorem zcL{w:World}{base:Nat}(x y:Rw w base):ltOf cfR x y=false↔¬zjS x.1.2 y.1.2:=by rw [←zlg];simp
theorem zsp(w:World)(base:Nat):Sort.SWO (ltOf (cfR (w:=w) (base:=base))) where
 irrefl x:=(zcL x x).2 (zo9 _)
 trans x y z h1 h2:=(zlg x z).2 (zhH ((zlg x y).1 h1) ((zlg y z).1 h2))
 ntrans x y z h1 h2:=(zcL x z).2 (zrd ((zcL y z).1 h2) ((zcL x y).1 h1))
theorem zn9{α:Type} [Inhabited α] (enc:α→List Value)(k:Nat)(w:World)(o off m:Nat)(d:Array α)(t:Array Obj):Fr (fun i=>i=o) w (sortWorldK enc k w o off m d t):=by
 unfold sortWorldK Sort.grow Sort.putRowK Sort.putRow;refine⟨rfl,rfl,rfl,?_,fun j x v=>?_⟩
 ·simp [Sort.mapBlock,Sort.ahead]
 ·have p:j<(Sort.mapBlock (Sort.ahead w m) o (Sort.putCells id off (Sort.flatK enc k d))).heap.size:=by simpa [Sort.mapBlock,Sort.ahead]using x
  show((Sort.mapBlock (Sort.ahead w m) o (Sort.putCells id off (Sort.flatK enc k d))).heap++t)[j]?=_;rw [Array.getElem?_append_left p];simp [Sort.mapBlock,Sort.ahead,Array.getElem?_modify];intro e;exact absurd e.symm v
theorem zq2{W w':World}(p:Pu W w')(H:W.drawn≤w'.drawn):∃q y,w'=Sort.grow (W.drewN q) y:=by
 refine⟨w'.drawn - W.drawn,w'.heap.extract W.heap.size w'.heap.size,?_⟩;have w:=p.os;have C:=p.tape;have z:=p.output;have E:=p.size;have v:=fun k o=>p.block k o (fun x=>x);obtain⟨heap,G,drawn,y,B⟩:=W;obtain⟨i,D,j,K,t⟩:=w';dsimp only at w C z E v H;subst w C z;have F:i=heap++i.extract heap.size i.size:=by
  apply Array.ext_getElem?;intro k;by_cases o:k<heap.size
  ·rw [Array.getElem?_append_left o];exact v k o
  ·rw [Array.getElem?_append_right (by omega),Array.getElem?_extract];by_cases J:k<i.size
   ·rw [if_pos (by omega)]
    congr 1
    omega
   ·rw [if_neg (by omega),Array.getElem?_eq_none (by omega)]
 have I:j=drawn+(j - drawn):=by omega
 unfold Sort.grow World.drewN;dsimp only;rw [←F,←I]
theorem zoR{w:World}{base i off o:Nat}{D:Array Value} [Inhabited (Rw w base)] (C:Blk w i 35 D)(z:base≤i):CmpLays Tryz.prog 39 #[] (ziJ (w:=w) (base:=base)) 4 cfR i off o w:=by
 intro m j k _ x y;have t:=zn9 (ziJ (w:=w) (base:=base)) 4 w i off m k j;have p:Qf base w (sortWorldK ziJ 4 w i off m k j):=Qf.of t (fun g hg=>by subst hg;exact⟨z,_,_,_,C,by decide⟩);have h:=znY x.1.1 y.1.1 x.1.2 y.1.2 (sortWorldK ziJ 4 w i off m k j) (x.2.1.qf p).is (y.2.1.qf p).is x.2.2 y.2.2;have v:=zkm h (fun e w' hr=>⟨_,hr.1⟩);have B:Calls Tryz.prog 39 #[x.1.1.val,y.1.1.val] (sortWorldK ziJ 4 w i off m k j) fun e w'=>e= .returned (.int .i64 (cfR x y))∧∃q os',w'=Sort.grow ((sortWorldK ziJ 4 w i off m k j).drewN q) os':=v.mono fun e w' hr=>⟨hr.1.1,zq2 hr.1.2 hr.2⟩
 exact B
theorem zpk{α:Type} [Inhabited α] (enc:α→List Value)(k:Nat)(d:Array α)(i c:Nat)(o:i<d.size)(v:c<k):(Sort.flatK enc k d)[i*k+c]! =(enc d[i]!)[c]! :=by
 have p:i*k+c<d.size*k:=by have:=Nat.mul_le_mul_right k (show i+1≤d.size from o);rw [Nat.add_mul,Nat.one_mul]at this;omega
 have j:(i*k+c)/k=i:=(Sort.blk_iff k i _ (by omega)).1 ⟨by omega,by omega⟩;have t:(i*k+c)%k=c:=by rw [Nat.mod_eq_sub_div_mul,j];omega
 rw [Sort.get_flatK _ _ _ _ p,j,t]
def zef{w:World}{base:Nat}{L:List RawR}{l:List RowM}(h:zal w base L l)(hs:∀r∈l,Sml r):List (Rw w base):=(List.range L.length).attach.map fun i=>⟨(L[i.1]'(List.mem_range.1 i.2),l[i.1]'(by rw [←h.1];exact List.mem_range.1 i.2)),h.2 i.1 _ _ (List.getElem?_eq_getElem (List.mem_range.1 i.2)) (List.getElem?_eq_getElem (by rw [←h.1];exact List.mem_range.1 i.2)),hs _ (List.getElem_mem ..)⟩
theorem zjE{w:World}{base:Nat}{L:List RawR}{l:List RowM}(h:zal w base L l)(j:∀r∈l,Sml r):(zef h j).map (·.1.1)=L:=by
 unfold zef;rw [List.map_map];apply List.ext_getElem
 ·simp
 ·intro i k o;simp
theorem znj{w:World}{base:Nat}{L:List RawR}{l:List RowM}(h:zal w base L l)(j:∀r∈l,Sml r):(zef h j).map (·.1.2)=l:=by
 unfold zef;rw [List.map_map];apply List.ext_getElem
 ·simp [h.1]
 ·intro i k o;simp
theorem zlR{w w':World}{base:Nat}(d:List (Rw w base))(o:Qf base w w'):zal w' base (d.map (·.1.1)) (d.map (·.1.2)):=by
 refine⟨by simp,fun i q r j k=>?_⟩;rw [List.getElem?_map]at j k
 cases e:d[i]? with
 |none=>
  rw [e]at j
  cases j
 |some x=>rw [e]at j k;injection j with j;injection k with k;subst j k;exact x.2.1.qf o
theorem zoJ(base n c:Nat)(A:Option Addr)(L:List RawR)(l:List RowM)(w:World)(V:w.ownsRow base 35 4 (.slice A n c) n (cat RawR.cells L))(k:zal w base L l)(p:∀r∈l,Sml r)(hn:n<4611686018427387904):Calls Tryz.prog 38 #[.slice A n c,.func (.func 39) #[] #[]] w fun e w'=>e= .returned (.tuple #[])∧∃L' l',l'.Perm l∧zn2 l'∧SlR w' A n c L'∧zal w' base L' l'∧Qf base w w':=by
 have N:=Sl.of_own V;have E:L.length=n:=SlR.len N;rcases Nat.eq_zero_or_pos n with h0|h0
 ·subst h0;have y:=AnyF.slices_SortFunc_none {Tryz.laysSort with} A c (.func (.func 39) #[] #[]) w;refine Calls.mono y ?_;rintro e w' ⟨S,rfl⟩;obtain rfl:L= []:=List.eq_nil_of_length_eq_zero E;obtain rfl:l= []:=List.eq_nil_of_length_eq_zero (by rw [←k.1];rfl);exact⟨S,[],[],List.Perm.refl _,List.Pairwise.nil,N,k,(Pu.refl _).qf base⟩
 ·obtain⟨t,O,rfl,M,B,Y,ak,aj,ad⟩:=zaU V h0;have hE:(zef k p).length=n:=by
   have:=congrArg List.length (zjE k p);rw [List.length_map,E]at this;exact this
  haveI:Inhabited (Rw w base):=⟨(zef k p)[0]'(by omega)⟩
  have C:(zef k p).toArray.size=n:=by simpa using hE
  have P:∀i,(R:i<n)→(zef k p).toArray[i]! =(zef k p)[i]'(by omega):=fun i R=>by rw [getElem!_pos _ i (by omega)];simp
  have U:Sort.HoldsK ziJ 4 w t 0 (zef k p).toArray:=by
   intro j z;rw [Sort.size_flatK,C]at z;refine⟨?_,B.frozen _⟩;rw [B.cell];have K:j/4<n:=by omega
   have J:j=j/4*4+j%4:=by omega
   have e2:(Sort.flatK ziJ 4 (zef k p).toArray)[j]! =(ziJ ((zef k p)[j/4]'(by omega)))[j%4]! :=by
    conv=>lhs;rw [J]
    rw [zpk _ _ _ _ _ (by omega) (by omega),P _ K]
   show _=some ((Sort.flatK ziJ 4 (zef k p).toArray)[j]!);rw [e2];have Q:L[j/4]?=some ((zef k p)[j/4]'(by omega)).1.1:=by have:=congrArg (fun x:List RawR=>x[j/4]?) (zjE k p);rw [←this,List.getElem?_map,List.getElem?_eq_getElem (by omega)];rfl
   have G:=zgs RawR.cells_len Q (j%4) (by omega);rw [←J,←ad,List.getElem?_take,if_pos z]at G;have h3:O[0+j]?=O.toList[j]?:=by simp
   rw [h3,G];unfold ziJ;rw [List.getElem!_eq_getElem?_getD,List.getElem?_eq_getElem (by rw [RawR.cells_len];omega)];rfl
  have eg:∀args w,(callFunc 39 args).run Tryz.prog w= .ok (.enter 39 args) w:=enters_of Tryz.func39 (by kernel_rfl) rfl;have F:=AnyQ.slices_SortFunc Tryz.laysSort 4 Tryz.isAgg35 Tryz.sizeOf35 (ziJ (w:=w) (base:=base)) (fun x=>RawR.cells_len _) (fun x=>RawR.cells_one _) cfR (zsp w base) 39 #[] t 0 c (zef k p).toArray w eg (zoR B M) U B.lt (by rw [C];exact hn);rw [C]at F;refine Calls.mono F ?_;rintro e w' ⟨S,o,m,I,v,H,rfl⟩;have Z:=zn9 (ziJ (w:=w) (base:=base)) 4 w t 0 m o I;have W:Qf base w (sortWorldK ziJ 4 w t 0 m o I):=Qf.of Z (fun g hg=>by subst hg;exact⟨M,_,_,_,B,by decide⟩);have D:o.size=n:=v.1.trans C;have aa:Sort.HoldsK ziJ 4 (sortWorldK ziJ 4 w t 0 m o I) t 0 o:=holdsK_sortWorldK_c ziJ 4 w t 0 _ o m I U B.lt v.1;have T:o.toList.Perm (zef k p):=by have:=v.2.2;rw [Array.extract_eq_self_of_le (by omega),Array.extract_eq_self_of_le (by omega)]at this;simpa using this
  refine⟨S,o.toList.map (·.1.1),o.toList.map (·.1.2),?_,?_,?_,zlR _ W,W⟩
  ·have:=T.map (·.1.2);rw [znj]at this;exact this
  ·refine List.pairwise_iff_getElem.2 (fun i j R z X=>?_);rw [List.length_map,Array.length_toList,D]at R z;have y:=H i j (Nat.zero_le _) X z;rw [getElem!_pos o i (by omega),getElem!_pos o j (by omega)]at y;simp only [List.getElem_map,Array.getElem_toList];exact(zcL _ _).1 y
  ·refine⟨?_,Y,fun _=>⟨t,0,rfl,Nat.lt_of_lt_of_le B.lt Z.size,fun j u hu=>?_⟩⟩
   ·rw [zfz RawR.cells_len,List.length_map,Array.length_toList,D]
   ·have z:=(List.getElem?_eq_some_iff.1 hu).1;rw [zfz RawR.cells_len,List.length_map,Array.length_toList,D]at z;have K:j/4<n:=by omega
    have J:j=j/4*4+j%4:=by omega
    have y:=(aa.cell (i:=j/4) (c:=j%4) (by omega) (by omega)).1;have G:=zgs RawR.cells_len (l:=o.toList.map (·.1.1)) (j:=j/4) (q:=(o[j/4]'(by omega)).1.1) (by rw [List.getElem?_map,List.getElem?_eq_getElem (by simp;omega)];simp) (j%4) (by omega);rw [←J,hu]at G;rw [show(0+j/4*4+j%4)=0+j by omega]at y;rw [y,getElem!_pos o _ (by omega),List.getElem!_eq_getElem?_getD];unfold ziJ;rw [←G];rfl
end
section
open Go.RowKit
def zrC(w:World)(s:Bool×List (Key×Pr))(x:Ending)(w':World):Prop:=∃A n c,x= .returned (.tuple #[.slice A n c,.bool (s.1&&zcH s.2)])∧Pu w w'∧((s.1&&zcH s.2)=true→∃L' l',l'.Perm (zO s.2)∧zn2 l'∧SlR w' A n c L'∧zal w' w.heap.size L' l')∧((s.1&&zcH s.2)=false→A=none∧n=0∧c=0)
theorem zl7{l:List RowM}{i:Nat}{r:RowM}(h:l[i]?=some r)(s:Bool×List (Key×Pr)):(l.take (i+1)).foldl zbP s=zbP ((l.take i).foldl zbP s) r:=by rw [List.take_add_one,h,List.foldl_append];rfl
theorem zmZ{ps:List (Key×Pr)}{i:Nat}{k:Key}{p:Pr}(h:ps[i]?=some (k,p)):zO (ps.take (i+1))=zO (ps.take i)++(zaV p).1:=by unfold zO;rw [List.take_add_one,h,List.flatMap_append];simp
theorem zqD{ps:List (Key×Pr)}{i:Nat}{k:Key}{p:Pr}(h:ps[i]?=some (k,p))(b:Bool):(b&&zcH (ps.take (i+1)))=((b&&zcH (ps.take i))&&(zaV p).2):=by unfold zcH;rw [List.take_add_one,h,List.all_append,Bool.and_assoc];simp
theorem zcw(L:List RawR):∀u∈cat RawR.cells L,u.oneCell'=true:=fun u hu=>by obtain⟨q,_,i⟩:=List.mem_flatMap.1 hu;exact q.cells_one u i
structure Rest(w:World)(base tb mb i:Nat)(ok:Bool)(LG:List (Key×Nat))(ps:List (Key×Pr))(Ao:Option Addr)(no co:Nat)(B:Nat)(Lo:List RawR)(lo:List RowM):Prop where
 blk:Blk w tb 97 #[.pointer (some ⟨mb,0,none⟩),.bool ok]
 own:w.ownsRow B 35 4 (.slice Ao no co) no (cat RawR.cells Lo)
 hold:zal w base Lo lo
 pr:∀j x y,i≤j→LG[j]?=some x→ps[j]?=some y→zaE w base (fun b=>base≤b) x.2 y.2
theorem Rest.pu{w w':World}{base v z i:Nat}{t:Bool}{o:List (Key×Nat)}{ps:List (Key×Pr)}{C:Option Addr}{k E B:Nat}{D:List RawR}{lo:List RowM}(h:Rest w base v z i t o ps C k E B D lo)(p:Pu w w'):Rest w' base v z i t o ps C k E B D lo:=⟨h.blk.pu p,zaw h.own p,h.hold.pu p,fun j x y H F G=>(h.pr j x y H F G).pu p⟩
theorem Rest.turn{w w':World}{base F G i:Nat}{E:Bool}{o:List (Key×Nat)}{ps:List (Key×Pr)}{H:Option Addr}{C K B:Nat}{I:List RawR}{lo:List RowM}{k:Key}{q:Nat}{z:Array Value}(h:Rest w base F G i E o ps H C K B I lo)(J:(o.map (·.2)).Nodup)(N:o[i]?=some (k,q))(v:Blk w q 159 z)(Q:base≤q)(f:Fr (fun j=>j=q) w w'):Rest w' base F G (i+1) E o ps H C K B I lo:=by
 have D:∀g,g=q→base≤g∧∃t z fz,w.heap[g]?=some (.cells z t fz)∧Tt t:=fun g p=>by subst p;exact⟨Q,_,_,_,v,by decide⟩
 refine⟨h.blk.fr f (h.blk.ne_ v (by decide)),zbp h.own f (fun g p e=>zbs h.own v (by decide) (by rw [p,e])),h.hold.qf (Qf.of f D),fun j x y hj hx hy=>(h.pr j x y (by omega) hx hy).fr f D (fun e=>?_)⟩;have P:(o.map (·.2))[j]?=some q:=by rw [List.getElem?_map,hx];exact congrArg some e
 have S:(o.map (·.2))[i]?=some q:=by rw [List.getElem?_map,N];rfl
 obtain⟨L,R⟩:=List.getElem?_eq_some_iff.1 P;obtain⟨M,O⟩:=List.getElem?_eq_some_iff.1 S;exact List.pairwise_iff_getElem.1 J _ _ M L (by omega) (O.trans R.symm)
theorem Rest.set_ok{w:World}{base k D i:Nat}{K:Bool}{v:List (Key×Nat)}{ps:List (Key×Pr)}{E:Option Addr}{z G B:Nat}{F:List RawR}{lo:List RowM}(h:Rest w base k D i K v ps E z G B F lo)(Q:base≤k)(S:v.length=ps.length)(b:Bool):Rest (w.setCell ⟨k,1,none⟩ (.bool b)) base k D i b v ps E z G B F lo:=by
 have f:=Fr.one w k 1 (.bool b);have C:∀g,g=k→base≤g∧∃t cs fz,w.heap[g]?=some (.cells cs t fz)∧Tt t:=fun g p=>by subst p;exact⟨Q,_,_,_,h.blk,by decide⟩
 refine⟨h.blk.set_ 1 _,zbp h.own f (fun g p e=>zbs h.own h.blk (by decide) (by rw [p,e])),h.hold.qf (Qf.of f C),fun j x y hj hx hy=>?_⟩;have J:=h.pr j x y hj hx hy;obtain⟨R,O,L,N,P,H,I,M,o⟩:=J;exact zaE.fr ⟨R,O,L,N,P,H,I,M,o⟩ f C (o.blk.ne_ h.blk (by decide))
theorem Rest.app{w w':World}{base M P i:Nat}{J:Bool}{H:List (Key×Nat)}{ps:List (Key×Pr)}{z:Option Addr}{k F B:Nat}{E:List RawR}{lo:List RowM}(h:Rest w base M P i J H ps z k F B E lo)(X:base≤B){L:Option Addr}{v N:Nat}{C:List RawR}{O:List RowM}(U:w'.ownsRow B 35 4 (.slice L (k+v) N) (k+v) (cat RawR.cells E++cat RawR.cells C))(p:w.grownBy w' (Value.slice z k F).ownBlock)(R:zal w base C O):Rest w' base M P i J H ps L (k+v) N B (E++C) (lo++O):=by
 have I:∀g,(Value.slice z k F).ownBlock=some g→base≤g∧∃t D G,w.heap[g]?=some (.cells D t G)∧Tt t:=fun g p=>by obtain⟨Y,t,D,G,h2,h3⟩:=zah h.own g p;exact⟨Nat.le_trans X Y,t,D,G,h2,by rw [h3];decide⟩
 have f:=Fr.of_grown p;have K:=Qf.of f I;refine⟨h.blk.fr f (zbs h.own h.blk (by decide)),by rw [zaX];exact U,(h.hold.qf K).append (R.qf K),fun j x y hj T W=>?_⟩;obtain⟨a1,a2,V,a4,a5,Q,S,Z,o⟩:=h.pr j x y hj T W;exact zaE.fr ⟨a1,a2,V,a4,a5,Q,S,Z,o⟩ f I (zbs h.own o.blk (by decide))
theorem zoF(A:Option Addr)(n c K:Nat)(L:List RawR)(l:List RowM)(w:World)(h:SlR w A n c L)(hh:zF w L l)(hg:∀r∈l,zou K r)(hK:Big K)(hn:n<1100000):Calls Tryz.prog 10 #[.slice A n c] w (zrC w (zi l)):=by
 have bw:L.length=n:=h.len;have bL:=hh.1;have Hg:=Qh hg;have HK:=Qh hK;clear hg hK;go_enter Tryz.func10,Tryz.ntmps10;go_wp2_with fail;refine(zsh _).mono ?_;rintro e z ⟨mb,rfl,hm,p1⟩;obtain⟨W,hWe⟩:∃W,W=z.alloc (.cells #[.pointer (some ⟨mb,0,none⟩),.bool true] 97):=⟨_,rfl⟩
 have pA:Pu z W:=by rw [hWe];exact(Pu.refl _).alloc _
 have kT:Blk W z.heap.size 97 #[.pointer (some ⟨mb,0,none⟩),.bool true]:=by rw [hWe];exact Blk.new _ _ _
 have hT:zK W w.heap.size (fun b=>w.heap.size≤b) z.heap.size true mb none [] []:=⟨kT,p1.size,hm.pu pA,zcc.nil _ _ _⟩
 have pW:Pu w W:=p1.trans pA;have bp:=Qh hWe;clear hWe hm p1 pA kT;go_wp2_with fail;rw [←bp.out]
 go_loopw [17] (fun iv wr=>∃(i:Nat) (r':Option Nat) (Y:List (Key×Nat)),i≤n∧iv= .int .i64 (i:Int)∧zK wr w.heap.size (fun b=>w.heap.size≤b) z.heap.size ((l.take i).foldl zbP (true,[])).1 mb r' Y ((l.take i).foldl zbP (true,[])).2∧Qf w.heap.size W wr) (fun iv _=>n - (intOf iv).toNat)
 case atStart=>exact⟨0,none,[],Nat.zero_le _,rfl,by simpa using hT,(Pu.refl W).qf _⟩
 case round=>
  obtain⟨i,r',Y,hi,rfl,J,hQ⟩:=hrel;have aC:Pu w wr:=Qf.pu pW hQ (Nat.le_refl _);by_cases bN:i<n
  ·obtain⟨q,hq⟩:∃q,L[i]?=some q:=⟨_,List.getElem?_eq_getElem (by omega)⟩
   obtain⟨r,hr,bk⟩:=hh.at_ hq;obtain⟨b,off,rfl,bO,x0,x1,x2,x3⟩:=SlR.at_ (Sl.pu h aC) hq;have aG:=Hg.out r (List.mem_of_getElem? hr);obtain⟨bc,ap,af⟩:=zcG (K:=K) (l.take i) (true,[]) List.Pairwise.nil (fun e he=>by cases he) (fun x R=>Hg.out x (List.mem_of_mem_take R));have aN:((l.take i).foldl zbP (true,[])).2.length<1100000:=by rw [List.length_take]at af;simp at af;omega
   have U:=zl7 hr (true,[]);have pB:Pu wr (wr.alloc (.cells #[.bool q.g,.slice q.A q.n q.c,.pointer q.m,.bool q.eq] 35)):=(Pu.refl wr).alloc _;have ag:=zon w.heap.size z.heap.size mb _ r' Y _ q r K _ (J.pu pB) (bk.pu (aC.trans pB)) aG.fs.nz (aC.trans pB).size (zqX aG.fs HK.out ap aN) aG.rest;rw [←U]at ag;have HL:=Qh ag;have HQ:=Qh (hQ.trans (pB.qf w.heap.size));have bW:IntKind.i64.wrap ((i:Int)+1)=(i:Int)+1:=IntWalk.i64_in _ (by omega);clear ag J U bc ap af aN hr bk hQ hq pB aG hT;obtain⟨qg,qA,qn,qc,qm,qe⟩:=q;dsimp only at x0 x1 x2 x3 HL HQ;go_wp2_with fail;refine HL.out.mono ?_;rintro e Z ⟨r2,L2,rfl,bH,q2⟩;go_wp2;go_roundw
   case rel=>exact⟨i+1,r2,L2,by omega,by go_num,bH,HQ.out.trans q2⟩
   case measure=>simp [intOf];omega
  ·obtain rfl:i=n:=by omega
   rw [List.take_of_length_le (by omega)]at J;obtain⟨_,ap,af⟩:=zcG (K:=K) l (true,[]) List.Pairwise.nil (fun e he=>by cases he) Hg.out;simp only [List.length_nil,Nat.zero_add]at af;change zK wr w.heap.size (fun b=>w.heap.size≤b) z.heap.size (zi l).1 mb r' Y (zi l).2 at J;change ∀e∈(zi l).2,zfH K e.2 at ap;change (zi l).2.length≤l.length at af;generalize zi l=s at*
   have t0:=J.blk.cell 0;have ax:=zrM mb Y wr J.mo.mr;have X:=J.ge;have am:=J.hp.1;have bV:=J.hp.2.2;have bu:=Qh (fun V (p:Pu wr V) j x y R hy=>(J.hp.2.1 j x y R hy).2.pu p);have bi:=J.blk;have cz:Y.length<1100000:=by omega
   have bl:=Qh ap;clear J hQ h hh hT bp ap af bw bL Hg;go_wp2_with fail;refine ax.mono ?_;rintro e Wp ⟨A4,n4,c4,rfl,aE,c7,p4⟩;have hP:Pu w Wp:=aC.trans p4;have c0:Y.length=n4:=zos (Sl.of_own aE);have T:=hP.size;have ao:Rest Wp w.heap.size z.heap.size mb 0 s.1 Y s.2 none 0 0 Wp.heap.size [] []:=⟨bi.pu p4,World.ownsRow_nil _ _ _ _,zal.nil _ _,fun j x y _ R hy=>bu.out _ p4 j x y R hy⟩
   have aK:∀b off,A4=some ⟨b,off,none⟩→¬(b∈Y.map (·.2)∨b=z.heap.size):=fun b off hA hc=>by
    subst hA;obtain⟨_,t,cs,fz,h1,h2⟩:=zah aE b rfl;rcases hc with hc|hc
    ·obtain⟨x,R,e⟩:=List.mem_map.1 hc;obtain⟨j,hj⟩:=List.getElem?_of_mem R;have aI:=(List.getElem?_eq_some_iff.1 hj).1;obtain⟨a1,a2,a3,a4,a5,a6,a7,a8,bU⟩:=ao.pr j x _ (Nat.zero_le _) hj (List.getElem?_eq_getElem (by rw [←am];exact aI));have ai:=bU.blk;rw [e]at ai;unfold Blk at ai;rw [ai]at h1;injection h1 with h1;injection h1 with _ h1;rw [←h1]at h2;exact absurd h2 (by decide)
    ·have ai:=ao.blk;rw [←hc]at ai;unfold Blk at ai;rw [ai]at h1;injection h1 with h1;injection h1 with _ h1;rw [←h1]at h2;exact absurd h2 (by decide)
   have b5:=Qh aK;have bM:=Sl.of_own aE;clear bi bu aK aE p4 t0 ax;go_wp2_with fail
   go_loopw [7,31] (fun ov iv wr=>∃(i:Nat) (Ao:Option Addr) (no co:Nat) (Lo:List RawR),i≤n4∧iv= .int .i64 (i:Int)∧ov= .slice Ao no co∧no≤2*i∧Rest wr w.heap.size z.heap.size mb i (s.1&&zcH (s.2.take i)) Y s.2 Ao no co Wp.heap.size Lo (zO (s.2.take i))∧Fr (fun k=>k∈Y.map (·.2)∨k=z.heap.size) Wp wr) (fun _ iv _=>n4 - (intOf iv).toNat)
   case atStart=>exact⟨0,none,0,0,[],Nat.zero_le _,rfl,rfl,Nat.zero_le _,by simpa [zcH,zO]using ao,Fr.refl _ _⟩
   case round=>
    obtain⟨i,Ao,no,co,Lo,hi,rfl,rfl,c8,hR,hF⟩:=hrel;have c2:=hF.size;by_cases bN:i<n4
    ·obtain⟨x,R⟩:∃x,Y[i]?=some x:=⟨_,List.getElem?_eq_getElem (by omega)⟩
     obtain⟨y,hy⟩:∃y,s.2[i]?=some y:=⟨_,List.getElem?_eq_getElem (by omega)⟩
     obtain⟨k,q⟩:=x;obtain⟨k2,p⟩:=y;obtain⟨bb,off,rfl,bO,x0,x1⟩:=atP (bM.fr hF (fun _=>b5.out)) R;have pB:Pu wr (wr.alloc (.cells #[.string ⟨k.toArray⟩,.pointer (some ⟨q,0,none⟩)] 102)):=(Pu.refl wr).alloc _;have aL:=hR.pu pB;have bn:=aL.pr i _ _ (Nat.le_refl _) R hy;have aq:=zn4 (p:=p) (K:=K) _ bn (by simp;omega) (bl.out _ (List.mem_of_getElem? hy)) HK.out;obtain⟨a1,a2,a3,a4,a5,a6,a7,a8,aO⟩:=bn;have kq:=aO.blk;have bq:=aO.ge;dsimp only at kq bq aq;have bt:q∈Y.map (·.2):=List.mem_map_of_mem (f:=(·.2)) (List.mem_of_getElem? R);have U:=zqD hy s.1;have bh:=zmZ hy;have bI:=hF.alloc (.cells #[.string ⟨k.toArray⟩,.pointer (some ⟨q,0,none⟩)] 102);generalize (s.1&&zcH (s.2.take i))=o1 at*
     generalize (zaV p).2=o2 at*
     generalize (zaV p).1=lp at*
     have HR:=Qh aq;have HS:=Qh (AI U (AI bh (AI bt (AI R bV))));have bW:IntKind.i64.wrap ((i:Int)+1)=(i:Int)+1:=IntWalk.i64_in _ (by omega);have c1:=aL.blk.lt;clear aq U bh bt R hy ao aO pB hR
     cases o1<;>cases o2
     all_goals
      go_wp2_with fail;refine HR.out.mono ?_;rintro e Z ⟨A5,n5,c5,L5,rfl,cy,ad,aa,aD,P⟩;have G:=aL.turn HS.out.2.2.2.2 HS.out.2.2.2.1 kq bq P;have S:=bI.step P (fun j e=> .inl (.inl (by rw [e];exact HS.out.2.2.1)));have y1:=G.blk.cell 1;have f1:=G.blk.frozen 1;have c3:=S.size
     ·have E:=G.set_ok X am false;have I:=aa.qf (Qf.of (base:=w.heap.size) (Fr.one Z z.heap.size 1 (.bool false)) (fun g hg=>by
       subst hg;exact⟨X,_,_,_,G.blk,by decide⟩))
      have H:=ad.fr (Fr.one Z z.heap.size 1 (.bool false)) (fun _ b off hA e=>by have e1:b=z.heap.size:=e;have e2:=aD b off hA;omega);have C:=S.step (Fr.one Z z.heap.size 1 (.bool false)) (fun j e=> .inl (.inr e));have Q:=C.size;have v:=E.own;have B:=Qh (AI E (AI I (AI C P)));clear E I C P aa G S ad;go_wp2_with (at_builtin;refine zaY zcX rfl _ _ rfl rfl rfl v H (zcw _) (by simp [maxLen];omega) (by omega) Q ?_);intro A6 c6 w4 N D;have F:=B.out.1.app T N D B.out.2.1;have M:=B.out.2.2.1.grown D (fun k hk=> .inr (zah v k hk).1);rw [←HS.out.2.1]at F;have O:=Qh (AI F M);clear F M N D v H y1 f1;go_wp2;go_roundw
      case rel=>exact⟨i+1,A6,no+n5,c6,Lo++L5,by omega,by go_num,rfl,by omega,by rw [HS.out.1];exact O.out.1,O.out.2⟩
      case measure=>simp [intOf];omega
     ·have E:=G.set_ok X am false;have I:=aa.qf (Qf.of (base:=w.heap.size) (Fr.one Z z.heap.size 1 (.bool false)) (fun g hg=>by
       subst hg;exact⟨X,_,_,_,G.blk,by decide⟩))
      have H:=ad.fr (Fr.one Z z.heap.size 1 (.bool false)) (fun _ b off hA e=>by have e1:b=z.heap.size:=e;have e2:=aD b off hA;omega);have C:=S.step (Fr.one Z z.heap.size 1 (.bool false)) (fun j e=> .inl (.inr e));have Q:=C.size;have v:=E.own;have B:=Qh (AI E (AI I (AI C P)));clear E I C P aa G S ad;go_wp2_with (at_builtin;refine zaY zcX rfl _ _ rfl rfl rfl v H (zcw _) (by simp [maxLen];omega) (by omega) Q ?_);intro A6 c6 w4 N D;have F:=B.out.1.app T N D B.out.2.1;have M:=B.out.2.2.1.grown D (fun k hk=> .inr (zah v k hk).1);rw [←HS.out.2.1]at F;have O:=Qh (AI F M);clear F M N D v H y1 f1;go_wp2;go_roundw
      case rel=>exact⟨i+1,A6,no+n5,c6,Lo++L5,by omega,by go_num,rfl,by omega,by rw [HS.out.1];exact O.out.1,O.out.2⟩
      case measure=>simp [intOf];omega
     ·have E:=G.set_ok X am false;have I:=aa.qf (Qf.of (base:=w.heap.size) (Fr.one Z z.heap.size 1 (.bool false)) (fun g hg=>by
       subst hg;exact⟨X,_,_,_,G.blk,by decide⟩))
      have H:=ad.fr (Fr.one Z z.heap.size 1 (.bool false)) (fun _ b off hA e=>by have e1:b=z.heap.size:=e;have e2:=aD b off hA;omega);have C:=S.step (Fr.one Z z.heap.size 1 (.bool false)) (fun j e=> .inl (.inr e));have Q:=C.size;have v:=E.own;have B:=Qh (AI E (AI I (AI C P)));clear E I C P aa G S ad;go_wp2_with (at_builtin;refine zaY zcX rfl _ _ rfl rfl rfl v H (zcw _) (by simp [maxLen];omega) (by omega) Q ?_);intro A6 c6 w4 N D;have F:=B.out.1.app T N D B.out.2.1;have M:=B.out.2.2.1.grown D (fun k hk=> .inr (zah v k hk).1);rw [←HS.out.2.1]at F;have O:=Qh (AI F M);clear F M N D v H y1 f1;go_wp2;go_roundw
      case rel=>exact⟨i+1,A6,no+n5,c6,Lo++L5,by omega,by go_num,rfl,by omega,by rw [HS.out.1];exact O.out.1,O.out.2⟩
      case measure=>simp [intOf];omega
     ·have E:=G.set_ok X am true;have I:=aa.qf (Qf.of (base:=w.heap.size) (Fr.one Z z.heap.size 1 (.bool true)) (fun g hg=>by
       subst hg;exact⟨X,_,_,_,G.blk,by decide⟩))
      have H:=ad.fr (Fr.one Z z.heap.size 1 (.bool true)) (fun _ b off hA e=>by have e1:b=z.heap.size:=e;have e2:=aD b off hA;omega);have C:=S.step (Fr.one Z z.heap.size 1 (.bool true)) (fun j e=> .inl (.inr e));have Q:=C.size;have v:=E.own;have B:=Qh (AI E (AI I (AI C P)));clear E I C P aa G S ad;go_wp2_with (at_builtin;refine zaY zcX rfl _ _ rfl rfl rfl v H (zcw _) (by simp [maxLen];omega) (by omega) Q ?_);intro A6 c6 w4 N D;have F:=B.out.1.app T N D B.out.2.1;have M:=B.out.2.2.1.grown D (fun k hk=> .inr (zah v k hk).1);rw [←HS.out.2.1]at F;have O:=Qh (AI F M);clear F M N D v H y1 f1;go_wp2;go_roundw
      case rel=>exact⟨i+1,A6,no+n5,c6,Lo++L5,by omega,by go_num,rfl,by omega,by rw [HS.out.1];exact O.out.1,O.out.2⟩
      case measure=>simp [intOf];omega
    ·obtain rfl:i=n4:=by omega
     rw [List.take_of_length_le (by omega)]at hR;have y1:=hR.blk.cell 1;have bs:Pu w wr:=hP.step hF (fun j hj=>by
      rcases hj with hj|hj
      ·obtain⟨x,R,e⟩:=List.mem_map.1 hj;obtain⟨j2,bj⟩:=List.getElem?_of_mem R;have aI:=(List.getElem?_eq_some_iff.1 bj).1;have:=(ao.pr j2 x _ (Nat.zero_le _) bj (List.getElem?_eq_getElem (by rw [←am];exact aI))).lt.1;rw [←e];exact this
      ·rw [hj];exact X)
     have aF:=zoJ w.heap.size no co Ao Lo _ wr (zbK hR.own T) hR.hold (fun r hr=>(zpD bl.out r hr).sml HK.out) (by omega);have bT:=Qh aF;have bo:=Qh bs;obtain⟨o,ho⟩:∃o,o=(s.1&&zcH s.2):=⟨_,rfl⟩
     rw [←ho]at y1;have HO:=Qh ho;clear aF bs ho hR ao hF
     cases o
     ·go_wp2;go_ret2;refine⟨none,0,0,by rw [←HO.out];rfl,bo.out,fun e=>?_,fun _=>⟨rfl,rfl,rfl⟩⟩;rw [←HO.out]at e
      cases e
     ·go_wp2_with fail;refine bT.out.mono ?_;rintro e w5 ⟨rfl,L6,l6,aV,bC,H,I,q6⟩;go_wp2;go_ret2;refine⟨Ao,no,co,by rw [←HO.out];rfl,Qf.pu bo.out q6 (Nat.le_refl _),fun _=>⟨L6,l6,aV,bC,H,I⟩,fun e=>?_⟩;rw [←HO.out]at e
      cases e
end
end Go.Proofs.YtckfnbckoclhpaaGreatDoor

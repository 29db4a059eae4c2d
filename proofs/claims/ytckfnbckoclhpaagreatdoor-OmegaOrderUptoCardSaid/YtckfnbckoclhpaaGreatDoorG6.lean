/- The law OmegaOrder. -/
import Derived.Test.YtckfnbckoclhpaaGreatDoorG2
import Derived.Test.YtckfnbckoclhpaaGreatDoorG1
import Derived.Test.YtckfnbckoclhpaaGreatDoorE29
import Derived.Test.YtckfnbckoclhpaaGreatDoorE08
import Derived.Test.YtckfnbckoclhpaaGreatDoorC04
import Derived.Test.YtckfnbckoclhpaaGreatDoorC01
namespace Go.Proofs.YtckfnbckoclhpaaGreatDoor
set_option linter.unusedVariables false
set_option linter.unusedSimpArgs false
set_option maxRecDepth 100000
set_option maxHeartbeats 8000000
section
open Go.RowKit
section
variable{P:Program}{w:World}{ops:Array Oper}{rest:List Oper}{o:Oper}{a:Act}{Q:Exit→Act→World→Prop}
theorem zjI{t e R:TypeId}{z:Value}{k p:Nat}(E:zcE P t e z k p)(M:o.guard=none)(s x:Operand) (T:o.op= .call {callee:= .builtin .append,args:=#[s,x],argTypes:=#[t,t]}) {base n c q m F:Nat} {A:Option Addr} {D:List Value} (y:Array Value) (I:y.size=m*k) (Z:0<m) (W:∀u∈y.toList,u.oneCell'=true) (X:a.eval s= .slice A n c) (S:a.eval x= .slice (some ⟨q,0,none⟩) m F) (U:Blk w q R y) (C:w.ownsRow base e k (.slice A n c) n D) (H:n+m≤maxLen) (v:(n+m)*p≤140737488355328) (B:base≤w.heap.size) (h:∀g J w',w'.ownsRow base e k (.slice (some ⟨g,0,none⟩) (n+m) J) (n+m) (D++y.toList)→w.grownBy w' (Value.slice A n c).ownBlock→((Value.slice A n c).ownBlock=some g∨g=w.heap.size)→wpList P ops Q rest (a.put o.dst (.slice (some ⟨g,0,none⟩) (n+m) J)) w'):wpList P ops Q (o::rest) a w:=by
 obtain⟨i,Y,hz,K,L⟩:=info_parts E.info;refine wpList_append_lies _ M s x t T base e i z k p E.under Y hz K L E.zs E.pos _ _ _ X C ⟨q,0,none⟩ m F y.toList S (by simpa using I) (fun j u hu=>?_) W Z H v B w.heap.size rfl ?_
 ·rw [zdM,U.cell];simpa using hu
 ·intro g N w' G O V _;exact h g N w' G O V
end
theorem zpV{w:World}{base n i c:Nat}{e:TypeId}{k:Nat}{A:Option Addr}{j:List Value}(h:w.ownsRow base e k (.slice A n c) n j)(p:n=i):w.ownsRow base e k (.slice A i c) i j:=by rw [←p];exact h
theorem zeN{NM:List Key}{l:List RowM}{f:Nat}{w w':World}{e:Ending}(h:zd0 NM l f w e w'):∃k A n c u,e= .returned (.tuple #[.agg #[.int .i64 k,.slice A n c],.int .i64 u])∧Pu w w'∧Hid ((k=1∧za4 l)∨(k=2∧¬za4 l)∨k=3):=by
 obtain⟨z,t,i,h⟩:=h;rcases h with⟨A,n,c,x,L,rfl,y,p,_⟩|⟨rfl,j⟩|⟨rfl,v⟩
 ·exact⟨1,A,n,c,_,rfl,i,Qh (.inl ⟨rfl,_,p.says⟩)⟩
 ·exact⟨2,_,_,_,_,rfl,i,Qh (.inr (.inl ⟨rfl,j⟩))⟩
 ·exact⟨3,_,_,_,_,rfl,i,Qh (.inr (.inr rfl))⟩
theorem zho{l k:List RowM}{a b:Int}(t:(a=1∧za4 l)∨(a=2∧¬za4 l)∨a=3)(j:(b=1∧za4 k)∨(b=2∧¬za4 k)∨b=3)(h:za4 k↔za4 l)(p:a≠3)(i:b≠3):a=b:=by
 rcases t with⟨rfl,x⟩|⟨rfl,x⟩|x
 ·rcases j with⟨rfl,y⟩|⟨rfl,y⟩|y
  ·rfl
  ·exact absurd (h.2 x) y
  ·exact absurd y i
 ·rcases j with⟨rfl,y⟩|⟨rfl,y⟩|y
  ·exact absurd (h.1 y) x
  ·rfl
  ·exact absurd y i
 ·exact absurd x p
def zrO:List Value:=List.replicate 45 (.int .u8 0)
def zqL:Array Value:=Array.replicate 45 (.int .u8 0)
theorem zko(w:World):(Instr.makeSlice 74 (.int .i64 45) (.int .i64 45)).run Tryz.prog w= .ok (.slice (some ⟨w.heap.size,0,none⟩) 45 45) (w.alloc (.cells zqL 5)):=by
 obtain⟨i,t,v,k,p⟩:=info_parts zk3.info;have j:=run_make (P:=Tryz.prog) w 74 5 i _ zk3.under t v .i64 .i64 45 45 (by omega) (by omega) (by rw [p];omega) (by omega);rw [k]at j;have e:madeCells (Value.int .u8 0).cells ((45:Int).toNat*1)=zqL:=by
  unfold zqL;apply Array.ext
  ·simp [madeCells]
  ·intro i x y;simp [madeCells,Value.cells,Nat.mod_one]
 rw [e]at j;exact j
theorem zrU(w:World):(w.alloc (.cells zqL 5)).ownsRow w.heap.size 5 1 (.slice (some ⟨w.heap.size,0,none⟩) 45 45) 45 zrO:=zaD (Nat.le_refl _) (Blk.new w _ _) (Nat.le_refl _) (by decide) (by simp [zqL]) (by simp [zrO]) (fun j i=>by unfold zqL zrO;rw [Array.getElem?_replicate,List.getElem?_replicate])
theorem zmt{i:Nat}(j:i≤40):(zbl i).map zmD=zrO++[.int .u8 ((90:Int) - i)]:=by
 unfold zbl zrO;rw [List.map_append,List.map_replicate]
 congr 1
 show [Value.int .u8 ((UInt8.ofNat (90 - i)).toNat:Int)]=_;rw [UInt8.toNat_ofNat',Nat.mod_eq_of_lt (by omega)]
 congr 2
 omega
theorem Ren.putOk{NM:List Key}{k l:List RowM}{i:Nat}(h:Ren NM k i l)(z:zfo NM)(t:i≤40)(v:k.length≤6):∀r∈l,zo0 (2^BB) (2^BB) r.fs [(zbl i,1)] r.rest 0:=fun r hr=>by
 have j:=h.fit t v (Nat.le_refl 2000);have y:=zcx BB BB;have F:=zbc (c:=1100000) (m:=21) (BB+BB) (by decide);have D:=zbV (m:=BB) (n:=21+(BB+BB)) (by omega);have E:=zdy (21+(BB+BB));have B:=zdy (21+(BB+BB)+1);have C:=zaB (n:=21+(BB+BB)+1+1) (by unfold BB;omega);refine⟨j.up hr,fun p x=>?_,?_,zlh,?_,zaB (by unfold BB;omega),j.rest3 hr,zan⟩
 ·rw [List.mem_singleton.1 x];exact zf0 BB
 ·have:=j.few z hr;simp only [List.length_singleton];omega
 ·rw [y];omega
theorem zkv(A:Option Addr)(n c:Nat)(Q:List zf7)(M:List LineM)(J:Int)(w:World)(h:SlL w A n c Q)(hh:zgw w Q M)(hn:n≤1100000)(fv: -9223372036854775808≤J)(fm:J≤9223372036854775807):Calls Tryz.prog 6 #[.slice A n c,.int .i64 J] w fun e w'=>e= .returned (.bool true)∧Pu w w':=by
 have a9:=Qh (zfM w);go_enter Tryz.func6,Tryz.ntmps6;go_wp2_with fail;refine a9.out.mono ?_;rintro e wa ⟨rfl,p1⟩;clear a9;go_wp2_with fail;refine(zhR A n c Q M wa (Sl.pu h p1) (hh.pu p1) hn).mono ?_;rintro e wb ⟨A1,B,Z,ok,L,rfl,bB,ao,p2⟩;have P2:=p1.trans p2;clear p1 p2
 cases ok with
 |false=>clear ao;have HP:=Qh P2;clear P2 bB;go_wp2;go_ret;exact⟨rfl,HP.out⟩
 |true=>
  obtain⟨rfl,lS,hX⟩:=ao rfl;have cM:=hX.hold;have H:=Qh (zp9 bB.symm);clear ao bB hX;go_wp2_with fail;refine(zlb A B c Q M wb (Sl.pu h P2) (hh.pu P2) hn).mono ?_;rintro e w2 ⟨rfl,p3⟩;have pA:=P2.trans p3;have hS:=Sl.pu lS p3;have hH:=cM.pu p3;clear lS cM P2 p3 h hh
  cases hm:M.all zdi with
  |false=>have HP:=Qh pA;clear pA hm hS hH;go_wp2;go_ret;exact⟨rfl,HP.out⟩
  |true=>
   have Hm:=Qh (List.all_eq_true.1 hm);clear hm;by_cases cH:J<0
   ·have hd:decide (J<0)=true:=decide_eq_true cH;have HP:=Qh pA;clear pA hS hH;go_wp2;go_ret;exact⟨rfl,HP.out⟩
   have hd:decide (J<0)=false:=decide_eq_false cH;obtain⟨t,rfl⟩:∃t:Nat,J=(t:Int):=⟨J.toNat,by omega⟩
   have aR:L.length=B:=SlR.len hS;have T:=hH.1;have fk:B≤6:=by have:=H.out.1;rw [List.length_map]at T;omega
   obtain⟨l,hle⟩:∃l,l=M.map zbU:=⟨_,rfl⟩
   rw [←hle]at hH T;have N:=Qh (AI aR (AI T hle));clear hle aR T;go_wp2_with fail;clear hd
   go_loopw [7,38] (fun bv iv wr=>∃(i:Nat) (A':Option Addr) (c':Nat) (L':List RawR) (S:List RowM),i≤B∧iv= .int .i64 (i:Int)∧bv= .slice A' (i*2) c'∧wr.ownsRow w2.heap.size 35 4 (.slice A' (i*2) c') (i*2) (cat RawR.cells L')∧zF w2 L' S∧Hid ((∀r∈S,r∈l)∧∀j r,j<i→l[j]?=some r→r∈S)∧Pu w2 wr) (fun _ iv _=>B - (intOf iv).toNat)
   case atStart=>exact⟨0,none,0,[],[],Nat.zero_le _,rfl,by simp,by simpa [cat]using World.ownsRow_nil w2 w2.heap.size 35 4,zF.nil _,Qh ⟨fun r F=>(by cases F),fun j r hj=>absurd hj (Nat.not_lt_zero _)⟩,Pu.refl _⟩
   case round=>
    obtain⟨i,A',c',L',S,hi,rfl,rfl,ho,bw,ag,I⟩:=hrel;by_cases aa:i<B
    ·have bt:(i+t%B)%B<B:=Nat.mod_lt _ (by omega);obtain⟨j,hj⟩:∃j,(i+t%B)%B=j:=⟨_,rfl⟩
     rw [hj]at bt;obtain⟨q1,hq1⟩:∃q,L[j]?=some q:=⟨_,List.getElem?_eq_getElem (by rw [N.out.1];exact bt)⟩
     obtain⟨q2,hq2⟩:∃q,L[i]?=some q:=⟨_,List.getElem?_eq_getElem (by rw [N.out.1];exact aa)⟩
     obtain⟨r1,cP,bA⟩:=hH.at_ hq1;obtain⟨r2,bf,bc⟩:=hH.at_ hq2;obtain⟨b,off,cB,fp,x0,x1,x2,x3⟩:=SlR.at_ (Sl.pu hS I) hq1;obtain⟨b',eY,X,_,y0,y1,y2,y3⟩:=SlR.at_ (Sl.pu hS I) hq2;rw [cB]at X;injection X with X;injection X with e1 e2;subst e1 e2 cB;have df:Hid ((∀r∈S++[r1,r2],r∈l)∧∀j r,j<i+1→l[j]?=some r→r∈S++[r1,r2]):=Qh ⟨fun r F=>by
      rcases List.mem_append.1 F with F|F
      ·exact ag.out.1 r F
      ·rcases List.mem_cons.1 F with rfl|F
       ·exact List.mem_of_getElem? cP
       ·rw [List.mem_singleton.1 F];exact List.mem_of_getElem? bf,fun k r R F=>by
      by_cases ee:k=i
      ·rw [ee,bf]at F;rw [←Option.some.inj F];simp
      ·exact List.mem_append_left _ (ag.out.2 k r (by omega) F)⟩
     have d5:zF w2 (L'++[q1,q2]) (S++[r1,r2]):=bw.append (zli bA bc);have c7:((t:Int).tmod (B:Int))=(t:Int)% (B:Int):=Int.tmod_eq_emod_of_nonneg (by omega);have ba:t%B<B:=Nat.mod_lt _ (by omega);have cv:IntKind.i64.wrap ((i:Int)+(t:Int)% (B:Int))=(i:Int)+(t:Int)% (B:Int):=IntWalk.i64_in _ (by rw [show(t:Int)% (B:Int)=((t%B:Nat):Int)from rfl];omega);have bF:(((i:Int)+(t:Int)% (B:Int)).tmod (B:Int))=(j:Int):=by rw [show(t:Int)% (B:Int)=((t%B:Nat):Int)from rfl,Int.tmod_eq_emod_of_nonneg (by omega),←hj];rfl
     have ft:¬B=0:=by omega
     have aD:IntKind.i64.wrap ((i:Int)+1)=(i:Int)+1:=IntWalk.i64_in _ (by omega);have Hj:=Qh hj;have e7:=Qh c7;have dM:=Qh bF;have dO:=Qh cv;have e3:=Qh aD;clear hj hq1 hq2 cP bf bA bc c7 bF cv aD ba;obtain⟨g1,B1,m1,d1,s1,e1⟩:=q1;obtain⟨g2,B2,m2,d2,s2,e2⟩:=q2;dsimp only at x0 x1 x2 x3 y0 y1 y2 y3;go_wp2_with fail;have pd:Pu wr wr.drew:=(Pu.refl wr).drew;refine zw 18 (fun _ w=>Pu wr w) (fun _=>Pu) (fun io=>match io with|0=>fun vv_ _=>vv_= .slice A' (i*2) c'|1=>fun vv_ _=>vv_= .slice (some ⟨b,off,none⟩) B Z|2=>fun vv_ _=>vv_= .int .i64 (i:Int)|3=>fun vv_ _=>vv_= .int .i64 (t:Int)|4=>fun vv_ _=>vv_= .slice (some ⟨b,off,none⟩) B Z|5=>fun vv_ _=>vv_= .int .i64 (B:Int)|6=>fun vv_ _=>vv_= .int .i64 ((t:Int)% (B:Int))|7=>fun vv_ _=>vv_= .int .i64 ((i:Int)+(t:Int)% (B:Int))|8=>fun vv_ _=>vv_= .slice (some ⟨b,off,none⟩) B Z|9=>fun vv_ _=>vv_= .int .i64 (B:Int)|10=>fun vv_ _=>vv_= .int .i64 (j:Int)|11=>fun vv_ _=>vv_= .pointer (some ⟨b,off+j*4,none⟩)|12=>fun vv_ _=>vv_= .agg #[.bool g1,.slice B1 m1 d1,.pointer s1,.bool e1]|13=>fun vv_ _=>vv_= .slice (some ⟨b,off,none⟩) B Z|14=>fun vv_ _=>vv_= .int .i64 (i:Int)|15=>fun vv_ _=>vv_= .pointer (some ⟨b,off+i*4,none⟩)|16=>fun vv_ _=>vv_= .agg #[.bool g2,.slice B2 m2 d2,.pointer s2,.bool e2]|17=>fun v w=>∃q,v= .slice (some ⟨q,0,none⟩) 2 2∧Blk w q 35 #[.bool g1,.slice B1 m1 d1,.pointer s1,.bool e1,.bool g2,.slice B2 m2 d2,.pointer s2,.bool e2]|_=>fun _ _=>True) [some 41,some 42,some 43,some 44,some 45,some 46,some 47,some 48,some 49,some 50,some 51,some 52,some 53,some 54,some 55,some 56,some 57,some 58] (by kernel_rfl) (by kernel_rfl) rfl pd ?_ ?_ ?_ ?_
     ·intro ko C u u' R E hI hR;exact hI.trans hR
     ·intro io ko v u u' hi R cA h d9;have hR:=d9
      match io,hi,cA,h with
      |0,_,_,h=>exact h
      |1,_,_,h=>exact h
      |2,_,_,h=>exact h
      |3,_,_,h=>exact h
      |4,_,_,h=>exact h
      |5,_,_,h=>exact h
      |6,_,_,h=>exact h
      |7,_,_,h=>exact h
      |8,_,_,h=>exact h
      |9,_,_,h=>exact h
      |10,_,_,h=>exact h
      |11,_,_,h=>exact h
      |12,_,_,h=>exact h
      |13,_,_,h=>exact h
      |14,_,_,h=>exact h
      |15,_,_,h=>exact h
      |16,_,_,h=>exact h
      |17,_,cA,h=>replace h:∃q,v= .slice (some ⟨q,0,none⟩) 2 2∧Blk u q 35 #[.bool g1,.slice B1 m1 d1,.pointer s1,.bool e1,.bool g2,.slice B2 m2 d2,.pointer s2,.bool e2]:=h;obtain⟨q,e,h⟩:=h;exact⟨q,e,h.pu hR⟩
      |_+18,hi,_,_=>exact absurd hi (by omega)
     ·refine zc.cons [] rfl (by kernel_rfl) (fun y C V E D x K z=>?_) ?_
      ·simp only [PU,Nat.reduceEqDiff,Nat.reduceAdd,reduceIte]at z⊢;clear x;go_simp;exact z.out _ _ (Pu.refl _) rfl
      refine zc.cons [] rfl (by kernel_rfl) (fun y C V E D x K z=>?_) ?_
      ·simp only [PU,Nat.reduceEqDiff,Nat.reduceAdd,reduceIte]at z⊢;clear x;go_simp;exact z.out _ _ (Pu.refl _) rfl
      refine zc.cons [] rfl (by kernel_rfl) (fun y C V E D x K z=>?_) ?_
      ·simp only [PU,Nat.reduceEqDiff,Nat.reduceAdd,reduceIte]at z⊢;clear x;go_simp;exact z.out _ _ (Pu.refl _) rfl
      refine zc.cons [] rfl (by kernel_rfl) (fun y C V E D x K z=>?_) ?_
      ·simp only [PU,Nat.reduceEqDiff,Nat.reduceAdd,reduceIte]at z⊢;clear x;go_simp;exact z.out _ _ (Pu.refl _) rfl
      refine zc.cons [] rfl (by kernel_rfl) (fun y C V E D x K z=>?_) ?_
      ·simp only [PU,Nat.reduceEqDiff,Nat.reduceAdd,reduceIte]at z⊢;clear x;go_simp;exact z.out _ _ (Pu.refl _) rfl
      refine zc.cons [4] rfl (by kernel_rfl) (fun y C V E D x K z=>?_) ?_
      ·simp only [PU,Nat.reduceEqDiff,Nat.reduceAdd,reduceIte]at z⊢;have cE:=x 4 (by simp);clear x;generalize y 4=z4 at z cE⊢;obtain rfl:=cE;go_simp;exact z.out _ _ (Pu.refl _) rfl
      refine zc.cons [3,5] rfl (by kernel_rfl) (fun y C V E D x K z=>?_) ?_
      ·simp only [PU,Nat.reduceEqDiff,Nat.reduceAdd,reduceIte]at z⊢;have da:=x 3 (by simp);have cI:=x 5 (by simp);clear x;generalize y 3=z3 at z da⊢;generalize y 5=z5 at z cI⊢;obtain rfl:=da;obtain rfl:=cI;go_simp;rw [e7.out];exact z.out _ _ (Pu.refl _) rfl
      refine zc.cons [2,6] rfl (by kernel_rfl) (fun y C V E D x K z=>?_) ?_
      ·simp only [PU,Nat.reduceEqDiff,Nat.reduceAdd,reduceIte]at z⊢;have cG:=x 2 (by simp);have cY:=x 6 (by simp);clear x;generalize y 2=z2 at z cG⊢;generalize y 6=z6 at z cY⊢;obtain rfl:=cG;obtain rfl:=cY;go_simp
       try rw [dO.out]
       exact z.out _ _ (Pu.refl _) rfl
      refine zc.cons [] rfl (by kernel_rfl) (fun y C V E D x K z=>?_) ?_
      ·simp only [PU,Nat.reduceEqDiff,Nat.reduceAdd,reduceIte]at z⊢;clear x;go_simp;exact z.out _ _ (Pu.refl _) rfl
      refine zc.cons [8] rfl (by kernel_rfl) (fun y C V E D x K z=>?_) ?_
      ·simp only [PU,Nat.reduceEqDiff,Nat.reduceAdd,reduceIte]at z⊢;have cR:=x 8 (by simp);clear x;generalize y 8=z8 at z cR⊢;obtain rfl:=cR;go_simp;exact z.out _ _ (Pu.refl _) rfl
      refine zc.cons [7,9] rfl (by kernel_rfl) (fun y C V E D x K z=>?_) ?_
      ·simp only [PU,Nat.reduceEqDiff,Nat.reduceAdd,reduceIte]at z⊢;have cU:=x 7 (by simp);have cs:=x 9 (by simp);clear x;generalize y 7=z7 at z cU⊢;generalize y 9=z9 at z cs⊢;obtain rfl:=cU;obtain rfl:=cs;go_simp;rw [dM.out];exact z.out _ _ (Pu.refl _) rfl
      refine zc.cons [1,10] rfl (by kernel_rfl) (fun y C V E D x K z=>?_) ?_
      ·simp only [PU,Nat.reduceEqDiff,Nat.reduceAdd,reduceIte]at z⊢;have cC:=x 1 (by simp);have bO:=x 10 (by simp);clear x;generalize y 1=z1 at z cC⊢;generalize y 10=dL at z bO⊢;obtain rfl:=cC;obtain rfl:=bO;go_simp;exact z.out _ _ (Pu.refl _) rfl
      refine zc.cons [11] rfl (by kernel_rfl) (fun y C V E D x K z=>?_) ?_
      ·simp only [PU,Nat.reduceEqDiff,Nat.reduceAdd,reduceIte]at z⊢;have bg:=x 11 (by simp);clear x;generalize y 11=eh at z bg⊢;obtain rfl:=bg;have z0:=D.cellv x0;have z1:=D.cellv x1;have z2:=D.cellv x2;have z3:=D.cellv x3;go_simp;exact z.out _ _ (Pu.refl _) rfl
      refine zc.cons [] rfl (by kernel_rfl) (fun y C V E D x K z=>?_) ?_
      ·simp only [PU,Nat.reduceEqDiff,Nat.reduceAdd,reduceIte]at z⊢;clear x;go_simp;exact z.out _ _ (Pu.refl _) rfl
      refine zc.cons [] rfl (by kernel_rfl) (fun y C V E D x K z=>?_) ?_
      ·simp only [PU,Nat.reduceEqDiff,Nat.reduceAdd,reduceIte]at z⊢;clear x;go_simp;exact z.out _ _ (Pu.refl _) rfl
      refine zc.cons [13,14] rfl (by kernel_rfl) (fun y C V E D x K z=>?_) ?_
      ·simp only [PU,Nat.reduceEqDiff,Nat.reduceAdd,reduceIte]at z⊢;have bi:=x 13 (by simp);have aU:=x 14 (by simp);clear x;generalize y 13=el at z bi⊢;generalize y 14=eI at z aU⊢;obtain rfl:=bi;obtain rfl:=aU;go_simp;exact z.out _ _ (Pu.refl _) rfl
      refine zc.cons [15] rfl (by kernel_rfl) (fun y C V E D x K z=>?_) ?_
      ·simp only [PU,Nat.reduceEqDiff,Nat.reduceAdd,reduceIte]at z⊢;have bo:=x 15 (by simp);clear x;generalize y 15=dU at z bo⊢;obtain rfl:=bo;have z0:=D.cellv y0;have z1:=D.cellv y1;have z2:=D.cellv y2;have z3:=D.cellv y3;go_simp;exact z.out _ _ (Pu.refl _) rfl
      refine zc.cons [12,16] rfl (by kernel_rfl) (fun y C V E D x K z=>?_) ?_
      ·simp only [PU,Nat.reduceEqDiff,Nat.reduceAdd,reduceIte]at z⊢;have dd:=x 12 (by simp);have cq:=x 16 (by simp);clear x;generalize y 12=e8 at z dd⊢;generalize y 16=eB at z cq⊢;obtain rfl:=dd;obtain rfl:=cq;go_simp;exact z.out _ _ ((Pu.refl _).alloc _) ⟨_,rfl,Blk.new _ _ _⟩
      exact zc.nil
     ·intro y V C hL D x;have f0:=x 0 (by decide);have f1:=x 1 (by decide);have f2:=x 2 (by decide);have f3:=x 3 (by decide);have f4:=x 4 (by decide);have f5:=x 5 (by decide);have f6:=x 6 (by decide);have f7:=x 7 (by decide);have f8:=x 8 (by decide);have f9:=x 9 (by decide);have c5:=x 10 (by decide);have cr:=x 11 (by decide);have cm:=x 12 (by decide);have c0:=x 13 (by decide);have cD:=x 14 (by decide);have ct:=x 15 (by decide);have c6:=x 16 (by decide);have cZ:=x 17 (by decide);clear x;simp only [PU,Nat.reduceEqDiff,Nat.reduceAdd,reduceIte];generalize y 0=z0 at f0⊢;generalize y 1=z1 at f1⊢;generalize y 2=z2 at f2⊢;generalize y 3=z3 at f3⊢;generalize y 4=z4 at f4⊢;generalize y 5=z5 at f5⊢;generalize y 6=z6 at f6⊢;generalize y 7=z7 at f7⊢;generalize y 8=z8 at f8⊢;generalize y 9=z9 at f9⊢;generalize y 10=dL at c5⊢;generalize y 11=eh at cr⊢;generalize y 12=e8 at cm⊢;generalize y 13=el at c0⊢;generalize y 14=eI at cD⊢;generalize y 15=dU at ct⊢;generalize y 16=eB at c6⊢;generalize y 17=fy at cZ⊢;obtain rfl:=f0;obtain rfl:=f1;obtain rfl:=f2;obtain rfl:=f3;obtain rfl:=f4;obtain rfl:=f5;obtain rfl:=f6;obtain rfl:=f7;obtain rfl:=f8;obtain rfl:=f9;obtain rfl:=c5;obtain rfl:=cr;obtain rfl:=cm;obtain rfl:=c0;obtain rfl:=cD;obtain rfl:=ct;obtain rfl:=c6;obtain⟨q,rfl,hB⟩:=cZ;have bb:=zaw ho (D);have en:w2.heap.size≤V.heap.size:=Nat.le_trans I.size D.size;go_wp2_with (at_builtin;refine zjI zcX rfl _ _ rfl #[.bool g1,.slice B1 m1 d1,.pointer s1,.bool e1,.bool g2,.slice B2 m2 d2,.pointer s2,.bool e2] rfl (by decide) (by intro u hu;simp at hu;rcases hu with rfl|rfl|rfl|rfl|rfl|rfl|rfl|rfl<;>rfl) rfl rfl hB bb (by simp [maxLen];omega) (by omega) en ?_);intro g4 c4 w4 dc cp dI;have cl:Pu w2 w4:=(I.trans D).grown cp (fun k R=>(bb.lt k R).1);have cN:=zpV dc (show i*2+2=(i+1)*2 by omega);have HF:=Qh (AI cN cl);clear dc cN cp dI cl bb;have aD:=e3.out;go_wp2;go_roundw
      case rel=>exact⟨i+1,some ⟨g4,0,none⟩,c4,L'++[⟨g1,B1,m1,d1,s1,e1⟩,⟨g2,B2,m2,d2,s2,e2⟩],_,by omega,by go_num,by rw [show i*2+2=(i+1)*2 by omega],by rw [zaX];exact HF.out.1,d5,df,HF.out.2⟩
      case measure=>simp [intOf];omega
    ·obtain rfl:i=B:=by omega
     have O:Hid ((∀r∈S,r∈l)∧∀r∈l,r∈S):=Qh ⟨ag.out.1,fun r F=>by obtain⟨k,R⟩:=List.getElem?_of_mem F;have aa:=(List.getElem?_eq_some_iff.1 R).1;exact ag.out.2 k r (by rw [←N.out.1,N.out.2.1];exact aa) R⟩;have lB:=Sl.of_own ho;have hB:=bw.pu I;have lA:=Sl.pu hS I;have hA:=hH.pu I;have PA:=pA.trans I;have cF:=Qh (zc1 A1 i Z L l wr lA hA (fun r F=>by rw [N.out.2.2]at F;have:=(zfZ H.out.1 Hm.out (fun r F=>F) (by rw [List.length_map];have:=H.out.1;omega) (Nat.le_refl 2000)).few (zo6 H.out.1 H.out.2 Hm.out) F;omega) (by omega));clear ho ag bw hS hH I pA;go_wp2_with fail;refine cF.out.mono ?_;rintro e W ⟨An,nn,cn,rfl,bI,fo,pN⟩;have U:(zW l).length=nn:=by have:=(Sl.of_own bI).1;simpa [kts]using this
     have bs:=Sl.pu lB pN;have bu:=hB.pu pN;have bR:=Sl.pu lA pN;have bl:=hA.pu pN;have PW:=PA.trans pN;have cQ:=Sl.of_own bI;have HN:=Qh (AI U (show nn≤24 by rw [←U,N.out.2.2];exact ziP H.out.1 Hm.out));have a5:=zpK H.out.2 Hm.out;rw [←N.out.2.2]at a5;have ck:=Qh a5;clear cF lB hB lA hA PA pN bI U a5;go_wp2_with fail
     go_loopw [8,65] (fun ov iv ws=>∃(G:Nat) (A8:Option Addr) (c8:Nat) (L8:List RawR) (l8:List RowM),G≤nn∧iv= .int .i64 (G:Int)∧ov= .slice A8 i c8∧SlR ws A8 i c8 L8∧zF ws L8 l8∧Hid (Ren (zeI M) l G l8)∧Pu W ws) (fun _ iv _=>nn - (intOf iv).toNat)
     case atStart=>exact⟨0,A1,Z,L,l,Nat.zero_le _,rfl,rfl,bR,bl,ck,Pu.refl _⟩
     case round=>
      obtain⟨G,A8,c8,L8,l8,fw,rfl,rfl,b5,h8,Y,I⟩:=hrel;by_cases aa:G<nn
      ·obtain⟨k,R⟩:∃k,(zW l)[G]?=some k:=⟨_,List.getElem?_eq_getElem (by rw [HN.out.1];exact aa)⟩
       obtain⟨bn,on,rfl,fq,ff,u0⟩:=zdR (Sl.pu cQ I) R;have Hk:=Qh R;clear R;have fl:G<24:=by have:=HN.out.2;omega
       have dH:=Qh (zko wr);have eN:IntKind.i64.wrap ((90:Int) - (G:Int))=(90:Int) - (G:Int):=IntWalk.i64_in _ (by omega);have fh:IntKind.u8.wrap ((90:Int) - (G:Int))=(90:Int) - (G:Int):=by rw [IntKind.wrap_u8];omega
       have aD:IntKind.i64.wrap ((G:Int)+1)=(G:Int)+1:=IntWalk.i64_in _ (by omega);have a7:=zrU wr;have bM:Pu wr (wr.alloc (.cells zqL 5)):=(Pu.refl wr).alloc _;have aO:=bM.size;have aN:=zmt (i:=G) (by omega);have dv:=Qh aN;clear aN;go_wp2_with (first| (at_builtin;refine zax zk3 rfl (.tmp 72) (.tmp 76) rfl #[.int .u8 ((90:Int) - (G:Int))] rfl (by simp [Value.oneCell']) rfl rfl (by simp) a7 (by simp [maxLen]) (by omega) aO ?_)|simp only [dH.out]);intro A3 c3 w3 bH hg;have cy:=zam bM a7 (Nat.le_refl _) hg;have cL:=zir (P:=Tryz.prog) (src:=74) (dst:=9) (c:=c3) (zbl G) Tryz.underlying74 Tryz.underlying5 Tryz.underlying9 (by rw [dv.out];exact Sl.of_own bH) (by decide);have cS:=Qh cL;have aC:=Qh (zcJ (zbl G) w3);clear cL bH hg bM a7 aO;go_wp2_with (simp only [cS.out]);refine aC.out.mono ?_;rintro e w4 ⟨v,rfl,hT,p4⟩;obtain⟨gT,AT,nT,cT,mT,rfl⟩:=hT.shape;have PP:=cy.trans p4;have aY:=Qh (ziG A8 i c8 L8 l8 k _ 0 [(zbl G,1)] (2^BB) (2^BB) w4 (Sl.pu b5 PP) (h8.pu PP) hT (Y.out.putOk (zo6 H.out.1 H.out.2 Hm.out) (by omega) (by rw [N.out.2.2,List.length_map];exact H.out.1)) (by omega));clear cS aC cy p4 hT;go_wp2_with fail;refine aY.out.mono ?_;rintro e w5 ⟨A9,c9,L9,rfl,cO,cV,p9⟩;have c2:k∈zp8 M:=by have h1:=List.mem_of_getElem? Hk.out;rw [N.out.2.2]at h1;exact zlr h1
       have cJ:Ren (zeI M) l (G+1) (l8.map (zeR k 0 [(zbl G,1)])):=Y.out.next (by omega) (List.mem_append.2 (.inl c2)) (List.mem_append.2 (.inr (List.mem_map.2 ⟨G,List.mem_range.2 (by omega),rfl⟩))) (zh6 H.out.2 k c2).1;have HE:=Qh (AI (Sl.of_own cO) (AI cV.hold (AI cJ (I.trans (PP.trans p9)))));clear aY cO cV cJ PP p9 u0;go_wp2;go_roundw
       case rel=>exact⟨G+1,A9,c9,L9,_,by omega,by go_num,rfl,HE.out.1,HE.out.2.1,Qh HE.out.2.2.1,HE.out.2.2.2⟩
       case measure=>simp [intOf];omega
      ·obtain rfl:G=nn:=by omega
       have h6:=H.out.1;have T:l.length≤6:=by rw [N.out.2.2,List.length_map];exact h6
       have dW:L'.length=i*2:=SlR.len bs;have eA:=bu.1;have aA:=Qh (zo6 h6 H.out.2 Hm.out);have bE:Fit (zeI M) 1500 l:=zfZ h6 Hm.out (fun r F=>by rw [←N.out.2.2];exact F) (by omega) (by decide);have cx:Fit (zeI M) 1500 S:=zfZ h6 Hm.out (fun r F=>by rw [←N.out.2.2];exact O.out.1 r F) (by omega) (by decide);have cK:Fit (zeI M) 1500 l8:=Y.out.fit (by have:=HN.out.2;omega) T (by decide);have ez:=Qh (zod O.out.1 O.out.2);have eG:=Qh Y.out.some;have lA:=Sl.pu bR I;have hA:=bl.pu I;have lB:=Sl.pu bs I;have hB:=bu.pu I;have PR:=PW.trans I;have cz:∀r∈l,r.fs.length≤100:=fun r F=>by have:=bE.few aA.out F;omega
       have dK:=Qh cz;have Ha:=Qh (zb9 (zeI M) l A1 i Z L 1500 wr aA.out bE (by decide) lA hA);have Hb:=Qh (fun V (p:Pu wr V)=>zb9 (zeI M) S A' (i*2) c' L' 1500 V aA.out cx (by decide) (Sl.pu lB p) (hB.pu p));have Hc:=Qh (fun V (p:Pu wr V)=>zb9 (zeI M) l8 A8 i c8 L8 1500 V aA.out cK (by decide) (Sl.pu b5 p) (h8.pu p));have bP:=Qh (fun V (p:Pu wr V)=>zc1 A1 i Z L l V (Sl.pu lA p) (hA.pu p) dK.out (by omega));clear bR bl bs bu PW I bE cx cK b5 h8 lA hA lB hB h6 T dW eA O Y cz cQ;go_wp2_with fail;refine Ha.out.mono ?_;intro e wa hE;obtain⟨ka,Aa,na,ca,ua,rfl,pa,cw⟩:=zeN hE;clear hE;obtain⟨Va,hVa⟩:∃Va,Va=wa.alloc (.cells #[.int .i64 ka,.slice Aa na ca] 77):=⟨_,rfl⟩
       have b0:Pu wr Va:=by rw [hVa];exact pa.alloc _
       have cW:Blk Va wa.heap.size 77 #[.int .i64 ka,.slice Aa na ca]:=by rw [hVa];exact Blk.new _ _ _
       have aP:=Qh (Hb.out Va b0);rw [hVa]at aP;have dG:=Qh hVa;clear hVa pa Ha;go_wp2_with fail;refine aP.out.mono ?_;intro e wb hE;obtain⟨kb,Ab,nb,cb,ub,rfl,pb,ej⟩:=zeN hE;rw [←dG.out]at pb;clear hE;obtain⟨Vb,hVb⟩:∃Vb,Vb=wb.alloc (.cells #[.int .i64 kb,.slice Ab nb cb] 77):=⟨_,rfl⟩
       have bh:Pu Va Vb:=by rw [hVb];exact pb.alloc _
       have cX:Blk Vb wb.heap.size 77 #[.int .i64 kb,.slice Ab nb cb]:=by rw [hVb];exact Blk.new _ _ _
       have aV:=cW.pu bh;have a0:=b0.trans bh;have aT:=Qh (Hc.out Vb a0);rw [hVb]at aT;have eo:=Qh hVb;clear hVb pb Hb aP cW b0 bh;go_wp2_with fail;refine aT.out.mono ?_;intro e wc hE;obtain⟨kc,Ac,nc,cc,uc,rfl,pc,dD⟩:=zeN hE;rw [←eo.out]at pc;clear hE;obtain⟨Vc,hVc⟩:∃Vc,Vc=wc.alloc (.cells #[.int .i64 kc,.slice Ac nc cc] 77):=⟨_,rfl⟩
       have aB:Pu Vb Vc:=by rw [hVc];exact pc.alloc _
       have bq:Blk Vc wc.heap.size 77 #[.int .i64 kc,.slice Ac nc cc]:=by rw [hVc];exact Blk.new _ _ _
       have a4:=aV.pu aB;have aq:=cX.pu aB;have au:=a0.trans aB;have cu:=Qh hVc;have bJ:=Qh (bP.out Vc au);have x0:=a4.cell 0;have y0:=aq.cell 0;have z0:=bq.cell 0;rw [hVc]at x0 y0 z0 bJ;have db:=Qh (PR.trans au);have co:=Qh (AI a4 (AI aq bq));clear hVc pc Hc aT aV cX a4 aq bq a0 aB au bP PR;by_cases ah:ka=3
       ·subst ah;go_wp2;go_ret;exact⟨rfl,by have:=db.out;rwa [cu.out]at this⟩
       have fi:(ka==3)=false:=beq_eq_false_iff_ne.2 ah;have eC:kb=3∨((kb==3)=false∧(ka==kb)=true):=by
        by_cases h:kb=3
        ·exact .inl h
        ·exact .inr ⟨beq_eq_false_iff_ne.2 h,beq_iff_eq.2 (zho cw.out ej.out ez.out ah h)⟩
       have er:kc=3∨((kc==3)=false∧(ka==kc)=true):=by
        by_cases h:kc=3
        ·exact .inl h
        ·exact .inr ⟨beq_eq_false_iff_ne.2 h,beq_iff_eq.2 (zho cw.out dD.out eG.out ah h)⟩
       clear ah;rcases eC with rfl|⟨fz,fx⟩
       all_goals
        go_wp2_with fail;refine bJ.out.mono ?_;rintro e wd ⟨Ad,nd,cd,rfl,eb,fj,pd⟩;rw [←cu.out]at pd;have x1:=(co.out.1.pu pd).cell 0;have z1:=(co.out.2.2.pu pd).cell 0;have bS:=Qh (db.out.trans pd);clear eb pd;by_cases fA:20<nd
        ·have dN:decide ((20:Int)<(nd:Int))=true:=by simp;omega
         go_wp2;go_ret;exact⟨rfl,bS.out⟩
        have dN:decide ((20:Int)<(nd:Int))=false:=by simp;omega
        rcases er with rfl|⟨fg,fu⟩
        ·go_wp2;go_ret;exact⟨rfl,bS.out⟩
        ·go_wp2;go_ret;exact⟨rfl,bS.out⟩
end
end Go.Proofs.YtckfnbckoclhpaaGreatDoor

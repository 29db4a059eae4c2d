/- strings. -/
import Derived.Test.YtckfnbckoclhpaaGreatDoorShelf
import Derived.Test.YtckfnbckoclhpaaGreatDoorC01
import Derived.Lib.Builder
namespace Go.Proofs.YtckfnbckoclhpaaGreatDoor
set_option linter.unusedVariables false
set_option linter.unusedSimpArgs false
set_option maxRecDepth 100000
set_option maxHeartbeats 2000000
section
open Go.RowKit
theorem zls:(Tryz.prog.info? 147).map (fun i=>i.size)=some 2:=by kernel_rfl
theorem zp1:liesAt Tryz.prog Tryz.prog.depth 147 (2/Tryz.prog.cellsOf 147) 0 147 1=true:=by kernel_rfl
theorem znv:(Tryz.prog.info? 5).map (fun i=>(i.zero,i.size,i.bytes))=some (some (.int .u8 0),1,1):=by kernel_rfl
theorem zpg(b:Nat)(w:World)(k:w.cell? ⟨b,0,none⟩=some (.pointer (some ⟨b,0,none⟩))):Calls Tryz.prog 101 #[.pointer (some ⟨b,0,none⟩)] w fun e w'=>e= .returned (.tuple #[])∧w'=w:=by
 obtain⟨j,i,_⟩:=Option.map_eq_some_iff.1 zls;go_enter Tryz.func101,Tryz.ntmps101;go_wp2;rw [Lib.run_neq_ptr_same w _ Tryz.underlying145 i];go_wp2
 go_end0
 exact⟨rfl,rfl⟩
theorem zm9(b:Nat)(w:World)(t:w.cell? ⟨b,0,none⟩=some (.pointer none))(i:w.shape? b=some (147,2))(p:w.frozen? ⟨b,0,none⟩=false):Calls Tryz.prog 101 #[.pointer (some ⟨b,0,none⟩)] w fun e w'=>e= .returned (.tuple #[])∧w'=w.setCell ⟨b,0,none⟩ (.pointer (some ⟨b,0,none⟩)):=by
 obtain⟨j,k,o⟩:=Option.map_eq_some_iff.1 zls;go_enter Tryz.func101,Tryz.ntmps101;go_wp2;rw [Lib.run_to_unsafe w ⟨b,0,none⟩ Tryz.underlying145 Tryz.underlying228 k (by rw [o];decide) i (Nat.zero_lt_succ 1)];simp only [Result.andThen];rw [Oper.upon_value];go_wp2;rw [run_callFunc_extern Tryz.func148 (by kernel_rfl) (by kernel_rfl) (by kernel_rfl) (e:=Extern.AbiNoEscape.same) (by kernel_rfl)];rw [Lib.run_noEscape];simp only [Result.andThen];rw [Oper.upon_value];go_wp2;rw [Lib.run_from_unsafe w ⟨b,0,none⟩ Tryz.underlying228 Tryz.underlying145 k i zp1];simp only [Result.andThen];rw [Oper.upon_value];go_wp2
 go_end0
 exact⟨rfl,rfl⟩
def Bld(w:World)(b base:Nat)(l:List UInt8):Prop:=∃p v,Blk w b 147 #[p,v]∧(p= .pointer none∨p= .pointer (some ⟨b,0,none⟩))∧w.ownsRow base 5 1 v l.length (Lib.byteCells l)∧b<base
theorem zmm(l:List UInt8):(Lib.byteCells l).length=l.length:=by simp [Lib.byteCells]
theorem zh0{w:World}{base n:Nat}{v:Value}{i:List Value}{e:TypeId}{k b:Nat}(h:w.ownsRow base e k v n i)(j:b<base):v.ownBlock≠some b:=fun e=>by have:=(h.lt b e).1;omega
theorem Bld.fr{S:Nat→Prop}{w w':World}{base b:Nat}{l:List UInt8}(h:Bld w b base l)(i:Fr S w w')(x:¬S b)(z:∀g,base≤g→¬S g):Bld w' b base l:=by obtain⟨p,v,o,y,j,k⟩:=h;exact⟨p,v,o.fr i x,y,zbp j i (fun g t=>z g (j.lt g t).1),k⟩
theorem Bld.pu{w w':World}{base b:Nat}{l:List UInt8}(h:Bld w b base l)(i:Pu w w'):Bld w' b base l:=h.fr i (fun x=>x) (fun _ _ x=>x)
theorem Bld.is{w:World}{base b:Nat}{l:List UInt8}(h:Bld w b base l):Lib.IsBuilder 147 5 b b (Lib.byteCells l) w:=by
 obtain⟨p,v,j,x,k,t⟩:=h;have i:w.ownsRow b 5 1 v (Lib.byteCells l).length (Lib.byteCells l):=by rw [zmm];exact zbK k (by omega)
 have o:=zh0 k t;rcases x with rfl|rfl
 ·exact .inl ⟨Nat.le_refl _,v,j,i,o⟩
 ·exact .inr ⟨Nat.le_refl _,v,j,i,o⟩
theorem Bld.new{w:World}{b base:Nat}(h:Blk w b 147 #[.pointer none,.slice none 0 0])(i:b<base):Bld w b base []:=⟨_,_,h,.inl rfl,World.ownsRow_nil _ _ _ _,i⟩
theorem znx(base b:Nat)(l:List UInt8)(w:World)(h:Bld w b base l):Calls Tryz.prog 101 #[.pointer (some ⟨b,0,none⟩)] w fun e w'=>e= .returned (.tuple #[])∧Fr (fun j=>j=b) w w'∧∃v,Blk w' b 147 #[.pointer (some ⟨b,0,none⟩),v]∧w'.ownsRow base 5 1 v l.length (Lib.byteCells l)∧b<base:=by
 obtain⟨p,v,i,x,o,k⟩:=h;rcases x with rfl|rfl
 ·refine(zm9 b w (i.cell 0) (by unfold Blk at i;simp [World.shape?,i]) (i.frozen 0)).mono ?_;rintro e w' ⟨rfl,rfl⟩;exact⟨rfl,Fr.one _ _ _ _,v,i.set_ 0 _,zbp o (Fr.one w b 0 (.pointer (some ⟨b,0,none⟩))) (fun g t e=>zh0 o k (by rw [t,e])),k⟩
 ·refine(zpg b w (i.cell 0)).mono ?_;rintro e w' ⟨rfl,rfl⟩;exact⟨rfl,Fr.refl _ _,v,i,o,k⟩
theorem zis(l:List UInt8):Lib.strCells ⟨l.toArray⟩=Lib.byteCells l:=by simp [Lib.strCells,Lib.byteCells]
theorem zoo(base b:Nat)(l k:List UInt8)(w:World)(h:Bld w b base l)(S:base≤w.heap.size)(X:l.length+k.length≤140737488355328):Calls Tryz.prog 65 #[.pointer (some ⟨b,0,none⟩),.string ⟨k.toArray⟩] w fun e w'=>(∃x y,e= .returned (.tuple #[x,y]))∧Bld w' b base (l++k)∧Fr (fun j=>j=b∨base≤j) w w':=by
 obtain⟨i0,Y,N,L,R⟩:=info_parts znv;have I:(⟨k.toArray⟩:ByteArray).size=k.length:=by simp [ByteArray.size]
 have Z:k.toArray.size=k.length:=by simp
 go_enter Tryz.func65,Tryz.ntmps65;go_wp2_with fail;refine(znx base b l _ h).mono ?_;rintro e w1 ⟨rfl,E,v,G,p,z⟩;obtain⟨V,W⟩:=G.c2_;have af:=E.size;have J:=Qh I;have M:=Qh E;clear I E;go_wp2_with (at_builtin;refine Lib.wpList_append_own_string _ rfl _ _ 74 9 rfl base 5 i0 Tryz.underlying74 Tryz.underlying9 Y N L R _ _ _ rfl p ⟨k.toArray⟩ rfl (by rw [J.out];unfold maxLen;omega) (by rw [J.out];omega) (by omega) ?_);intro T H i t ad;rw [zis]at i;have P:=zh0 p z;have F:Blk H b 147 #[.pointer (some ⟨b,0,none⟩),v]:=(t.block b G.lt (fun e=>P e.symm)).trans G;obtain⟨d0,d1⟩:=F.c2_;have f1:=F.frozen 1;obtain⟨B,D,o,rfl⟩:∃B D o,T= .slice B D o:=by
  rcases i.2 with⟨K,_⟩|⟨g,o,ae,K,_⟩
  ·exact⟨_,_,_,K⟩
  ·exact⟨_,_,_,K⟩
 have Q:Fr (fun j=>j=b∨base≤j) w (H.setCell ⟨b,1,none⟩ (.slice B D o)):=((M.out.mono (fun _ _ e=> .inl e)).grown t (fun j hj=> .inl (.inr (p.lt j hj).1))).setCell (.inl (.inl rfl)) _;have O:Bld (H.setCell ⟨b,1,none⟩ (.slice B D o)) b base (l++k):=⟨_,_,F.set_ 1 _,.inr rfl,by have U:=zbp i (Fr.one H b 1 (.slice B D o)) (fun g hg e=>zh0 i z (by rw [hg,e]));rw [List.length_append];simpa [Lib.byteCells]using U,z⟩
 have C:=Qh (AI Q O);clear Q O V W i p t;go_wp2;go_ret2;exact⟨⟨_,_,rfl⟩,C.out.2,C.out.1⟩
end
end Go.Proofs.YtckfnbckoclhpaaGreatDoor

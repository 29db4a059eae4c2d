/- OmegaOrder: whatever the arguments of bulk at most 1048576, the law returns true, and each argument reads as before; the two tables of unicode/utf8 that the row lists are tied by the given tie. -/
import Derived.Test.YtckfnbckoclhpaaGreatDoorTie
import Derived.Test.YtckfnbckoclhpaaGreatDoorCards
import Derived.Test.YtckfnbckoclhpaaGreatDoorUArgSlice
import Derived.Test.YtckfnbckoclhpaaGreatDoorG6
import Derived.Test.YtckfnbckoclhpaaGreatDoorG4
import Derived.Lay
import Derived.Deep.DeepHandedRow
import Derived.Lib.LaidTab
namespace Go.Proofs.YtckfnbckoclhpaaGreatDoor.lawOmegaOrder
set_option linter.unusedVariables false
set_option linter.unusedSimpArgs false
set_option maxRecDepth 100000
open Go Go.ChangeShapes Go.WideShapes Go.ChangeAt Go.RowKit Go.ChangeMaps
theorem own:ownKnob Tryz.prog.godebug=none:=by kernel_rfl
theorem zkC:laidOutB Tryz.prog=true:=by kernel_rfl
theorem ziv{H:Type}(d:DataW H):1≤Rows.uptoBulk d:=by
 cases d with
 |lit l=>cases l<;>simp [Rows.uptoBulk]
 |_=>simp [Rows.uptoBulk]
theorem ze5{H:Type}:∀l:List (DataW H),l.length≤Rows.uptoBulkAll l
 | []=>by simp [Rows.uptoBulkAll]
 |x::r=>by have i:=ziv x;have j:=ze5 r;simp only [Rows.uptoBulkAll,List.length_cons];omega
theorem zfq{H:Type}(i j:List (DataW H)):i.length≤Rows.uptoBulk (.slice i j):=by have k:=ze5 i;simp only [Rows.uptoBulk];omega
noncomputable def laidWorld (os:Os):World:=World.laidAll Tryz.prog os Rows.omegaOrderUptoRow.laid
theorem reads(j:Os){H:Type}(enc:TypeId×Value→H):∃i,DataW.whole enc Tryz.prog ((laidWorld j).forCall (fun _ _=>0) ⟨#[],#[.slice none 0 0,.int .i64 0],[]⟩).memory Tryz.f6.params.toList Rows.omegaOrderSpec.vars false #[Value.slice none 0 0,.int .i64 0].toList 8=some ([.nil,.lit (.int .i64 0)],[],i):=⟨[],by kernel_rfl⟩
theorem zmH(B:Os)(w:B.Started)(H:Type)(enc:TypeId×Value→H)(F:Stop.Interp):ReturnsInHanded {} Tryz.checked B 6 .any ((Rows.OpenSpec.upto Rows.omegaOrderSpec).preRow enc Tryz.prog Tryz.f6 Rows.omegaOrderUptoRow.domain false Rows.omegaOrderUptoRow.laid) (((Rows.OpenSpec.upto Rows.omegaOrderSpec).at F).post enc Tryz.prog Tryz.f6 false true false false):=by
 obtain⟨N,hx⟩:=reads B enc;refine returnsInHanded_of_row (C:=Tryz.checked) (s:=Rows.OpenSpec.upto Rows.omegaOrderSpec) own w (by kernel_rfl) Tryz.func6
  (witness_row_at (enc:=enc) (C:=Tryz.checked) false (laidWorld B) #[.slice none 0 0,.int .i64 0] (World.laidAll_os _ _ _) (by kernel_rfl) (by kernel_rfl) (by kernel_rfl)
   (OpenSpec.preRow_of_cond 8 hx (by kernel_rfl) (fun k J=>by cases J;kernel_rfl) (by kernel_rfl) (by rw [MakeChecks.laidMetH_plain _ _ _ (by kernel_rfl)];exact laidMet_laidAll _ (by kernel_rfl) (by kernel_rfl)))) ?_
 intro W base args ds gs Z o hW _ z _ hL _ _;have i:∀(j:Nat) t v,Tryz.f6.params[j]?=some t→args[j]?=some v→Value.okWide Tryz.prog W .any base t v:=o;have J:Rows.uptoSmall H (ds++gs)=true:=z _ rfl;have P:=hW;obtain⟨p,q,G,hV,rfl,a4,aA⟩:=hW;have T:DataW.TrodAll enc Tryz.prog W 0 (fun _=>true) true Tryz.f6.params.toList args.toList ds p:=G;rw [Tryz.params6]at T i;obtain⟨v0,a9,d0,a5,p0,q0,ag,rfl,rfl,R,r0⟩:=trodAll_cons T;obtain⟨L,a8,d1,a7,p1,q1,rfl,rfl,rfl,h1,r1⟩:=trodAll_cons r0;obtain⟨rfl,rfl,rfl⟩:=trodAll_nil r1;obtain rfl:args=#[v0,L]:=by cases args;simp_all
 obtain⟨rfl,rfl⟩:=trodVars_none hV;obtain⟨a0,y,I,rfl⟩:=okWide_slice Tryz.underlying69 (i 0 69 v0 rfl rfl);have U:=R;have K:∀x∈p0,x.block<W.heap.size:=by obtain⟨m,hm⟩:=U;exact DataW.trod_lt m _ _ _ hm
 obtain⟨au,ah,⟨z0,y0,X,V⟩,M⟩:=zgD R;obtain⟨a1,rfl,rfl,rfl,S⟩:=open_int Tryz.underlying3 (i 1 3 L rfl rfl) h1;have a6:y≤1048576:=by
  rcases M with rfl|⟨Y,O,rfl,rfl⟩
  ·omega
  ·have e1:=zfq Y O;have e2:Rows.uptoBulkAll ([.slice Y O,.lit (.int .i64 a1)]++[])≤1048576:=of_decide_eq_true J;simp only [List.append_nil,Rows.uptoBulkAll]at e2;omega
 have D:=zkO S;clear G o;refine(zkv a0 y I z0 y0 a1 W X V (by omega) D.1 D.2).mono fun e W' ⟨he,Q⟩=>?_;have E:=Q.below;subst he;exact⟨_,rfl,_,_,_,[],_,[],P,trodAll_mk1 (shut_bool Tryz.underlying4 _),(trodAll_cons_mk (Below.trod zkC (by kernel_rfl) (of_decide_eq_true (by kernel_rfl)) U E K) (trodAll_cons_mk (shut_int Tryz.underlying3 S) trodAll_mk0)),rfl,E.frame _,fun h=>by cases h⟩
theorem zgF:Rows.OmegaOrderUptoSaid:=
 OpenClaim.holds_of_cond 6 Tryz.f6 rfl rfl rfl rfl rfl rfl rfl ⟨rfl,rfl,rfl,rfl,rfl⟩ rfl rfl rfl rfl rfl (by kernel_rfl) Tryz.func6 (by kernel_rfl)
  (of_decide_eq_true (by kernel_rfl)) (by unfold Func.isWrapper;first| (rw [if_pos (by decide+kernel)];kernel_rfl)| (rw [if_neg (by decide+kernel)];exact⟨rfl,rfl⟩))
  (fun j i H enc _ F=>by rw [OpenClaim.pre_eq_preRow];exact zmH j i H enc F)
theorem proved:Rows.OmegaOrderUptoCardSaid:=
 Claim7.holds_tied_plain_at .later [] [.data,.pinned] true Rows.omegaOrderUptoCard.stood.harness false zgF (fun _ h=>by cases h) (by kernel_rfl) (fun _ h=>by cases h) omegaOrderUpto_row_tie rfl ⟨rfl,rfl⟩ (by kernel_rfl) rfl
  (fun f v p k=>by
   obtain rfl:f=6:=Option.some.inj ((show Tryz.prog.funcNamed "touchstone/touchstonelaw17.OmegaOrder" =some 6 by kernel_rfl).symm.trans p)|>.symm;obtain rfl:v=Tryz.f6:=(Option.some.inj (Tryz.func6.symm.trans k)).symm;exact⟨by kernel_rfl,fun j t o=>by
    rw [Tryz.params6]at o;have w:t∈[69,3]:=by simpa using Array.mem_of_getElem? o
    have i:([69,3].all fun u=>!Tryz.prog.wantsStandIn u)=true:=by kernel_rfl
    exact(show Tryz.prog.wantsStandIn t=false by simpa using List.all_eq_true.1 i t w)⟩)
  (by kernel_rfl)
#print axioms proved
end Go.Proofs.YtckfnbckoclhpaaGreatDoor.lawOmegaOrder

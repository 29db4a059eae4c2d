/- A term in a name's place. -/
import Derived.Test.YtckfnbckoclhpaaGreatDoorE29
import Derived.Test.YtckfnbckoclhpaaGreatDoorE28
namespace Go.Proofs.YtckfnbckoclhpaaGreatDoor
set_option linter.unusedVariables false
set_option linter.unusedSimpArgs false
section
open Go.RowKit
theorem zg7{n:Int}{M:Nat}:∀(gs fs:List (Key×Int)) (K:Nat),zad K fs→(∀g∈gs,(g.2*n).natAbs≤M)→zad (K+gs.length*M) (zG fs gs n)
 | [],fs,K,h,_=>by rw [List.length_nil,Nat.zero_mul,Nat.add_zero];exact h
 |g::gs,fs,K,h,hM=>by
  have i:=zbO h (hM g (List.mem_cons_self ..));have j:=zg7 gs _ (K+M) i (fun x hx=>hM x (List.mem_cons_of_mem _ hx));rw [List.length_cons,Nat.succ_mul];have e:K+(gs.length*M+M)=K+M+gs.length*M:=by omega
  rw [e];exact j
end
end Go.Proofs.YtckfnbckoclhpaaGreatDoor

import Derived.Test.YtpmdcckapddchaaGreatDoorShort
import Derived.Test.YtpmdcckapddchaaGreatDoorMz
import Derived.Test.YtpmdcckapddchaaGreatDoorMzc
import Derived.Test.YtpmdcckapddchaaGreatDoorMzb
/- merged by wip/merge.py from: ElMake -/
set_option maxRecDepth 100000
set_option maxHeartbeats 51200000
namespace Go.Proofs.YtpmdcckapddchaaGreatDoor
namespace El
open Go.RowKit Go.Maps Dt Sg
theorem way_cases {name:ByteArray} {k lo hi:Nat} (h:wayN name=some (k,lo,hi)):(k=0/\lo=1/\hi=1)\/((k=1\/k=2\/k=3\/k=4\/k=5\/k=6)/\lo=2/\hi=1048576)\/(k=7/\lo=3/\hi=3)\/((k=8\/k=9\/k=10\/k=11)/\lo=2/\hi=2):=by
 unfold wayN at h
 by_cases e0:name=sNot
 ·rw [if_pos e0] at h
  cases h
  exact .inl ⟨rfl,rfl,rfl⟩
 rw [if_neg e0] at h
 by_cases e1:name=sAnd
 ·rw [if_pos e1] at h
  cases h
  exact .inr (.inl ⟨.inl rfl,rfl,rfl⟩)
 rw [if_neg e1] at h
 by_cases e2:name=sOr
 ·rw [if_pos e2] at h
  cases h
  exact .inr (.inl ⟨.inr (.inl rfl),rfl,rfl⟩)
 rw [if_neg e2] at h
 by_cases e3:name=sXor
 ·rw [if_pos e3] at h
  cases h
  exact .inr (.inl ⟨.inr (.inr (.inl rfl)),rfl,rfl⟩)
 rw [if_neg e3] at h
 by_cases e4:name=sImp
 ·rw [if_pos e4] at h
  cases h
  exact .inr (.inl ⟨.inr (.inr (.inr (.inl rfl))),rfl,rfl⟩)
 rw [if_neg e4] at h
 by_cases e5:name=sEq
 ·rw [if_pos e5] at h
  cases h
  exact .inr (.inl ⟨.inr (.inr (.inr (.inr (.inl rfl)))),rfl,rfl⟩)
 rw [if_neg e5] at h
 by_cases e6:name=sDistinct
 ·rw [if_pos e6] at h
  cases h
  exact .inr (.inl ⟨.inr (.inr (.inr (.inr (.inr (rfl))))),rfl,rfl⟩)
 rw [if_neg e6] at h
 by_cases e7:name=sIte
 ·rw [if_pos e7] at h
  cases h
  exact .inr (.inr (.inl ⟨rfl,rfl,rfl⟩))
 rw [if_neg e7] at h
 by_cases e8:name=sLe
 ·rw [if_pos e8] at h
  cases h
  exact .inr (.inr (.inr ⟨.inl rfl,rfl,rfl⟩))
 rw [if_neg e8] at h
 by_cases e9:name=sLt
 ·rw [if_pos e9] at h
  cases h
  exact .inr (.inr (.inr ⟨.inr (.inl rfl),rfl,rfl⟩))
 rw [if_neg e9] at h
 by_cases e10:name=sGe
 ·rw [if_pos e10] at h
  cases h
  exact .inr (.inr (.inr ⟨.inr (.inr (.inl rfl)),rfl,rfl⟩))
 rw [if_neg e10] at h
 by_cases e11:name=sGt
 ·rw [if_pos e11] at h
  cases h
  exact .inr (.inr (.inr ⟨.inr (.inr (.inr (rfl))),rfl,rfl⟩))
 rw [if_neg e11] at h
 cases h
theorem make_any {F:Fix} (hF:FixOk F) {w:World} {known:Int} {st:St} {At:Option Addr} {ct:Nat} (hm:Mk F w known st At ct) {name:ByteArray} {k lo hi:Nat} (hw:wayN name=some (k,lo,hi)) {L:Option Addr} {l:List V} (h1:lo<=l.length) (h2:l.length<=hi) (cl:Nat) (hcl:l.length<=cl) (hl:ValsS F w L l) :
  Calls Tryz.prog (fnW k) #[.pointer (some ⟨F.mb,0,none⟩),.slice L l.length cl] w (MkPost F known w st.t At (makeM F.c k l st).1 (makeM F.c k l st).2):=by
 rcases way_cases hw with⟨rfl,rfl,rfl⟩ | ⟨hk,rfl,rfl⟩ | ⟨rfl,rfl,rfl⟩ | ⟨hk,rfl,rfl⟩
 ·exact not_any hF hm cl hl (by omega)
 ·have hne:l≠[]:=by intro e;rw [e] at h1;simp at h1
  rcases hk with rfl | rfl | rfl | rfl | rfl | rfl
  ·exact and_any hF hm cl hcl hl hne (by omega)
  ·exact or_any hF hm cl hcl hl hne (by omega)
  ·exact xor_any hF hm cl hcl hl hne (by omega)
  ·exact implies_any hF hm cl hl hne (by omega)
  ·exact equal_any hF hm cl hcl hl h1 (by omega)
  ·exact distinct_any hF hm cl hcl hl h1 h2
 ·exact ite_any hF hm cl hl (by omega)
 ·obtain ⟨x,y,rfl⟩:∃ x y,l=[x,y]:=by
   match l,h1,h2 with
   | [x,y],_,_=>exact⟨x,y,rfl⟩
  rcases hk with rfl | rfl | rfl | rfl
  ·exact le_any hF hm cl hl (by simp)
  ·exact lt_any hF hm cl hl (by simp)
  ·exact ge_any hF hm cl hl
  ·exact gt_any hF hm cl hl
theorem len_fullL:∀ l:List Sexp,l.length<=Sexp.fullL l
 | []=>Nat.zero_le _
 | x :: l=>by
  rw [Sexp.fullL_cons,List.length_cons];have:=len_fullL l;have:=full_pos x
  omega
theorem len_full (x:Sexp):x.l.length < x.full:=by
 rw [Sexp.full_eq];have:=len_fullL x.l
 omega
end El
end Go.Proofs.YtpmdcckapddchaaGreatDoor

import Derived.Test.YtpmdcckapddchaaGreatShort
import Derived.Test.YtpmdcckapddchaaGreatMx
/- merged by wip/merge.py from: ElMac9 -/
/- What a sound signature says of a macro's names. -/
namespace Go.Proofs.YtpmdcckapddchaaGreat.El
open Go.RowKit Go.Proofs.YtpmdcckapddchaaGreat.Dt Go.Proofs.YtpmdcckapddchaaGreat.Sg
theorem usable_res {l:List UInt8} (h:usableB l=true):Lx.resB l=false:=by
 unfold usableB at h;rw [Bool.and_eq_true] at h
 cases hr:Lx.resB l with
 | false=>rfl
 | true=>rw [hr] at h;exact absurd h.2 (by decide)
theorem mac_names {g:Sig} {k:Nat} {m:Macro} {p0 p1:Param} (hg:checkE g=0) (hm:g.macros[k]?=some m) (hp:m.params=[p0,p1]) :
  hasB (g.funs.map Fun4.name) m.name=false∧Lx.resB (Lx.bs p0.name)=false∧Lx.resB (Lx.bs p1.name)=false∧hasB [p0.name] p1.name=false:=by
 unfold checkE at hg
 split at hg
 ·rename_i hb
  unfold checkB at hb;simp only [Bool.and_eq_true] at hb;have hms:=hb.2.2;unfold allTo at hms;rw [List.all_eq_true] at hms;have hmo:=hms k (List.mem_range.2 (List.getElem?_eq_some_iff.1 hm).1);unfold macOk at hmo;rw [hm] at hmo;simp only [Bool.and_eq_true,Bool.not_eq_true',Bool.or_eq_false_iff] at hmo;have hmb:=hmo.2;unfold macroB at hmb;simp only [Bool.and_eq_true] at hmb;have hps:=hmb.2;unfold paramsTo at hps;rw [List.all_eq_true] at hps;have h0:=hps 0 (List.mem_range.2 (by rw [hp];simp));have h1:=hps 1 (List.mem_range.2 (by rw [hp];simp));unfold paramB at h0 h1;rw [hp] at h0 h1;simp only [List.getElem?_cons_zero,List.getElem?_cons_succ,Bool.and_eq_true,Bool.not_eq_true'] at h0 h1;exact⟨hmo.1.2.1.1,usable_res h0.1.1,usable_res h1.1.1,h1.2⟩
 ·cases hg
end Go.Proofs.YtpmdcckapddchaaGreat.El

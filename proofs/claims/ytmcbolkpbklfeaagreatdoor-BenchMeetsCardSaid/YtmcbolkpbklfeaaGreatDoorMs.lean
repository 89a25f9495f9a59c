import Derived.Test.YtmcbolkpbklfeaaGreatDoorShort
import Derived.Test.YtmcbolkpbklfeaaGreatDoorMd
import Derived.Test.YtmcbolkpbklfeaaGreatDoorMp
/- merged by wip/merge.py from: ExpOpen -/
set_option maxRecDepth 100000
set_option maxHeartbeats 51200000
namespace Go.Proofs.YtmcbolkpbklfeaaGreatDoor
namespace Dt
open Go.RowKit Go.ChangeShapes Go.WideShapes Go.Deep El
section
variable {H:Type} {enc:TypeId × Value->H}
theorem list3e {α:Type} {l:List α} (h:l.length=3):∃ a b c,l=[a,b,c]:=by
 match l,h with
 | [a,b,c],_=>exact⟨a,b,c,rfl⟩
theorem cExp:Tryz.prog.cellsOf 24=3:=by kernel_rfl
theorem cStrE:Tryz.prog.cellsOf 9=1:=by kernel_rfl
theorem fExp:∃ f0 f1 f2:Field,Tryz.prog.underlying 24=some (.struct #[f0,f1,f2])/\f0.offset=0/\f1.offset=1/\f2.offset=2/\f0.type=22/\f1.type=3/\f2.type=9 :=
 ⟨_,_,_,Tryz.underlying24,rfl,rfl,rfl,rfl,rfl,rfl⟩
theorem open_expect {W:World} {base:Nat} {v:Value} {d:DataW H} {ps:List MemPlace} (hval:Value.okWide Tryz.prog W .any base 24 v) (h:DataW.Trod enc Tryz.prog W 0 (fun _=>true) true 24 v d ps) (hf:Fits Tryz.prog 24 d) :
  ∃ (k n:Int) (t:ByteArray),v=.agg #[.int .i8 k,.int .i64 n,.string t]/\(Lit.int .i8 k).wf=true/\I64 n:=by
 obtain ⟨f0,f1,f2,hu,o0,o1,o2,t0,t1,t2⟩:=fExp;obtain ⟨cs,rfl,hsz⟩:=okWide_struct hu hval;obtain ⟨fuel,ht⟩:=h;have hlen:=struct_len hu ht;rw [cExp] at hlen;obtain ⟨k,h0⟩:=field_of hu ht hf 0 f0 rfl (fun fu _=>by rw [t0];exact opens_int Tryz.underlying22 fu);rw [o0,t0,cI8] at h0;obtain ⟨n,h1⟩:=field_of hu ht hf 1 f1 rfl (fun fu _=>by rw [t1];exact opens_int Tryz.underlying3 fu);rw [o1,t1,cI] at h1;obtain ⟨s,h2⟩:=field_of hu ht hf 2 f2 rfl (fun fu _=>by rw [t2];exact opens_str Tryz.underlying9 fu);rw [o2,t2,cStrE] at h2;obtain ⟨e0,w0⟩:=h0;obtain ⟨e1,w1⟩:=h1.i64;obtain ⟨e2,_⟩:=h2;obtain ⟨a,b,c,hl⟩:=list3e hlen;rw [hl] at e0 e1 e2;simp at e0 e1 e2;subst e0 e1 e2;refine⟨k,n,s,?_,w0,w1⟩
 congr 1
 exact Array.toList_inj.1 hl
theorem open_strs {W:World} {base:Nat} {v:Value} {d:DataW H} {ps:List MemPlace} (hval:Value.okWide Tryz.prog W .any base 25 v) (h:DataW.Trod enc Tryz.prog W 0 (fun _=>true) true 25 v d ps) (hf:Fits Tryz.prog 25 d) :
  ∃ (A:Option Addr) (c:Nat) (xs:List ByteArray),v=.slice A xs.length c/\Lies 1 StrR W A xs/\xs.length<=c/\xs.length<=140737488355328:=by
 obtain ⟨a0,n0,c0,rfl⟩:=okWide_slice Tryz.underlying25 hval;obtain ⟨fuel,ht⟩:=h;obtain ⟨A,c,xs,e,hl,h1,_,hb⟩:=open_lies Tryz.underlying25 cStrE (by omega) (fun fu _=>opens_str Tryz.underlying9 fu) ht hf;simp only [Value.cells,List.cons.injEq,Value.slice.injEq,and_true] at e;obtain ⟨rfl,rfl,rfl⟩:=e;rw [show Tryz.prog.bytesOf 9=16 by kernel_rfl] at hb;exact⟨_,_,xs,rfl,hl,h1,by omega⟩
end
end Dt
end Go.Proofs.YtmcbolkpbklfeaaGreatDoor

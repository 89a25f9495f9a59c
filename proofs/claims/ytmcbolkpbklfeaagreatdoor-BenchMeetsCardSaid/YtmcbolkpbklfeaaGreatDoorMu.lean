import Derived.Test.YtmcbolkpbklfeaaGreatDoorShort
import Derived.Test.YtmcbolkpbklfeaaGreatDoorMt
import Derived.Test.YtmcbolkpbklfeaaGreatDoorMf
/- merged by wip/merge.py from: CmdEq -/
set_option maxRecDepth 100000
set_option maxHeartbeats 51200000
namespace Go.Proofs.YtmcbolkpbklfeaaGreatDoor
namespace Cm
open Go.RowKit Dt
theorem beq_eqB (a b:Int):(a == b)=eqB a b:=by rw [eqB_int];rfl
theorem bytes_eqB (a b:ByteArray):(a.toList == b.toList)=eqB a b:=by
 by_cases h:a=b
 ·rw [eqB_true.2 h];simp [h]
 ·rw [eqB_false.2 h];exact bytes_ne h
theorem ints_cells {w:World} {A:Option Addr} {l:List Int} (h:Lies 1 (IntR .i64) w A l):Cells w A (l.map (Value.int .i64)):=Lies.one (h.imp rfl fun i x y vs hx hy hr=>by rw [hx] at hy;obtain rfl:=Option.some.inj hy;exact hr.1)
theorem csame_any {w:World} {a b:Cmd} {A1 A2 A3 A4 B1 B2 B3 B4:Option Addr} {c1 c2 c3 c4 d1 d2 d3 d4:Nat} (ha:CmdAt w A1 c1 A2 c2 A3 c3 A4 c4 a) (hb:CmdAt w B1 d1 B2 d2 B3 d3 B4 d4 b) :
  Calls Tryz.prog 128 #[agC A1 c1 A2 c2 A3 c3 A4 c4 a,agC B1 d1 B2 d2 B3 d3 B4 d4 b] w fun e w'=>e=.returned (.bool (eqB a b))/\Below w.heap.size w w':=by
 have HE:=kp (eqB_cmd a b);have HBx:=kp (((brq w).alloc nlq (.cells #[.int .i8 a.kind,.string a.name,.int .i64 a.n,.slice A1 a.l.length c1,.slice A2 a.args.length c2,.slice A3 a.params.length c3,.string a.res,.slice A4 a.terms.length c4] 110)).alloc (by simp) (.cells #[.int .i8 b.kind,.string b.name,.int .i64 b.n,.slice B1 b.l.length d1,.slice B2 b.args.length d2,.slice B3 b.params.length d3,.string b.res,.slice B4 b.terms.length d4] 110));have NA:=kp (show((w.alloc (.cells #[.int .i8 a.kind,.string a.name,.int .i64 a.n,.slice A1 a.l.length c1,.slice A2 a.args.length c2,.slice A3 a.params.length c3,.string a.res,.slice A4 a.terms.length c4] 110)).alloc (.cells #[.int .i8 b.kind,.string b.name,.int .i64 b.n,.slice B1 b.l.length d1,.slice B2 b.args.length d2,.slice B3 b.params.length d3,.string b.res,.slice B4 b.terms.length d4] 110)).heap[w.heap.size]?=_ from(Below.heap_alloc _ _ _ (by simp)).trans (blk_new w (.cells #[.int .i8 a.kind,.string a.name,.int .i64 a.n,.slice A1 a.l.length c1,.slice A2 a.args.length c2,.slice A3 a.params.length c3,.string a.res,.slice A4 a.terms.length c4] 110)))
 have NB:=kp (show((w.alloc (.cells #[.int .i8 a.kind,.string a.name,.int .i64 a.n,.slice A1 a.l.length c1,.slice A2 a.args.length c2,.slice A3 a.params.length c3,.string a.res,.slice A4 a.terms.length c4] 110)).alloc (.cells #[.int .i8 b.kind,.string b.name,.int .i64 b.n,.slice B1 b.l.length d1,.slice B2 b.args.length d2,.slice B3 b.params.length d3,.string b.res,.slice B4 b.terms.length d4] 110)).heap[w.heap.size+1]?=some (.cells #[.int .i8 b.kind,.string b.name,.int .i64 b.n,.slice B1 b.l.length d1,.slice B2 b.args.length d2,.slice B3 b.params.length d3,.string b.res,.slice B4 b.terms.length d4] 110) from by
  have hh:=blk_new (w.alloc (.cells #[.int .i8 a.kind,.string a.name,.int .i64 a.n,.slice A1 a.l.length c1,.slice A2 a.args.length c2,.slice A3 a.params.length c3,.string a.res,.slice A4 a.terms.length c4] 110)) (.cells #[.int .i8 b.kind,.string b.name,.int .i64 b.n,.slice B1 b.l.length d1,.slice B2 b.args.length d2,.slice B3 b.params.length d3,.string b.res,.slice B4 b.terms.length d4] 110);have e:(w.alloc (.cells #[.int .i8 a.kind,.string a.name,.int .i64 a.n,.slice A1 a.l.length c1,.slice A2 a.args.length c2,.slice A3 a.params.length c3,.string a.res,.slice A4 a.terms.length c4] 110)).heap.size=w.heap.size+1:=by simp
  rw [e] at hh;exact hh)
 have h1:(a.l.length:Int)<=9223372036854775807/\(b.l.length:Int)<=9223372036854775807:=by have:=ha.l1;have:=ha.m1;have:=hb.l1;have:=hb.m1;unfold maxLen at *;omega
 have h2:(a.args.length:Int)<=9223372036854775807/\(b.args.length:Int)<=9223372036854775807:=by have:=ha.l2;have:=ha.m2;have:=hb.l2;have:=hb.m2;unfold maxLen at *;omega
 have h3:(a.params.length:Int)<=9223372036854775807/\(b.params.length:Int)<=9223372036854775807:=by have:=ha.l3;have:=ha.m3;have:=hb.l3;have:=hb.m3;unfold maxLen at *;omega
 have h4:(a.terms.length:Int)<=140737488351232/\(b.terms.length:Int)<=140737488351232:=by have:=ha.b4;have:=hb.b4;omega
 have H1:=kp (fun W (hW:Below w.heap.size w W)=>eqInts_any a.l b.l W A1 B1 c1 d1 (ints_cells (ha.l.on (IntR.lasts _) hW)) (ints_cells (hb.l.on (IntR.lasts _) hW)) h1.1 h1.2);have H2:=kp (fun W (hW:Below w.heap.size w W)=>eqStrs_any a.args b.args W A2 B2 c2 d2 (ha.args.on StrR.lasts hW) (hb.args.on StrR.lasts hW) h2.1 h2.2);have H3:=kp (fun W (hW:Below w.heap.size w W)=>eqPairs_any a.params b.params W A3 B3 c3 d3 (ha.params.on PairR.lasts hW) (hb.params.on PairR.lasts hW) h3.1 h3.2);have H4:=kp (fun W (hW:Below w.heap.size w W)=>eqSexps_any a.terms b.terms (fun y _=>same_any _ y (Nat.lt_succ_self _)) W A4 B4 c4 d4 (ha.terms.on SexpR.lasts hW) (hb.terms.on SexpR.lasts hW) h4.1 h4.2);clear h1 h2 h3 h4 ha hb;have p1:=beq_eqB a.kind b.kind;have p2:=bytes_eqB a.name b.name;have p3:=beq_eqB a.n b.n;have p4:=bytes_eqB a.res b.res;generalize eqB a b=r at *;generalize eqB a.kind b.kind=e1 at *;generalize eqB a.name b.name=e2 at *;generalize eqB a.n b.n=e3 at *;generalize eqB a.res b.res=e4 at *;generalize eqB a.l b.l=e5 at *;generalize eqB a.args b.args=e6 at *;generalize eqB a.params b.params=e7 at *;generalize eqB a.terms b.terms=e8 at *;unfold agC
 go_enter Tryz.func128,Tryz.ntmps128
 go_upto_region 1 with fail
 generalize ((w.alloc (.cells #[.int .i8 a.kind,.string a.name,.int .i64 a.n,.slice A1 a.l.length c1,.slice A2 a.args.length c2,.slice A3 a.params.length c3,.string a.res,.slice A4 a.terms.length c4] 110)).alloc (.cells #[.int .i8 b.kind,.string b.name,.int .i64 b.n,.slice B1 b.l.length d1,.slice B2 b.args.length d2,.slice B3 b.params.length d3,.string b.res,.slice B4 b.terms.length d4] 110))=w2 at *;obtain ⟨n0,n1,n2,n3,n4,n5,n6,n7,nf⟩:=eight_cells NA.out;obtain ⟨m0,m1,m2,m3,m4,m5,m6,m7,mf⟩:=eight_cells NB.out
 cases e1 with
 | false =>
  have HR:=kp (show r=false by rw [HE.out];rfl);go_wp2_with fail
  go_ret;exact⟨ret_bool HR.out.symm,HBx.out⟩
 | true =>
  cases e2 with
  | false =>
   have HR:=kp (show r=false by rw [HE.out];rfl);go_wp2_with fail
   go_ret;exact⟨ret_bool HR.out.symm,HBx.out⟩
  | true =>
   cases e3 with
   | false =>
    have HR:=kp (show r=false by rw [HE.out];rfl);go_wp2_with fail
    go_ret;exact⟨ret_bool HR.out.symm,HBx.out⟩
   | true =>
    cases e4 with
    | false =>
     have HR:=kp (show r=false by rw [HE.out];rfl);go_wp2_with fail
     go_ret;exact⟨ret_bool HR.out.symm,HBx.out⟩
    | true =>
     go_wp2_with fail
     refine(H1.out _ HBx.out).mono ?_;rintro e u1 ⟨rfl,hb⟩;have Bu1:=kp (HBx.out.trans (hb.mono HBx.out.size));have NA1:=kp ((hb.block _ (lt_of_block NA.out)).trans NA.out);have NB1:=kp ((hb.block _ (lt_of_block NB.out)).trans NB.out);clear hb n0 n1 n2 n3 n4 n5 n6 n7 nf m0 m1 m2 m3 m4 m5 m6 m7 mf;obtain ⟨n0,n1,n2,n3,n4,n5,n6,n7,nf⟩:=eight_cells NA1.out;obtain ⟨m0,m1,m2,m3,m4,m5,m6,m7,mf⟩:=eight_cells NB1.out
     cases e5 with
     | false =>
      have HR:=kp (show r=false by rw [HE.out];rfl);go_wp2_with fail
      go_ret;exact⟨ret_bool HR.out.symm,Bu1.out⟩
     | true =>
      go_wp2_with fail
      refine(H2.out _ Bu1.out).mono ?_;rintro e u2 ⟨rfl,hb⟩;have Bu2:=kp (Bu1.out.trans (hb.mono Bu1.out.size));have NA2:=kp ((hb.block _ (lt_of_block NA1.out)).trans NA1.out);have NB2:=kp ((hb.block _ (lt_of_block NB1.out)).trans NB1.out);clear hb n0 n1 n2 n3 n4 n5 n6 n7 nf m0 m1 m2 m3 m4 m5 m6 m7 mf;obtain ⟨n0,n1,n2,n3,n4,n5,n6,n7,nf⟩:=eight_cells NA2.out;obtain ⟨m0,m1,m2,m3,m4,m5,m6,m7,mf⟩:=eight_cells NB2.out
      cases e6 with
      | false =>
       have HR:=kp (show r=false by rw [HE.out];rfl);go_wp2_with fail
       go_ret;exact⟨ret_bool HR.out.symm,Bu2.out⟩
      | true =>
       go_wp2_with fail
       refine(H3.out _ Bu2.out).mono ?_;rintro e u3 ⟨rfl,hb⟩;have Bu3:=kp (Bu2.out.trans (hb.mono Bu2.out.size));have NA3:=kp ((hb.block _ (lt_of_block NA2.out)).trans NA2.out);have NB3:=kp ((hb.block _ (lt_of_block NB2.out)).trans NB2.out);clear hb n0 n1 n2 n3 n4 n5 n6 n7 nf m0 m1 m2 m3 m4 m5 m6 m7 mf;obtain ⟨n0,n1,n2,n3,n4,n5,n6,n7,nf⟩:=eight_cells NA3.out;obtain ⟨m0,m1,m2,m3,m4,m5,m6,m7,mf⟩:=eight_cells NB3.out
       cases e7 with
       | false =>
        have HR:=kp (show r=false by rw [HE.out];rfl);go_wp2_with fail
        go_ret;exact⟨ret_bool HR.out.symm,Bu3.out⟩
       | true =>
        go_wp2_with fail
        refine(H4.out _ Bu3.out).mono ?_;rintro e u4 ⟨rfl,hb⟩;have Bu4:=kp (Bu3.out.trans (hb.mono Bu3.out.size));have NA4:=kp ((hb.block _ (lt_of_block NA3.out)).trans NA3.out);have NB4:=kp ((hb.block _ (lt_of_block NB3.out)).trans NB3.out);clear hb n0 n1 n2 n3 n4 n5 n6 n7 nf m0 m1 m2 m3 m4 m5 m6 m7 mf;obtain ⟨n0,n1,n2,n3,n4,n5,n6,n7,nf⟩:=eight_cells NA4.out;obtain ⟨m0,m1,m2,m3,m4,m5,m6,m7,mf⟩:=eight_cells NB4.out;have HR:=kp (show r=e8 by rw [HE.out];rfl);go_wp2_with fail
        go_ret;exact⟨ret_bool HR.out.symm,Bu4.out⟩
end Cm
end Go.Proofs.YtmcbolkpbklfeaaGreatDoor

import Derived.Test.YtmcbolkpbklfeaaGreatDoorShort
import Derived.Test.YtmcbolkpbklfeaaGreatDoorMu
/- merged by wip/merge.py from: CmdMay -/
set_option maxRecDepth 100000
set_option maxHeartbeats 51200000
namespace Go.Proofs.YtmcbolkpbklfeaaGreatDoor
namespace Cm
open Go.RowKit Dt
noncomputable def mayCB (c:Cmd):Bool:=eqB (cmdO (writeX c)) (some c)
theorem cmdO_syms (k:ByteArray) (h:∀ r,formO k r=none):cmdO (listX [symX k])=none:=by
 unfold cmdO
 split
 ·unfold parseO;show(if(3:Int)=3/\(0:Int)=0 then formO k [] else none)=none;rw [if_pos ⟨rfl,rfl⟩,h]
 ·rfl
theorem formO_noS (r:List Sexp):formO noS r=none:=by
 unfold formO;simp only [show ¬ noS=sExit by decide,show ¬ noS=sProof by decide,show ¬ noS=sModel by decide,show ¬ noS=sCheck by decide,show ¬ noS=sValue by decide,show ¬ noS=sPop by decide,show ¬ noS=sPush by decide,show ¬ noS=sAssert by decide,show ¬ noS=sDefine by decide,show ¬ noS=sFun by decide,show ¬ noS=sSort by decide,show ¬ noS=sOption by decide,show ¬ noS=sLogic by decide,if_false]
theorem writeL_none {c:Cmd} (h:¬ (0<=c.kind/\c.kind<=12)):writeL c=[]:=by
 unfold writeL;rw [if_neg (by omega),if_neg (by omega),if_neg (by omega),if_neg (by omega),if_neg (by omega),if_neg (by omega),if_neg (by omega),if_neg (by omega),if_neg (by omega),if_neg (by omega),if_neg (by omega),if_neg (by omega),if_neg (by omega)]
theorem prog_may (c:Cmd):eqB (cmdO (listX (progL c))) (some c)=mayCB c:=by
 unfold mayCB progL
 split
 ·rfl
 ·rename_i h
  have e1:cmdO (listX [symX noS])=none:=cmdO_syms noS formO_noS
  have e2:cmdO (writeX c)=none:=by
   unfold writeX;rw [writeL_none h];unfold cmdO
   split <;> rfl
  rw [e1,e2]
theorem res_may {o:Option Cmd} {c:Cmd}:eqB o (some c)=(o.isSome && eqB (o.getD noCmd) c):=by
 cases o with
 | none=>exact eqB_false.2 (by simp)
 | some d =>
  rw [Bool.eq_iff_iff,eqB_true];simp [eqB_true]
theorem cmay_any {w:World} {A1 A2 A3 A4:Option Addr} {c1 c2 c3 c4:Nat} {c:Cmd} (h:CmdAt w A1 c1 A2 c2 A3 c3 A4 c4 c) (hs:CmdSmall c) (ht:TabOk w) :
  Calls Tryz.prog 83 #[agC A1 c1 A2 c2 A3 c3 A4 c4 c] w fun e w'=>e=.returned (.bool (mayCB c))/\Below w.heap.size w w':=by
 have HC:=kp h;have HB0:=kp ((brq w).alloc nlq (.cells #[.int .i8 c.kind,.string c.name,.int .i64 c.n,.slice A1 c.l.length c1,.slice A2 c.args.length c2,.slice A3 c.params.length c3,.string c.res,.slice A4 c.terms.length c4] 110));have NB:=kp (blk_new w (.cells #[.int .i8 c.kind,.string c.name,.int .i64 c.n,.slice A1 c.l.length c1,.slice A2 c.args.length c2,.slice A3 c.params.length c3,.string c.res,.slice A4 c.terms.length c4] 110));have HW:=kp (written_any h HB0.out hs (ht.on HB0.out));have HM:=kp ((prog_may c).symm.trans res_may);clear h hs ht;unfold agC at *
 go_enter Tryz.func83,Tryz.ntmps83
 go_upto_region 1 with fail
 generalize w.alloc (.cells #[.int .i8 c.kind,.string c.name,.int .i64 c.n,.slice A1 c.l.length c1,.slice A2 c.args.length c2,.slice A3 c.params.length c3,.string c.res,.slice A4 c.terms.length c4] 110)=w1 at *;obtain ⟨n0,n1,n2,n3,n4,n5,n6,n7,nf⟩:=eight_cells NB.out;go_wp2_with fail
 refine HW.out.mono ?_;rintro e w2 ⟨Aw,cw,rfl,hr,hb2⟩;have B2:=kp (HB0.out.trans (hb2.mono HB0.out.size));have N2:=kp ((hb2.block _ (lt_of_block NB.out)).trans NB.out);have HP:=kp (parse_cmd_any (A:=Aw) (c:=cw) (x:=listX (progL c)) (hr _ (Keeps.refl _ _)));replace HP:Hid (Calls Tryz.prog 54 #[.agg #[.int .i8 3,.string { data:=#[] },.slice Aw (progL c).length cw]] w2 (CmdRes w2 (cmdO (listX (progL c))) 30)):=HP;clear hr hb2 n0 n1 n2 n3 n4 n5 n6 n7 nf NB;generalize cmdO (listX (progL c))=o at *;go_wp2_with fail
 refine HP.out.mono ?_;rintro e w3 ⟨D1,d1,D2,d2,D3,d3,D4,d4,rfl,hat,hb3⟩;unfold cmdCells;have B3:=kp (B2.out.trans (hb3.mono B2.out.size));have N3:=kp ((hb3.block _ (lt_of_block N2.out)).trans N2.out);have HD:=kp hat;obtain ⟨n0,n1,n2,n3,n4,n5,n6,n7,nf⟩:=eight_cells N3.out;clear hat hb3;generalize hod:o.getD noCmd=d at *;clear hod;have B4:=kp ((brq w3).alloc nlq (.cells #[.int .i8 d.kind,.string d.name,.int .i64 d.n,.slice D1 d.l.length d1,.slice D2 d.args.length d2,.slice D3 d.params.length d3,.string d.res,.slice D4 d.terms.length d4] 110));have HS:=kp (csame_any (HD.out.on B4.out) (HC.out.on (B3.out.trans (B4.out.mono B3.out.size))));unfold agC at *;have HB4:=kp (B3.out.trans (B4.out.mono B3.out.size));have M4:=kp (blk_new w3 (.cells #[.int .i8 d.kind,.string d.name,.int .i64 d.n,.slice D1 d.l.length d1,.slice D2 d.args.length d2,.slice D3 d.params.length d3,.string d.res,.slice D4 d.terms.length d4] 110));have N4:=kp ((B4.out.block _ (lt_of_block N3.out)).trans N3.out)
 cases o with
 | none =>
  have HR:=kp (show mayCB c=false from HM.out);go_wp2_with fail
  go_ret;exact⟨ret_bool HR.out.symm,HB4.out⟩
 | some dd =>
  have HR:=kp (show mayCB c=eqB d c from HM.out.trans (by rw [Option.isSome_some,Bool.true_and]));go_upto_region 2 with fail
  generalize w3.alloc (.cells #[.int .i8 d.kind,.string d.name,.int .i64 d.n,.slice D1 d.l.length d1,.slice D2 d.args.length d2,.slice D3 d.params.length d3,.string d.res,.slice D4 d.terms.length d4] 110)=w4 at *;clear n0 n1 n2 n3 n4 n5 n6 n7 nf;obtain ⟨n0,n1,n2,n3,n4,n5,n6,n7,nf⟩:=eight_cells N4.out;obtain ⟨m0,m1,m2,m3,m4,m5,m6,m7,mf⟩:=eight_cells M4.out;go_wp2_with fail
  refine HS.out.mono ?_;rintro e w5 ⟨rfl,hb5⟩;have B5:=kp (HB4.out.trans (hb5.mono HB4.out.size));clear hb5;go_wp2_with fail
  go_ret;exact⟨ret_bool HR.out.symm,B5.out⟩
end Cm
end Go.Proofs.YtmcbolkpbklfeaaGreatDoor

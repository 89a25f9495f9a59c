import Derived.Test.YtmcbolkpbklfeaaGreatDoorShort
import Derived.Test.YtmcbolkpbklfeaaGreatDoorMzk
import Derived.BigQuiet
import Derived.Test.YtmcbolkpbklfeaaGreatDoorMf
import Derived.Test.YtmcbolkpbklfeaaGreatDoorMg
import Derived.Lib.QuietBelow
import Derived.Test.YtmcbolkpbklfeaaGreatDoorMs
import Derived.Test.YtmcbolkpbklfeaaGreatDoorCards
import Derived.PinnedBridge
import Derived.LaidSub
import Derived.Lib.LaidSlice
import Derived.Lib.LaidPrint
import Derived.Lib.LaidU8
import Derived.Test.YtmcbolkpbklfeaaGreatDoorBnTieRow
import Derived.Test.YtmcbolkpbklfeaaGreatDoorBnShape
import Derived.Test.YtmcbolkpbklfeaaGreatDoorBnClosed
import Derived.Test.YtmcbolkpbklfeaaGreatDoorBnGoes
import Derived.Test.YtmcbolkpbklfeaaGreatDoorBnJoined
import Derived.Test.YtmcbolkpbklfeaaGreatDoorLaw
/- merged by wip/merge.py from: BnScoreB BnRepl BnRep BnWakes BnLaw BnCardW BenchMeetsCard -/
set_option maxRecDepth 100000
set_option maxHeartbeats 51200000
namespace Go.Proofs.YtmcbolkpbklfeaaGreatDoor
namespace Bn
open Go Go.RowKit Dt Dr Cm
theorem score_b {T:Lib.PrintTabs} (w:World) (hT:LaidOk T w) :
  Calls Tryz.prog 17 #[.agg #[.string nmB,.string bB]] w fun e w'=>e=.returned (.agg #[.string nmB,.int .i64 1,.int .i64 0,.int .i64 1,.string r50])/\Below w.heap.size w w':=by
 have HT:=kp hT;clear hT;have W1:=kp (ScW.new nmB bB w);obtain ⟨txt,htxt⟩:∃ t:ByteArray,t=bB:=⟨_,rfl⟩;obtain ⟨nm,hnm⟩:∃ t:ByteArray,t=nmB:=⟨_,rfl⟩;rw [← htxt] at W1 ⊢;rw [← hnm] at W1 ⊢;have HTx:=kp htxt;clear htxt hnm
 go_enter Tryz.func17,Tryz.ntmps17
 go_upto_region 2 with fail
 generalize ((w.alloc (.cells #[.string nm,.string txt] 31)).alloc (.cells #[.string { data:=#[] },.int .i64 0,.int .i64 0,.int .i64 0,.string { data:=#[] }] 54)).alloc (.cells #[.string nm,.int .i64 0,.int .i64 0,.int .i64 0,.string { data:=#[] }] 54)=w1 at *;have HR:=kp (show Calls Tryz.prog 38 #[.string txt] w1 _ by rw [HTx.out];exact run_any (T:=T) bB (by decide) [r50] (by decide) runB w1 (HT.out.on W1.out.below));obtain ⟨p0,p1,pf⟩:=Bk.c2 W1.out.prob;go_wp2_with fail
 refine HR.out.mono ?_;rintro e w2 ⟨Ar,cr,rfl,hpr,hb2⟩;have W2:=kp (W1.out.on hb2);have P2:=kp hpr;have HZ1:=kp (lt_of_block W1.out.sc);have HZ2:=kp hb2.size;clear hpr hb2 p0 p1 pf HR W1;have HE:=kp (show Calls Tryz.prog 9 #[.string txt] w2 _ by rw [HTx.out];exact expsB w2);obtain ⟨p0,p1,pf⟩:=Bk.c2 W2.out.prob;go_wp2_with fail
 refine HE.out.mono ?_;rintro e w3 ⟨Ae,ce,rfl,hpe,hb3⟩;have W3:=kp (W2.out.on hb3);have P3:=kp (P2.out.below hb3);have E3:=kp hpe;clear hpe hb3 p0 p1 pf HE W2 P2;have hz1:=HZ1.out;have hz2:=HZ2.out;have L3:=kp (show ScL nm txt w w3 0 0 0 { data:=#[] } [r50] Ar cr [exSucc] Ae ce from⟨W3.out,P3.out.mono (by omega),E3.out.mono (by omega)⟩);clear HZ1 HZ2 hz1 hz2 W3 P3 E3;go_wp2_with fail
 go_loopw [18] (fun a wr=>(a=.int .i64 0/\ScL nm txt w wr 0 0 0 { data:=#[] } [r50] Ar cr [exSucc] Ae ce)\/(a=.int .i64 1/\ScL nm txt w wr 1 0 1 r50 [r50] Ar cr [exSucc] Ae ce)) (fun a _=>1 - (intOf a).toNat)
 case atStart=>exact .inl ⟨rfl,L3.out⟩
 case round =>
  rcases hrel with⟨rfl,hl⟩ | ⟨rfl,hl⟩
  ·obtain ⟨ge,hge,_,_,hce⟩:=hl.exps.cell valE_len (by decide);obtain ⟨t,ht⟩:∃ t:ByteArray,t=⟨exSucc.2.2.toArray⟩:=⟨_,rfl⟩;have e0:wr.cell? ⟨ge,0,none⟩=some (.int .i8 0):=(hce 0 exSucc rfl 0 _ rfl).1;have e1:wr.cell? ⟨ge,1,none⟩=some (.int .i64 1):=(hce 0 exSucc rfl 1 _ rfl).1;have e2:wr.cell? ⟨ge,2,none⟩=some (.string t):=by rw [ht];exact(hce 0 exSucc rfl 2 _ rfl).1
   have f0:∀ j,wr.frozen? ⟨ge,j,none⟩=false:=frz hl.exps hge;subst hge;have HM:=kp (show metI 0 1 (Lx.bs t) ([r50].map Lx.bs)=false by rw [ht];exact metB1);have L0:=kp hl;clear hce ht hl;go_upto_region 6 with fail
   have L1:=kp (L0.out.on ((brq wr).alloc nlq (.cells #[.int .i8 0,.int .i64 1,.string t] 24)));have K1:=kp (Bk.new wr (.cells #[.int .i8 0,.int .i64 1,.string t] 24));have hkb:=lt_of_block L0.out.sc.sc;generalize wr.alloc (.cells #[.int .i8 0,.int .i64 1,.string t] 24)=w4 at *;generalize wr.heap.size=kb at *;clear L0 e0 e1 e2 f0;obtain ⟨s0,s1,s2,s3,s4,sf⟩:=Bk.c5 L1.out.sc.sc;go_upto_region 7 with fail
   have L2:=kp (L1.out.all 1);have K2:=kp ((Below.heap_setCell w4 ⟨w.heap.size+1+1,1,none⟩ (.int .i64 1) kb (by show kb≠w.heap.size+1+1;omega)).trans K1.out);clear s0 s1 s2 s3 s4 sf L1 K1;generalize w4.setCell ⟨w.heap.size+1+1,1,none⟩ (.int .i64 1)=w5 at *;obtain ⟨e0,e1,e2,ef⟩:=Bk.c3 K2.out;go_wp2_with fail
   refine(met_any 0 1 (by decide) ⟨by decide,by decide⟩ t [r50] Ar cr w5 (str_lies L2.out.outs (by decide)) (by decide)).mono ?_;rintro e w6 ⟨rfl,hb6⟩;rw [HM.out];have L3:=kp (L2.out.on hb6);have K3:=kp (Bk.on K2.out hb6);clear L2 K2 e0 e1 e2 ef hb6 HM;obtain ⟨s0,s1,s2,s3,s4,sf⟩:=Bk.c5 L3.out.sc.sc;obtain ⟨p0,p1,pf⟩:=Bk.c2 L3.out.sc.prob;go_upto_region 10 with fail
   have L4:=kp (L3.out.on ((brq w6).alloc nlq (.cells #[.string nm,.int .i64 1,.int .i64 0,.int .i64 0,.string { data:=#[] }] 54)));have K4:=kp (Bk.keep K3.out (.cells #[.string nm,.int .i64 1,.int .i64 0,.int .i64 0,.string { data:=#[] }] 54));have F4:=kp (Bk.new w6 (.cells #[.string nm,.int .i64 1,.int .i64 0,.int .i64 0,.string { data:=#[] }] 54));generalize w6.alloc (.cells #[.string nm,.int .i64 1,.int .i64 0,.int .i64 0,.string { data:=#[] }] 54)=w7 at *;generalize w6.heap.size=fb at *;clear s0 s1 s2 s3 s4 sf p0 p1 pf K3 L3;obtain ⟨s0,s1,s2,s3,s4,sf⟩:=Bk.c5 L4.out.sc.sc;obtain ⟨f0,f1,f2,f3,f4,ff⟩:=Bk.c5 F4.out;obtain ⟨e0,e1,e2,ef⟩:=Bk.c3 K4.out;go_upto_region 12 with fail
   have L5:=kp (L4.out.first 1);have K5:=kp ((Below.heap_setCell w7 ⟨w.heap.size+1+1,3,none⟩ (.int .i64 1) kb (by show kb≠w.heap.size+1+1;omega)).trans K4.out);clear s0 s1 s2 s3 s4 sf f0 f1 f2 f3 f4 ff e0 e1 e2 ef L4 K4 F4;generalize w7.setCell ⟨w.heap.size+1+1,3,none⟩ (.int .i64 1)=w8 at *;obtain ⟨e0,e1,e2,ef⟩:=Bk.c3 K5.out;obtain ⟨s0,s1,s2,s3,s4,sf⟩:=Bk.c5 L5.out.sc.sc;go_wp2_with fail
   refine(Go.Proofs.YtmcbolkpbklfeaaGreatDoor.Bn.answer_any 1 ⟨by decide,by decide⟩ [r50] Ar cr w8 (str_lies L5.out.outs (by decide)) (by decide)).mono ?_;rintro e w9 ⟨rfl,rfl⟩;rw [show ansV 1 [r50]=#[.string r50,.bool true] from rfl];go_wp2_with fail
   go_roundw
   case rel=>exact .inr ⟨rfl,L5.out.said r50⟩
   case measure=>decide
  ·have L0:=kp hl;clear hl;obtain ⟨s0,s1,s2,s3,s4,sf⟩:=Bk.c5 L0.out.sc.sc;obtain ⟨r0,r1,r2,r3,r4,rf⟩:=Bk.c5 L0.out.sc.res;go_wp2_with fail
   have X3:=setCells_all L0.out.sc.res [.string nm,.int .i64 1,.int .i64 0,.int .i64 1,.string r50] rfl;exact sc_ret (w:=wr.setCells (w.heap.size+1) 0 [.string nm,.int .i64 1,.int .i64 0,.int .i64 1,.string r50]) X3 rfl rfl ⟨rfl,setCells_below (Nat.le_succ _) _ _ _ L0.out.sc.below⟩
end Bn
namespace Bn
open Go Go.RowKit Dt
theorem replace_none (s:ByteArray) (h:Lib.countByte s.data.toList 10=0) (w:World):Calls Tryz.prog 41 #[.string s,.string ⟨#[10]⟩,.string ⟨#[32]⟩,.int .i64 (-1)] w fun e w'=>e=.returned (.string s)/\Below w.heap.size w w':=by
 have HC:=kp (fun W=>(Tryz.strings_Count_one s 10 W).mono (R':=fun e w'=>e=.returned (.int .i64 0)/\w'=W) (fun e w' h2=>⟨by rw [h2.1,h];rfl,h2.2⟩));clear h
 go_enter Tryz.func41,Tryz.ntmps41
 go_wp2_with fail
 refine(HC.out _).mono ?_;rintro e w2 ⟨rfl,rfl⟩;go_wp2_with fail
 go_ret;exact⟨rfl,Below.refl _ _⟩
theorem replaceAll_none (s:ByteArray) (h:Lib.countByte s.data.toList 10=0) (w:World):Calls Tryz.prog 20 #[.string s,.string ⟨#[10]⟩,.string ⟨#[32]⟩] w fun e w'=>e=.returned (.string s)/\Below w.heap.size w w':=by
 have HC:=kp (replace_none s h w);clear h
 go_enter Tryz.func20,Tryz.ntmps20
 go_wp2_with fail
 refine HC.out.mono ?_;rintro e w2 ⟨rfl,hb⟩;go_wp2_with fail
 go_ret;exact⟨rfl,hb⟩
end Bn
namespace Bn
open Go Go.RowKit Dt Dr Cm
theorem drewN_at {B:Nat} {a w:World} (h:Below B a w) (n:Nat):Below B a (w.drewN n):=⟨h.os,h.tape,h.output,h.size,h.block⟩
def twoB:ByteArray:=⟨two.toArray⟩
def pbs:List Pb:=[([97],tA),([98],tB)]
def repA:List UInt8:=[97,32,50,47,50,10]
def repB:List UInt8:=[98,32,48,47,49,32,97,116,32,49,58,32,40,101,114,114,111,114,32,34,53,48,34,41,10]
theorem probs_two (w:World):Calls Tryz.prog 7 #[.string twoB] w fun e w'=>∃ A c,e=.returned (.slice A 2 c)/\PRow valP 31 2 w.heap.size w' (.slice A 2 c) pbs/\Below w.heap.size w w':=by
 have h:=problems_any twoB (by decide) w;have e:problemsL nameL (Lx.bs twoB)=pbs:=two_problems;rw [e] at h;exact h
structure RpL (w W:World) (l:List UInt8) (Ap:Option Addr) (cp:Nat):Prop where
 bld:Bd.WB w.heap.size w.heap.size l W
 probs:PRow valP 31 2 (w.heap.size+1) W (.slice Ap 2 cp) pbs
 below:Below w.heap.size w W
theorem RpL.on {w W W':World} {l:List UInt8} {Ap:Option Addr} {cp:Nat} (h:RpL w W l Ap cp) (hb:Below W.heap.size W W'):RpL w W' l Ap cp:=⟨h.bld.below hb,h.probs.below hb,h.below.trans (hb.mono h.below.size)⟩
theorem RpL.wrote {w W W':World} {l m:List UInt8} {Ap:Option Addr} {cp:Nat} (h:RpL w W l Ap cp) (h1:Bd.WB w.heap.size w.heap.size m W') (h2:Below w.heap.size W W') (h3:Bd.OthersKept w.heap.size W W'):RpL w W' m Ap cp :=
 ⟨h1,row_but h.probs (fun b cs hb hc=>h3 b cs _ (by decide) (by omega) hc),h.below.trans h2⟩
theorem digit_0:(⟨(Lib.decDigits 0).toArray⟩:ByteArray)=⟨#[48]⟩:=by kernel_rfl
theorem digit_1:(⟨(Lib.decDigits 1).toArray⟩:ByteArray)=⟨#[49]⟩:=by kernel_rfl
theorem digit_2:(⟨(Lib.decDigits 2).toArray⟩:ByteArray)=⟨#[50]⟩:=by kernel_rfl
theorem itoa_0 (W:World):Calls Tryz.prog 18 #[.int .i64 0] W fun e w'=>e=.returned (.string ⟨#[48]⟩)/\w'=W:=(Tryz.strconv_Itoa_small 0 (by decide) W).mono (fun e w' h=>⟨by rw [h.1,digit_0],h.2⟩)
theorem itoa_1 (W:World):Calls Tryz.prog 18 #[.int .i64 1] W fun e w'=>e=.returned (.string ⟨#[49]⟩)/\w'=W:=(Tryz.strconv_Itoa_small 1 (by decide) W).mono (fun e w' h=>⟨by rw [h.1,digit_1],h.2⟩)
theorem itoa_2 (W:World):Calls Tryz.prog 18 #[.int .i64 2] W fun e w'=>e=.returned (.string ⟨#[50]⟩)/\w'=W:=(Tryz.strconv_Itoa_small 2 (by decide) W).mono (fun e w' h=>⟨by rw [h.1,digit_2],h.2⟩)
theorem report_two {T:Lib.PrintTabs} (w:World) (hT:LaidOk T w):Calls Tryz.prog 8 #[.string twoB] w fun e w'=>e=.returned (.string ⟨(repA ++ repB).toArray⟩)/\Below w.heap.size w w':=by
 have HT:=kp hT;clear hT;obtain ⟨txt,htxt⟩:∃ t:ByteArray,t=twoB:=⟨_,rfl⟩;have HP:=kp (fun W=>show Calls Tryz.prog 7 #[.string txt] W _ by rw [htxt];exact probs_two W);rw [← htxt];clear htxt
 go_enter Tryz.func8,Tryz.ntmps8
 go_upto_region 2 with fail
 have W1:=kp (show Bd.WB w.heap.size w.heap.size [] (w.alloc (.cells #[.pointer none,.slice none 0 0] 52)) from Lib.fresh_isBuilder _ _ _);have B1:=kp ((brq w).alloc nlq (.cells #[.pointer none,.slice none 0 0] 52));generalize w.alloc (.cells #[.pointer none,.slice none 0 0] 52)=w1 at *;go_wp2_with fail
 refine(HP.out _).mono ?_;rintro e w2 ⟨Ap,cp,rfl,hp,hb2⟩;have hz1:=W1.out.lt;have L2:=kp (show RpL w w2 [] Ap cp from⟨W1.out.below hb2,hp.mono (by omega),B1.out.trans (hb2.mono B1.out.size)⟩);clear hp hb2 W1 B1 hz1 HP;go_wp2_with fail
 go_loopw [11] (fun a wr=>(a=.int .i64 0/\RpL w wr [] Ap cp)\/(a=.int .i64 1/\RpL w wr repA Ap cp)\/(a=.int .i64 2/\RpL w wr (repA ++ repB) Ap cp)) (fun a _=>2 - (intOf a).toNat)
 case atStart=>exact .inl ⟨rfl,L2.out⟩
 case round =>
  rcases hrel with⟨rfl,hl⟩ | ⟨rfl,hl⟩ | ⟨rfl,hl⟩
  ·obtain ⟨gp,hgp,_,hgl,hce⟩:=hl.probs.cell valP_len (by decide);obtain ⟨nm,hnm⟩:∃ t:ByteArray,t=nmA:=⟨_,rfl⟩;obtain ⟨t,ht⟩:∃ t:ByteArray,t=bA:=⟨_,rfl⟩;have e0:wr.cell? ⟨gp,0,none⟩=some (.string nm):=by rw [hnm];exact(hce 0 ([97],tA) rfl 0 _ rfl).1
   have e1:wr.cell? ⟨gp,1,none⟩=some (.string t):=by rw [ht];exact(hce 0 ([97],tA) rfl 1 _ rfl).1
   have f0:∀ j,wr.frozen? ⟨gp,j,none⟩=false:=frz hl.probs hgp;subst hgp;have HS:=kp (fun W (h:LaidOk T W)=>show Calls Tryz.prog 17 #[.agg #[.string nm,.string t]] W (fun e w'=>e=.returned (.agg #[.string nm,.int .i64 2,.int .i64 2,.int .i64 0,.string { data:=#[] }])/\Below W.heap.size W w') by rw [hnm,ht];exact score_a W h);have HN:=kp hnm;have L0:=kp hl;clear hce ht hl hnm;go_upto_region 5 with fail
   have L1:=kp (L0.out.on ((brq wr).alloc nlq (.cells #[.string nm,.string t] 31)));have K1:=kp (Bk.new wr (.cells #[.string nm,.string t] 31));generalize wr.alloc (.cells #[.string nm,.string t] 31)=w4 at *;generalize wr.heap.size=kb at *;clear L0 e0 e1 f0;obtain ⟨e0,e1,ef⟩:=Bk.c2 K1.out;go_wp2_with fail
   refine(HS.out _ (HT.out.on L1.out.below)).mono ?_;rintro e w5 ⟨rfl,hb5⟩;have L3:=kp (L1.out.on hb5);clear hb5 L1 K1 e0 e1 ef;go_upto_region 6 with fail
   have L4:=kp (L3.out.on ((brq w5).alloc nlq (.cells #[.string nm,.int .i64 2,.int .i64 2,.int .i64 0,.string { data:=#[] }] 54)));have K4:=kp (Bk.new w5 (.cells #[.string nm,.int .i64 2,.int .i64 2,.int .i64 0,.string { data:=#[] }] 54));generalize w5.alloc (.cells #[.string nm,.int .i64 2,.int .i64 2,.int .i64 0,.string { data:=#[] }] 54)=w6 at *;generalize w5.heap.size=sb at *;obtain ⟨s0,s1,s2,s3,s4,sf⟩:=Bk.c5 K4.out;have hnz:nm.size=1:=by rw [HN.out];rfl
   go_quiet ((go_at_call 18;exact quiet_same (itoa_2 _)))
   generalize hln:nm ++ ({ data:=#[32] }:ByteArray) ++ ({ data:=#[50] }:ByteArray) ++ ({ data:=#[47] }:ByteArray) ++ ({ data:=#[50] }:ByteArray)=ln;have HL:=kp (show ln=⟨#[97,32,50,47,50]⟩ by rw [← hln,HN.out];kernel_rfl);clear hln hnz;have hls:ln.size=5:=by rw [HL.out];rfl
   have HRp:=kp (fun W=>replaceAll_none ln (by rw [HL.out];kernel_rfl) W);have L5:=kp (L4.out.on (drewN_at (Below.refl _ _) nq));have K5:=kp (show(w6.drewN nq).heap[sb]?=_ from K4.out);generalize w6.drewN nq=w7 at *;clear s0 s1 s2 s3 s4 sf K4 L4;obtain ⟨s0,s1,s2,s3,s4,sf⟩:=Bk.c5 K5.out;go_wp2_with fail
   refine(HRp.out _).mono ?_;rintro e w8 ⟨rfl,hb8⟩;have L6:=kp (L5.out.on hb8);have hz8:=L6.out.bld.lt;clear s0 s1 s2 s3 s4 sf K5 L5 hb8 HRp;have HW:=kp (Bd.wstr_any w.heap.size w.heap.size [] (ln ++ { data:=#[10] }) w8 L6.out.bld (Nat.le_trans (Nat.le_of_eq (show([]:List UInt8).length+(ln ++ ({ data:=#[10] }:ByteArray)).size=6 by rw [ByteArray.size_append,hls];rfl)) (by decide)) (by omega));go_wp2_with fail
   refine HW.out.mono ?_;rintro e w9 ⟨rfl,h1,h2,h3⟩;have L7:=kp (show RpL w w9 repA (some ⟨gp,0,none⟩) cp from L6.out.wrote (by rw [show repA=[] ++ Lx.bs (ln ++ ({ data:=#[10] }:ByteArray)) by rw [HL.out];kernel_rfl];exact h1) h2 h3);clear h1 h2 h3 L6 HW HL;go_wp2_with fail
   go_roundw
   case rel=>exact .inr (.inl ⟨rfl,L7.out⟩)
   case measure=>decide
  ·obtain ⟨gp,hgp,_,hgl,hce⟩:=hl.probs.cell valP_len (by decide);obtain ⟨nm,hnm⟩:∃ t:ByteArray,t=nmB:=⟨_,rfl⟩;obtain ⟨t,ht⟩:∃ t:ByteArray,t=bB:=⟨_,rfl⟩;have e0:wr.cell? ⟨gp,2,none⟩=some (.string nm):=by rw [hnm];exact(hce 1 ([98],tB) rfl 0 _ rfl).1
   have e1:wr.cell? ⟨gp,3,none⟩=some (.string t):=by rw [ht];exact(hce 1 ([98],tB) rfl 1 _ rfl).1
   have f0:∀ j,wr.frozen? ⟨gp,j,none⟩=false:=frz hl.probs hgp;subst hgp;obtain ⟨gt,hgt⟩:∃ t:ByteArray,t=r50:=⟨_,rfl⟩;have HS:=kp (fun W (h:LaidOk T W)=>show Calls Tryz.prog 17 #[.agg #[.string nm,.string t]] W (fun e w'=>e=.returned (.agg #[.string nm,.int .i64 1,.int .i64 0,.int .i64 1,.string gt])/\Below W.heap.size W w') by rw [hnm,ht,hgt];exact score_b W h);have HN:=kp hnm;have HG:=kp hgt;have L0:=kp hl;clear hce ht hl hnm hgt;go_upto_region 5 with fail
   have L1:=kp (L0.out.on ((brq wr).alloc nlq (.cells #[.string nm,.string t] 31)));have K1:=kp (Bk.new wr (.cells #[.string nm,.string t] 31));generalize wr.alloc (.cells #[.string nm,.string t] 31)=w4 at *;generalize wr.heap.size=kb at *;clear L0 e0 e1 f0;obtain ⟨e0,e1,ef⟩:=Bk.c2 K1.out;go_wp2_with fail
   refine(HS.out _ (HT.out.on L1.out.below)).mono ?_;rintro e w5 ⟨rfl,hb5⟩;have L3:=kp (L1.out.on hb5);clear hb5 L1 K1 e0 e1 ef;go_upto_region 6 with fail
   have L4:=kp (L3.out.on ((brq w5).alloc nlq (.cells #[.string nm,.int .i64 1,.int .i64 0,.int .i64 1,.string gt] 54)));have K4:=kp (Bk.new w5 (.cells #[.string nm,.int .i64 1,.int .i64 0,.int .i64 1,.string gt] 54));generalize w5.alloc (.cells #[.string nm,.int .i64 1,.int .i64 0,.int .i64 1,.string gt] 54)=w6 at *;generalize w5.heap.size=sb at *;obtain ⟨s0,s1,s2,s3,s4,sf⟩:=Bk.c5 K4.out;have hnz:nm.size=1:=by rw [HN.out];rfl
   go_quiet ((go_at_call 18;first | exact quiet_same (itoa_0 _) | exact quiet_same (itoa_1 _)))
   generalize hl0:nm ++ ({ data:=#[32] }:ByteArray) ++ ({ data:=#[48] }:ByteArray) ++ ({ data:=#[47] }:ByteArray) ++ ({ data:=#[49] }:ByteArray)=l0;have HL0:=kp (show l0=⟨#[98,32,48,47,49]⟩ by rw [← hl0,HN.out];kernel_rfl);clear hl0 hnz;have hls0:l0.size=5:=by rw [HL0.out];rfl
   have hgs:gt.size=12:=by rw [HG.out];rfl
   have L5:=kp (L4.out.on (drewN_at (Below.refl _ _) nq));have K5:=kp (show(w6.drewN nq).heap[sb]?=_ from K4.out);generalize w6.drewN nq=w7' at *;clear s0 s1 s2 s3 s4 sf K4 L4;obtain ⟨s0,s1,s2,s3,s4,sf⟩:=Bk.c5 K5.out;go_wp2_with fail
   go_quiet ((go_at_call 18;exact quiet_same (itoa_1 _)))
   generalize hln:l0 ++ (({ data:=#[32,97,116,32] }:ByteArray) ++ ({ data:=#[49] }:ByteArray) ++ ({ data:=#[58,32] }:ByteArray) ++ gt)=ln;have HL:=kp (show ln=⟨#[98,32,48,47,49,32,97,116,32,49,58,32,40,101,114,114,111,114,32,34,53,48,34,41]⟩ by rw [← hln,HL0.out,HG.out];kernel_rfl);clear hln hls0 hgs HL0 HG;have hls:ln.size=24:=by rw [HL.out];rfl
   have HRp:=kp (fun W=>replaceAll_none ln (by rw [HL.out];kernel_rfl) W);have L9:=kp (L5.out.on (drewN_at (Below.refl _ _) nq));generalize w7'.drewN nq=w7 at *;clear s0 s1 s2 s3 s4 sf K5 L5;go_wp2_with fail
   refine(HRp.out _).mono ?_;rintro e w8 ⟨rfl,hb8⟩;have L6:=kp (L9.out.on hb8);have hz8:=L6.out.bld.lt;clear L9 hb8 HRp;have HW:=kp (Bd.wstr_any w.heap.size w.heap.size repA (ln ++ { data:=#[10] }) w8 L6.out.bld (Nat.le_trans (Nat.le_of_eq (show repA.length+(ln ++ ({ data:=#[10] }:ByteArray)).size=31 by rw [ByteArray.size_append,hls];rfl)) (by decide)) (by omega));go_wp2_with fail
   refine HW.out.mono ?_;rintro e w9 ⟨rfl,h1,h2,h3⟩;have L7:=kp (show RpL w w9 (repA ++ repB) (some ⟨gp,0,none⟩) cp from L6.out.wrote (by rw [show repA ++ repB=repA ++ Lx.bs (ln ++ ({ data:=#[10] }:ByteArray)) by rw [HL.out];kernel_rfl];exact h1) h2 h3);clear h1 h2 h3 L6 HW HL;go_wp2_with fail
   go_roundw
   case rel=>exact .inr (.inr ⟨rfl,L7.out⟩)
   case measure=>decide
  ·have L0:=kp hl;clear hl;have HS:=kp (Bd.bstring_any w.heap.size w.heap.size (repA ++ repB) wr L0.out.bld (by decide));go_wp2_with fail
   refine HS.out.mono ?_;rintro e w9 ⟨rfl,hb⟩;have B9:=kp (L0.out.below.trans hb);clear hb HS L0;go_wp2_with fail
   go_ret;exact⟨rfl,B9.out⟩
end Bn
namespace Bn
open Go Go.RowKit Dt Dr
theorem rep_lit:(⟨(repA ++ repB).toArray⟩:ByteArray)=⟨#[97,32,50,47,50,10,98,32,48,47,49,32,97,116,32,49,58,32,40,101,114,114,111,114,32,34,53,48,34,41,10]⟩:=rfl
theorem wakes32_any {T:Lib.PrintTabs} (w:World) (hT:LaidOk T w):Calls Tryz.prog 4 #[] w fun e w'=>e=.returned (.bool true)/\Below w.heap.size w w':=by
 have HT:=kp hT;clear hT
 go_enter Tryz.func4,Tryz.ntmps4
 go_wp2_with fail
 refine(show Calls Tryz.prog 7 #[.string twoB] w _ from probs_two w).mono ?_;rintro e w2 ⟨Ap,cp,rfl,hp,hb2⟩;obtain ⟨gp,hgp,_,hgl,hce⟩:=hp.cell valP_len (by decide);have e2:w2.cell? ⟨gp,2,none⟩=some (.string ⟨#[98]⟩):=(hce 1 ([98],tB) rfl 0 _ rfl).1;have e1:w2.cell? ⟨gp,1,none⟩=some (.string bA):=(hce 0 ([97],tA) rfl 1 _ rfl).1;obtain ⟨t,ht⟩:∃ t:ByteArray,t=bA:=⟨_,rfl⟩;rw [← ht] at e1;have f0:∀ j,w2.frozen? ⟨gp,j,none⟩=false:=frz hp hgp;subst hgp;have B2:=kp hb2;have P2:=kp hp;have HX:=kp (fun W=>show Calls Tryz.prog 9 #[.string t] W _ by rw [ht];exact expsA W);have HR:=kp (show Calls Tryz.prog 8 #[.string twoB] w2 _ from report_two w2 (HT.out.on hb2));clear hb2 hp hce ht;go_wp2_with fail
 refine HR.out.mono ?_;rintro e w3 ⟨rfl,hb3⟩;rw [rep_lit];have B3:=kp (B2.out.trans (hb3.mono B2.out.size));have c1:=(hb3.cell (p:=⟨gp,1,none⟩) hgl).trans e1;have f1:∀ j,w3.frozen? ⟨gp,j,none⟩=false:=fun j=>(hb3.frozen (p:=⟨gp,j,none⟩) hgl).trans (f0 j);clear hb3 HR e1 e2 f0;go_wp2_with fail
 refine(HX.out _).mono ?_;rintro e w4 ⟨A,c,rfl,_,hb4⟩;have B4:=kp (B3.out.trans (hb4.mono B3.out.size));clear hb4 HX c1 f1;go_wp2_with fail
 go_ret;exact⟨rfl,B4.out⟩
theorem meets_all {T:Lib.PrintTabs} (k n:Int) (hk:-128<=k/\k<=127) (hn:I64 n) (t:ByteArray) (rs:List ByteArray) (A:Option Addr) (c:Nat) (w:World) (h:Lies 1 StrR w A rs) (hl:(rs.length:Int)<=140737488355328) (hT:LaidOk T w) :
  Calls Tryz.prog 3 #[.agg #[.int .i8 k,.int .i64 n,.string t],.slice A rs.length c] w fun e w'=>e=.returned (.bool true)/\Below w.heap.size w w':=by
 have HT:=kp hT;have X1:=kp (Bk.new w (.cells #[.int .i8 k,.int .i64 n,.string t] 24));have B1:=kp ((brq w).alloc nlq (.cells #[.int .i8 k,.int .i64 n,.string t] 24));have R1:=kp (h.on StrR.lasts B1.out);have HN:=kp hn;have HK:=kp hk;clear hT h hn hk
 go_enter Tryz.func3,Tryz.ntmps3
 go_upto_region 1 with fail
 generalize w.alloc (.cells #[.int .i8 k,.int .i64 n,.string t] 24)=w1 at *;go_wp2_with fail
 go_loopw [5,6] (fun o a wr=>∃ (S:Int) (i:Nat),o=.int .i64 S/\a=.int .i64 i/\i<=rs.length/\i<=3000/\(rs.length:Int)<=S/\S<=rs.length+i * 140737488351232/\wr=w1) (fun _ a _=>rs.length - (intOf a).toNat)
 case atStart=>exact⟨rs.length,0,rfl,rfl,by omega,by omega,by omega,by omega,rfl⟩
 case round =>
  obtain ⟨S,i,rfl,rfl,hi,h3,hS1,hS2,rfl⟩:=hrel
  by_cases hlt:i < rs.length/\i < 3000
  ·obtain ⟨b,o,hA,hc,hsz⟩:=row_at R1.out hlt.1;subst hA;obtain ⟨hlt1,hlt2⟩:=hlt;generalize rs[i]=x at *;have hb1:¬ 9223372036854775807 < S+(x.size:Int):=by omega
   go_wp2_with fail
   go_roundw
   case rel=>exact⟨S+x.size,i+1,rfl,rfl,by omega,by omega,by omega,by omega,trivial⟩
   case measure=>simp [intOf];omega
  ·by_cases hbig:2000 < S
   ·have HW:=kp (wakes32_any wr (HT.out.on B1.out))
    by_cases hi1:i < rs.length
    ·have hi2:¬ i < 3000:=fun h=>hlt ⟨hi1,h⟩;go_wp2_with fail
     refine HW.out.mono ?_;rintro e w9 ⟨rfl,hb⟩;have B9:=kp (B1.out.trans (hb.mono B1.out.size));clear hb;go_wp2_with fail
     go_ret;exact⟨rfl,B9.out⟩
    ·go_wp2_with fail
     refine HW.out.mono ?_;rintro e w9 ⟨rfl,hb⟩;have B9:=kp (B1.out.trans (hb.mono B1.out.size));clear hb;go_wp2_with fail
     go_ret;exact⟨rfl,B9.out⟩
   ·have hi1:¬ i < rs.length:=fun h=>hlt ⟨h,by omega⟩;obtain ⟨x0,x1,x2,xf⟩:=Bk.c3 X1.out;go_upto_region 9 with fail
    have X4:=kp (Bk.keep X1.out (.cells #[.int .i8 0,.int .i64 n,.string t] 24));have Y4:=kp (Bk.new wr (.cells #[.int .i8 0,.int .i64 n,.string t] 24));have B4:=kp (B1.out.alloc B1.out.size (.cells #[.int .i8 0,.int .i64 n,.string t] 24));have R4:=kp (R1.out.on StrR.lasts ((brq wr).alloc nlq (.cells #[.int .i8 0,.int .i64 n,.string t] 24)));generalize wr.alloc (.cells #[.int .i8 0,.int .i64 n,.string t] 24)=w4 at *;generalize wr.heap.size=b0 at *;clear x0 x1 x2 xf X1 B1 R1;obtain ⟨x0,x1,x2,xf⟩:=Bk.c3 X4.out;go_upto_region 10 with fail
    have X5:=kp (Bk.keep X4.out (.cells #[.int .i8 1,.int .i64 n,.string t] 24));have Y5:=kp (Bk.keep Y4.out (.cells #[.int .i8 1,.int .i64 n,.string t] 24));have Z5:=kp (Bk.new w4 (.cells #[.int .i8 1,.int .i64 n,.string t] 24));have B5:=kp (B4.out.alloc B4.out.size (.cells #[.int .i8 1,.int .i64 n,.string t] 24));have R5:=kp (R4.out.on StrR.lasts ((brq w4).alloc nlq (.cells #[.int .i8 1,.int .i64 n,.string t] 24)));generalize w4.alloc (.cells #[.int .i8 1,.int .i64 n,.string t] 24)=w5 at *;generalize w4.heap.size=b1 at *;clear x0 x1 x2 xf X4 Y4 B4 R4;obtain ⟨x0,x1,x2,_⟩:=Bk.c3 X5.out;obtain ⟨y0,y1,y2,_⟩:=Bk.c3 Y5.out;obtain ⟨z0,z1,z2,_⟩:=Bk.c3 Z5.out;have hxor:=metI_not n (Lx.bs t) (rs.map Lx.bs);rw [List.length_map] at hxor;have hl5:(rs.length:Int)<=1000000000000:=by omega
    have HW:=kp (fun d os=>Calls.regrown_of (w:=w5) (d:=d) (os:=os) (wakes32_any _ (HT.out.on (B5.out.trans ((below_regrown w5 d os).mono B5.out.size)))));have HA:=kp (fun d os=>Calls.regrown_of (w:=w5) (d:=d) (os:=os) (met_any k n HK.out HN.out t rs A c _ (R5.out.on StrR.lasts (below_regrown w5 d os)) hl5));have HR:=kp (fun d os=>Calls.regrown_of (w:=w5) (d:=d) (os:=os) (rmet_any k n HK.out HN.out t rs A c _ (R5.out.on StrR.lasts (below_regrown w5 d os)) hl5));have H0:=kp (fun d os=>Calls.regrown_of (w:=w5) (d:=d) (os:=os) (met_any 0 n ⟨by decide,by decide⟩ HN.out t rs A c _ (R5.out.on StrR.lasts (below_regrown w5 d os)) hl5));have H1:=kp (fun d os=>Calls.regrown_of (w:=w5) (d:=d) (os:=os) (met_any 1 n ⟨by decide,by decide⟩ HN.out t rs A c _ (R5.out.on StrR.lasts (below_regrown w5 d os)) hl5));generalize metI k n (Lx.bs t) (rs.map Lx.bs)=m at *;generalize metI 0 n (Lx.bs t) (rs.map Lx.bs)=m0 at *;generalize metI 1 n (Lx.bs t) (rs.map Lx.bs)=m1 at *;have qx:=fun d os=>And.intro (cell_regrown x0 d os) (And.intro (cell_regrown x1 d os) (cell_regrown x2 d os));have qy:=fun d os=>And.intro (cell_regrown y0 d os) (And.intro (cell_regrown y1 d os) (cell_regrown y2 d os));have qz:=fun d os=>And.intro (cell_regrown z0 d os) (And.intro (cell_regrown z1 d os) (cell_regrown z2 d os));have HX:=kp hxor;clear hxor
    by_cases hn1:1<=n
    ·by_cases hn2:n<=rs.length
     ·have hq:(m0 != m1)=true:=by rw [HX.out];exact decide_eq_true ⟨hn1,hn2⟩
      clear HX
      cases m <;> cases m0 <;> cases m1 <;> first | (exact absurd hq (by decide)) | skip
      all_goals
       clear hq;go_upto_region 11 with fail
       refine wp_region_quiet_below (by kernel_rfl) (by kernel_rfl) ?_
       repeat (go_big_quiet_step (first | with_reducible exact HA.out _ _ | with_reducible exact HR.out _ _ | with_reducible exact H0.out _ _ | with_reducible exact H1.out _ _ | with_reducible exact HW.out _ _))
       refine wpQuiet_nil ?_;intro _ hw';obtain ⟨⟨dq,osq⟩,hw''⟩:=hw';subst hw'';go_wp2_with fail
       go_ret;exact⟨rfl,B5.out.trans ((below_regrown w5 dq osq).mono B5.out.size)⟩
     ·have hq:(m0 != m1)=false:=by rw [HX.out];exact dfq (fun h=>hn2 h.2)
      clear HX
      cases m <;> cases m0 <;> cases m1 <;> first | (exact absurd hq (by decide)) | skip
      all_goals
       clear hq;go_upto_region 11 with fail
       refine wp_region_quiet_below (by kernel_rfl) (by kernel_rfl) ?_
       repeat (go_big_quiet_step (first | with_reducible exact HA.out _ _ | with_reducible exact HR.out _ _ | with_reducible exact H0.out _ _ | with_reducible exact H1.out _ _ | with_reducible exact HW.out _ _))
       refine wpQuiet_nil ?_;intro _ hw';obtain ⟨⟨dq,osq⟩,hw''⟩:=hw';subst hw'';go_wp2_with fail
       go_ret;exact⟨rfl,B5.out.trans ((below_regrown w5 dq osq).mono B5.out.size)⟩
    ·have hq:(m0 != m1)=false:=by rw [HX.out];exact dfq (fun h=>hn1 h.1)
     clear HX
     cases m <;> cases m0 <;> cases m1 <;> first | (exact absurd hq (by decide)) | skip
     all_goals
      clear hq;go_upto_region 11 with fail
      refine wp_region_quiet_below (by kernel_rfl) (by kernel_rfl) ?_
      repeat (go_big_quiet_step (first | with_reducible exact HA.out _ _ | with_reducible exact HR.out _ _ | with_reducible exact H0.out _ _ | with_reducible exact H1.out _ _ | with_reducible exact HW.out _ _))
      refine wpQuiet_nil ?_;intro _ hw';obtain ⟨⟨dq,osq⟩,hw''⟩:=hw';subst hw'';go_wp2_with fail
      go_ret;exact⟨rfl,B5.out.trans ((below_regrown w5 dq osq).mono B5.out.size)⟩
theorem i8_bounds {k:Int} (h:(Lit.int .i8 k).wf=true):-128<=k/\k<=127:=by
 have h2:(decide (-128<=k) && decide (k<=127))=true:=h
 simpa using h2
theorem meets_card {w:World} (k n:Int) (t:ByteArray) (rs:List ByteArray) (A:Option Addr) (c:Nat) (hk:(Lit.int .i8 k).wf=true) (hn:I64 n) (h:Lies 1 StrR w A rs) (_:rs.length<=c) (hm:rs.length<=140737488355328) {T:Lib.PrintTabs} (hT:LaidOk T w) :
  Calls Tryz.prog 3 #[.agg #[.int .i8 k,.int .i64 n,.string t],.slice A rs.length c] w fun e w'=>e=.returned (.bool true)/\Below w.heap.size w w' :=
 meets_all k n (i8_bounds hk) hn t rs A c w h (by omega) hT
end Bn
namespace benchMeets
open Go.RowKit Go.ChangeShapes Go.WideShapes Go.ChangeAt Go.WideMaps Go.WideElems
open Go.ChangeMaps (setBlock shut_map_nil open_string shut_string keptBut_setBlock frozen?_setBlock heap_setBlock_same)
theorem gTabType:(Tryz.prog.globals[3]?).map (·.type)=some 224:=by kernel_rfl
theorem cellsTab:Tryz.prog.cellsOf 224=20:=by kernel_rfl
theorem cellsU64:Tryz.prog.cellsOf 145=1:=by kernel_rfl
theorem tabOk {W:World} (h:laidMetH Tryz.prog Rows.benchMeetsRow.laid W):TabOk W:=by
 have h2 := h.filter (fun x => x.1 == "internal/strconv.uint64pow10"); rw [MakeChecks.laidMetH_plain _ _ _ (by kernel_rfl)] at h2; exact Lib.tabIs_of_head (rest := []) gTab gTabType Tryz.underlying224 Tryz.underlying145 cellsU64 cellsTab h2
theorem accept_eq:(Rows.laid_unicode_utf8_acceptRanges:DataW Unit)=Lib.acceptData:=by kernel_rfl
theorem laidOk {W:World} (h:laidMetH Tryz.prog Rows.benchMeetsRow.laid W):Dr.LaidOk Lib.goPrintTabs W:=by
 have h2:=laid_plain.1 h;refine⟨tabOk h,?_,?_⟩
 ·exact printTabs_of_reads (ρ:=Tryz.lays339_ren) Tryz.lays339 ⟨by kernel_rfl,by kernel_rfl,by kernel_rfl,by kernel_rfl,by kernel_rfl,by kernel_rfl,by kernel_rfl,by kernel_rfl,by kernel_rfl,by kernel_rfl⟩
   (Pinned.isPrint16_eq ▸ Lib.laidMet.reads h2 (.tail _ (.tail _ (.tail _ (.tail _ (.tail _ (.head _))))))) (Pinned.isNotPrint16_eq ▸ Lib.laidMet.reads h2 (.tail _ (.tail _ (.tail _ (.tail _ (.tail _ (.tail _ (.head _)))))))) (Pinned.isPrint32_eq ▸ Lib.laidMet.reads h2 (.tail _ (.tail _ (.tail _ (.tail _ (.tail _ (.tail _ (.tail _ (.head _))))))))) (Pinned.isNotPrint32_eq ▸ Lib.laidMet.reads h2 (.tail _ (.tail _ (.tail _ (.tail _ (.tail _ (.tail _ (.tail _ (.tail _ (.head _))))))))))
 ·exact utf8Tabs_of_reads (ρ:=Tryz.lays260_ren) Tryz.lays260 ⟨by kernel_rfl,by kernel_rfl,by kernel_rfl,by kernel_rfl,by kernel_rfl,by kernel_rfl,by kernel_rfl⟩ (Pinned.utf8First_eq ▸ Lib.laidMet.reads h2 (.head _)) (accept_eq ▸ Lib.laidMet.reads h2 (.tail _ (.head _)))
theorem cellsInt:Tryz.prog.cellsOf 3=1:=by kernel_rfl
theorem contract (H:Type) (enc:TypeId × Value->H) (W:World) (base:Nat) (args:Array Value) (ds gs:List (DataW H)) (before:List MemPlace)
  (hval:∀ (j:Nat) t v,Tryz.f3.params[j]?=some t->args[j]?=some v->Value.okWide Tryz.prog W .any base t v)
  (hW:DataW.Whole enc Tryz.prog Tryz.f3.params.toList Rows.benchMeetsSpec.vars false W args.toList ds gs before) (hR:(DataW.weightsEach Tryz.prog (Tryz.f3.params.toList ++ Rows.benchMeetsSpec.plain.varTypes Tryz.prog) (ds ++ gs)).all (·<=reachBytes)=true) (hL:laidMetH Tryz.prog Rows.benchMeetsRow.laid W) :
  Calls Tryz.prog 3 args W fun e W'=>∃ v,e=.returned v/\Rows.benchMeetsSpec.post enc Tryz.prog Tryz.f3 false true false false W args v W':=by
 have hW':=hW;obtain ⟨p,q,hA0,hV,rfl,hfz,hnd⟩:=hW;have hA:DataW.TrodAll enc Tryz.prog W 0 (fun _=>true) true Tryz.f3.params.toList args.toList ds p:=hA0;have hfit:∀ (j:Nat) t d,Tryz.f3.params.toList[j]?=some t->ds[j]?=some d->Fits Tryz.prog t d:=fun j t d h1 h2=>fits_each (fun m hm=>of_decide_eq_true (List.all_eq_true.1 hR m hm)) j t d (by rw [List.getElem?_append_left (gqs h1).1];exact h1) (by rw [List.getElem?_append_left (gqs h2).1];exact h2);rw [Tryz.params3] at hfit;rw [Tryz.params3] at hA hval;obtain ⟨v0,vs0,d0,ds0,p0,q0,hargs,rfl,rfl,h0,r0⟩:=trodAll_cons hA;obtain ⟨v1,vs1,d1,ds1,p1,q1,rfl,rfl,rfl,h1,r1⟩:=trodAll_cons r0;obtain ⟨rfl,rfl,rfl⟩:=trodAll_nil r1;obtain rfl:args=#[v0,v1]:=by cases args;simp_all
 obtain ⟨k0,n0,t0,rfl,hk0,hn0⟩:=Dt.open_expect (hval 0 24 v0 rfl rfl) h0 (hfit 0 24 d0 rfl rfl);obtain ⟨A1,c1,xs1,rfl,hl1,hc1,hm1⟩:=Dt.open_strs (hval 1 25 v1 rfl rfl) h1 (hfit 1 25 d1 rfl rfl);refine(Bn.meets_card (w:=W) k0 n0 t0 xs1 A1 c1 hk0 hn0 hl1 hc1 hm1 (laidOk hL)).mono fun e W' ⟨he,hb⟩=>⟨_,he,?_⟩;exact law_post laidOut (by kernel_rfl) rfl Tryz.underlying4 rfl rfl hW' hb
theorem lifted (os:Os) (started:os.Started) (H:Type) (enc:TypeId × Value->H) (F:Stop.Interp) :
  ReturnsInHanded {} Tryz.checked os 3 .any ((OpenSpec.ofChange Rows.benchMeetsSpec).preRow enc Tryz.prog Tryz.f3 Rows.benchMeetsRow.domain false Rows.benchMeetsRow.laid) (((OpenSpec.ofChange Rows.benchMeetsSpec).at F).post enc Tryz.prog Tryz.f3 false true false false):=by
 obtain ⟨places,hx⟩:=reads os enc
 refine returnsInHanded_of_row (C:=Tryz.checked) (s:=OpenSpec.ofChange Rows.benchMeetsSpec) own started s4 Tryz.func3
  (witness_row_atRef (enc:=enc) (C:=Tryz.checked) false (laidWorld os) #[.agg #[.int .i8 0,.int .i64 0,.string ⟨#[]⟩],.slice none 0 0] rfl (s1 os) (s2 os) (s3 os)
   (OpenSpec.preRow_of_cond 8 hx (by kernel_rfl) (fun k hk=>by cases hk) (by kernel_rfl) (laid_met os))) ?_
 intro W base args ds gs before hval hW _ _ hR hL _ _;exact contract H enc W base args ds gs before hval hW hR hL
theorem said:Rows.BenchMeetsSaid :=
 OpenClaim.holds_of_cond 3 Tryz.f3 rfl rfl rfl rfl rfl rfl rfl ⟨rfl,rfl,rfl,rfl,rfl⟩ rfl rfl rfl rfl rfl s5 Tryz.func3 c1 c2 c3
  (fun os started H enc _ F=>by rw [OpenClaim.pre_eq_preRow];exact lifted os started H enc F)
theorem plain (f : FuncId) (fn : Func) (hf : Tryz.pinned.checked.prog.funcNamed "gantry/gantrylaw32.BenchMeets" = some f) (hfn : Tryz.pinned.checked.prog.funcs[f]? = some fn) :
  false=Tryz.pinned.checked.prog.looks []/\∀ (j:Nat) t,fn.params[j]?=some t->Tryz.pinned.checked.prog.wantsStandIn t=false:=by
 obtain rfl:f=3:=Option.some.inj (s5.symm.trans hf) |>.symm;obtain rfl:fn=Tryz.f3:=(Option.some.inj (Tryz.func3.symm.trans hfn)).symm;refine⟨c7,fun j t ht=>?_⟩;have hm:=Array.mem_of_getElem? ht;have hall:=c8;exact(show Tryz.prog.wantsStandIn t=false by simpa using List.all_eq_true.1 hall t (by simpa using hm))
theorem card:Rows.BenchMeetsCardSaid :=
 Claim7.holds_tied_plain_at .later [] _ _ _ _ said (fun _ h=>by cases h) c4 (fun _ h=>by cases h) BnTie.row_tie rfl ⟨rfl,rfl⟩ c5 rfl plain c6
end benchMeets
end Go.Proofs.YtmcbolkpbklfeaaGreatDoor

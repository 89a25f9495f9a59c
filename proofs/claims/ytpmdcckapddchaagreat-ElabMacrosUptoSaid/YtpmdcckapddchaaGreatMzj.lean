import Derived.Test.YtpmdcckapddchaaGreatShort
import Derived.Test.YtpmdcckapddchaaGreatMzi
import Derived.Test.YtpmdcckapddchaaGreatMu
import Derived.Test.YtpmdcckapddchaaGreatMs
import Derived.Test.YtpmdcckapddchaaGreatMx
/- merged by wip/merge.py from: ElFits Law7Fits -/
/- Fits: whether a macro fits. -/
namespace Go.Proofs.YtpmdcckapddchaaGreat.El
open Go.RowKit Go.Maps Go.Proofs.YtpmdcckapddchaaGreat.Dt Go.Proofs.YtpmdcckapddchaaGreat.Sg
set_option maxHeartbeats 3200000 in
theorem fits_any {w:World} {A1 A2 A3:Option Addr} {c1 c2 c3:Nat} {g:Sig} (h:SigAt w A1 c1 A2 c2 A3 c3 g) (hl1:g.sorts.length≤1000000) (hl2:g.funs.length≤1000000) (hl3:g.macros.length≤1000000) (hM:∀ m ∈ g.macros,m.body.full≤3000000)
  {m:Macro} {Ap Ab:Option Addr} {cp cb:Nat} (hp:Lies 2 ParamR w Ap m.params) (hpl:m.params.length≤1000000) (hb:XAt w Ab cb m.body) (hf:m.body.full≤3000000) :
  Calls Tryz.prog 16 #[.agg #[.slice A1 g.sorts.length c1,.slice A2 g.funs.length c2,.slice A3 g.macros.length c3],.agg #[.string m.name,.slice Ap m.params.length cp,.int .i64 m.res,.int .i8 m.body.kind,.string m.body.text,.slice Ab m.body.l.length cb]] w fun e w'=>e=.returned (.int .i64 (fitsO g m))∧Below w.heap.size w w':=by
 have HF:=kp (show fitsO g m=if(sortO g (envOf m.params) m.body).2=0∧(sortO g (envOf m.params) m.body).1≠m.res then 33 else(sortO g (envOf m.params) m.body).2 from rfl);have HS:=kp (fun W (hW:Below w.heap.size w W)=>sort_any (h.on hW) hl1 hl2 hl3 hM cp (hp.on ParamR.lasts hW) hpl (hb.on hW) hf);have B2:=kp (((Below.refl w.heap.size w).alloc (Nat.le_refl _) (.cells #[.slice A1 g.sorts.length c1,.slice A2 g.funs.length c2,.slice A3 g.macros.length c3] 26)).alloc (by simp) (.cells #[.string m.name,.slice Ap m.params.length cp,.int .i64 m.res,.int .i8 m.body.kind,.string m.body.text,.slice Ab m.body.l.length cb] 47));have S2:=kp (Bk.keep (Bk.new w (.cells #[.slice A1 g.sorts.length c1,.slice A2 g.funs.length c2,.slice A3 g.macros.length c3] 26)) (.cells #[.string m.name,.slice Ap m.params.length cp,.int .i64 m.res,.int .i8 m.body.kind,.string m.body.text,.slice Ab m.body.l.length cb] 47))
 have M2:=kp (show((w.alloc (.cells #[.slice A1 g.sorts.length c1,.slice A2 g.funs.length c2,.slice A3 g.macros.length c3] 26)).alloc (.cells #[.string m.name,.slice Ap m.params.length cp,.int .i64 m.res,.int .i8 m.body.kind,.string m.body.text,.slice Ab m.body.l.length cb] 47)).heap[w.heap.size+1]?=some (.cells #[.string m.name,.slice Ap m.params.length cp,.int .i64 m.res,.int .i8 m.body.kind,.string m.body.text,.slice Ab m.body.l.length cb] 47 (0,0)) by
  have h:=Bk.new (w.alloc (.cells #[.slice A1 g.sorts.length c1,.slice A2 g.funs.length c2,.slice A3 g.macros.length c3] 26)) (.cells #[.string m.name,.slice Ap m.params.length cp,.int .i64 m.res,.int .i8 m.body.kind,.string m.body.text,.slice Ab m.body.l.length cb] 47)
  simpa using h)
 clear h hp hb hM;generalize fitsO g m=fo at *;generalize sortO g (envOf m.params) m.body=so at *;obtain ⟨s,e0⟩:=so
 go_enter Tryz.func16,Tryz.ntmps16
 go_upto_region 1 with fail
 generalize (w.alloc (.cells #[.slice A1 g.sorts.length c1,.slice A2 g.funs.length c2,.slice A3 g.macros.length c3] 26)).alloc (.cells #[.string m.name,.slice Ap m.params.length cp,.int .i64 m.res,.int .i8 m.body.kind,.string m.body.text,.slice Ab m.body.l.length cb] 47)=w2 at *;obtain ⟨s0,s1,s2,sf⟩:=Bk.c3 S2.out;obtain ⟨m0,m1,m2,m3,m4,m5,mf⟩:=Bk.c6 M2.out;go_wp2_with fail
 refine(HS.out w2 B2.out).mono ?_;rintro e w3 ⟨rfl,hb3⟩;have B3:=kp (B2.out.trans (hb3.mono B2.out.size));have M3:=kp (Bk.on M2.out hb3);clear hb3 s0 s1 s2 sf m0 m1 m2 m3 m4 m5 mf;obtain ⟨m0,m1,m2,m3,m4,m5,mf⟩:=Bk.c6 M3.out
 by_cases he:e0=0
 ·have he':(e0 == 0)=true:=by simp [he]
  by_cases hr:s=m.res
  ·have hr':(s != m.res)=false:=by simp [hr]
   have HE:=kp (HF.out.trans (if_neg (fun h=>h.2 hr)));clear he hr;go_wp2_with fail
   go_ret;exact⟨ret_int HE.out.symm,B3.out⟩
  ·have hr':(s != m.res)=true:=by simp [hr]
   have HE:=kp (HF.out.trans (if_pos ⟨he,hr⟩));clear he hr;go_wp2_with fail
   go_ret;exact⟨ret_int HE.out.symm,B3.out⟩
 ·have he':(e0 == 0)=false:=by simp [he]
  have HE:=kp (HF.out.trans (if_neg (fun h=>he h.1)));clear he;go_wp2_with fail
  go_ret;exact⟨ret_int HE.out.symm,B3.out⟩
end Go.Proofs.YtpmdcckapddchaaGreat.El
/- The law's fits: does each macro of a signature fit, those ahead of it being known? -/
namespace Go.Proofs.YtpmdcckapddchaaGreat.El
open Go.RowKit Go.Proofs.YtpmdcckapddchaaGreat.Dt Go.Proofs.YtpmdcckapddchaaGreat.Sg
def fitsAt (g:Sig) (i:Nat):Bool:=decide (checkE g=0) && decide (checkE (cutG g i)=0) && (match g.macros[i]? with
 | some m=>decide (fitsO (cutG g i) m=0)
 | none=>true)
theorem fitsB_stop {g:Sig} {k:Nat} (hk:k < g.macros.length) (h:fitsAt g k=false):fitsB g=false:=by
 unfold fitsB;rw [List.all_eq_false];exact⟨k,List.mem_range.2 hk,by show ¬ fitsAt g k=true;rw [h];decide⟩
theorem fitsB_all {g:Sig} (h:∀ k,k < g.macros.length→fitsAt g k=true):fitsB g=true:=by
 unfold fitsB;rw [List.all_eq_true];exact fun k hk=>h k (List.mem_range.1 hk)
theorem mac_cells {w:World} {A:Option Addr} {l:List Macro} (h:Lies 6 MacroR w A l) {k:Nat} {m:Macro} (hm:l[k]?=some m) :
  ∃ b o Ap cp Ab cb,A=some ⟨b,o,none⟩∧b < w.heap.size∧(w.cell? ⟨b,o+k * 6,none⟩=some (.string m.name)∧w.cell? ⟨b,o+k * 6+1,none⟩=some (.slice Ap m.params.length cp)∧w.cell? ⟨b,o+k * 6+2,none⟩=some (.int .i64 m.res)∧w.cell? ⟨b,o+k * 6+3,none⟩=some (.int .i8 m.body.kind)∧w.cell? ⟨b,o+k * 6+4,none⟩=some (.string m.body.text)∧w.cell? ⟨b,o+k * 6+5,none⟩=some (.slice Ab m.body.l.length cb)) ∧
   Lies 2 ParamR w Ap m.params∧XAt w Ab cb m.body:=by
 obtain ⟨b,o,vs,rfl,hbl,_,hcell,Ap,cp,bv,rfl,hsx,hps,_⟩:=h.at' hm;obtain ⟨Ab,cb,rfl,_⟩:=hsx.open';exact⟨b,o,Ap,cp,Ab,cb,rfl,hbl,⟨hcell 0 _ rfl,hcell 1 _ rfl,hcell 2 _ rfl,hcell 3 _ rfl,hcell 4 _ rfl,hcell 5 _ rfl⟩,hps,hsx⟩
set_option maxRecDepth 100000 in
set_option maxHeartbeats 12800000 in
theorem lfits_any {w:World} {A1 A2 A3:Option Addr} {c1 c2 c3:Nat} {g:Sig} (h:SigAt w A1 c1 A2 c2 A3 c3 g) (hl1:g.sorts.length≤1000000) (hl2:g.funs.length≤1000000) (hl3:g.macros.length≤1000000) (hM:∀ m ∈ g.macros,m.body.full≤3000000) (hP:∀ m ∈ g.macros,m.params.length≤1000000) :
  Calls Tryz.prog 19 #[.agg #[.slice A1 g.sorts.length c1,.slice A2 g.funs.length c2,.slice A3 g.macros.length c3]] w fun e w'=>e=.returned (.bool (fitsB g))∧Below w.heap.size w w':=by
 have B1:=kp ((Below.refl w.heap.size w).alloc (Nat.le_refl _) (.cells #[.slice A1 g.sorts.length c1,.slice A2 g.funs.length c2,.slice A3 g.macros.length c3] 26));have S1:=kp (Bk.new w (.cells #[.slice A1 g.sorts.length c1,.slice A2 g.funs.length c2,.slice A3 g.macros.length c3] 26));have G1:=kp (h.on B1.out);have HCut:=kp (fun W (hW:SigAt W A1 c1 A2 c2 A3 c3 g) k (hk:k≤g.macros.length)=>cut_any hW hl1 hl2 hl3 k hk);unfold CutPost at HCut
 have HFit:=kp (fun W k m (hk:k≤g.macros.length) B1 d1 B2 d2 B3 d3 (hW:SigAt W B1 d1 B2 d2 B3 d3 (cutG g k)) Ap cp Ab cb (hm:m ∈ g.macros) (hp:Lies 2 ParamR W Ap m.params) (hb:XAt W Ab cb m.body)=>show Calls Tryz.prog 16 #[.agg #[.slice B1 g.sorts.length d1,.slice B2 g.funs.length d2,.slice B3 k d3],.agg #[.string m.name,.slice Ap m.params.length cp,.int .i64 m.res,.int .i8 m.body.kind,.string m.body.text,.slice Ab m.body.l.length cb]] W fun e w'=>e=.returned (.int .i64 (fitsO (cutG g k) m))∧Below W.heap.size W w' from by
  have:=fits_any hW hl1 hl2 (by rw [cut_len g hk];omega) (fun m' hm'=>hM m' (List.mem_of_mem_take hm')) (cp:=cp) hp (hP m hm) hb (hM m hm);rw [cut_len g hk] at this;exact this)
 have HSt:=kp (fun k hk h=>fitsB_stop (g:=g) (k:=k) hk h);have HAl:=kp (fun h=>fitsB_all (g:=g) h);have HAt:=kp (fun k m (hm:g.macros[k]?=some m)=>show fitsAt g k=(decide (checkE g=0) && decide (checkE (cutG g k)=0) && decide (fitsO (cutG g k) m=0)) by unfold fitsAt;rw [hm]);clear h;generalize fitsB g=fb at *
 go_enter Tryz.func19,Tryz.ntmps19
 go_upto_region 1 with fail
 generalize w.alloc (.cells #[.slice A1 g.sorts.length c1,.slice A2 g.funs.length c2,.slice A3 g.macros.length c3] 26)=w1 at *;obtain ⟨s0,s1,s2,sf⟩:=Bk.c3 S1.out;go_wp2_with fail
 clear s0 s1 s2 sf
 go_loopw [10] (fun v wr=>∃ k:Nat,k≤g.macros.length∧v=.int .i64 k∧(∀ i,i < k→fitsAt g i=true)∧Below w1.heap.size w1 wr) (fun v _=>g.macros.length - (intOf v).toNat)
 case atStart=>exact⟨0,Nat.zero_le _,rfl,fun i hi=>by omega,Below.refl _ _⟩
 case round =>
  obtain ⟨k,hk,rfl,hto,hb⟩:=hrel;have HTo:=kp hto;have HB:=kp hb;have HBw:=kp (B1.out.trans (hb.mono B1.out.size));have SR:=kp (Bk.on S1.out hb);have GR:=kp (G1.out.on hb);clear hto hb
  by_cases hlt:k < g.macros.length
  ·have hlt2:(k:Int) < (g.macros.length:Int):=by omega
   obtain ⟨m,hm⟩:∃ m,g.macros[k]?=some m:=⟨_,List.getElem?_eq_getElem hlt⟩;obtain ⟨b,o,Ap,cp,Ab,cb,hA,hbl,⟨q0,q1,q2,q3,q4,q5⟩,hps,hxb⟩:=mac_cells GR.out.macros hm;subst hA;have HMm:=kp (List.mem_of_getElem? hm);have HA:=kp (HAt.out k m hm);have HSk:=kp (HSt.out k hlt)
   have HTk:=kp (show fitsAt g k=true→∀ i,i < k+1→fitsAt g i=true from fun he i hi=>by
    by_cases h:i < k
    ·exact HTo.out i h
    ·obtain rfl:i=k:=by omega
     exact he)
   have HPs:=kp hps;have HXb:=kp hxb;have MB:=kp (Bk.new wr (.cells #[.string m.name,.slice Ap m.params.length cp,.int .i64 m.res,.int .i8 m.body.kind,.string m.body.text,.slice Ab m.body.l.length cb] 47));have BM:=kp (HB.out.alloc HB.out.size (.cells #[.string m.name,.slice Ap m.params.length cp,.int .i64 m.res,.int .i8 m.body.kind,.string m.body.text,.slice Ab m.body.l.length cb] 47));have LB:=kp ((Below.refl wr.heap.size wr).alloc (Nat.le_refl _) (.cells #[.string m.name,.slice Ap m.params.length cp,.int .i64 m.res,.int .i8 m.body.kind,.string m.body.text,.slice Ab m.body.l.length cb] 47));have SRm:=kp (Bk.on SR.out LB.out);have GRm:=kp (GR.out.on LB.out);have HPm:=kp (Lies.on ParamR.lasts HPs.out LB.out);have HXm:=kp (HXb.out.on LB.out);have hkl:k≤g.macros.length:=by omega
   clear hm hps hxb HTo HAt;generalize fitsAt g k=fk at *;go_upto_region 4 with fail
   generalize wr.heap.size=mb at *;generalize wr.alloc (.cells #[.string m.name,.slice Ap m.params.length cp,.int .i64 m.res,.int .i8 m.body.kind,.string m.body.text,.slice Ab m.body.l.length cb] 47)=wm at *;clear q0 q1 q2 q3 q4 q5;obtain ⟨s0,s1,s2,sf⟩:=Bk.c3 SRm.out;go_wp2_with fail
   refine(HCut.out _ GRm.out k hkl).mono ?_;rintro e w4 ⟨hcase,hb4⟩;have M4:=kp (Bk.on MB.out hb4);have B4:=kp (BM.out.trans (hb4.mono BM.out.size));have HP4:=kp (Lies.on ParamR.lasts HPm.out hb4);have HX4:=kp (HXm.out.on hb4);clear s0 s1 s2 sf hb4;rcases hcase with⟨hc0,hc1,D1,d1,D2,d2,D3,d3,rfl,hg4⟩ | ⟨hn,rfl⟩
   ·have HG4:=kp hg4;have HA2:=kp (show fk=decide (fitsO (cutG g k) m=0) by rw [HA.out,decide_eq_true hc0,decide_eq_true hc1];rfl);have L5:=kp ((Below.refl w4.heap.size w4).alloc (Nat.le_refl _) (.cells #[.slice D1 g.sorts.length d1,.slice D2 g.funs.length d2,.slice D3 k d3] 26));have M5:=kp (Bk.keep M4.out (.cells #[.slice D1 g.sorts.length d1,.slice D2 g.funs.length d2,.slice D3 k d3] 26));have Z5:=kp (Bk.new w4 (.cells #[.slice D1 g.sorts.length d1,.slice D2 g.funs.length d2,.slice D3 k d3] 26));have HF5:=kp (HFit.out _ k m hkl _ _ _ _ _ _ (hg4.on L5.out) Ap cp Ab cb HMm.out (Lies.on ParamR.lasts HP4.out L5.out) (HX4.out.on L5.out));have B5:=kp (B4.out.alloc B4.out.size (.cells #[.slice D1 g.sorts.length d1,.slice D2 g.funs.length d2,.slice D3 k d3] 26));clear hg4 hc0 hc1 L5;generalize fitsO (cutG g k) m=fo at *;go_upto_region 5 with fail
    generalize w4.heap.size=zb at *;generalize w4.alloc (.cells #[.slice D1 g.sorts.length d1,.slice D2 g.funs.length d2,.slice D3 k d3] 26)=w5 at *;obtain ⟨z0,z1,z2,zf⟩:=Bk.c3 Z5.out;obtain ⟨y0,y1,y2,y3,y4,y5,yf⟩:=Bk.c6 M5.out
    by_cases hz:fo=0
    ·have hz':(fo != 0)=false:=by simp [hz]
     have HTn:=kp (HTk.out (by rw [HA2.out,hz];rfl));clear hz;go_wp2_with fail
     refine HF5.out.mono ?_;rintro e w6 ⟨rfl,hb6⟩;have HB7:=kp (B5.out.trans (hb6.mono B5.out.size));clear hb6 z0 z1 z2 zf y0 y1 y2 y3 y4 y5 yf;go_wp2_with fail
     go_roundw
     ·exact⟨k+1,by omega,rfl,HTn.out,HB7.out⟩
     ·simp only [intOf];omega
    ·have hz':(fo != 0)=true:=by simp [hz]
     have HQ:=kp (show fb=false from HSk.out (by rw [HA2.out];exact decide_eq_false hz));clear hz;go_wp2_with fail
     refine HF5.out.mono ?_;rintro e w6 ⟨rfl,hb6⟩;have HB9:=kp (B1.out.trans ((B5.out.trans (hb6.mono B5.out.size)).mono B1.out.size));clear hb6 z0 z1 z2 zf y0 y1 y2 y3 y4 y5 yf;go_wp2_with fail
     go_ret;exact⟨ret_bool HQ.out.symm,HB9.out⟩
   ·have HQ:=kp (show fb=false from HSk.out (by
     rw [HA.out]
     by_cases h1:checkE g=0
     ·rw [decide_eq_false (fun h2=>hn ⟨h1,h2⟩),Bool.and_false,Bool.false_and]
     ·rw [decide_eq_false h1,Bool.false_and,Bool.false_and]))
    clear hn;have HB9:=kp (B1.out.trans ((B4.out.alloc B4.out.size (.cells #[.slice none 0 0,.slice none 0 0,.slice none 0 0] 26)).mono B1.out.size));go_wp2_with fail
    go_ret;exact⟨ret_bool HQ.out.symm,HB9.out⟩
  ·have hke:k=g.macros.length:=by omega
   have HQ:=kp (show fb=true from HAl.out fun i hi=>HTo.out i (by omega));clear hke;go_wp2_with fail
   go_ret;exact⟨ret_bool HQ.out.symm,HBw.out⟩
end Go.Proofs.YtpmdcckapddchaaGreat.El

import Derived.Test.YtpmdcckapddchaaGreatDoorShort
import Derived.Test.YtpmdcckapddchaaGreatDoorMh
import Derived.Deep.RegionLaw
import Derived.StillTailTactics
import Derived.Deep.RegionHeld3
/- merged by wip/merge.py from: SigChk -/
set_option maxRecDepth 100000
set_option maxHeartbeats 51200000
namespace Go.Proofs.YtpmdcckapddchaaGreatDoor
namespace Sg
open Go.RowKit Dt
theorem info_string:(Tryz.prog.info? 9).map (fun i=>(i.zero,i.size,i.bytes))=some (some (.string { data:=#[] }),1,16):=by kernel_rfl
theorem info_fun:(Tryz.prog.info? 108).map (fun i=>(i.zero,i.size,i.bytes))=some (some (.agg #[.string { data:=#[] },.int .i64 0,.int .i64 0,.int .i64 0,.int .i64 0,.int .i64 0]),6,56):=by kernel_rfl
theorem info_macro:(Tryz.prog.info? 58).map (fun i=>(i.zero,i.size,i.bytes))=some (some (.agg #[.string { data:=#[] },.slice none 0 0,.int .i64 0,.int .i8 0,.string { data:=#[] },.slice none 0 0]),6,96):=by kernel_rfl
theorem rfree_at {w:World} {A1 A2 A3:Option Addr} {c1 c2 c3 n1 n2 n3:Nat} {o:Sig} (h:SigAt w A1 c1 A2 c2 A3 c3 o) (e1:o.sorts.length=n1) (e2:o.funs.length=n2) (e3:o.macros.length=n3) (h1:n1<=12) (h2:n2<=12) (h3:n3<=12) (s:ByteArray) (hs:(s.size:Int)<=140737488351232) (sort:Bool) :
  Calls Tryz.prog 79 #[.agg #[.slice A1 n1 c1,.slice A2 n2 c2,.slice A3 n3 c3],.string s,.bool sort] w fun e w'=>e=.returned (.int .i64 (freeE o s sort))/\Below w.heap.size w w':=by
 subst e1 e2 e3;exact rfree_any h (by omega) (by omega) (by omega) s hs sort
theorem rfun_at {w:World} {A1 A2 A3:Option Addr} {c1 n1 n2 c2 n3 c3:Nat} {l:List ByteArray} (h:Lies 1 StrR w A1 l) (e1:l.length=n1) (hc:n1<=c1) (hcm:n1<=12) (f:Fun4) (hf:I64 f.res/\I64 f.a0/\I64 f.a1/\I64 f.a2) :
  Calls Tryz.prog 80 #[.agg #[.slice A1 n1 c1,.slice A2 n2 c2,.slice A3 n3 c3],.agg #[.string f.name,.int .i64 f.len,.int .i64 f.a0,.int .i64 f.a1,.int .i64 f.a2,.int .i64 f.res]] w fun e w'=>e=.returned (.bool (funB n1 f))/\Below w.heap.size w w':=by
 subst e1;exact rfun_any h hc (by omega) f hf
theorem fun_cells {w W:World} {b o:Nat} {a0 a1 a2 a3 a4 a5:Value} (hbl:b < w.heap.size) (h:∀ j u,[a0,a1,a2,a3,a4,a5][j]?=some u->w.cell? ⟨b,o+j,none⟩=some u) (hW:Below w.heap.size w W) :
  W.cell? ⟨b,o,none⟩=some a0/\W.cell? ⟨b,o+1,none⟩=some a1/\W.cell? ⟨b,o+2,none⟩=some a2/\W.cell? ⟨b,o+3,none⟩=some a3/\W.cell? ⟨b,o+4,none⟩=some a4/\W.cell? ⟨b,o+5,none⟩=some a5 :=
 ⟨((bcell hW).1 b _ hbl).trans (h 0 _ rfl),((bcell hW).1 b _ hbl).trans (h 1 _ rfl),((bcell hW).1 b _ hbl).trans (h 2 _ rfl),((bcell hW).1 b _ hbl).trans (h 3 _ rfl),((bcell hW).1 b _ hbl).trans (h 4 _ rfl),((bcell hW).1 b _ hbl).trans (h 5 _ rfl)⟩
theorem rmacro_at {w:World} {A1 A2 A3:Option Addr} {c1 n1 n2 c2 n3 c3:Nat} {l:List ByteArray} (h:Lies 1 StrR w A1 l) (e1:l.length=n1) (hc:n1<=c1) (hcm:n1<=12)
  {Ap Ab:Option Addr} {cp cb np nb:Nat} (m:Macro) (ep:m.params.length=np) (eb:m.body.l.length=nb) (hp:Lies 2 ParamR w Ap m.params) (hpl:np<=maxLen) (hx:SexpR w [.int .i8 m.body.kind,.string m.body.text,.slice Ab m.body.l.length cb] m.body) (hres:I64 m.res) :
  Calls Tryz.prog 81 #[.agg #[.slice A1 n1 c1,.slice A2 n2 c2,.slice A3 n3 c3],.agg #[.string m.name,.slice Ap np cp,.int .i64 m.res,.int .i8 m.body.kind,.string m.body.text,.slice Ab nb cb]] w fun e w'=>e=.returned (.bool (macroB n1 m))/\Below w.heap.size w w':=by
 subst e1 ep eb;exact rmacro_any h hc (by omega) m hp hpl hx hres
theorem RC.made (g:Sig) (w:World) (u0 u1 u2:Value) (t:TypeId):RC g w u0 u1 u2 ((w.alloc (.cells #[u0,u1,u2] t)).alloc (.cells #[.slice none 0 0,.slice none 0 0,.slice none 0 0] 26)) (.slice none 0 0) (.slice none 0 0) (.slice none 0 0) 0 0 0:=by
 obtain ⟨g0,g1,g2⟩:=sig_cells w u0 u1 u2 t;have hz:(w.alloc (.cells #[u0,u1,u2] t)).heap.size=w.heap.size+1:=by simp
 have hb:=(Below.refl (w.alloc (.cells #[u0,u1,u2] t)).heap.size (w.alloc (.cells #[u0,u1,u2] t))).alloc nlq (.cells #[.slice none 0 0,.slice none 0 0,.slice none 0 0] 26);have e:=fun o=>(bcell hb).1 w.heap.size o (by omega);refine⟨((brq w).alloc nlq _).alloc (by simp) _,(e 0).trans g0,(e 1).trans g1,(e 2).trans g2,?_,Grows.nil _,Grows.nil _,Grows.nil _,fun k hk=>by simp [Value.ownBlock] at hk,fun k hk=>by simp [Value.ownBlock] at hk,fun k hk=>by simp [Value.ownBlock] at hk⟩;rw [← hz];show(Array.push _ _)[_]?=_;exact Array.getElem?_push_size
theorem rcheck_any {w:World} {A1 A2 A3:Option Addr} {c1 c2 c3:Nat} {g:Sig} (h:SigAt w A1 c1 A2 c2 A3 c3 g) :
  Calls Tryz.prog 46 #[.agg #[.slice A1 g.sorts.length c1,.slice A2 g.funs.length c2,.slice A3 g.macros.length c3]] w fun e w'=>e=.returned (.int .i64 (checkE g))/\Below w.heap.size w w':=by
 have HW:=kp h;have HE:=kp (show checkB g=((decide (g.sorts.length<=4) && decide (g.funs.length<=12) && decide (g.macros.length<=12)) && (allTo (sortOk g.sorts) g.sorts.length && allTo (funOk g) g.funs.length && allTo (macOk g) g.macros.length)) from rfl);have HT:=kp (checkE_true (g:=g));have HF:=kp (checkE_false (g:=g));generalize checkB g=cb at *;generalize checkE g=ce at *;clear h;have HM:=kp (RC.made g w (.slice A1 g.sorts.length c1) (.slice A2 g.funs.length c2) (.slice A3 g.macros.length c3) 26);have B1:=kp ((brq w).alloc nlq (.cells #[.slice A1 g.sorts.length c1,.slice A2 g.funs.length c2,.slice A3 g.macros.length c3] 26))
 by_cases h1:(4:Int) < (g.sorts.length:Int)
 ·replace HE:=kp (HF.out (by rw [HE.out,dfq (show ¬ g.sorts.length<=4 by omega)];rfl))
  go_enter Tryz.func46,Tryz.ntmps46
  go_wp2_with fail
  go_ret;exact⟨ret_int HE.out.symm,B1.out⟩
 ·have h1':=dfq h1
  by_cases h2:(12:Int) < (g.funs.length:Int)
  ·replace HE:=kp (HF.out (by rw [HE.out,dfq (show ¬ g.funs.length<=12 by omega)];simp))
   go_enter Tryz.func46,Tryz.ntmps46
   go_wp2_with fail
   go_ret;exact⟨ret_int HE.out.symm,B1.out⟩
  ·have h2':=dfq h2
   by_cases h3:(12:Int) < (g.macros.length:Int)
   ·replace HE:=kp (HF.out (by rw [HE.out,dfq (show ¬ g.macros.length<=12 by omega)];simp))
    go_enter Tryz.func46,Tryz.ntmps46
    go_wp2_with fail
    go_ret;exact⟨ret_int HE.out.symm,B1.out⟩
   ·have h3':=dfq h3;replace HE:=kp (show cb=(allTo (sortOk g.sorts) g.sorts.length && allTo (funOk g) g.funs.length && allTo (macOk g) g.macros.length) by rw [HE.out,decide_eq_true (show g.sorts.length<=4 by omega),decide_eq_true (show g.funs.length<=12 by omega),decide_eq_true (show g.macros.length<=12 by omega)];rfl);generalize hn1:g.sorts.length=n1 at *;generalize hn2:g.funs.length=n2 at *;generalize hn3:g.macros.length=n3 at *
    go_enter Tryz.func46,Tryz.ntmps46
    go_wp2_with fail
    generalize (w.alloc (.cells #[.slice A1 n1 c1,.slice A2 n2 c2,.slice A3 n3 c3] 26)).alloc (.cells #[.slice none 0 0,.slice none 0 0,.slice none 0 0] 26)=w2 at *
    go_loopw [4] (fun v wr=>∃ k:Nat,k<=n1/\v=.int .i64 k/\allTo (sortOk g.sorts) k=true/\∃ v1,RC g w (.slice A1 n1 c1) (.slice A2 n2 c2) (.slice A3 n3 c3) wr v1 (.slice none 0 0) (.slice none 0 0) k 0 0) (fun v _=>n1 - (intOf v).toNat)
    case atStart=>exact⟨0,by omega,rfl,rfl,_,HM.out⟩
    case round =>
     obtain ⟨k,hk,rfl,hok,v1,hR⟩:=hrel;have HR:=kp hR;have HO:=kp hok;obtain ⟨⟨Av,cv,rfl,_,_⟩,_,_⟩:=hR.shape (by omega) (by omega) (by omega);clear hok hR HM
     by_cases hlt:k < n1
     ·have hlt2:(k:Int) < (n1:Int):=by omega
      obtain ⟨s,hs⟩:∃ s,g.sorts[k]?=some s:=⟨_,gqe (show k < g.sorts.length by omega)⟩;have HS:=kp hs;have HP:=kp (fun W (hW:Below w.heap.size w W)=>(HW.out.sorts.on StrR.lasts hW).at' hs);obtain ⟨b,o,vs,rfl,hbl,_,hcell,hr⟩:=HP.out wr HR.out.keep;obtain ⟨rfl,hsz⟩:=hr;have c0:=hcell 0 _ rfl;rw [Nat.mul_one,Nat.add_zero] at c0;obtain ⟨o0,o1,o2,hfz⟩:=HR.out.o;have q0:=HR.out.g0;have HC:=kp (rfree_at (n1:=k) (n2:=0) (n3:=0) (o:=⟨g.sorts.take k,[],[]⟩) (HR.out.drew.sig (by omega) (by omega) (by omega)) (take_len (by omega)) rfl rfl (by omega) (by omega) (by omega) s hsz true);have HFr:=kp (free_sort hs);have HN:=kp (allTo_succ (sortOk g.sorts) k);have HX:=kp (fun h=>allTo_stop (p:=sortOk g.sorts) (show k < n1 by omega) h);clear hcell hs;generalize freeE ⟨g.sorts.take k,[],[]⟩ s true=fe at *;go_wp2_with fail
      go_still_tail 6,(by kernel_rfl)
      change wpList _ _ _ _ _ wr.drew
      go_wp2_with fail
      refine HC.out.mono ?_;rintro e w3 ⟨rfl,hb⟩;have B3:=kp (HR.out.drew.keep.trans (hb.mono HR.out.keep.size));have HR3:=kp (HR.out.drew.below hb);clear HC hb o0 o1 o2 hfz q0 c0 HR
      by_cases h0:fe=0
      ·have HNk:=kp (show allTo (sortOk g.sorts) (k+1)=true by rw [HN.out,HO.out,HFr.out.1 h0];rfl);obtain ⟨b',o',vs,hbo,hbl3,_,hcell,hr⟩:=HP.out w3 HR3.out.keep;have hbo1:b'=b/\o'=o:=by simp at hbo;exact⟨hbo.1.symm,hbo.2.symm⟩
       obtain ⟨rfl,rfl⟩:=hbo1;obtain ⟨rfl,_⟩:=hr;have c0:=hcell 0 _ rfl;rw [Nat.mul_one,Nat.add_zero] at c0;obtain ⟨o0,o1,o2,hfz⟩:=HR3.out.o;have q0:=HR3.out.g0;obtain ⟨vals,ho,hrv⟩:=HR3.out.r1.row;rw [take_len (show k<=g.sorts.length by omega)] at ho;have HOw:=kp ho;have HRv:=kp hrv;clear hcell ho hrv hbo;go_wp2_with fail
       obtain ⟨i0,hi0,z0,z1,z2⟩:=info_parts info_string;have HA:=kp (Cells.new w3.drew [.string s] 9 (0,0));have HRA:=kp (HR3.out.drew.alloc (.cells #[.string s] 9));have a0:=(HR3.out.alloc (.cells #[.string s] 9)).o.1
       go_region_law (refine step_append_at (by rfl) _ _ _ (by rfl) (w.heap.size+2) 9 i0 (.string { data:=#[] }) 1 16 Tryz.underlying22 hi0 z0 z1 z2 rfl (by decide) (.slice Av k cv) k vals (by rfl) (HOw.out.drew.alloc _) (some ⟨w3.heap.size,0,none⟩) 1 1 [.string s] (by rfl) rfl HA.out (by simp [Value.oneCell']) (by unfold maxLen;omega) (by omega) (by have:=HRA.out.lt;simp at this ⊢;omega) ?_;intro v' w4 hown hgrow hat;obtain ⟨Av',cv',rfl⟩:=shape_of_owns hown;obtain ⟨m0,m1,m2,mf⟩:=HRA.out.grown hgrow (fun j hj=>(HRA.out.r1.lt j hj).1))
       all_goals
        have HR5:=kp (RC.push1 HRA.out (by omega) HS.out (by rw [HOw.out.1]) HRv.out hown hgrow hat ⟨rfl,hsz⟩ rfl);clear hown hgrow hat m0 m1 m2 mf;go_wp2_with fail
        go_roundw
        case rel=>exact⟨k+1,by omega,by go_num,HNk.out,_,HR5.out⟩
        case measure=>simp [intOf];omega
      ·have h0':(fe == 0)=false:=beq_eq_false_iff_ne.2 h0;have h0'':(fe != 0)=true:=by rw [bne,h0'];rfl
       have HQ:=kp (HF.out (show cb=false by rw [HE.out,HX.out (by cases hq:sortOk g.sorts k with | false=>rfl | true=>exact absurd (HFr.out.2 hq) h0)];rfl));go_wp2_with fail
       go_ret;exact⟨ret_int HQ.out.symm,B3.out⟩
     ·obtain rfl:n1=k:=by omega
      have hts:g.sorts.take n1=g.sorts:=List.take_of_length_le (by omega);replace HE:=kp (show cb=(allTo (funOk g) n2 && allTo (macOk g) n3) by rw [HE.out,HO.out];rfl);have q1:=HR.out.g1;have q0:=HR.out.g0;go_wp2_with fail
      clear q0 q1 HO hk hlt;have HM:=HR;clear HR
      go_loopw [5] (fun v wr=>∃ k:Nat,k<=n2/\v=.int .i64 k/\allTo (funOk g) k=true/\∃ v2,RC g w (.slice A1 n1 c1) (.slice A2 n2 c2) (.slice A3 n3 c3) wr (.slice Av n1 cv) v2 (.slice none 0 0) n1 k 0) (fun v _=>n2 - (intOf v).toNat)
      case atStart=>exact⟨0,by omega,rfl,rfl,_,HM.out⟩
      case round =>
       obtain ⟨k,hk,rfl,hok,v2,hR⟩:=hrel;have HR:=kp hR;have HO:=kp hok;obtain ⟨_,⟨Af,cf,rfl,_,_⟩,_⟩:=hR.shape (by omega) (by omega) (by omega);clear hok hR HM
       by_cases hlt:k < n2
       ·have hlt2:(k:Int) < (n2:Int):=by omega
        obtain ⟨f,hf⟩:∃ f,g.funs[k]?=some f:=⟨_,gqe (show k < g.funs.length by omega)⟩;have HS:=kp hf;obtain ⟨b,o,vs,rfl,hbl,_,hcell,hr⟩:=HW.out.funs.at' hf;have HFR:=kp hr;obtain ⟨rfl,hsz,hi⟩:=hr;have HCl:=kp (fun W (hW:Below w.heap.size w W)=>fun_cells hbl hcell hW);have HFr:=kp (free_fun hf);have HN:=kp (allTo_succ (funOk g) k);have HX:=kp (fun h=>allTo_stop (p:=funOk g) (show k < n2 by omega) h);have HC:=kp (fun W (hW:Below wr.heap.size wr W)=>rfree_at (n1:=n1) (n2:=k) (n3:=0) (o:=⟨g.sorts,g.funs.take k,[]⟩) (by have:=(HR.out.below hW).sig (by omega) (by omega) (by omega);rw [hts] at this;exact this) hn1 (take_len (by omega)) rfl (by omega) (by omega) (by omega) f.name hsz false);have HG:=kp (fun W (hW:Below wr.heap.size wr W)=>rfun_at (n1:=n1) (n2:=k) (n3:=0) (A2:=Af) (c2:=cf) (A3:=none) (c3:=0) (by have:=((HR.out.below hW).sig (by omega) (by omega) (by omega)).sorts;simp only [hts] at this;exact this) hn1 (by omega) (by omega) f ⟨hi.2.2.2.2,hi.2.1,hi.2.2.1,hi.2.2.2.1⟩);clear hcell hf;rw [hn1] at HFr;generalize freeE ⟨g.sorts,g.funs.take k,[]⟩ f.name false=fe at *;generalize hfb:funB n1 f=fb at *;clear hfb;have HFld:=kp (show f=⟨f.name,f.len,f.a0,f.a1,f.a2,f.res⟩ from rfl);obtain ⟨d0,d1,d2,d3,d4,d5⟩:=HCl.out wr HR.out.keep;obtain ⟨o0,o1,o2,hfz⟩:=HR.out.o;have q1:=HR.out.g1
        by_cases h0:fe=0
        ·subst h0;go_wp2_with fail
         refine wp_region_held_drew (S:=fun W=>W.cell? ⟨w.heap.size+1,0,none⟩=some (.slice Av n1 cv)/\W.cell? ⟨w.heap.size+1,1,none⟩=some (.slice Af k cf)/\W.cell? ⟨w.heap.size+1,2,none⟩=some (.slice none 0 0)/\W.cell? ⟨w.heap.size,1,none⟩=some (.slice (some ⟨b,o,none⟩) n2 c2)/\W.cell? ⟨b,o+k * 6,none⟩=some (.string f.name)/\W.cell? ⟨b,o+k * 6+1,none⟩=some (.int .i64 f.len)/\W.cell? ⟨b,o+k * 6+2,none⟩=some (.int .i64 f.a0)/\W.cell? ⟨b,o+k * 6+3,none⟩=some (.int .i64 f.a1)/\W.cell? ⟨b,o+k * 6+4,none⟩=some (.int .i64 f.a2)/\W.cell? ⟨b,o+k * 6+5,none⟩=some (.int .i64 f.res)) (by kernel_rfl) (⟨o0,o1,o2,q1,d0,d1,d2,d3,d4,d5⟩) (fun hHeld=>?_);refine plz [0,1,2,3,4,5,6] ?_;iterate 7 (refine tnz (v:=?_) ?_ ?_;rotate_left;(focus (intro w hSw;go_simp;try with_reducible rfl));try simp only [pt])
         refine pzz ?_;refine rd 7 fun K hK=>?_;go_simp
         go_wp2_with (go_at_call 79;refine(HC.out _ ?_).mono ?_;exact(brq wr).drew;rintro e w4 ⟨rfl,hb4⟩;have HR4:=kp ((HR.out.drew).below hb4);have BB4:=kp (show Below wr.heap.size wr w4 from(brq wr).drew.trans hb4);obtain ⟨e0,e1,e2,_⟩:=HR4.out.o;have r1:=HR4.out.g1;obtain ⟨x0,x1,x2,x3,x4,x5⟩:=HCl.out w4 HR4.out.keep)
         refine hK.out _ _ (⟨e0,e1,e2,r1,x0,x1,x2,x3,x4,x5⟩) (fun hHeld=>?_);clear hK K;try simp only [pt]
         clear hb4 HR;refine plz [8,9,10,11,12,13,14,15] ?_;iterate 8 (refine tnz (v:=?_) ?_ ?_;rotate_left;(focus (intro w hSw;go_simp;try with_reducible rfl));try simp only [pt])
         refine pzz ?_;refine rd 16 fun K hK=>?_;go_simp
         go_wp2_with (go_at_call 80;refine(HG.out _ ?_).mono ?_;exact BB4.out;rintro e w5 ⟨rfl,hb5⟩;have HR5:=kp (HR4.out.below hb5);obtain ⟨p0,p1,p2,hfz5⟩:=HR5.out.o;have s1:=HR5.out.g1;obtain ⟨y0,y1,y2,y3,y4,y5⟩:=HCl.out w5 HR5.out.keep)
         refine hK.out _ _ (⟨p0,p1,p2,s1,y0,y1,y2,y3,y4,y5⟩) (fun hHeld=>?_);clear hK K;try simp only [pt]
         clear hb5 HR4 BB4 e0 e1 e2 r1 x0 x1 x2 x3 x4 x5
         cases fb with
         | false =>
          refine plz [17,18] ?_;iterate 2 (refine tnz (v:=?_) ?_ ?_;rotate_left;(focus (intro w hSw;go_simp;try with_reducible rfl));try simp only [pt])
          refine pzz ?_;refine dnz ?_;have HQ:=kp (HF.out (show cb=false by rw [HE.out,HX.out (by rw [HFr.out];simp)];rfl));have B5:=kp HR5.out.keep;go_wp2_with fail
          go_ret;exact⟨ret_int HQ.out.symm,B5.out⟩
         | true =>
          refine plz [17,18] ?_;iterate 2 (refine tnz (v:=?_) ?_ ?_;rotate_left;(focus (intro w hSw;go_simp;try with_reducible rfl));try simp only [pt])
          refine pzz ?_;refine dnz ?_;have HNk:=kp (show allTo (funOk g) (k+1)=true by rw [HN.out,HO.out,HFr.out];rfl);obtain ⟨vals,ho,hrv⟩:=HR5.out.r2.row;rw [take_len (show k<=g.funs.length by omega)] at ho;have HOw:=kp ho;have HRv:=kp hrv;clear ho hrv;obtain ⟨i0,hi0,z0,z1,z2⟩:=info_parts info_fun;have HA:=kp (Cells.new w5.drew [.string f.name,.int .i64 f.len,.int .i64 f.a0,.int .i64 f.a1,.int .i64 f.a2,.int .i64 f.res] 108 (0,0));have HRA:=kp (HR5.out.drew.alloc (.cells #[.string f.name,.int .i64 f.len,.int .i64 f.a0,.int .i64 f.a1,.int .i64 f.a2,.int .i64 f.res] 108));have a0:=(HR5.out.alloc (.cells #[.string f.name,.int .i64 f.len,.int .i64 f.a0,.int .i64 f.a1,.int .i64 f.a2,.int .i64 f.res] 108)).o.2.1;go_wp2_with fail
          go_region_law (refine step_append_at (by rfl) _ _ _ (by rfl) (w.heap.size+2) 108 i0 (.agg #[.string { data:=#[] },.int .i64 0,.int .i64 0,.int .i64 0,.int .i64 0,.int .i64 0]) 6 56 Tryz.underlying23 hi0 z0 z1 z2 rfl (by decide) (.slice Af k cf) k vals (by rfl) (HOw.out.drew.alloc _) (some ⟨w5.heap.size,0,none⟩) 1 1 [.string f.name,.int .i64 f.len,.int .i64 f.a0,.int .i64 f.a1,.int .i64 f.a2,.int .i64 f.res] (by rfl) rfl HA.out (by simp [Value.oneCell']) (by unfold maxLen;omega) (by omega) (by have:=HRA.out.lt;simp at this ⊢;omega) ?_;intro v' w6 hown hgrow hat;obtain ⟨Av',cv',rfl⟩:=shape_of_owns hown;obtain ⟨m0,m1,m2,mf⟩:=HRA.out.grown hgrow (fun j hj=>(HRA.out.r2.lt j hj).1))
          all_goals
           have HR7:=kp (RC.push2 HRA.out (by omega) HS.out (by rw [HOw.out.1]) HRv.out hown hgrow hat HFR.out rfl);clear hown hgrow hat m0 m1 m2 mf;go_wp2_with fail
           go_roundw
           case rel=>exact⟨k+1,by omega,by go_num,HNk.out,_,HR7.out⟩
           case measure=>simp [intOf];omega
        ·have h0':(fe == 0)=false:=beq_eq_false_iff_ne.2 h0;have h0'':(fe != 0)=true:=by rw [bne,h0'];rfl
         have HQ:=kp (HF.out (show cb=false by rw [HE.out,HX.out (by rw [HFr.out,dfq h0];rfl)];rfl));go_wp2_with fail
         refine wp_region_held_drew (S:=fun W=>W.cell? ⟨w.heap.size+1,0,none⟩=some (.slice Av n1 cv)/\W.cell? ⟨w.heap.size+1,1,none⟩=some (.slice Af k cf)/\W.cell? ⟨w.heap.size+1,2,none⟩=some (.slice none 0 0)/\W.cell? ⟨w.heap.size,1,none⟩=some (.slice (some ⟨b,o,none⟩) n2 c2)/\W.cell? ⟨b,o+k * 6,none⟩=some (.string f.name)) (by kernel_rfl) (⟨o0,o1,o2,q1,d0⟩) (fun hHeld=>?_);refine plz [0,1,2,3,4,5,6] ?_;iterate 7 (refine tnz (v:=?_) ?_ ?_;rotate_left;(focus (intro w hSw;go_simp;try with_reducible rfl));try simp only [pt])
         refine pzz ?_;refine rd 7 fun K hK=>?_;go_simp
         go_wp2_with (go_at_call 79;refine(HC.out _ ?_).mono ?_;exact(brq wr).drew;rintro e w4 ⟨rfl,hb4⟩;obtain ⟨e0,e1,e2,_⟩:=((HR.out.drew).below hb4).o;have r1:=((HR.out.drew).below hb4).g1;obtain ⟨r2,_,_,_,_,_⟩:=HCl.out w4 ((HR.out.drew).below hb4).keep)
         refine hK.out _ _ (⟨e0,e1,e2,r1,r2⟩) (fun hHeld=>?_);clear hK K;try simp only [pt]
         refine plz [8,9] ?_;iterate 2 (refine tnz (v:=?_) ?_ ?_;rotate_left;(focus (intro w hSw;go_simp;try with_reducible rfl));try simp only [pt])
         refine pzz ?_;refine sk 10 ?_;try simp only [pt]
         refine sk 11 ?_;try simp only [pt]
         refine sk 12 ?_;try simp only [pt]
         refine sk 13 ?_;try simp only [pt]
         refine sk 14 ?_;try simp only [pt]
         refine sk 15 ?_;try simp only [pt]
         refine sk 16 ?_;try simp only [pt]
         refine sk 17 ?_;try simp only [pt]
         refine tk 18 (v:=?_) ?_ ?_;rotate_left
         ·(intro w hSw;go_simp;try with_reducible rfl)
         try simp only [pt]
         refine dnz ?_;have B4:=kp ((HR.out.drew).below hb4).keep;go_wp2_with fail
         go_ret;exact⟨ret_int HQ.out.symm,B4.out⟩
       ·obtain rfl:n2=k:=by omega
        have hts2:g.funs.take n2=g.funs:=List.take_of_length_le (by omega);replace HE:=kp (show cb=allTo (macOk g) n3 by rw [HE.out,HO.out];rfl);have q1:=HR.out.g1;have q2:=HR.out.g2;go_wp2_with fail
        clear q1 q2 HO hk hlt;have HM:=HR;clear HR
        go_loopw [6] (fun v wr=>∃ k:Nat,k<=n3/\v=.int .i64 k/\allTo (macOk g) k=true/\∃ v3,RC g w (.slice A1 n1 c1) (.slice A2 n2 c2) (.slice A3 n3 c3) wr (.slice Av n1 cv) (.slice Af n2 cf) v3 n1 n2 k) (fun v _=>n3 - (intOf v).toNat)
        case atStart=>exact⟨0,by omega,rfl,rfl,_,HM.out⟩
        case round =>
         obtain ⟨k,hk,rfl,hok,v3,hR⟩:=hrel;have HR:=kp hR;have HO:=kp hok;obtain ⟨_,_,⟨Am,cm,rfl,_,_⟩⟩:=hR.shape (by omega) (by omega) (by omega);clear hok hR HM
         by_cases hlt:k < n3
         ·have hlt2:(k:Int) < (n3:Int):=by omega
          obtain ⟨m,hm⟩:∃ m,g.macros[k]?=some m:=⟨_,gqe (show k < g.macros.length by omega)⟩;have HS:=kp hm;obtain ⟨b,o,vs,rfl,hbl,_,hcell,hr⟩:=HW.out.macros.at' hm;have HFR:=kp hr;obtain ⟨Ap,cp,bv,rfl,hsx,hps,hpc,hcm,hsz,hres⟩:=hr;obtain ⟨Ab,cb',rfl,_⟩:=hsx.open';have HSx:=kp hsx;have HPs:=kp hps;have HPm:=kp (show m.params.length<=maxLen by omega);have HCl:=kp (fun W (hW:Below w.heap.size w W)=>fun_cells hbl hcell hW);have HFr:=kp (free_macro hm);have HN:=kp (allTo_succ (macOk g) k);have HX:=kp (fun h=>allTo_stop (p:=macOk g) (show k < n3 by omega) h);have HC:=kp (fun W (hW:Below wr.heap.size wr W)=>rfree_at (n1:=n1) (n2:=n2) (n3:=k) (o:=⟨g.sorts,g.funs,g.macros.take k⟩) (by have:=(HR.out.below hW).sig (by omega) (by omega) (by omega);rw [hts,hts2] at this;exact this) hn1 hn2 (take_len (by omega)) (by omega) (by omega) (by omega) m.name hsz false);have HG:=kp (fun W (hW:Below wr.heap.size wr W)=>rmacro_at (n1:=n1) (n2:=n2) (n3:=k) (A2:=Af) (c2:=cf) (A3:=Am) (c3:=cm) (cp:=cp) (by have:=((HR.out.below hW).sig (by omega) (by omega) (by omega)).sorts;simp only [hts] at this;exact this) hn1 (by omega) (by omega) m rfl rfl (HPs.out.on ParamR.lasts (HR.out.below hW).keep) HPm.out (SexpR.lasts _ _ _ _ (HR.out.below hW).keep HSx.out) hres);clear hcell hm hsx hps hpc hcm;rw [hn1] at HFr;generalize freeE ⟨g.sorts,g.funs,g.macros.take k⟩ m.name false=fe at *;generalize hfb:macroB n1 m=fb at *
          clear hfb;generalize hnp:m.params.length=np at *;generalize hnb:m.body.l.length=nb at *;obtain ⟨d0,d1,d2,d3,d4,d5⟩:=HCl.out wr HR.out.keep;obtain ⟨o0,o1,o2,hfz⟩:=HR.out.o;have q2:=HR.out.g2
          by_cases h0:fe=0
          ·subst h0;go_wp2_with fail
           refine wp_region_held_drew (S:=fun W=>W.cell? ⟨w.heap.size+1,0,none⟩=some (.slice Av n1 cv)/\W.cell? ⟨w.heap.size+1,1,none⟩=some (.slice Af n2 cf)/\W.cell? ⟨w.heap.size+1,2,none⟩=some (.slice Am k cm)/\W.cell? ⟨w.heap.size,2,none⟩=some (.slice (some ⟨b,o,none⟩) n3 c3)/\W.cell? ⟨b,o+k * 6,none⟩=some (.string m.name)/\W.cell? ⟨b,o+k * 6+1,none⟩=some (.slice Ap np cp)/\W.cell? ⟨b,o+k * 6+2,none⟩=some (.int .i64 m.res)/\W.cell? ⟨b,o+k * 6+3,none⟩=some (.int .i8 m.body.kind)/\W.cell? ⟨b,o+k * 6+4,none⟩=some (.string m.body.text)/\W.cell? ⟨b,o+k * 6+5,none⟩=some (.slice Ab nb cb')) (by kernel_rfl) (⟨o0,o1,o2,q2,d0,d1,d2,d3,d4,d5⟩) (fun hHeld=>?_);refine plz [0,1,2,3,4,5,6] ?_;iterate 7 (refine tnz (v:=?_) ?_ ?_;rotate_left;(focus (intro w hSw;go_simp;try with_reducible rfl));try simp only [pt])
           refine pzz ?_;refine rd 7 fun K hK=>?_;go_simp
           go_wp2_with (go_at_call 79;refine(HC.out _ ?_).mono ?_;exact(brq wr).drew;rintro e w4 ⟨rfl,hb4⟩;have HR4:=kp ((HR.out.drew).below hb4);have BB4:=kp (show Below wr.heap.size wr w4 from(brq wr).drew.trans hb4);obtain ⟨e0,e1,e2,_⟩:=HR4.out.o;have r1:=HR4.out.g2;obtain ⟨x0,x1,x2,x3,x4,x5⟩:=HCl.out w4 HR4.out.keep)
           refine hK.out _ _ (⟨e0,e1,e2,r1,x0,x1,x2,x3,x4,x5⟩) (fun hHeld=>?_);clear hK K;try simp only [pt]
           clear hb4 HR;refine plz [8,9,10,11,12,13,14,15] ?_;iterate 8 (refine tnz (v:=?_) ?_ ?_;rotate_left;(focus (intro w hSw;go_simp;try with_reducible rfl));try simp only [pt])
           refine pzz ?_;refine rd 16 fun K hK=>?_;go_simp
           go_wp2_with (go_at_call 81;refine(HG.out _ ?_).mono ?_;exact BB4.out;rintro e w5 ⟨rfl,hb5⟩;have HR5:=kp (HR4.out.below hb5);obtain ⟨p0,p1,p2,hfz5⟩:=HR5.out.o;have s1:=HR5.out.g2;obtain ⟨y0,y1,y2,y3,y4,y5⟩:=HCl.out w5 HR5.out.keep)
           refine hK.out _ _ (⟨p0,p1,p2,s1,y0,y1,y2,y3,y4,y5⟩) (fun hHeld=>?_);clear hK K;try simp only [pt]
           clear hb5 HR4 BB4 e0 e1 e2 r1 x0 x1 x2 x3 x4 x5
           cases fb with
           | false =>
            refine plz [17,18] ?_;iterate 2 (refine tnz (v:=?_) ?_ ?_;rotate_left;(focus (intro w hSw;go_simp;try with_reducible rfl));try simp only [pt])
            refine pzz ?_;refine dnz ?_;have HQ:=kp (HF.out (show cb=false by rw [HE.out,HX.out (by rw [HFr.out];simp)]));have B5:=kp HR5.out.keep;go_wp2_with fail
            go_ret;exact⟨ret_int HQ.out.symm,B5.out⟩
           | true =>
            refine plz [17,18] ?_;iterate 2 (refine tnz (v:=?_) ?_ ?_;rotate_left;(focus (intro w hSw;go_simp;try with_reducible rfl));try simp only [pt])
            refine pzz ?_;refine dnz ?_;have HNk:=kp (show allTo (macOk g) (k+1)=true by rw [HN.out,HO.out,HFr.out];rfl);obtain ⟨vals,ho,hrv⟩:=HR5.out.r3.row;rw [take_len (show k<=g.macros.length by omega)] at ho;have HOw:=kp ho;have HRv:=kp hrv;clear ho hrv;obtain ⟨i0,hi0,z0,z1,z2⟩:=info_parts info_macro;have HA:=kp (Cells.new w5.drew [.string m.name,.slice Ap np cp,.int .i64 m.res,.int .i8 m.body.kind,.string m.body.text,.slice Ab nb cb'] 58 (0,0));have HRA:=kp (HR5.out.drew.alloc (.cells #[.string m.name,.slice Ap np cp,.int .i64 m.res,.int .i8 m.body.kind,.string m.body.text,.slice Ab nb cb'] 58));have a0:=(HR5.out.alloc (.cells #[.string m.name,.slice Ap np cp,.int .i64 m.res,.int .i8 m.body.kind,.string m.body.text,.slice Ab nb cb'] 58)).o.2.2.1;go_wp2_with fail
            go_region_law (refine step_append_at (by rfl) _ _ _ (by rfl) (w.heap.size+2) 58 i0 (.agg #[.string { data:=#[] },.slice none 0 0,.int .i64 0,.int .i8 0,.string { data:=#[] },.slice none 0 0]) 6 96 Tryz.underlying24 hi0 z0 z1 z2 rfl (by decide) (.slice Am k cm) k vals (by rfl) (HOw.out.drew.alloc _) (some ⟨w5.heap.size,0,none⟩) 1 1 [.string m.name,.slice Ap np cp,.int .i64 m.res,.int .i8 m.body.kind,.string m.body.text,.slice Ab nb cb'] (by rfl) rfl HA.out (by simp [Value.oneCell']) (by unfold maxLen;omega) (by omega) (by have:=HRA.out.lt;simp at this ⊢;omega) ?_;intro v' w6 hown hgrow hat;obtain ⟨Av',cv',rfl⟩:=shape_of_owns hown;obtain ⟨m0,m1,m2,mf⟩:=HRA.out.grown hgrow (fun j hj=>(HRA.out.r3.lt j hj).1))
            all_goals
             have HR7:=kp (RC.push3 HRA.out (by omega) HS.out (by rw [HOw.out.1]) HRv.out hown hgrow hat HFR.out rfl);clear hown hgrow hat m0 m1 m2 mf;go_wp2_with fail
             go_roundw
             case rel=>exact⟨k+1,by omega,by go_num,HNk.out,_,HR7.out⟩
             case measure=>simp [intOf];omega
          ·have h0':(fe == 0)=false:=beq_eq_false_iff_ne.2 h0;have h0'':(fe != 0)=true:=by rw [bne,h0'];rfl
           have HQ:=kp (HF.out (show cb=false by rw [HE.out,HX.out (by rw [HFr.out,dfq h0];rfl)]));go_wp2_with fail
           refine wp_region_held_drew (S:=fun W=>W.cell? ⟨w.heap.size+1,0,none⟩=some (.slice Av n1 cv)/\W.cell? ⟨w.heap.size+1,1,none⟩=some (.slice Af n2 cf)/\W.cell? ⟨w.heap.size+1,2,none⟩=some (.slice Am k cm)/\W.cell? ⟨w.heap.size,2,none⟩=some (.slice (some ⟨b,o,none⟩) n3 c3)/\W.cell? ⟨b,o+k * 6,none⟩=some (.string m.name)) (by kernel_rfl) (⟨o0,o1,o2,q2,d0⟩) (fun hHeld=>?_);refine plz [0,1,2,3,4,5,6] ?_;iterate 7 (refine tnz (v:=?_) ?_ ?_;rotate_left;(focus (intro w hSw;go_simp;try with_reducible rfl));try simp only [pt])
           refine pzz ?_;refine rd 7 fun K hK=>?_;go_simp
           go_wp2_with (go_at_call 79;refine(HC.out _ ?_).mono ?_;exact(brq wr).drew;rintro e w4 ⟨rfl,hb4⟩;obtain ⟨e0,e1,e2,_⟩:=((HR.out.drew).below hb4).o;have r1:=((HR.out.drew).below hb4).g2;obtain ⟨r2,_,_,_,_,_⟩:=HCl.out w4 ((HR.out.drew).below hb4).keep)
           refine hK.out _ _ (⟨e0,e1,e2,r1,r2⟩) (fun hHeld=>?_);clear hK K;try simp only [pt]
           refine plz [8,9] ?_;iterate 2 (refine tnz (v:=?_) ?_ ?_;rotate_left;(focus (intro w hSw;go_simp;try with_reducible rfl));try simp only [pt])
           refine pzz ?_;refine sk 10 ?_;try simp only [pt]
           refine sk 11 ?_;try simp only [pt]
           refine sk 12 ?_;try simp only [pt]
           refine sk 13 ?_;try simp only [pt]
           refine sk 14 ?_;try simp only [pt]
           refine sk 15 ?_;try simp only [pt]
           refine sk 16 ?_;try simp only [pt]
           refine sk 17 ?_;try simp only [pt]
           refine tk 18 (v:=?_) ?_ ?_;rotate_left
           ·(intro w hSw;go_simp;try with_reducible rfl)
           try simp only [pt]
           refine dnz ?_;have B4:=kp ((HR.out.drew).below hb4).keep;go_wp2_with fail
           go_ret;exact⟨ret_int HQ.out.symm,B4.out⟩
         ·obtain rfl:n3=k:=by omega
          have HQ:=kp (HT.out (by rw [HE.out,HO.out]));have B4:=kp HR.out.keep;have q2:=HR.out.g2;go_wp2_with fail
          go_ret;exact⟨ret_int HQ.out.symm,B4.out⟩
end Sg
end Go.Proofs.YtpmdcckapddchaaGreatDoor

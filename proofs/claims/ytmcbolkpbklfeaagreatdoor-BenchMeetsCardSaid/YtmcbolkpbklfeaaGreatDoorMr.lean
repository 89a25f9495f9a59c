import Derived.Test.YtmcbolkpbklfeaaGreatDoorShort
import Derived.Test.YtmcbolkpbklfeaaGreatDoorMm
import Derived.Test.YtmcbolkpbklfeaaGreatDoorMl
import Derived.Deep.DeepCutAuto
import Derived.Deep.DeepMust
/- merged by wip/merge.py from: SigChkP -/
set_option maxRecDepth 100000
set_option maxHeartbeats 51200000
namespace Go.Proofs.YtmcbolkpbklfeaaGreatDoor
namespace Sg
open Go.RowKit Dt
theorem cells6 {w W:World} {b o:Nat} {a0 a1 a2 a3 a4 a5:Value} (hbl:b < w.heap.size) (h:∀ j u,[a0,a1,a2,a3,a4,a5][j]?=some u->w.cell? ⟨b,o+j,none⟩=some u) (hW:Below w.heap.size w W) :
  W.cell? ⟨b,o,none⟩=some a0/\W.cell? ⟨b,o+1,none⟩=some a1/\W.cell? ⟨b,o+2,none⟩=some a2/\W.cell? ⟨b,o+3,none⟩=some a3/\W.cell? ⟨b,o+4,none⟩=some a4/\W.cell? ⟨b,o+5,none⟩=some a5 :=
 ⟨((bcell hW).1 b _ hbl).trans (h 0 _ rfl),((bcell hW).1 b _ hbl).trans (h 1 _ rfl),((bcell hW).1 b _ hbl).trans (h 2 _ rfl),((bcell hW).1 b _ hbl).trans (h 3 _ rfl),((bcell hW).1 b _ hbl).trans (h 4 _ rfl),((bcell hW).1 b _ hbl).trans (h 5 _ rfl)⟩
theorem FreshPost.keep {s:ByteArray} {sort:Bool} {bm k:Nat} {S:Value->Prop} {w w':World} {e:Ending} (h:FreshPost s sort bm k S w e w'):Keeps (·=bm) w w':=by
 obtain ⟨_,_,_,_,hk⟩:=h;exact hk
def Box6 (w:World) (b:Nat) (a0 a1 a2 a3 a4 a5:Value):Prop :=
 w.cell? ⟨b,0,none⟩=some a0/\w.cell? ⟨b,1,none⟩=some a1/\w.cell? ⟨b,2,none⟩=some a2/\w.cell? ⟨b,3,none⟩=some a3/\w.cell? ⟨b,4,none⟩=some a4/\w.cell? ⟨b,5,none⟩=some a5/\b < w.heap.size
theorem Box6.keeps {w w':World} {b:Nat} {a0 a1 a2 a3 a4 a5:Value} {S:Nat->Prop} (h:Box6 w b a0 a1 a2 a3 a4 a5) (hk:Keeps S w w') (hlt:b < w.heap.size) (hS:¬ S b):Box6 w' b a0 a1 a2 a3 a4 a5:=by
 obtain ⟨h0,h1,h2,h3,h4,h5,h6⟩:=h;have e:=fun o=>hk.cell (b:=b) (o:=o) hlt hS;exact⟨(e 0).trans h0,(e 1).trans h1,(e 2).trans h2,(e 3).trans h3,(e 4).trans h4,(e 5).trans h5,Nat.lt_of_lt_of_le hlt hk.size⟩
theorem box6_cells (w:World) (a0 a1 a2 a3 a4 a5:Value) (t:TypeId):Box6 (w.alloc (.cells #[a0,a1,a2,a3,a4,a5] t)) w.heap.size a0 a1 a2 a3 a4 a5:=by
 refine⟨?_,?_,?_,?_,?_,?_,by simp⟩ <;> rw [World.cell?_alloc_mark] <;> rfl
theorem check_any {w:World} {A1 A2 A3:Option Addr} {c1 c2 c3:Nat} {g:Sig} (h:SigAt w A1 c1 A2 c2 A3 c3 g) (hl1:g.sorts.length<=140737488351232) (hl2:g.funs.length<=140737488351232) (hl3:g.macros.length<=140737488351232) :
  Calls Tryz.prog 169 #[.agg #[.slice A1 g.sorts.length c1,.slice A2 g.funs.length c2,.slice A3 g.macros.length c3]] w fun e w'=>e=.returned (.int .i64 (checkE g))/\Below w.heap.size w w':=by
 have HW:=kp h;have HE:=kp (show checkB g=((decide (g.sorts.length<=4) && decide (g.funs.length<=12) && decide (g.macros.length<=12)) && (allTo (sortOk g.sorts) g.sorts.length && allTo (funOk g) g.funs.length && allTo (macOk g) g.macros.length)) from rfl);have HT:=kp (checkE_true (g:=g));have HF:=kp (checkE_false (g:=g));generalize checkB g=cb at *;generalize checkE g=ce at *;clear h;generalize hn1:g.sorts.length=n1 at *;generalize hn2:g.funs.length=n2 at *;generalize hn3:g.macros.length=n3 at *;have HS0:=kp (St.start w (.slice A1 n1 c1) (.slice A2 n2 c2) (.slice A3 n3 c3) 93 (fun _=>False));obtain ⟨kb,hkb⟩:=keyOf_name (s:={ data:=#[66,111,111,108] }) (by decide) true;obtain ⟨ki,hki⟩:=keyOf_name (s:={ data:=#[73,110,116] }) (by decide) true;have HKb:=kp hkb;have HKi:=kp hki;clear hkb hki;have hmm:=@run_makeMap Tryz.prog
 go_enter Tryz.func169,Tryz.ntmps169
 go_upto_region 1 with fail
 generalize w.alloc (.cells #[.slice A1 n1 c1,.slice A2 n2 c2,.slice A3 n3 c3] 93)=w1 at *;have HS:=HS0;clear HS0;have HL:=kp (show 0 < maxLen/\0+1 < maxLen by unfold maxLen;omega)
 go_cut [3] from 12 to 15 (fun v W=>∃ bx bm,v=.pointer (some ⟨bx,0,none⟩)/\St w (.slice A1 n1 c1) (.slice A2 n2 c2) (.slice A3 n3 c3) W (some bm) (some (bx,.map (some bm))) 2 (SeenIn (allSorts []) []))
 case first =>
  go_region_with ((first
   | with_reducible refine upon_ins (HS.out.map rfl).drew HL.out.1 HKb.out ?_
   | with_reducible refine upon_ins (HS.out.map rfl).drew HL.out.1 HKi.out ?_
   | with_reducible refine upon_ins ((HS.out.map rfl).box (x:=w1.heap.size+1) (by simp) _).drew HL.out.1 HKb.out ?_
   | with_reducible refine upon_ins ((HS.out.map rfl).box (x:=w1.heap.size+1) (by simp) _).drew HL.out.1 HKi.out ?_
   | with_reducible refine upon_ins ((HS.out.box (x:=w1.heap.size) rfl (.map none)).map (by simp)).drew HL.out.1 HKb.out ?_
   | with_reducible refine upon_ins ((HS.out.box (x:=w1.heap.size) rfl (.map none)).map (by simp)).drew HL.out.1 HKi.out ?_
   | with_reducible refine upon_ins HS.out HL.out.2 HKb.out ?_
   | with_reducible refine upon_ins HS.out HL.out.2 HKi.out ?_
   | with_reducible refine upon_ins (HS.out.box rfl _) HL.out.2 HKb.out ?_
   | with_reducible refine upon_ins (HS.out.box rfl _) HL.out.2 HKi.out ?_
   | with_reducible refine upon_ins (HS.out.put _) HL.out.2 HKb.out ?_
   | with_reducible refine upon_ins (HS.out.put _) HL.out.2 HKi.out ?_);intro w9 hs9;have HS:=kp hs9;clear hs9;try (obtain ⟨_,_⟩:=St.bxc HS.out))
  all_goals
   go_wp2_with fail
   go_meet
   first
    | exact⟨_,_,rfl,(HS.out.box rfl _).imp seen_start1⟩
    | exact⟨_,_,rfl,(HS.out.box rfl _).imp seen_start2⟩
    | exact⟨_,_,rfl,(HS.out.put _).imp seen_start1⟩
    | exact⟨_,_,rfl,(HS.out.put _).imp seen_start2⟩
    | exact⟨_,_,rfl,HS.out.imp seen_start1⟩
    | exact⟨_,_,rfl,HS.out.imp seen_start2⟩
 case rest =>
  obtain ⟨bx,bm,rfl,hS⟩:=hcut;have HS2:=kp hS;clear hS hmm HKb HKi HS HL;have q0:=HS2.out.g0;have q1:=HS2.out.g1;have q2:=HS2.out.g2;go_upto_region 3 with fail
  go_cut [5] from 17 to 32 (fun v W=>v=.bool (decide (n1<=4) && decide (n2<=12) && decide (n3<=12))/\wc=W)
  case first =>
   by_cases h1:(n1:Int)<=4
   ·have h1':=decide_eq_true h1;have H1:=kp (decide_eq_true (show n1<=4 by omega))
    by_cases h2:(n2:Int)<=12
    ·have h2':=decide_eq_true h2;have H2:=kp (decide_eq_true (show n2<=12 by omega))
     by_cases h3:(n3:Int)<=12
     ·have h3':=decide_eq_true h3;have H3:=kp (decide_eq_true (show n3<=12 by omega));go_wp2_with fail
      go_meet;exact⟨by rw [H1.out,H2.out,H3.out];rfl,rfl⟩
     ·have h3':=dfq h3;have H3:=kp (dfq (show ¬ n3<=12 by omega));go_wp2_with fail
      go_meet;exact⟨by rw [H1.out,H2.out,H3.out];rfl,rfl⟩
    ·have h2':=dfq h2;have H2:=kp (dfq (show ¬ n2<=12 by omega));go_wp2_with fail
     go_meet;exact⟨by rw [H1.out,H2.out];rfl,rfl⟩
   ·have h1':=dfq h1;have H1:=kp (dfq (show ¬ n1<=4 by omega));go_wp2_with fail
    go_meet;exact⟨by rw [H1.out];rfl,rfl⟩
  case rest =>
   obtain ⟨rfl,rfl⟩:=hcut;have HE1:=HE;clear HE;generalize (decide (n1<=4) && decide (n2<=12) && decide (n3<=12))=b0 at *;go_wp2_with fail
   clear q0 q1 q2
   go_loopw [5,36] (fun ok i wr=>∃ (k:Nat) (b5:Bool),k<=n1/\i=.int .i64 k/\ok=.bool b5/\b5=(b0 && allTo (sortOk g.sorts) k)/\St w (.slice A1 n1 c1) (.slice A2 n2 c2) (.slice A3 n3 c3) wr (some bm) (some (bx,.map (some bm))) (2+k) (SeenIn (allSorts (g.sorts.take k)) [])) (fun _ i _=>n1 - (intOf i).toNat)
   case atStart=>exact⟨0,b0,by omega,rfl,rfl,by simp [allTo_zero],HS2.out⟩
   case round =>
    obtain ⟨k,b5,hk,rfl,rfl,hb5,hS⟩:=hrel;have HB:=kp hb5;have HS:=kp hS;clear hb5 hS HS2
    by_cases hlt:k < n1
    ·have hlt2:(k:Int) < (n1:Int):=by omega
     obtain ⟨s,hs⟩:∃ s,g.sorts[k]?=some s:=⟨_,gqe (show k < g.sorts.length by omega)⟩;obtain ⟨b,o,vs,rfl,hbl,_,hcell,hr⟩:=(HW.out.sorts.on StrR.lasts HS.out.keep).at' hs;obtain ⟨rfl,hsz⟩:=hr;have c0:=hcell 0 _ rfl;rw [Nat.mul_one,Nat.add_zero] at c0;have HN:=kp (allTo_succ (sortOk g.sorts) k);have HQ:=kp (show sortOk g.sorts k=(usableB (Lx.bs s) && !hasB (allSorts (g.sorts.take k)) s) by unfold sortOk;rw [hs]);have HM:=kp (seen_more_sort (a:=allSorts (g.sorts.take k)) (a':=allSorts (g.sorts.take (k+1))) (b:=[]) (s:=s) (by intro x;simp only [allSorts,List.mem_cons,mem_take_succ hs x];constructor <;> (rintro (h | h | h | h) <;> simp [h])))
     have HC:=kp (fresh_any s hsz true wr bx bm (2+k) _ HS.out.bxc.1 (lt_of_block (HS.out.bx _ _ rfl).1) (HS.out.mp _ rfl).1 (by unfold maxLen;omega));clear hcell hs;go_wp2_with fail
     refine HC.out.mono ?_;rintro e w3 hp;obtain ⟨c,hcS,rfl,hS3⟩:=HS.out.fresh hp;have HS3:=kp (hS3.imp HM.out)
     have HQ2:=kp (show sortOk g.sorts k=(usableB (Lx.bs s) && !c && (true || !coreB (Lx.bs s))) by
      rw [HQ.out];have:c=hasB (allSorts (g.sorts.take k)) s:=by rw [Bool.eq_iff_iff,hcS,seen_sort]
      rw [this];simp)
     clear hp hcS hS3 HC HM HQ HS;generalize (usableB (Lx.bs s) && !c && (true || !coreB (Lx.bs s)))=q at *
     cases q with
     | true =>
      have HN2:=kp (show b5=(b0 && allTo (sortOk g.sorts) (k+1)) by rw [HN.out,HQ2.out,HB.out];simp);go_wp2_with fail
      go_roundw
      case rel=>exact⟨k+1,b5,by omega,by go_num,rfl,HN2.out,HS3.out⟩
      case measure=>simp [intOf];omega
     | false =>
      have HN2:=kp (show false=(b0 && allTo (sortOk g.sorts) (k+1)) by rw [HN.out,HQ2.out];simp);go_wp2_with fail
      go_roundw
      case rel=>exact⟨k+1,false,by omega,by go_num,rfl,HN2.out,HS3.out⟩
      case measure=>simp [intOf];omega
    ·obtain rfl:n1=k:=by omega
     have hts:g.sorts.take n1=g.sorts:=List.take_of_length_le (by omega);rw [hts] at HS;have q0:=HS.out.g0;have q1:=HS.out.g1;have q2:=HS.out.g2;go_wp2_with fail
     clear q0 q1 q2 hk hlt;have HS2:=HS;have HB2:=HB;clear HS HB
     go_loopw [5,50] (fun ok i wr=>∃ (k:Nat) (b6:Bool),k<=n2/\i=.int .i64 k/\ok=.bool b6/\b6=(b5 && allTo (funOk g) k)/\St w (.slice A1 n1 c1) (.slice A2 n2 c2) (.slice A3 n3 c3) wr (some bm) (some (bx,.map (some bm))) (2+n1+k) (SeenIn (allSorts g.sorts) ((g.funs.map Fun4.name).take k))) (fun _ i _=>n2 - (intOf i).toNat)
     case atStart=>exact⟨0,b5,by omega,rfl,rfl,by simp [allTo_zero],HS2.out⟩
     case round =>
      obtain ⟨k,b6,hk,rfl,rfl,hb6,hS⟩:=hrel;have HB:=kp hb6;have HS:=kp hS;clear hb6 hS HS2
      by_cases hlt:k < n2
      ·have hlt2:(k:Int) < (n2:Int):=by omega
       obtain ⟨f,hf⟩:∃ f,g.funs[k]?=some f:=⟨_,gqe (show k < g.funs.length by omega)⟩;obtain ⟨b,o,vs,rfl,hbl,_,hcell,hr⟩:=(HW.out.funs.on FunR.lasts HS.out.keep).at' hf;obtain ⟨rfl,hsz,hi⟩:=hr;obtain ⟨d0,d1,d2,d3,d4,d5⟩:=cells6 hbl hcell (Below.refl _ _);have HN:=kp (allTo_succ (funOk g) k);have hnm:=map_at (nm:=Fun4.name) hf;have HQ:=kp (show funOk g k=(usableB (Lx.bs f.name) && !(hasB ((g.funs.map Fun4.name).take k) f.name || coreB (Lx.bs f.name)) && funB n1 f) by unfold funOk;rw [hf,hn1]);have HM:=kp (seen_more_name (a:=allSorts g.sorts) (b:=(g.funs.map Fun4.name).take k) (b':=(g.funs.map Fun4.name).take (k+1)) (s:=f.name) (mem_take_succ hnm));have HG:=kp (fun W=>fun_any A1 (some ⟨b,o,none⟩) A3 n1 c1 n2 c2 n3 c3 f W (by omega));have HS6:=kp (HS.out.below ((brq wr).alloc nlq (.cells #[.string f.name,.int .i64 f.len,.int .i64 f.a0,.int .i64 f.a1,.int .i64 f.a2,.int .i64 f.res] 194)));have HBC:=kp (box6_cells wr (.string f.name) (.int .i64 f.len) (.int .i64 f.a0) (.int .i64 f.a1) (.int .i64 f.a2) (.int .i64 f.res) 194);have HZ:=kp (show wr.heap.size < (wr.alloc (.cells #[.string f.name,.int .i64 f.len,.int .i64 f.a0,.int .i64 f.a1,.int .i64 f.a2,.int .i64 f.res] 194)).heap.size/\¬ wr.heap.size=bm by have:=(HS.out.mp _ rfl).1.lt;simp;omega);have HC:=kp (fresh_any f.name hsz false _ bx bm (2+n1+k) _ HS6.out.bxc.1 (lt_of_block (HS6.out.bx _ _ rfl).1) (HS6.out.mp _ rfl).1 (by unfold maxLen;omega))
       clear hcell hf hnm HS;go_wp2_with fail
       generalize wr.alloc (.cells #[.string f.name,.int .i64 f.len,.int .i64 f.a0,.int .i64 f.a1,.int .i64 f.a2,.int .i64 f.res] 194)=w6 at *;clear d0 d1 d2 d3 d4 d5;refine HC.out.mono ?_;rintro e w3 hp;have HB3:=kp (HBC.out.keeps hp.keep HZ.out.1 HZ.out.2);obtain ⟨c,hcS,rfl,hS3⟩:=HS6.out.fresh hp;have HS3:=kp (hS3.imp HM.out)
       have HQ2:=kp (show funOk g k=((usableB (Lx.bs f.name) && !c && (false || !coreB (Lx.bs f.name))) && funB n1 f) by
        rw [HQ.out];have:c=hasB ((g.funs.map Fun4.name).take k) f.name:=by rw [Bool.eq_iff_iff,hcS,seen_name]
        rw [this];generalize usableB (Lx.bs f.name)=x1;generalize coreB (Lx.bs f.name)=x2;generalize hasB ((g.funs.map Fun4.name).take k) f.name=x3;generalize funB n1 f=x4
        cases x1 <;> cases x2 <;> cases x3 <;> cases x4 <;> rfl)
       clear hp hcS hS3 HC HM HQ HS6 HBC;generalize (usableB (Lx.bs f.name) && !c && (false || !coreB (Lx.bs f.name)))=q at *
       cases q with
       | false =>
        have HN2:=kp (show false=(b5 && allTo (funOk g) (k+1)) by rw [HN.out,HQ2.out];simp);go_wp2_with fail
        go_roundw
        case rel=>exact⟨k+1,false,by omega,by go_num,rfl,HN2.out,HS3.out⟩
        case measure=>simp [intOf];omega
       | true =>
        obtain ⟨e0,e1,e2,e3,e4,e5,hz3⟩:=HB3.out;have p0:=HS3.out.g0;have p1:=HS3.out.g1;have p2:=HS3.out.g2;have hcall:=HG.out w3;go_wp2_with fail
        generalize hfb:funB n1 f=fb at hcall HQ2;clear hfb;refine hcall.mono ?_;rintro e w4 ⟨rfl,hb⟩;have HS4:=kp (HS3.out.below hb);clear hb e0 e1 e2 e3 e4 e5 p0 p1 p2 hcall HB3 HS3
        cases fb with
        | false =>
         have HN2:=kp (show false=(b5 && allTo (funOk g) (k+1)) by rw [HN.out,HQ2.out];simp);go_wp2_with fail
         go_roundw
         case rel=>exact⟨k+1,false,by omega,by go_num,rfl,HN2.out,HS4.out⟩
         case measure=>simp [intOf];omega
        | true =>
         have HN2:=kp (show b6=(b5 && allTo (funOk g) (k+1)) by rw [HN.out,HQ2.out,HB.out];simp);go_wp2_with fail
         go_roundw
         case rel=>exact⟨k+1,b6,by omega,by go_num,rfl,HN2.out,HS4.out⟩
         case measure=>simp [intOf];omega
      ·obtain rfl:n2=k:=by omega
       have hts2:(g.funs.map Fun4.name).take n2=g.funs.map Fun4.name:=List.take_of_length_le (by simp;omega);rw [hts2] at HS;have q0:=HS.out.g0;have q1:=HS.out.g1;have q2:=HS.out.g2;go_wp2_with fail
       clear q0 q1 q2 hk hlt hts hts2;have HS2:=HS;have HB3:=HB;clear HS HB
       go_loopw [5,70] (fun ok i wr=>∃ (k:Nat) (b7:Bool),k<=n3/\i=.int .i64 k/\ok=.bool b7/\b7=(b6 && allTo (macOk g) k)/\St w (.slice A1 n1 c1) (.slice A2 n2 c2) (.slice A3 n3 c3) wr (some bm) (some (bx,.map (some bm))) (2+n1+n2+k) (SeenIn (allSorts g.sorts) (g.funs.map Fun4.name ++ (g.macros.map Macro.name).take k))) (fun _ i _=>n3 - (intOf i).toNat)
       case atStart=>exact⟨0,b6,by omega,rfl,rfl,by simp [allTo_zero],by simpa using HS2.out⟩
       case round =>
        obtain ⟨k,b7,hk,rfl,rfl,hb7,hS⟩:=hrel;have HB:=kp hb7;have HS:=kp hS;clear hb7 hS HS2
        by_cases hlt:k < n3
        ·have hlt2:(k:Int) < (n3:Int):=by omega
         obtain ⟨m,hm⟩:∃ m,g.macros[k]?=some m:=⟨_,gqe (show k < g.macros.length by omega)⟩;obtain ⟨b,o,vs,rfl,hbl,_,hcell,hr⟩:=HW.out.macros.at' hm;obtain ⟨Ap,cp,bv,rfl,hsx,hps,hpc,hcm,hsz,hres⟩:=hr;obtain ⟨Ab,cb',rfl,_⟩:=hsx.open';have HSx:=kp hsx;have HPs:=kp hps;have HPm:=kp (show m.params.length<=maxLen by omega);obtain ⟨d0,d1,d2,d3,d4,d5⟩:=cells6 hbl hcell HS.out.keep;have HN:=kp (allTo_succ (macOk g) k);have hnm:=map_at (nm:=Macro.name) hm;have HQ:=kp (show macOk g k=(usableB (Lx.bs m.name) && !(hasB (g.funs.map Fun4.name) m.name || hasB ((g.macros.map Macro.name).take k) m.name || coreB (Lx.bs m.name)) && macroB n1 m) by unfold macOk;rw [hm,hn1]);have HM:=kp (seen_more_name (a:=allSorts g.sorts) (b:=g.funs.map Fun4.name ++ (g.macros.map Macro.name).take k) (b':=g.funs.map Fun4.name ++ (g.macros.map Macro.name).take (k+1)) (s:=m.name) (by intro x;rw [List.mem_append,List.mem_append,mem_take_succ hnm x];constructor <;> (rintro (h | h | h) <;> simp [h])))
         have HS6:=kp (HS.out.below ((brq wr).alloc nlq (.cells #[.string m.name,.slice Ap m.params.length cp,.int .i64 m.res,.int .i8 m.body.kind,.string m.body.text,.slice Ab m.body.l.length cb'] 198)));have HBC:=kp (box6_cells wr (.string m.name) (.slice Ap m.params.length cp) (.int .i64 m.res) (.int .i8 m.body.kind) (.string m.body.text) (.slice Ab m.body.l.length cb') 198);have HZ:=kp (show wr.heap.size < (wr.alloc (.cells #[.string m.name,.slice Ap m.params.length cp,.int .i64 m.res,.int .i8 m.body.kind,.string m.body.text,.slice Ab m.body.l.length cb'] 198)).heap.size/\¬ wr.heap.size=bm by have:=(HS.out.mp _ rfl).1.lt;simp;omega);have HC:=kp (fresh_any m.name hsz false _ bx bm (2+n1+n2+k) _ HS6.out.bxc.1 (lt_of_block (HS6.out.bx _ _ rfl).1) (HS6.out.mp _ rfl).1 (by unfold maxLen;omega));have HG:=kp (fun W hp hx=>macro_any (w:=W) (A1:=A1) (A2:=A2) (A3:=some ⟨b,o,none⟩) (n1:=n1) (c1:=c1) (n2:=n2) (c2:=c2) (n3:=n3) (c3:=c3) (Ap:=Ap) (Ab:=Ab) (cp:=cp) (cb:=cb') (by omega) m hp HPm.out hx);generalize m.params.length=np at *;generalize m.body.l.length=nb at *;clear hcell hm hnm HS hps hsx hpc hcm;go_wp2_with fail
         generalize wr.alloc (.cells #[.string m.name,.slice Ap np cp,.int .i64 m.res,.int .i8 m.body.kind,.string m.body.text,.slice Ab nb cb'] 198)=w6 at *;clear d0 d1 d2 d3 d4 d5;refine HC.out.mono ?_;rintro e w3 hp;have HB3:=kp (HBC.out.keeps hp.keep HZ.out.1 HZ.out.2);obtain ⟨c,hcS,rfl,hS3⟩:=HS6.out.fresh hp;have HS3:=kp (hS3.imp HM.out)
         have HQ2:=kp (show macOk g k=((usableB (Lx.bs m.name) && !c && (false || !coreB (Lx.bs m.name))) && macroB n1 m) by
          rw [HQ.out]
          have:c=(hasB (g.funs.map Fun4.name) m.name || hasB ((g.macros.map Macro.name).take k) m.name):=by
           rw [Bool.eq_iff_iff,hcS,seen_name,Bool.or_eq_true,hasB_iff,hasB_iff,hasB_iff,List.mem_append]
          rw [this];generalize usableB (Lx.bs m.name)=x1;generalize coreB (Lx.bs m.name)=x2;generalize hasB ((g.macros.map Macro.name).take k) m.name=x3;generalize hasB (g.funs.map Fun4.name) m.name=x5;generalize macroB n1 m=x4
          cases x1 <;> cases x2 <;> cases x3 <;> cases x4 <;> cases x5 <;> rfl)
         clear hp hcS hS3 HC HM HQ HS6 HBC;generalize (usableB (Lx.bs m.name) && !c && (false || !coreB (Lx.bs m.name)))=q at *
         cases q with
         | false =>
          have HN2:=kp (show false=(b6 && allTo (macOk g) (k+1)) by rw [HN.out,HQ2.out];simp);go_wp2_with fail
          go_roundw
          case rel=>exact⟨k+1,false,by omega,by go_num,rfl,HN2.out,HS3.out⟩
          case measure=>simp [intOf];omega
         | true =>
          obtain ⟨e0,e1,e2,e3,e4,e5,hz3⟩:=HB3.out;have p0:=HS3.out.g0;have p1:=HS3.out.g1;have p2:=HS3.out.g2;have hcall:=HG.out w3 (HPs.out.on ParamR.lasts HS3.out.keep) (SexpR.lasts _ _ _ _ HS3.out.keep HSx.out);go_wp2_with fail
          generalize hfb:macroB n1 m=fb at hcall HQ2;clear hfb;refine hcall.mono ?_;rintro e w4 ⟨rfl,hb⟩;have HS4:=kp (HS3.out.below hb);clear hb e0 e1 e2 e3 e4 e5 p0 p1 p2 hcall HB3 HS3
          cases fb with
          | false =>
           have HN2:=kp (show false=(b6 && allTo (macOk g) (k+1)) by rw [HN.out,HQ2.out];simp);go_wp2_with fail
           go_roundw
           case rel=>exact⟨k+1,false,by omega,by go_num,rfl,HN2.out,HS4.out⟩
           case measure=>simp [intOf];omega
          | true =>
           have HN2:=kp (show b7=(b6 && allTo (macOk g) (k+1)) by rw [HN.out,HQ2.out,HB.out];simp);go_wp2_with fail
           go_roundw
           case rel=>exact⟨k+1,b7,by omega,by go_num,rfl,HN2.out,HS4.out⟩
           case measure=>simp [intOf];omega
        ·obtain rfl:n3=k:=by omega
         have HF2:=kp HS.out.keep;have HR:=kp (show cb=b7 by rw [HE1.out,HB.out,HB3.out,HB2.out];simp only [Bool.and_assoc]);clear HS HB HB3 HB2
         cases b7 with
         | true =>
          replace HR:=kp (HT.out HR.out);go_wp2_with fail
          go_ret;exact⟨ret_int HR.out.symm,HF2.out⟩
         | false =>
          replace HR:=kp (HF.out HR.out);go_wp2_with fail
          go_ret;exact⟨ret_int HR.out.symm,HF2.out⟩
end Sg
end Go.Proofs.YtmcbolkpbklfeaaGreatDoor

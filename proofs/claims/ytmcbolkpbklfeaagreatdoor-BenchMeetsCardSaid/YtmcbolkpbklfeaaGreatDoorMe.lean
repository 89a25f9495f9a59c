import Derived.Test.YtmcbolkpbklfeaaGreatDoorShort
import Derived.Test.YtmcbolkpbklfeaaGreatDoorMd
import Derived.Deep.RegionHeld3
import Derived.Deep.RegionWith
/- merged by wip/merge.py from: SigA SigF SigR -/
set_option maxRecDepth 100000
set_option maxHeartbeats 51200000
namespace Go.Proofs.YtmcbolkpbklfeaaGreatDoor
namespace Sg
open Go.RowKit Dt
def usableB (l:List UInt8):Bool:=Lx.mayB l && !Lx.resB l
theorem usable_any (s:ByteArray) (w:World) (hs:(s.size:Int)<=140737488351232) :
  Calls Tryz.prog 231 #[.string s] w fun e w'=>e=.returned (.bool (usableB (Lx.bs s)))/\w=w':=by
 have HM:=kp (Lx.may_any s w (by omega));have HR:=kp (Lx.reserved_any s w);unfold usableB;generalize Lx.mayB (Lx.bs s)=m at *;generalize Lx.resB (Lx.bs s)=r at *
 cases m with
 | false =>
  go_enter Tryz.func231,Tryz.ntmps231
  go_wp2_with fail
  refine(HM.out).mono ?_;rintro e w' ⟨rfl,rfl⟩;go_wp2_with fail
  go_ret;exact⟨rfl,rfl⟩
 | true =>
  go_enter Tryz.func231,Tryz.ntmps231
  go_wp2_with fail
  refine(HM.out).mono ?_;rintro e w' ⟨rfl,rfl⟩;go_wp2_with fail
  refine(HR.out).mono ?_;rintro e w' ⟨rfl,rfl⟩;go_wp2_with fail
  go_ret;exact⟨rfl,rfl⟩
def coreL:List (List UInt8):=[[116,114,117,101],[102,97,108,115,101],[110,111,116],[97,110,100],[111,114],[120,111,114],[61,62],[61],[100,105,115,116,105,110,99,116],[105,116,101],[43],[45],[60,61],[60],[62,61],[62]]
def coreB (l:List UInt8):Bool:=coreL.contains l
theorem core_any (s:ByteArray) (w:World) :
  Calls Tryz.prog 232 #[.string s] w fun e w'=>e=.returned (.bool (coreB (Lx.bs s)))/\w=w':=by
 go_enter Tryz.func232,Tryz.ntmps232
 go_wp2_with fail
 all_goals
  go_ret;exact⟨ret_bool (by rw [← Lx.bs_toList];simp_all [coreB,coreL]),rfl⟩
def thereB (n:Nat) (s:Int):Bool:=decide (0<=s/\s < 2+(n:Int))
theorem there_any (A1 A2 A3:Option Addr) (n1 c1 n2 c2 n3 c3:Nat) (s:Int) (w:World) (hn:(n1:Int)<=140737488351232) :
  Calls Tryz.prog 242 #[.agg #[.slice A1 n1 c1,.slice A2 n2 c2,.slice A3 n3 c3],.int .i64 s] w fun e w'=>e=.returned (.bool (thereB n1 s))/\Below w.heap.size w w':=by
 have HB:=kp ((brq w).alloc nlq (.cells #[.slice A1 n1 c1,.slice A2 n2 c2,.slice A3 n3 c3] 93));have HT:=kp (show thereB n1 s=decide (0<=s/\s < 2+(n1:Int)) from rfl)
 by_cases h0:0<=s
 ·by_cases h1:s < 2+(n1:Int)
  ·go_enter Tryz.func242,Tryz.ntmps242
   go_wp2_with fail
   go_ret;exact⟨ret_bool (by rw [HT.out];simp [h0,h1]),HB.out⟩
  ·have h1':=dfq h1
   go_enter Tryz.func242,Tryz.ntmps242
   go_wp2_with fail
   go_ret;exact⟨ret_bool (by rw [HT.out];simp [h1]),HB.out⟩
 ·have h0':=dfq h0
  go_enter Tryz.func242,Tryz.ntmps242
  go_wp2_with fail
  go_ret;exact⟨ret_bool (by rw [HT.out];simp;omega),HB.out⟩
def argB (n:Nat) (len:Int) (i:Nat) (a:Int):Bool:=if(i:Int) < len then thereB n a else a == 0
def funB (n:Nat) (f:Fun4):Bool:=decide (0<=f.len/\f.len<=3) && thereB n f.res && argB n f.len 0 f.a0 && argB n f.len 1 f.a1 && argB n f.len 2 f.a2
def argOf (f:Fun4) (i:Nat):Int:=if i=0 then f.a0 else if i=1 then f.a1 else f.a2
def okTo (n:Nat) (f:Fun4) (k:Nat):Bool:=(List.range k).all fun i=>argB n f.len i (argOf f i)
theorem okTo_succ (n:Nat) (f:Fun4) (k:Nat):okTo n f (k+1)=(okTo n f k && argB n f.len k (argOf f k)):=by unfold okTo;rw [List.range_succ,List.all_append];simp
theorem funB_eq (n:Nat) (f:Fun4):funB n f=(decide (0<=f.len/\f.len<=3) && thereB n f.res && okTo n f 3):=by
 have h:okTo n f 3=(argB n f.len 0 f.a0 && argB n f.len 1 f.a1 && argB n f.len 2 f.a2):=by
  rw [okTo_succ,okTo_succ,okTo_succ];rfl
 rw [h];unfold funB;simp only [Bool.and_assoc]
theorem okTo_stop {n:Nat} {f:Fun4} {k:Nat} (hk:k < 3) (h:argB n f.len k (argOf f k)=false):okTo n f 3=false:=by
 unfold okTo;rw [List.all_eq_false];exact⟨k,List.mem_range.2 hk,by rw [h];simp⟩
theorem sig_cells (w:World) (a b c:Value) (t:TypeId):(w.alloc (.cells #[a,b,c] t)).cell? ⟨w.heap.size,0,none⟩=some a/\(w.alloc (.cells #[a,b,c] t)).cell? ⟨w.heap.size,1,none⟩=some b/\(w.alloc (.cells #[a,b,c] t)).cell? ⟨w.heap.size,2,none⟩=some c:=by
 refine⟨?_,?_,?_⟩ <;> rw [World.cell?_alloc_mark] <;> rfl
theorem fun_any (A1 A2 A3:Option Addr) (n1 c1 n2 c2 n3 c3:Nat) (f:Fun4) (w:World) (hn:(n1:Int)<=140737488351232) :
  Calls Tryz.prog 187 #[.agg #[.slice A1 n1 c1,.slice A2 n2 c2,.slice A3 n3 c3],.agg #[.string f.name,.int .i64 f.len,.int .i64 f.a0,.int .i64 f.a1,.int .i64 f.a2,.int .i64 f.res]] w fun e w'=>e=.returned (.bool (funB n1 f))/\Below w.heap.size w w':=by
 have HI:=kp (show ∀ k,k < 3->∀ w,(Instr.index 164 (.agg #[.int .i64 f.a0,.int .i64 f.a1,.int .i64 f.a2]) (.int .i64 (k:Nat))).run Tryz.prog w=.ok (.int .i64 (argOf f k)) w from fun k hk w=>by
  have:k=0\/k=1\/k=2:=by omega
  rcases this with rfl | rfl | rfl
  ·exact(show(Instr.index 164 (.agg #[.int .i64 f.a0,.int .i64 f.a1,.int .i64 f.a2]) (.int .i64 0)).run Tryz.prog w=.ok (.int .i64 f.a0) w by kernel_rfl)
  ·exact(show(Instr.index 164 (.agg #[.int .i64 f.a0,.int .i64 f.a1,.int .i64 f.a2]) (.int .i64 1)).run Tryz.prog w=.ok (.int .i64 f.a1) w by kernel_rfl)
  ·exact(show(Instr.index 164 (.agg #[.int .i64 f.a0,.int .i64 f.a1,.int .i64 f.a2]) (.int .i64 2)).run Tryz.prog w=.ok (.int .i64 f.a2) w by kernel_rfl))
 have HF:=kp (funB_eq n1 f);have HS:=kp (okTo_succ n1 f);have HX:=kp (fun k hk h=>okTo_stop (n:=n1) (f:=f) (k:=k) hk h);have HTh:=kp (fun s W=>there_any A1 A2 A3 n1 c1 n2 c2 n3 c3 s W hn);have HArg:=kp (show ∀ k a,argB n1 f.len k a=if(k:Int) < f.len then thereB n1 a else a == 0 from fun _ _=>rfl);generalize funB n1 f=fb at *;generalize hokk:okTo n1 f=ok at *;have HZ:=kp (show ok 0=true by rw [← hokk];rfl);clear hokk;generalize hagg:argOf f=ag at *;clear hagg;generalize f.len=len at *;generalize f.res=res at *;generalize f.name=name at *;generalize f.a0=a0 at *;generalize f.a1=a1 at *;generalize f.a2=a2 at *
 by_cases h0:len < 0
 ·go_enter Tryz.func187,Tryz.ntmps187
  go_wp2_with fail
  go_ret;exact⟨ret_bool (by rw [HF.out,dfq (show ¬ (0<=len/\len<=3) by omega)];rfl),((Below.refl _ _).alloc nlq _).alloc (by simp) _⟩
 ·have h0':=dfq h0
  by_cases h1:3 < len
  ·go_enter Tryz.func187,Tryz.ntmps187
   go_wp2_with fail
   go_ret;exact⟨ret_bool (by rw [HF.out,dfq (show ¬ (0<=len/\len<=3) by omega)];rfl),((Below.refl _ _).alloc nlq _).alloc (by simp) _⟩
  ·have h1':=dfq h1;replace HF:=kp (show fb=(thereB n1 res && ok 3) by rw [HF.out,decide_eq_true (show 0<=len/\len<=3 by omega)];rfl);obtain ⟨g0,g1,g2⟩:=sig_cells w (.slice A1 n1 c1) (.slice A2 n2 c2) (.slice A3 n3 c3) 93;have hz1:(w.alloc (.cells #[.slice A1 n1 c1,.slice A2 n2 c2,.slice A3 n3 c3] 93)).heap.size=w.heap.size+1:=by simp
   have B1:=kp ((brq w).alloc nlq (.cells #[.slice A1 n1 c1,.slice A2 n2 c2,.slice A3 n3 c3] 93))
   go_enter Tryz.func187,Tryz.ntmps187
   go_wp2_with fail
   generalize w.alloc (.cells #[.slice A1 n1 c1,.slice A2 n2 c2,.slice A3 n3 c3] 93)=w1 at *;have B2:=kp ((brq w1).alloc nlq (.cells #[.string name,.int .i64 len,.int .i64 a0,.int .i64 a1,.int .i64 a2,.int .i64 res] 194));have f1:(w1.alloc (.cells #[.string name,.int .i64 len,.int .i64 a0,.int .i64 a1,.int .i64 a2,.int .i64 res] 194)).cell? ⟨w1.heap.size,1,none⟩=some (.int .i64 len):=by rw [World.cell?_alloc_mark];rfl
   have f2:(w1.alloc (.cells #[.string name,.int .i64 len,.int .i64 a0,.int .i64 a1,.int .i64 a2,.int .i64 res] 194)).cell? ⟨w1.heap.size,2,none⟩=some (.int .i64 a0):=by rw [World.cell?_alloc_mark];rfl
   have f3:(w1.alloc (.cells #[.string name,.int .i64 len,.int .i64 a0,.int .i64 a1,.int .i64 a2,.int .i64 res] 194)).cell? ⟨w1.heap.size,3,none⟩=some (.int .i64 a1):=by rw [World.cell?_alloc_mark];rfl
   have f4:(w1.alloc (.cells #[.string name,.int .i64 len,.int .i64 a0,.int .i64 a1,.int .i64 a2,.int .i64 res] 194)).cell? ⟨w1.heap.size,4,none⟩=some (.int .i64 a2):=by rw [World.cell?_alloc_mark];rfl
   have hz2:(w1.alloc (.cells #[.string name,.int .i64 len,.int .i64 a0,.int .i64 a1,.int .i64 a2,.int .i64 res] 194)).heap.size=w1.heap.size+1:=by simp
   have hg0:=((bcell B2.out).1 w.heap.size 0 (by omega)).trans g0;have hg1:=((bcell B2.out).1 w.heap.size 1 (by omega)).trans g1;have hg2:=((bcell B2.out).1 w.heap.size 2 (by omega)).trans g2;generalize w1.alloc (.cells #[.string name,.int .i64 len,.int .i64 a0,.int .i64 a1,.int .i64 a2,.int .i64 res] 194)=w2 at *;clear g0 g1 g2;rw [hz1] at f1 f2 f3 f4 hz2;have B02:=kp (B1.out.trans (B2.out.mono (by omega)));have hcall:=HTh.out res w2
   cases hres:thereB n1 res with
   | false =>
    replace HF:=kp (show fb=false by rw [HF.out,hres];rfl);rw [hres] at hcall;clear hres;refine hcall.mono ?_;rintro e w3 ⟨rfl,hb⟩;have B3:=kp (B02.out.trans (hb.mono B02.out.size));clear hb;go_wp2_with fail
    go_ret;exact⟨ret_bool HF.out.symm,B3.out⟩
   | true =>
    replace HF:=kp (show fb=ok 3 by rw [HF.out,hres];rfl);rw [hres] at hcall;clear hres;refine hcall.mono ?_;rintro e w3 ⟨rfl,hb⟩;have B3:=kp (B02.out.trans (hb.mono B02.out.size));have k0:=((bcell hb).1 w.heap.size 0 (by omega)).trans hg0;have k1:=((bcell hb).1 w.heap.size 1 (by omega)).trans hg1;have k2:=((bcell hb).1 w.heap.size 2 (by omega)).trans hg2;have j1:=((bcell hb).1 (w.heap.size+1) 1 (by omega)).trans f1;have j2:=((bcell hb).1 (w.heap.size+1) 2 (by omega)).trans f2;have j3:=((bcell hb).1 (w.heap.size+1) 3 (by omega)).trans f3;have j4:=((bcell hb).1 (w.heap.size+1) 4 (by omega)).trans f4;have hz3:w.heap.size+2<=w3.heap.size:=by have:=hb.size;omega
    clear hb hg0 hg1 hg2 f1 f2 f3 f4;go_wp2_with fail
    go_loopw [24] (fun v wr=>∃ k:Nat,k<=3/\v=.int .i64 k/\ok k=true/\Below w3.heap.size w3 wr) (fun v _=>3 - (intOf v).toNat)
    case atStart=>exact⟨0,by omega,rfl,HZ.out,Below.refl _ _⟩
    case round =>
     obtain ⟨k,hk,rfl,hok,hb⟩:=hrel;have HO:=kp hok;have HB:=kp hb;have p0:=((bcell hb).1 w.heap.size 0 (by omega)).trans k0;have p1:=((bcell hb).1 w.heap.size 1 (by omega)).trans k1;have p2:=((bcell hb).1 w.heap.size 2 (by omega)).trans k2;have q1:=((bcell hb).1 (w.heap.size+1) 1 (by omega)).trans j1;clear hok hb
     by_cases hlt:k < 3
     ·have hlt2:(k:Int) < 3:=by omega
      have ik:=HI.out k hlt;have HA:=kp (HArg.out k (ag k));have HN:=kp (HS.out k);have HE:=kp (HX.out k hlt);generalize ag k=x at *
      by_cases hl:(k:Int) < len
      ·replace HA:=kp (HA.out.trans (if_pos hl));have hc:=HTh.out x wr
       cases ht:thereB n1 x with
       | true =>
        replace HN:=kp (show ok (k+1)=true by rw [HN.out,HO.out,HA.out,ht];rfl);rw [ht] at hc;clear ht;have hge:decide (len<=(k:Int))=false:=dfq (by omega);go_wp2_with fail
        refine hc.mono ?_;rintro e w4 ⟨rfl,hb⟩;have HB4:=kp (HB.out.trans (hb.mono HB.out.size));have hq:=((bcell hb).1 (w.heap.size+1) 1 (by have:=HB.out.size;omega)).trans q1;clear hb;go_wp2_with fail
        go_roundw
        case rel=>exact⟨k+1,by omega,by go_num,HN.out,HB4.out⟩
        case measure=>simp [intOf];omega
       | false =>
        replace HE:=kp (show fb=false by rw [HF.out];exact HE.out (by rw [HA.out,ht]));rw [ht] at hc;clear ht;go_wp2_with fail
        refine hc.mono ?_;rintro e w4 ⟨rfl,hb⟩;have HB4:=kp (B3.out.trans ((HB.out.trans (hb.mono HB.out.size)).mono (by omega)));clear hb;go_wp2_with fail
        go_ret;exact⟨ret_bool HE.out.symm,HB4.out⟩
      ·have hl':=dfq hl;have hge:len<=(k:Int):=by omega
       replace HA:=kp (HA.out.trans (if_neg hl))
       by_cases hx:x=0
       ·replace HN:=kp (show ok (k+1)=true by rw [HN.out,HO.out,HA.out,hx];rfl);rw [hx] at ik;clear hx;go_wp2_with fail
        go_roundw
        case rel=>exact⟨k+1,by omega,by go_num,HN.out,HB.out⟩
        case measure=>simp [intOf];omega
       ·have hx':(x == 0)=false:=beq_eq_false_iff_ne.2 hx;have hx'':(x != 0)=true:=by rw [bne,hx'];rfl
        replace HE:=kp (show fb=false by rw [HF.out];exact HE.out (by rw [HA.out,hx']));have HB4:=kp (B3.out.trans (HB.out.mono (by omega)));go_wp2_with fail
        go_ret;exact⟨ret_bool HE.out.symm,HB4.out⟩
     ·obtain rfl:k=3:=by omega
      have HB4:=kp (B3.out.trans (HB.out.mono (by omega)));have HR:=kp (HF.out.trans HO.out);go_wp2_with fail
      go_ret;exact⟨ret_bool HR.out.symm,HB4.out⟩
theorem map_at {α β:Type} {l:List α} {nm:α->β} {k:Nat} {x:α} (h:l[k]?=some x):(l.map nm)[k]?=some (nm x):=by rw [List.getElem?_map,h];rfl
def hasB (l:List ByteArray) (s:ByteArray):Bool:=l.any fun x=>decide (x=s)
theorem hasB_iff {l:List ByteArray} {s:ByteArray}:hasB l s=true ↔ s ∈ l:=by simp [hasB]
section
variable {l:List ByteArray} {s:ByteArray} {k:Nat}
end
def allSorts (l:List ByteArray):List ByteArray:={ data:=#[66,111,111,108] } :: { data:=#[73,110,116] } :: l
end Sg
end Go.Proofs.YtmcbolkpbklfeaaGreatDoor

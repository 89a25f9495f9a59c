import Derived.Test.YtpmdcckapddchaaGreatDoorShort
import Derived.Test.YtpmdcckapddchaaGreatDoorMb
import Derived.Deep.RegionHeld3
import Derived.Deep.RegionWith
/- merged by wip/merge.py from: SigA SigF SigR -/
set_option maxRecDepth 100000
set_option maxHeartbeats 51200000
namespace Go.Proofs.YtpmdcckapddchaaGreatDoor
namespace Sg
open Go.RowKit Dt
def usableB (l:List UInt8):Bool:=Lx.mayB l && !Lx.resB l
theorem usable_any (s:ByteArray) (w:World) (hs:(s.size:Int)<=140737488351232) :
  Calls Tryz.prog 65 #[.string s] w fun e w'=>e=.returned (.bool (usableB (Lx.bs s)))/\w=w':=by
 have HM:=kp (Lx.may_any s w (by omega));have HR:=kp (Lx.reserved_any s w);unfold usableB;generalize Lx.mayB (Lx.bs s)=m at *;generalize Lx.resB (Lx.bs s)=r at *
 cases m with
 | false =>
  go_enter Tryz.func65,Tryz.ntmps65
  go_wp2_with fail
  refine(HM.out).mono ?_;rintro e w' ⟨rfl,rfl⟩;go_wp2_with fail
  go_ret;exact⟨rfl,rfl⟩
 | true =>
  go_enter Tryz.func65,Tryz.ntmps65
  go_wp2_with fail
  refine(HM.out).mono ?_;rintro e w' ⟨rfl,rfl⟩;go_wp2_with fail
  refine(HR.out).mono ?_;rintro e w' ⟨rfl,rfl⟩;go_wp2_with fail
  go_ret;exact⟨rfl,rfl⟩
def coreL:List (List UInt8):=[[116,114,117,101],[102,97,108,115,101],[110,111,116],[97,110,100],[111,114],[120,111,114],[61,62],[61],[100,105,115,116,105,110,99,116],[105,116,101],[43],[45],[60,61],[60],[62,61],[62]]
def coreB (l:List UInt8):Bool:=coreL.contains l
theorem core_any (s:ByteArray) (w:World) :
  Calls Tryz.prog 66 #[.string s] w fun e w'=>e=.returned (.bool (coreB (Lx.bs s)))/\w=w':=by
 go_enter Tryz.func66,Tryz.ntmps66
 go_wp2_with fail
 all_goals
  go_ret;exact⟨ret_bool (by rw [← Lx.bs_toList];simp_all [coreB,coreL]),rfl⟩
theorem rcore_any (s:ByteArray) (w:World) :
  Calls Tryz.prog 126 #[.string s] w fun e w'=>e=.returned (.bool (coreB (Lx.bs s)))/\w=w':=by
 go_enter Tryz.func126,Tryz.ntmps126
 go_wp2_with fail
 all_goals
  go_ret;exact⟨ret_bool (by rw [← Lx.bs_toList];simp_all [coreB,coreL]),rfl⟩
def thereB (n:Nat) (s:Int):Bool:=decide (0<=s/\s < 2+(n:Int))
theorem there_any (A1 A2 A3:Option Addr) (n1 c1 n2 c2 n3 c3:Nat) (s:Int) (w:World) (hn:(n1:Int)<=140737488351232) :
  Calls Tryz.prog 111 #[.agg #[.slice A1 n1 c1,.slice A2 n2 c2,.slice A3 n3 c3],.int .i64 s] w fun e w'=>e=.returned (.bool (thereB n1 s))/\Below w.heap.size w w':=by
 have HB:=kp ((brq w).alloc nlq (.cells #[.slice A1 n1 c1,.slice A2 n2 c2,.slice A3 n3 c3] 26));have HT:=kp (show thereB n1 s=decide (0<=s/\s < 2+(n1:Int)) from rfl)
 by_cases h0:0<=s
 ·by_cases h1:s < 2+(n1:Int)
  ·go_enter Tryz.func111,Tryz.ntmps111
   go_wp2_with fail
   go_ret;exact⟨ret_bool (by rw [HT.out];simp [h0,h1]),HB.out⟩
  ·have h1':=dfq h1
   go_enter Tryz.func111,Tryz.ntmps111
   go_wp2_with fail
   go_ret;exact⟨ret_bool (by rw [HT.out];simp [h1]),HB.out⟩
 ·have h0':=dfq h0
  go_enter Tryz.func111,Tryz.ntmps111
  go_wp2_with fail
  go_ret;exact⟨ret_bool (by rw [HT.out];simp;omega),HB.out⟩
def argB (n:Nat) (len:Int) (i:Nat) (a:Int):Bool:=if(i:Int) < len then thereB n a else a == 0
def funB (n:Nat) (f:Fun4):Bool:=decide (0<=f.len/\f.len<=3) && thereB n f.res && argB n f.len 0 f.a0 && argB n f.len 1 f.a1 && argB n f.len 2 f.a2
def argOf (f:Fun4) (i:Nat):Int:=if i=0 then f.a0 else if i=1 then f.a1 else f.a2
def okTo (n:Nat) (f:Fun4) (k:Nat):Bool:=(List.range k).all fun i=>argB n f.len i (argOf f i)
theorem okTo_succ (n:Nat) (f:Fun4) (k:Nat):okTo n f (k+1)=(okTo n f k && argB n f.len k (argOf f k)):=by unfold okTo;rw [List.range_succ,List.all_append];simp
theorem funB_eq (n:Nat) (f:Fun4):funB n f=(decide (0<=f.len/\f.len<=3) && thereB n f.res && okTo n f 3):=by
 have h:okTo n f 3=(argB n f.len 0 f.a0 && argB n f.len 1 f.a1 && argB n f.len 2 f.a2):=by
  rw [okTo_succ,okTo_succ,okTo_succ];rfl
 rw [h];unfold funB;simp only [Bool.and_assoc]
theorem okTo_stop {n:Nat} {f:Fun4} {k:Nat} (hk:k < 3) (h:argB n f.len k (argOf f k)=false):okTo n f 3=false:=by
 unfold okTo;rw [List.all_eq_false];exact⟨k,List.mem_range.2 hk,by rw [h];simp⟩
theorem sig_cells (w:World) (a b c:Value) (t:TypeId):(w.alloc (.cells #[a,b,c] t)).cell? ⟨w.heap.size,0,none⟩=some a/\(w.alloc (.cells #[a,b,c] t)).cell? ⟨w.heap.size,1,none⟩=some b/\(w.alloc (.cells #[a,b,c] t)).cell? ⟨w.heap.size,2,none⟩=some c:=by
 refine⟨?_,?_,?_⟩ <;> rw [World.cell?_alloc_mark] <;> rfl
theorem fun_any (A1 A2 A3:Option Addr) (n1 c1 n2 c2 n3 c3:Nat) (f:Fun4) (w:World) (hn:(n1:Int)<=140737488351232) :
  Calls Tryz.prog 67 #[.agg #[.slice A1 n1 c1,.slice A2 n2 c2,.slice A3 n3 c3],.agg #[.string f.name,.int .i64 f.len,.int .i64 f.a0,.int .i64 f.a1,.int .i64 f.a2,.int .i64 f.res]] w fun e w'=>e=.returned (.bool (funB n1 f))/\Below w.heap.size w w':=by
 have HI:=kp (show ∀ k,k < 3->∀ w,(Instr.index 47 (.agg #[.int .i64 f.a0,.int .i64 f.a1,.int .i64 f.a2]) (.int .i64 (k:Nat))).run Tryz.prog w=.ok (.int .i64 (argOf f k)) w from fun k hk w=>by
  have:k=0\/k=1\/k=2:=by omega
  rcases this with rfl | rfl | rfl
  ·exact(show(Instr.index 47 (.agg #[.int .i64 f.a0,.int .i64 f.a1,.int .i64 f.a2]) (.int .i64 0)).run Tryz.prog w=.ok (.int .i64 f.a0) w by kernel_rfl)
  ·exact(show(Instr.index 47 (.agg #[.int .i64 f.a0,.int .i64 f.a1,.int .i64 f.a2]) (.int .i64 1)).run Tryz.prog w=.ok (.int .i64 f.a1) w by kernel_rfl)
  ·exact(show(Instr.index 47 (.agg #[.int .i64 f.a0,.int .i64 f.a1,.int .i64 f.a2]) (.int .i64 2)).run Tryz.prog w=.ok (.int .i64 f.a2) w by kernel_rfl))
 have HF:=kp (funB_eq n1 f);have HS:=kp (okTo_succ n1 f);have HX:=kp (fun k hk h=>okTo_stop (n:=n1) (f:=f) (k:=k) hk h);have HTh:=kp (fun s W=>there_any A1 A2 A3 n1 c1 n2 c2 n3 c3 s W hn);have HArg:=kp (show ∀ k a,argB n1 f.len k a=if(k:Int) < f.len then thereB n1 a else a == 0 from fun _ _=>rfl);generalize funB n1 f=fb at *;generalize hokk:okTo n1 f=ok at *;have HZ:=kp (show ok 0=true by rw [← hokk];rfl);clear hokk;generalize hagg:argOf f=ag at *;clear hagg;generalize f.len=len at *;generalize f.res=res at *;generalize f.name=name at *;generalize f.a0=a0 at *;generalize f.a1=a1 at *;generalize f.a2=a2 at *
 by_cases h0:len < 0
 ·go_enter Tryz.func67,Tryz.ntmps67
  go_wp2_with fail
  go_ret;exact⟨ret_bool (by rw [HF.out,dfq (show ¬ (0<=len/\len<=3) by omega)];rfl),((Below.refl _ _).alloc nlq _).alloc (by simp) _⟩
 ·have h0':=dfq h0
  by_cases h1:3 < len
  ·go_enter Tryz.func67,Tryz.ntmps67
   go_wp2_with fail
   go_ret;exact⟨ret_bool (by rw [HF.out,dfq (show ¬ (0<=len/\len<=3) by omega)];rfl),((Below.refl _ _).alloc nlq _).alloc (by simp) _⟩
  ·have h1':=dfq h1;replace HF:=kp (show fb=(thereB n1 res && ok 3) by rw [HF.out,decide_eq_true (show 0<=len/\len<=3 by omega)];rfl);obtain ⟨g0,g1,g2⟩:=sig_cells w (.slice A1 n1 c1) (.slice A2 n2 c2) (.slice A3 n3 c3) 26;have hz1:(w.alloc (.cells #[.slice A1 n1 c1,.slice A2 n2 c2,.slice A3 n3 c3] 26)).heap.size=w.heap.size+1:=by simp
   have B1:=kp ((brq w).alloc nlq (.cells #[.slice A1 n1 c1,.slice A2 n2 c2,.slice A3 n3 c3] 26))
   go_enter Tryz.func67,Tryz.ntmps67
   go_wp2_with fail
   generalize w.alloc (.cells #[.slice A1 n1 c1,.slice A2 n2 c2,.slice A3 n3 c3] 26)=w1 at *;have B2:=kp ((brq w1).alloc nlq (.cells #[.string name,.int .i64 len,.int .i64 a0,.int .i64 a1,.int .i64 a2,.int .i64 res] 108));have f1:(w1.alloc (.cells #[.string name,.int .i64 len,.int .i64 a0,.int .i64 a1,.int .i64 a2,.int .i64 res] 108)).cell? ⟨w1.heap.size,1,none⟩=some (.int .i64 len):=by rw [World.cell?_alloc_mark];rfl
   have f2:(w1.alloc (.cells #[.string name,.int .i64 len,.int .i64 a0,.int .i64 a1,.int .i64 a2,.int .i64 res] 108)).cell? ⟨w1.heap.size,2,none⟩=some (.int .i64 a0):=by rw [World.cell?_alloc_mark];rfl
   have f3:(w1.alloc (.cells #[.string name,.int .i64 len,.int .i64 a0,.int .i64 a1,.int .i64 a2,.int .i64 res] 108)).cell? ⟨w1.heap.size,3,none⟩=some (.int .i64 a1):=by rw [World.cell?_alloc_mark];rfl
   have f4:(w1.alloc (.cells #[.string name,.int .i64 len,.int .i64 a0,.int .i64 a1,.int .i64 a2,.int .i64 res] 108)).cell? ⟨w1.heap.size,4,none⟩=some (.int .i64 a2):=by rw [World.cell?_alloc_mark];rfl
   have hz2:(w1.alloc (.cells #[.string name,.int .i64 len,.int .i64 a0,.int .i64 a1,.int .i64 a2,.int .i64 res] 108)).heap.size=w1.heap.size+1:=by simp
   have hg0:=((bcell B2.out).1 w.heap.size 0 (by omega)).trans g0;have hg1:=((bcell B2.out).1 w.heap.size 1 (by omega)).trans g1;have hg2:=((bcell B2.out).1 w.heap.size 2 (by omega)).trans g2;generalize w1.alloc (.cells #[.string name,.int .i64 len,.int .i64 a0,.int .i64 a1,.int .i64 a2,.int .i64 res] 108)=w2 at *;clear g0 g1 g2;rw [hz1] at f1 f2 f3 f4 hz2;have B02:=kp (B1.out.trans (B2.out.mono (by omega)));have hcall:=HTh.out res w2
   cases hres:thereB n1 res with
   | false =>
    replace HF:=kp (show fb=false by rw [HF.out,hres];rfl);rw [hres] at hcall;clear hres;refine hcall.mono ?_;rintro e w3 ⟨rfl,hb⟩;have B3:=kp (B02.out.trans (hb.mono B02.out.size));clear hb;go_wp2_with fail
    go_ret;exact⟨ret_bool HF.out.symm,B3.out⟩
   | true =>
    replace HF:=kp (show fb=ok 3 by rw [HF.out,hres];rfl);rw [hres] at hcall;clear hres;refine hcall.mono ?_;rintro e w3 ⟨rfl,hb⟩;have B3:=kp (B02.out.trans (hb.mono B02.out.size));have k0:=((bcell hb).1 w.heap.size 0 (by omega)).trans hg0;have k1:=((bcell hb).1 w.heap.size 1 (by omega)).trans hg1;have k2:=((bcell hb).1 w.heap.size 2 (by omega)).trans hg2;have j1:=((bcell hb).1 (w.heap.size+1) 1 (by omega)).trans f1;have j2:=((bcell hb).1 (w.heap.size+1) 2 (by omega)).trans f2;have j3:=((bcell hb).1 (w.heap.size+1) 3 (by omega)).trans f3;have j4:=((bcell hb).1 (w.heap.size+1) 4 (by omega)).trans f4;have hz3:w.heap.size+2<=w3.heap.size:=by have:=hb.size;omega
    clear hb hg0 hg1 hg2 f1 f2 f3 f4;go_wp2_with fail
    go_loopw [24] (fun v wr=>∃ k:Nat,k<=3/\v=.int .i64 k/\ok k=true/\Below w3.heap.size w3 wr) (fun v _=>3 - (intOf v).toNat)
    case atStart=>exact⟨0,by omega,rfl,HZ.out,Below.refl _ _⟩
    case round =>
     obtain ⟨k,hk,rfl,hok,hb⟩:=hrel;have HO:=kp hok;have HB:=kp hb;have p0:=((bcell hb).1 w.heap.size 0 (by omega)).trans k0;have p1:=((bcell hb).1 w.heap.size 1 (by omega)).trans k1;have p2:=((bcell hb).1 w.heap.size 2 (by omega)).trans k2;have q1:=((bcell hb).1 (w.heap.size+1) 1 (by omega)).trans j1;clear hok hb
     by_cases hlt:k < 3
     ·have hlt2:(k:Int) < 3:=by omega
      have ik:=HI.out k hlt;have HA:=kp (HArg.out k (ag k));have HN:=kp (HS.out k);have HE:=kp (HX.out k hlt);generalize ag k=x at *
      by_cases hl:(k:Int) < len
      ·replace HA:=kp (HA.out.trans (if_pos hl));have hc:=HTh.out x wr
       cases ht:thereB n1 x with
       | true =>
        replace HN:=kp (show ok (k+1)=true by rw [HN.out,HO.out,HA.out,ht];rfl);rw [ht] at hc;clear ht;have hge:decide (len<=(k:Int))=false:=dfq (by omega);go_wp2_with fail
        refine hc.mono ?_;rintro e w4 ⟨rfl,hb⟩;have HB4:=kp (HB.out.trans (hb.mono HB.out.size));have hq:=((bcell hb).1 (w.heap.size+1) 1 (by have:=HB.out.size;omega)).trans q1;clear hb;go_wp2_with fail
        go_roundw
        case rel=>exact⟨k+1,by omega,by go_num,HN.out,HB4.out⟩
        case measure=>simp [intOf];omega
       | false =>
        replace HE:=kp (show fb=false by rw [HF.out];exact HE.out (by rw [HA.out,ht]));rw [ht] at hc;clear ht;go_wp2_with fail
        refine hc.mono ?_;rintro e w4 ⟨rfl,hb⟩;have HB4:=kp (B3.out.trans ((HB.out.trans (hb.mono HB.out.size)).mono (by omega)));clear hb;go_wp2_with fail
        go_ret;exact⟨ret_bool HE.out.symm,HB4.out⟩
      ·have hl':=dfq hl;have hge:len<=(k:Int):=by omega
       replace HA:=kp (HA.out.trans (if_neg hl))
       by_cases hx:x=0
       ·replace HN:=kp (show ok (k+1)=true by rw [HN.out,HO.out,HA.out,hx];rfl);rw [hx] at ik;clear hx;go_wp2_with fail
        go_roundw
        case rel=>exact⟨k+1,by omega,by go_num,HN.out,HB.out⟩
        case measure=>simp [intOf];omega
       ·have hx':(x == 0)=false:=beq_eq_false_iff_ne.2 hx;have hx'':(x != 0)=true:=by rw [bne,hx'];rfl
        replace HE:=kp (show fb=false by rw [HF.out];exact HE.out (by rw [HA.out,hx']));have HB4:=kp (B3.out.trans (HB.out.mono (by omega)));go_wp2_with fail
        go_ret;exact⟨ret_bool HE.out.symm,HB4.out⟩
     ·obtain rfl:k=3:=by omega
      have HB4:=kp (B3.out.trans (HB.out.mono (by omega)));have HR:=kp (HF.out.trans HO.out);go_wp2_with fail
      go_ret;exact⟨ret_bool HR.out.symm,HB4.out⟩
theorem text_ne {a b:ByteArray} (h:¬ a=b):(a.toList == b.toList)=false:=by
 refine beq_eq_false_iff_ne.2 fun e=>h ?_;rw [Lx.bs_toList,Lx.bs_toList] at e;exact ByteArray.ext (Array.toList_inj.1 e)
theorem text_ne_l {a:ByteArray} {d:Array UInt8} (h:¬ (ByteArray.mk d)=a):(a.toList == d.toList)=false:=by
 refine beq_eq_false_iff_ne.2 fun e=>h ?_;rw [Lx.bs_toList] at e;exact ByteArray.ext (Array.toList_inj.1 e.symm)
theorem map_at {α β:Type} {l:List α} {nm:α->β} {k:Nat} {x:α} (h:l[k]?=some x):(l.map nm)[k]?=some (nm x):=by rw [List.getElem?_map,h];rfl
def hasB (l:List ByteArray) (s:ByteArray):Bool:=l.any fun x=>decide (x=s)
def findAt (l:List ByteArray) (s:ByteArray):Nat:=if hasB l s then l.findIdx (fun x=>decide (x=s)) else 0
theorem hasB_iff {l:List ByteArray} {s:ByteArray}:hasB l s=true ↔ s ∈ l:=by simp [hasB]
theorem hasB_not {l:List ByteArray} {s:ByteArray}:hasB l s=false ↔ s ∉ l:=by rw [← hasB_iff];simp
section
variable {l:List ByteArray} {s:ByteArray} {k:Nat}
theorem findAt_stop (hk:l[k]?=some s) (h:hasB (l.take k) s=false):findAt l s=k/\hasB l s=true:=by
 have hc:hasB l s=true:=hasB_iff.2 (mgq hk);refine⟨?_,hc⟩;unfold findAt;rw [if_pos hc];obtain ⟨hlt,he⟩:=gqs hk;have hn:=hasB_not.1 h;rw [List.findIdx_eq hlt];refine⟨by simp [he],fun j hj=>?_⟩;simp only [decide_eq_false_iff_not];intro e;exact hn (List.mem_take_iff_getElem.2 ⟨j,by omega,e⟩)
theorem findAt_none (h:hasB l s=false):findAt l s=0/\hasB l s=false:=by
 refine⟨?_,h⟩;unfold findAt;rw [h];rfl
theorem find_step {x:ByteArray} (hk:l[k]?=some x) (h:hasB (l.take k) s=false) (hx:x≠s):hasB (l.take (k+1)) s=false:=by
 rw [hasB_not] at h ⊢;rw [List.take_add_one,hk];intro hc;rcases List.mem_append.1 hc with h1 | h1
 ·exact h h1
 ·simp at h1;exact hx h1.symm
end
theorem rfunat_any {α:Type} {R:World->List Value->α->Prop} (hR:Lasts R) {nm:α->ByteArray} (hnm:∀ w vs x,R w vs x->∃ tl,vs=.string (nm x) :: tl) {l:List α} {w:World} {A1 A3:Option Addr} {n1 c1 n3 c3:Nat} {A:Option Addr} {c:Nat} (h:Lies 6 R w A l) (hcm:(l.length:Int)<=140737488351232) (s:ByteArray) :
  Calls Tryz.prog 124 #[.agg #[.slice A1 n1 c1,.slice A l.length c,.slice A3 n3 c3],.string s] w fun e w'=>e=.returned (.tuple #[.int .i64 (findAt (l.map nm) s:Nat),.bool (hasB (l.map nm) s)])/\Below w.heap.size w w':=by
 have B0:=kp ((brq w).alloc nlq (.cells #[.slice A1 n1 c1,.slice A l.length c,.slice A3 n3 c3] 26));have HE:=kp (show ∀ (a b:Nat) (x y:Bool),a=b->x=y->Ending.returned (.tuple #[.int .i64 (a:Nat),.bool x])=.returned (.tuple #[.int .i64 (b:Nat),.bool y]) from fun a b x y h1 h2=>by rw [h1,h2]);have HL:=kp (h.on hR B0.out);have HX:=kp (fun k hk h=>findAt_stop (l:=l.map nm) (s:=s) (k:=k) hk h);have HN:=kp (fun h=>findAt_none (l:=l.map nm) (s:=s) h);have HS:=kp (fun k x hk h h'=>find_step (l:=l.map nm) (s:=s) (k:=k) (x:=x) hk h h');have HM:=kp (fun k x=>map_at (l:=l) (nm:=nm) (k:=k) (x:=x));have hln:(l.map nm).length=l.length:=by simp
 clear h;generalize l.map nm=ns at *;have hg:(w.alloc (.cells #[.slice A1 n1 c1,.slice A l.length c,.slice A3 n3 c3] 26)).cell? ⟨w.heap.size,1,none⟩=some (.slice A l.length c):=by rw [World.cell?_alloc_mark];rfl
 go_enter Tryz.func124,Tryz.ntmps124
 skip;go_wp2_with fail
 generalize w.alloc (.cells #[.slice A1 n1 c1,.slice A l.length c,.slice A3 n3 c3] 26)=w1 at *
 go_loop [6] (fun v=>∃ k:Nat,k<=l.length/\v=.int .i64 k/\hasB (ns.take k) s=false) (fun v=>l.length - (intOf v).toNat)
 case atStart=>exact⟨0,Nat.zero_le _,rfl,rfl⟩
 case round =>
  obtain ⟨k,hk,rfl,hn⟩:=hrel;have HK:=kp hn;clear hn
  by_cases hlt:k < l.length
  ·have hlt2:(k:Int) < (l.length:Int):=by omega
   have hx:=gqe hlt;generalize l[k]=x at hx;obtain ⟨b,o,vs,rfl,hbl,_,hcell,hr⟩:=HL.out.at' hx;obtain ⟨tl,rfl⟩:=hnm _ _ _ hr;have c0:=hcell 0 (.string (nm x)) rfl;rw [Nat.add_zero] at c0;have HX2:=kp (HM.out k x hx);clear hcell hx hr;generalize nm x=y at *
   by_cases hq:y=s
   ·subst hq;have HQ:=kp (HX.out k HX2.out HK.out);go_wp2_with fail
    go_ret2;exact⟨HE.out _ _ _ _ HQ.out.1.symm HQ.out.2.symm,B0.out⟩
   ·have hq1:=text_ne hq;have HQ:=kp (HS.out k y HX2.out HK.out hq);go_wp2_with fail
    go_round
    case rel=>exact⟨k+1,by omega,by go_num,HQ.out⟩
    case measure=>simp [intOf];omega
  ·obtain rfl:k=l.length:=by omega
   have HQ:=kp (HN.out (by have:=HK.out;rwa [List.take_of_length_le (by omega)] at this));go_wp2_with fail
   go_ret2;exact⟨HE.out _ _ _ _ HQ.out.1.symm HQ.out.2.symm,B0.out⟩
theorem rmacroat_any {α:Type} {R:World->List Value->α->Prop} (hR:Lasts R) {nm:α->ByteArray} (hnm:∀ w vs x,R w vs x->∃ tl,vs=.string (nm x) :: tl) {l:List α} {w:World} {A1 A2:Option Addr} {n1 c1 n2 c2:Nat} {A:Option Addr} {c:Nat} (h:Lies 6 R w A l) (hcm:(l.length:Int)<=140737488351232) (s:ByteArray) :
  Calls Tryz.prog 125 #[.agg #[.slice A1 n1 c1,.slice A2 n2 c2,.slice A l.length c],.string s] w fun e w'=>e=.returned (.tuple #[.int .i64 (findAt (l.map nm) s:Nat),.bool (hasB (l.map nm) s)])/\Below w.heap.size w w':=by
 have B0:=kp ((brq w).alloc nlq (.cells #[.slice A1 n1 c1,.slice A2 n2 c2,.slice A l.length c] 26));have HE:=kp (show ∀ (a b:Nat) (x y:Bool),a=b->x=y->Ending.returned (.tuple #[.int .i64 (a:Nat),.bool x])=.returned (.tuple #[.int .i64 (b:Nat),.bool y]) from fun a b x y h1 h2=>by rw [h1,h2]);have HL:=kp (h.on hR B0.out);have HX:=kp (fun k hk h=>findAt_stop (l:=l.map nm) (s:=s) (k:=k) hk h);have HN:=kp (fun h=>findAt_none (l:=l.map nm) (s:=s) h);have HS:=kp (fun k x hk h h'=>find_step (l:=l.map nm) (s:=s) (k:=k) (x:=x) hk h h');have HM:=kp (fun k x=>map_at (l:=l) (nm:=nm) (k:=k) (x:=x));have hln:(l.map nm).length=l.length:=by simp
 clear h;generalize l.map nm=ns at *;have hg:(w.alloc (.cells #[.slice A1 n1 c1,.slice A2 n2 c2,.slice A l.length c] 26)).cell? ⟨w.heap.size,2,none⟩=some (.slice A l.length c):=by rw [World.cell?_alloc_mark];rfl
 go_enter Tryz.func125,Tryz.ntmps125
 skip;go_wp2_with fail
 generalize w.alloc (.cells #[.slice A1 n1 c1,.slice A2 n2 c2,.slice A l.length c] 26)=w1 at *
 go_loop [6] (fun v=>∃ k:Nat,k<=l.length/\v=.int .i64 k/\hasB (ns.take k) s=false) (fun v=>l.length - (intOf v).toNat)
 case atStart=>exact⟨0,Nat.zero_le _,rfl,rfl⟩
 case round =>
  obtain ⟨k,hk,rfl,hn⟩:=hrel;have HK:=kp hn;clear hn
  by_cases hlt:k < l.length
  ·have hlt2:(k:Int) < (l.length:Int):=by omega
   have hx:=gqe hlt;generalize l[k]=x at hx;obtain ⟨b,o,vs,rfl,hbl,_,hcell,hr⟩:=HL.out.at' hx;obtain ⟨tl,rfl⟩:=hnm _ _ _ hr;have c0:=hcell 0 (.string (nm x)) rfl;rw [Nat.add_zero] at c0;have HX2:=kp (HM.out k x hx);clear hcell hx hr;generalize nm x=y at *
   by_cases hq:y=s
   ·subst hq;have HQ:=kp (HX.out k HX2.out HK.out);go_wp2_with fail
    go_ret2;exact⟨HE.out _ _ _ _ HQ.out.1.symm HQ.out.2.symm,B0.out⟩
   ·have hq1:=text_ne hq;have HQ:=kp (HS.out k y HX2.out HK.out hq);go_wp2_with fail
    go_round
    case rel=>exact⟨k+1,by omega,by go_num,HQ.out⟩
    case measure=>simp [intOf];omega
  ·obtain rfl:k=l.length:=by omega
   have HQ:=kp (HN.out (by have:=HK.out;rwa [List.take_of_length_le (by omega)] at this));go_wp2_with fail
   go_ret2;exact⟨HE.out _ _ _ _ HQ.out.1.symm HQ.out.2.symm,B0.out⟩
def allSorts (l:List ByteArray):List ByteArray:={ data:=#[66,111,111,108] } :: { data:=#[73,110,116] } :: l
theorem rsortat_any {l:List ByteArray} {w:World} {A A2 A3:Option Addr} {c n2 c2 n3 c3:Nat} (h:Lies 1 StrR w A l) (hcm:(l.length:Int)<=140737488351232) (s:ByteArray) :
  Calls Tryz.prog 123 #[.agg #[.slice A l.length c,.slice A2 n2 c2,.slice A3 n3 c3],.string s] w fun e w'=>e=.returned (.tuple #[.int .i64 (findAt (allSorts l) s:Nat),.bool (hasB (allSorts l) s)])/\Below w.heap.size w w':=by
 have B0:=kp ((brq w).alloc nlq (.cells #[.slice A l.length c,.slice A2 n2 c2,.slice A3 n3 c3] 26));have HE:=kp (show ∀ (a b:Nat) (x y:Bool),a=b->x=y->Ending.returned (.tuple #[.int .i64 (a:Nat),.bool x])=.returned (.tuple #[.int .i64 (b:Nat),.bool y]) from fun a b x y h1 h2=>by rw [h1,h2]);have HL:=kp (h.on StrR.lasts B0.out);have HX:=kp (fun k hk h=>findAt_stop (l:=allSorts l) (s:=s) (k:=k) hk h);have HN:=kp (fun h=>findAt_none (l:=allSorts l) (s:=s) h);have HS:=kp (fun k x hk h h'=>find_step (l:=allSorts l) (s:=s) (k:=k) (x:=x) hk h h');have HM:=kp (fun k x (hx:l[k]?=some x)=>(show(allSorts l)[k+2]?=some x from hx));have H0:=kp (show(allSorts l)[0]?=some { data:=#[66,111,111,108] } from rfl);have H1:=kp (show(allSorts l)[1]?=some { data:=#[73,110,116] } from rfl);have hln:(allSorts l).length=l.length+2:=rfl;clear h;generalize allSorts l=ns at *;have hg:(w.alloc (.cells #[.slice A l.length c,.slice A2 n2 c2,.slice A3 n3 c3] 26)).cell? ⟨w.heap.size,0,none⟩=some (.slice A l.length c):=by rw [World.cell?_alloc_mark];rfl
 by_cases e0:({ data:=#[66,111,111,108] }:ByteArray)=s
 ·have HQ:=kp (HX.out 0 (by rw [H0.out,e0]) rfl);subst e0
  go_enter Tryz.func123,Tryz.ntmps123
  go_wp2_with fail
  go_ret2;exact⟨HE.out 0 _ _ _ HQ.out.1.symm HQ.out.2.symm,B0.out⟩
 ·have HB1:=kp (HS.out 0 _ H0.out rfl e0);have t0:(s.toList == [66,111,111,108])=false:=text_ne_l e0
  by_cases e1:({ data:=#[73,110,116] }:ByteArray)=s
  ·have HQ:=kp (HX.out 1 (by rw [H1.out,e1]) HB1.out);subst e1
   go_enter Tryz.func123,Tryz.ntmps123
   go_wp2_with fail
   go_ret2;exact⟨HE.out 1 _ _ _ HQ.out.1.symm HQ.out.2.symm,B0.out⟩
  ·have HB2:=kp (HS.out 1 _ H1.out HB1.out e1);have t1:(s.toList == [73,110,116])=false:=text_ne_l e1
   go_enter Tryz.func123,Tryz.ntmps123
   go_wp2_with fail
   generalize w.alloc (.cells #[.slice A l.length c,.slice A2 n2 c2,.slice A3 n3 c3] 26)=w1 at *
   go_loop [6] (fun v=>∃ k:Nat,k<=l.length/\v=.int .i64 k/\hasB (ns.take (k+2)) s=false) (fun v=>l.length - (intOf v).toNat)
   case atStart=>exact⟨0,Nat.zero_le _,rfl,HB2.out⟩
   case round =>
    obtain ⟨k,hk,rfl,hn⟩:=hrel;have HK:=kp hn;clear hn
    by_cases hlt:k < l.length
    ·have hlt2:(k:Int) < (l.length:Int):=by omega
     have hx:=gqe hlt;generalize l[k]=x at hx;obtain ⟨b,o,vs,rfl,hbl,_,hcell,hr⟩:=HL.out.at' hx;obtain ⟨rfl,_⟩:=hr;have c0:=hcell 0 (.string x) rfl;rw [Nat.mul_one,Nat.add_zero] at c0;have HX2:=kp (HM.out k x hx);clear hcell hx
     by_cases hq:x=s
     ·subst hq;have HQ:=kp (HX.out (k+2) HX2.out HK.out);go_wp2_with fail
      go_ret2;exact⟨by rw [show(2:Int)+(k:Int)=((k+2:Nat):Int) by omega];exact HE.out _ _ _ _ HQ.out.1.symm HQ.out.2.symm,B0.out⟩
     ·have hq1:=text_ne hq;have HQ:=kp (HS.out (k+2) x HX2.out HK.out hq);go_wp2_with fail
      go_round
      case rel=>exact⟨k+1,by omega,by go_num,HQ.out⟩
      case measure=>simp [intOf];omega
    ·obtain rfl:k=l.length:=by omega
     have HQ:=kp (HN.out (by have:=HK.out;rwa [List.take_of_length_le (by omega)] at this));go_wp2_with fail
     go_ret2;exact⟨HE.out 0 _ _ _ HQ.out.1.symm HQ.out.2.symm,B0.out⟩
end Sg
namespace Sg
open Go.RowKit Dt
def sortNameS (l:List ByteArray) (s:Int):ByteArray:=if s=0 then { data:=#[66,111,111,108] } else if s=1 then { data:=#[73,110,116] } else if 2<=s/\s - 2 < l.length then l.getD (s - 2).toNat { data:=#[] } else { data:=#[] }
theorem rsortname_any {w:World} {A1 A2 A3:Option Addr} {c1 n2 c2 n3 c3:Nat} {l:List ByteArray} (h:Lies 1 StrR w A1 l) (_hc:l.length<=c1) (hcm:(l.length:Int)<=140737488351232) (s:Int) (hs:I64 s) :
  Calls Tryz.prog 167 #[.agg #[.slice A1 l.length c1,.slice A2 n2 c2,.slice A3 n3 c3],.int .i64 s] w fun e w'=>e=.returned (.tuple #[.string (sortNameS l s),.bool (thereB l.length s)])/\Below w.heap.size w w':=by
 have HB:=kp ((brq w).alloc nlq (.cells #[.slice A1 l.length c1,.slice A2 n2 c2,.slice A3 n3 c3] 26));have HE:=kp (show ∀ (a b:ByteArray) (x y:Bool),a=b->x=y->Ending.returned (.tuple #[.string a,.bool x])=.returned (.tuple #[.string b,.bool y]) from fun a b x y h1 h2=>by rw [h1,h2]);have HS:=kp (show sortNameS l s=if s=0 then { data:=#[66,111,111,108] } else if s=1 then { data:=#[73,110,116] } else if 2<=s/\s - 2 < l.length then l.getD (s - 2).toNat { data:=#[] } else { data:=#[] } from rfl);have HT:=kp (show thereB l.length s=decide (0<=s/\s < 2+(l.length:Int)) from rfl);have hs1:=hs.hi
 by_cases h0:s=0
 ·subst h0
  go_enter Tryz.func167,Tryz.ntmps167
  go_wp2_with fail
  go_ret2;exact⟨HE.out _ _ _ _ (by rw [HS.out];rfl) (by rw [HT.out];simp;omega),HB.out⟩
 ·have n0:(s == 0)=false:=beq_eq_false_iff_ne.2 h0
  by_cases h1:s=1
  ·subst h1
   go_enter Tryz.func167,Tryz.ntmps167
   go_wp2_with fail
   go_ret2;exact⟨HE.out _ _ _ _ (by rw [HS.out];rfl) (by rw [HT.out];simp;omega),HB.out⟩
  ·have n1:(s == 1)=false:=beq_eq_false_iff_ne.2 h1
   by_cases h2:2<=s
   ·have e2:0<=s - 2:=by omega
    by_cases h3:s - 2 < (l.length:Int)
    ·obtain ⟨k,hk⟩:=Int.eq_ofNat_of_zero_le e2;obtain ⟨x,hx⟩:∃ x,l[k]?=some x:=⟨_,gqe (show k < l.length by omega)⟩;have hg:l.getD (s - 2).toNat { data:=#[] }=x:=by rw [hk];simp [List.getD_eq_getElem?_getD,hx]
     replace HS:=kp (show sortNameS l s=x by rw [HS.out,if_neg h0,if_neg h1,if_pos ⟨h2,h3⟩];exact hg);obtain ⟨b,o,vs,rfl,hbl,_,hcell,hr⟩:=h.at' hx;obtain ⟨rfl,_⟩:=hr;have hc0:=hcell 0 _ rfl;rw [Nat.mul_one,Nat.add_zero] at hc0;have hkn:o+k=o+(s - 2).toNat:=by omega
     rw [hkn] at hc0;clear hcell hg hx hk hkn
     go_enter Tryz.func167,Tryz.ntmps167
     go_wp2_with fail
     go_ret2;exact⟨HE.out _ _ _ _ HS.out.symm (by rw [HT.out];simp;omega),HB.out⟩
    ·have h3':=dfq h3
     go_enter Tryz.func167,Tryz.ntmps167
     go_wp2_with fail
     go_ret2;exact⟨HE.out _ _ _ _ (by rw [HS.out,if_neg h0,if_neg h1,if_neg (by omega)]) (by rw [HT.out,eq_comm,decide_eq_false_iff_not];omega),HB.out⟩
   ·have h2':=dfq h2
    go_enter Tryz.func167,Tryz.ntmps167
    go_wp2_with fail
    go_ret2;exact⟨HE.out _ _ _ _ (by rw [HS.out,if_neg h0,if_neg h1,if_neg (by omega)]) (by rw [HT.out,eq_comm,decide_eq_false_iff_not];omega),HB.out⟩
theorem rthere_any {w:World} {A1 A2 A3:Option Addr} {c1 n2 c2 n3 c3:Nat} {l:List ByteArray} (h:Lies 1 StrR w A1 l) (hc:l.length<=c1) (hcm:(l.length:Int)<=140737488351232) (s:Int) (hs:I64 s) :
  Calls Tryz.prog 127 #[.agg #[.slice A1 l.length c1,.slice A2 n2 c2,.slice A3 n3 c3],.int .i64 s] w fun e w'=>e=.returned (.bool (thereB l.length s))/\Below w.heap.size w w':=by
 have HB:=kp ((brq w).alloc nlq (.cells #[.slice A1 l.length c1,.slice A2 n2 c2,.slice A3 n3 c3] 26));have HC:=kp (rsortname_any (A2:=A2) (A3:=A3) (n2:=n2) (c2:=c2) (n3:=n3) (c3:=c3) (h.on StrR.lasts HB.out) hc hcm s hs);generalize sortNameS l s=nm at *;generalize thereB l.length s=tb at *
 go_enter Tryz.func127,Tryz.ntmps127
 go_wp2_with fail
 refine HC.out.mono ?_;rintro e w1 ⟨rfl,hb⟩;have HB1:=kp (HB.out.trans (hb.mono HB.out.size));clear hb;go_wp2_with fail
 go_ret;exact⟨rfl,HB1.out⟩
theorem five_cells {w w':World} {b k:Nat} {u0 u1 u2 u3 u4:Value} (hb:Below w.heap.size w w') (hlt:b+1 < w.heap.size) (p0:w.cell? ⟨b,0,none⟩=some u0) (p1:w.cell? ⟨b,1,none⟩=some u1) (p2:w.cell? ⟨b,2,none⟩=some u2) (p3:w.cell? ⟨b+1,1,none⟩=some u3) (p4:w.cell? ⟨b+1,2+k,none⟩=some u4) :
  w'.cell? ⟨b,0,none⟩=some u0/\w'.cell? ⟨b,1,none⟩=some u1/\w'.cell? ⟨b,2,none⟩=some u2/\w'.cell? ⟨b+1,1,none⟩=some u3/\w'.cell? ⟨b+1,2+k,none⟩=some u4 :=
 ⟨((bcell hb).1 b 0 (by omega)).trans p0,((bcell hb).1 b 1 (by omega)).trans p1,((bcell hb).1 b 2 (by omega)).trans p2,((bcell hb).1 (b+1) 1 hlt).trans p3,((bcell hb).1 (b+1) (2+k) hlt).trans p4⟩
theorem argOf_i64 {f:Fun4} (h:I64 f.a0/\I64 f.a1/\I64 f.a2) (k:Nat):I64 (argOf f k):=by
 unfold argOf
 split
 ·exact h.1
 ·split
  ·exact h.2.1
  ·exact h.2.2
theorem rfun_any {w:World} {A1 A2 A3:Option Addr} {c1 n2 c2 n3 c3:Nat} {l:List ByteArray} (h:Lies 1 StrR w A1 l) (hc:l.length<=c1) (hcm:(l.length:Int)<=140737488351232) (f:Fun4) (hf:I64 f.res/\I64 f.a0/\I64 f.a1/\I64 f.a2) :
  Calls Tryz.prog 80 #[.agg #[.slice A1 l.length c1,.slice A2 n2 c2,.slice A3 n3 c3],.agg #[.string f.name,.int .i64 f.len,.int .i64 f.a0,.int .i64 f.a1,.int .i64 f.a2,.int .i64 f.res]] w fun e w'=>e=.returned (.bool (funB l.length f))/\Below w.heap.size w w':=by
 have HL:=kp h;have HF:=kp (funB_eq l.length f);have HS:=kp (okTo_succ l.length f);have HX:=kp (fun k hk h=>okTo_stop (n:=l.length) (f:=f) (k:=k) hk h);have HTh:=kp (fun s hs W (hW:Below w.heap.size w W)=>rthere_any (A2:=A2) (A3:=A3) (n2:=n2) (c2:=c2) (n3:=n3) (c3:=c3) (HL.out.on StrR.lasts hW) hc hcm s hs);have HArg:=kp (show ∀ k a,argB l.length f.len k a=if(k:Int) < f.len then thereB l.length a else a == 0 from fun _ _=>rfl);have HAI:=kp (argOf_i64 hf.2);have HG:=kp (show argOf f 0=f.a0/\argOf f 1=f.a1/\argOf f 2=f.a2 from⟨rfl,rfl,rfl⟩);have HRI:=kp hf.1;generalize funB l.length f=fb at *;generalize hokk:okTo l.length f=ok at *;have HZ:=kp (show ok 0=true by rw [← hokk];rfl);clear hokk h hf;generalize hagg:argOf f=ag at *;clear hagg;generalize f.len=len at *;generalize f.res=res at *;generalize f.name=name at *;generalize f.a0=a0 at *;generalize f.a1=a1 at *;generalize f.a2=a2 at *
 by_cases h0:len < 0
 ·go_enter Tryz.func80,Tryz.ntmps80
  go_wp2_with fail
  go_ret;exact⟨ret_bool (by rw [HF.out,dfq (show ¬ (0<=len/\len<=3) by omega)];rfl),((Below.refl _ _).alloc nlq _).alloc (by simp) _⟩
 ·have h0':=dfq h0
  by_cases h1:3 < len
  ·go_enter Tryz.func80,Tryz.ntmps80
   go_wp2_with fail
   go_ret;exact⟨ret_bool (by rw [HF.out,dfq (show ¬ (0<=len/\len<=3) by omega)];rfl),((Below.refl _ _).alloc nlq _).alloc (by simp) _⟩
  ·have h1':=dfq h1;replace HF:=kp (show fb=(thereB l.length res && ok 3) by rw [HF.out,decide_eq_true (show 0<=len/\len<=3 by omega)];rfl);generalize l.length=n1 at *;obtain ⟨g0,g1,g2⟩:=sig_cells w (.slice A1 n1 c1) (.slice A2 n2 c2) (.slice A3 n3 c3) 26;have hz1:(w.alloc (.cells #[.slice A1 n1 c1,.slice A2 n2 c2,.slice A3 n3 c3] 26)).heap.size=w.heap.size+1:=by simp
   have B1:=kp ((brq w).alloc nlq (.cells #[.slice A1 n1 c1,.slice A2 n2 c2,.slice A3 n3 c3] 26))
   go_enter Tryz.func80,Tryz.ntmps80
   go_wp2_with fail
   generalize w.alloc (.cells #[.slice A1 n1 c1,.slice A2 n2 c2,.slice A3 n3 c3] 26)=w1 at *;have B2:=kp ((brq w1).alloc nlq (.cells #[.string name,.int .i64 len,.int .i64 a0,.int .i64 a1,.int .i64 a2,.int .i64 res] 108));have f1:(w1.alloc (.cells #[.string name,.int .i64 len,.int .i64 a0,.int .i64 a1,.int .i64 a2,.int .i64 res] 108)).cell? ⟨w1.heap.size,1,none⟩=some (.int .i64 len):=by rw [World.cell?_alloc_mark];rfl
   have f2:∀ k,k < 3->(w1.alloc (.cells #[.string name,.int .i64 len,.int .i64 a0,.int .i64 a1,.int .i64 a2,.int .i64 res] 108)).cell? ⟨w1.heap.size,2+k,none⟩=some (.int .i64 (ag k)):=fun k hk=>by
    rw [World.cell?_alloc_mark];have:k=0\/k=1\/k=2:=by omega
    rcases this with rfl | rfl | rfl
    ·rw [HG.out.1];rfl
    ·rw [HG.out.2.1];rfl
    ·rw [HG.out.2.2];rfl
   have hz2:(w1.alloc (.cells #[.string name,.int .i64 len,.int .i64 a0,.int .i64 a1,.int .i64 a2,.int .i64 res] 108)).heap.size=w1.heap.size+1:=by simp
   have hg0:=((bcell B2.out).1 w.heap.size 0 (by omega)).trans g0;have hg1:=((bcell B2.out).1 w.heap.size 1 (by omega)).trans g1;have hg2:=((bcell B2.out).1 w.heap.size 2 (by omega)).trans g2;generalize w1.alloc (.cells #[.string name,.int .i64 len,.int .i64 a0,.int .i64 a1,.int .i64 a2,.int .i64 res] 108)=w2 at *;clear g0 g1 g2;rw [hz1] at f1 f2 hz2;have B02:=kp (B1.out.trans (B2.out.mono (by omega)));have hcall:=HTh.out res HRI.out w2 B02.out
   cases hres:thereB n1 res with
   | false =>
    replace HF:=kp (show fb=false by rw [HF.out,hres];rfl);rw [hres] at hcall;clear hres f2;refine hcall.mono ?_;rintro e w3 ⟨rfl,hb⟩;have B3:=kp (B02.out.trans (hb.mono B02.out.size));clear hb;go_wp2_with fail
    go_ret;exact⟨ret_bool HF.out.symm,B3.out⟩
   | true =>
    replace HF:=kp (show fb=ok 3 by rw [HF.out,hres];rfl);rw [hres] at hcall;clear hres;have HF2:=kp f2;clear f2;refine hcall.mono ?_;rintro e w3 ⟨rfl,hb⟩;have B3:=kp (B02.out.trans (hb.mono B02.out.size));have k0:=((bcell hb).1 w.heap.size 0 (by omega)).trans hg0;have k1:=((bcell hb).1 w.heap.size 1 (by omega)).trans hg1;have k2:=((bcell hb).1 w.heap.size 2 (by omega)).trans hg2;have j1:=((bcell hb).1 (w.heap.size+1) 1 (by omega)).trans f1;have J2:=kp (fun k hk=>((bcell hb).1 (w.heap.size+1) (2+k) (by omega)).trans (HF2.out k hk));have hz3:w.heap.size+2<=w3.heap.size:=by have:=hb.size;omega
    clear hb hg0 hg1 hg2 f1;go_wp2_with fail
    go_loopw [5] (fun v wr=>∃ k:Nat,k<=3/\v=.int .i64 k/\ok k=true/\Below w3.heap.size w3 wr) (fun v _=>3 - (intOf v).toNat)
    case atStart=>exact⟨0,by omega,rfl,HZ.out,Below.refl _ _⟩
    case round =>
     obtain ⟨k,hk,rfl,hok,hb⟩:=hrel;have HO:=kp hok;have HB:=kp hb;have p0:=((bcell hb).1 w.heap.size 0 (by omega)).trans k0;have p1:=((bcell hb).1 w.heap.size 1 (by omega)).trans k1;have p2:=((bcell hb).1 w.heap.size 2 (by omega)).trans k2;have q1:=((bcell hb).1 (w.heap.size+1) 1 (by omega)).trans j1;clear hok
     by_cases hlt:k < 3
     ·have hlt2:(k:Int) < 3:=by omega
      have q2:=((bcell hb).1 (w.heap.size+1) (2+k) (by omega)).trans (J2.out k hlt);have HA:=kp (HArg.out k (ag k));have HN:=kp (HS.out k);have HE:=kp (HX.out k hlt);have hxi:=HAI.out k;generalize ag k=x at *;clear hb k0 k1 k2 j1
      by_cases hl:(k:Int) < len
      ·replace HA:=kp (HA.out.trans (if_pos hl));have HC:=kp (fun W (hW:Below wr.heap.size wr W)=>HTh.out x hxi W (B3.out.trans ((HB.out.trans (hW.mono HB.out.size)).mono (by omega))));clear hxi
       cases ht:thereB n1 x with
       | true =>
        replace HN:=kp (show ok (k+1)=true by rw [HN.out,HO.out,HA.out,ht];rfl);rw [ht] at HC;clear ht;have hge:decide (len<=(k:Int))=false:=dfq (by omega);go_wp2_with fail
        refine wp_region_held_drew (S:=fun W=>(W.cell? ⟨w.heap.size,0,none⟩=some (.slice A1 n1 c1)/\W.cell? ⟨w.heap.size,1,none⟩=some (.slice A2 n2 c2)/\W.cell? ⟨w.heap.size,2,none⟩=some (.slice A3 n3 c3))/\W.cell? ⟨w.heap.size+1,1,none⟩=some (.int .i64 len)/\W.cell? ⟨w.heap.size+1,2+k,none⟩=some (.int .i64 x)) (by kernel_rfl) (⟨⟨p0,p1,p2⟩,q1,q2⟩) (fun hHeld=>?_);refine plz [0,1,2,3,4,5,6,7,8,9] ?_;iterate 10 (refine tnz (v:=?_) ?_ ?_;rotate_left;(focus (intro w hSw;go_simp;try with_reducible rfl));try simp only [pt])
        refine pzz ?_;refine rd 10 fun K hK=>?_;go_simp
        go_wp2_with (go_at_call 127;refine(HC.out _ ?_).mono ?_;exact(brq wr).drew;rintro e w4 ⟨rfl,hb4⟩;obtain ⟨y0,y1,y2,y3,y4⟩:=five_cells (show Below wr.heap.size wr w4 from(brq wr).drew.trans hb4) (by have:=HB.out.size;omega) p0 p1 p2 q1 q2)
        refine hK.out _ _ (⟨⟨y0,y1,y2⟩,y3,y4⟩) (fun hHeld=>?_);clear hK K;try simp only [pt]
        have HB4:=kp (HB.out.drew.trans (hb4.mono HB.out.size));clear hb4;refine plz [11,12,13,14,15,16,17,18] ?_;iterate 8 (refine tnz (v:=?_) ?_ ?_;rotate_left;(focus (intro w hSw;go_simp;try with_reducible rfl));try simp only [pt])
        refine pzz ?_;refine sk 19 ?_;try simp only [pt]
        refine sk 20 ?_;try simp only [pt]
        refine sk 21 ?_;try simp only [pt]
        refine sk 22 ?_;try simp only [pt]
        refine sk 23 ?_;try simp only [pt]
        refine plz [24,25] ?_;iterate 2 (refine tnz (v:=?_) ?_ ?_;rotate_left;(focus (intro w hSw;go_simp;try with_reducible rfl));try simp only [pt])
        refine pzz ?_;refine dnz ?_;go_wp2_with fail
        go_roundw
        case rel=>exact⟨k+1,by omega,by go_num,HN.out,HB4.out⟩
        case measure=>simp [intOf];omega
       | false =>
        replace HE:=kp (show fb=false by rw [HF.out];exact HE.out (by rw [HA.out,ht]));rw [ht] at HC;clear ht;go_wp2_with fail
        refine wp_region_held_drew (S:=fun W=>(W.cell? ⟨w.heap.size,0,none⟩=some (.slice A1 n1 c1)/\W.cell? ⟨w.heap.size,1,none⟩=some (.slice A2 n2 c2)/\W.cell? ⟨w.heap.size,2,none⟩=some (.slice A3 n3 c3))/\W.cell? ⟨w.heap.size+1,1,none⟩=some (.int .i64 len)/\W.cell? ⟨w.heap.size+1,2+k,none⟩=some (.int .i64 x)) (by kernel_rfl) (⟨⟨p0,p1,p2⟩,q1,q2⟩) (fun hHeld=>?_);refine plz [0,1,2,3,4,5,6,7,8,9] ?_;iterate 10 (refine tnz (v:=?_) ?_ ?_;rotate_left;(focus (intro w hSw;go_simp;try with_reducible rfl));try simp only [pt])
        refine pzz ?_;refine rd 10 fun K hK=>?_;go_simp
        go_wp2_with (go_at_call 127;refine(HC.out _ ?_).mono ?_;exact(brq wr).drew;rintro e w4 ⟨rfl,hb4⟩;obtain ⟨y0,y1,y2,y3,y4⟩:=five_cells (show Below wr.heap.size wr w4 from(brq wr).drew.trans hb4) (by have:=HB.out.size;omega) p0 p1 p2 q1 q2)
        refine hK.out _ _ (⟨⟨y0,y1,y2⟩,y3,y4⟩) (fun hHeld=>?_);clear hK K;try simp only [pt]
        have HB4:=kp (B3.out.trans ((HB.out.drew.trans (hb4.mono HB.out.size)).mono (by omega)));clear hb4;refine plz [11,12,13] ?_;iterate 3 (refine tnz (v:=?_) ?_ ?_;rotate_left;(focus (intro w hSw;go_simp;try with_reducible rfl));try simp only [pt])
        refine pzz ?_;refine sk 14 ?_;try simp only [pt]
        refine sk 15 ?_;try simp only [pt]
        refine sk 16 ?_;try simp only [pt]
        refine sk 17 ?_;try simp only [pt]
        refine sk 18 ?_;try simp only [pt]
        refine sk 19 ?_;try simp only [pt]
        refine sk 20 ?_;try simp only [pt]
        refine sk 21 ?_;try simp only [pt]
        refine sk 22 ?_;try simp only [pt]
        refine sk 23 ?_;try simp only [pt]
        refine sk 24 ?_;try simp only [pt]
        refine tk 25 (v:=?_) ?_ ?_;rotate_left
        ·(intro w hSw;go_simp;try with_reducible rfl)
        try simp only [pt]
        refine dnz ?_;go_wp2_with fail
        go_ret;exact⟨ret_bool HE.out.symm,HB4.out⟩
      ·have hl':=dfq hl;have hge:len<=(k:Int):=by omega
       replace HA:=kp (HA.out.trans (if_neg hl))
       by_cases hx:x=0
       ·replace HN:=kp (show ok (k+1)=true by rw [HN.out,HO.out,HA.out,hx];rfl);rw [hx] at q2;clear hx;go_wp2_with fail
        refine wp_region_held_drew (S:=fun W=>W.cell? ⟨w.heap.size+1,1,none⟩=some (.int .i64 len)/\W.cell? ⟨w.heap.size+1,2+k,none⟩=some (.int .i64 0)) (by kernel_rfl) (⟨q1,q2⟩) (fun hHeld=>?_);refine plz [0,1,2,3,4] ?_;iterate 5 (refine tnz (v:=?_) ?_ ?_;rotate_left;(focus (intro w hSw;go_simp;try with_reducible rfl));try simp only [pt])
        refine pzz ?_;refine sk 5 ?_;try simp only [pt]
        refine sk 6 ?_;try simp only [pt]
        refine sk 7 ?_;try simp only [pt]
        refine sk 8 ?_;try simp only [pt]
        refine sk 9 ?_;try simp only [pt]
        refine sk 10 ?_;try simp only [pt]
        refine sk 11 ?_;try simp only [pt]
        refine plz [12,13,14,15,16,17,18,19,20,21,22,23,24,25] ?_;iterate 14 (refine tnz (v:=?_) ?_ ?_;rotate_left;(focus (intro w hSw;go_simp;try with_reducible rfl));try simp only [pt])
        refine pzz ?_;refine dnz ?_;go_wp2_with fail
        go_roundw
        case rel=>exact⟨k+1,by omega,by go_num,HN.out,⟨HB.out.os,HB.out.tape,HB.out.output,HB.out.size,HB.out.block⟩⟩
        case measure=>simp [intOf];omega
       ·have hx':(x == 0)=false:=beq_eq_false_iff_ne.2 hx;have hx'':(x != 0)=true:=by rw [bne,hx'];rfl
        replace HE:=kp (show fb=false by rw [HF.out];exact HE.out (by rw [HA.out,hx']));have HB4:=kp (B3.out.trans (HB.out.mono (by omega)));go_wp2_with fail
        refine wp_region_held_drew (S:=fun W=>W.cell? ⟨w.heap.size+1,1,none⟩=some (.int .i64 len)/\W.cell? ⟨w.heap.size+1,2+k,none⟩=some (.int .i64 x)) (by kernel_rfl) (⟨q1,q2⟩) (fun hHeld=>?_);refine plz [0,1,2,3,4] ?_;iterate 5 (refine tnz (v:=?_) ?_ ?_;rotate_left;(focus (intro w hSw;go_simp;try with_reducible rfl));try simp only [pt])
        refine pzz ?_;refine sk 5 ?_;try simp only [pt]
        refine sk 6 ?_;try simp only [pt]
        refine sk 7 ?_;try simp only [pt]
        refine sk 8 ?_;try simp only [pt]
        refine sk 9 ?_;try simp only [pt]
        refine sk 10 ?_;try simp only [pt]
        refine sk 11 ?_;try simp only [pt]
        refine plz [12,13,14,15,16,17,18,19,20,21,22,23,24,25] ?_;iterate 14 (refine tnz (v:=?_) ?_ ?_;rotate_left;(focus (intro w hSw;go_simp;try with_reducible rfl));try simp only [pt])
        refine pzz ?_;refine dnz ?_;go_wp2_with fail
        go_ret;exact⟨ret_bool HE.out.symm,⟨HB4.out.os,HB4.out.tape,HB4.out.output,HB4.out.size,HB4.out.block⟩⟩
     ·obtain rfl:k=3:=by omega
      have HB4:=kp (B3.out.trans (HB.out.mono (by omega)));have HR:=kp (HF.out.trans HO.out);clear hb;go_wp2_with fail
      go_ret;exact⟨ret_bool HR.out.symm,HB4.out⟩
end Sg
end Go.Proofs.YtpmdcckapddchaaGreatDoor

import Derived.Test.YtmcbolkpbklfeaaGreatDoorShort
import Derived.Test.YtmcbolkpbklfeaaGreatDoorMz
import Derived.Laws.EntriesVeiled
/- merged by wip/merge.py from: LxTok -/
set_option maxRecDepth 100000
set_option maxHeartbeats 51200000
namespace Go.Proofs.YtmcbolkpbklfeaaGreatDoor
namespace Dt
open Go.RowKit
def byI (c:Int):Nat:=if c=40 then 0 else if c=41 then 1 else if c=124 then 2 else if c=58 then 3 else if Lx.digitI c then 4 else if Lx.signI c then 5 else 6
theorem by_any (c:Int) (w:World) (h0:0<=c) (h1:c<=255) :
  Calls Tryz.prog 162 #[.int .u8 c] w fun e w'=>e=.returned (.int .i64 (byI c))/\w=w':=by
 have HD:=kp (Lx.digit_any c w h0 h1);have HS:=kp (Lx.sign_any c w h0 h1);have HB:=kp (show byI c=if c=40 then 0 else if c=41 then 1 else if c=124 then 2 else if c=58 then 3 else if Lx.digitI c then 4 else if Lx.signI c then 5 else 6 from rfl)
 by_cases h40:c=40
 ·have h:(c == 40)=true:=by simp [h40]
  rw [if_pos h40] at HB;clear h40
  go_enter Tryz.func162,Tryz.ntmps162
  go_wp2_with fail
  go_ret;exact⟨ret_int (by rw [HB.out];rfl),rfl⟩
 have g40:(c == 40)=false:=by simp [h40]
 rw [if_neg h40] at HB
 by_cases h41:c=41
 ·have h:(c == 41)=true:=by simp [h41]
  rw [if_pos h41] at HB;clear h41 h40
  go_enter Tryz.func162,Tryz.ntmps162
  go_wp2_with fail
  go_ret;exact⟨ret_int (by rw [HB.out];rfl),rfl⟩
 have g41:(c == 41)=false:=by simp [h41]
 rw [if_neg h41] at HB
 by_cases h124:c=124
 ·have h:(c == 124)=true:=by simp [h124]
  rw [if_pos h124] at HB;clear h41 h40 h124
  go_enter Tryz.func162,Tryz.ntmps162
  go_wp2_with fail
  go_ret;exact⟨ret_int (by rw [HB.out];rfl),rfl⟩
 have g124:(c == 124)=false:=by simp [h124]
 rw [if_neg h124] at HB
 by_cases h58:c=58
 ·have h:(c == 58)=true:=by simp [h58]
  rw [if_pos h58] at HB;clear h41 h40 h124 h58
  go_enter Tryz.func162,Tryz.ntmps162
  go_wp2_with fail
  go_ret;exact⟨ret_int (by rw [HB.out];rfl),rfl⟩
 have g58:(c == 58)=false:=by simp [h58]
 rw [if_neg h58] at HB;clear h41 h40 h124 h58
 cases hd:Lx.digitI c with
 | true =>
  rw [hd] at HB HD;clear hd
  go_enter Tryz.func162,Tryz.ntmps162
  go_wp2_with fail
  refine HD.out.mono ?_;rintro e w' ⟨rfl,rfl⟩;go_wp2_with fail
  go_ret;exact⟨ret_int (by rw [HB.out];rfl),rfl⟩
 | false =>
  rw [hd] at HB HD;clear hd
  cases hs:Lx.signI c with
  | true =>
   rw [hs] at HB HS;clear hs
   go_enter Tryz.func162,Tryz.ntmps162
   go_wp2_with fail
   refine HD.out.mono ?_;rintro e w' ⟨rfl,rfl⟩;go_wp2_with fail
   refine HS.out.mono ?_;rintro e w' ⟨rfl,rfl⟩;go_wp2_with fail
   go_ret;exact⟨ret_int (by rw [HB.out];rfl),rfl⟩
  | false =>
   rw [hs] at HB HS;clear hs
   go_enter Tryz.func162,Tryz.ntmps162
   go_wp2_with fail
   refine HD.out.mono ?_;rintro e w' ⟨rfl,rfl⟩;go_wp2_with fail
   refine HS.out.mono ?_;rintro e w' ⟨rfl,rfl⟩;go_wp2_with fail
   go_ret;exact⟨ret_int (by rw [HB.out];rfl),rfl⟩
theorem tok_ret' {f:Func} {w:World} {b:Nat} {r0 r1 r2 r3:Value} {o:Bool} {E:Int} {act:Act} {t:TypeId} {R:Ending->World->Prop} (hf:f.results=#[.cell 4 152,.tmp 5,.tmp 6]) (hb:w.heap[b]?=some (.cells #[r0,r1,r2,r3] t (0,0))) (h2:act.tmps[4]?=some (.pointer (some ⟨b,0,none⟩))) (h3:act.tmps[5]?=some (.bool o)) (h4:act.tmps[6]?=some (.int .i64 E)) (hd:act.defers=[]) (hR:R (.returned (.tuple #[.agg #[r0,r1,r2,r3],.bool o,.int .i64 E])) w) :
  bodyPost Tryz.prog f R .ret act w:=by
 obtain ⟨y0,y1,y2,y3,_⟩:=Bk.c4 hb;refine bodyPost_ret (v:=.tuple #[.agg #[r0,r1,r2,r3],.bool o,.int .i64 E]) ?_ hd hR;simp [results,hf,go_sem,y0,y1,y2,y3,h2,h3,h4]
theorem nextG_open (s:ByteArray) (p q:Nat) (w:World) (hp:p<=s.size) (hs:s.size<=140737488351232) (hsk:skipP s p=q) (hq:q < s.size) (k:Int) (t:ByteArray) (E:Nat) (hj:byI (s[q].toNat:Int)=0)
  (hF:∀ W,Calls Tryz.prog 155 #[.agg #[.string s,.int .i64 q]] W (ScPost W k t q E)) :
  Calls Tryz.prog 105 #[.string s,.int .i64 p] w fun e w'=>e=.returned (.tuple #[.agg #[.int .i8 k,.string t,.int .i64 q,.int .i64 E],.bool true,.int .i64 0])/\Below w.heap.size w w':=by
 have HK:=kp (fun W=>skip_any s p W hp hs);rw [hsk] at HK;have HBy:=kp (fun W=>by_any (s[q].toNat:Int) W (by omega) (by have:=s[q].toNat_lt;omega));rw [hj,show((0:Nat):Int)=0 from rfl] at HBy;have HF:=kp hF;have hq2:(q:Int) < (s.size:Int):=by omega
 have hqn:((q:Int) == (s.size:Int))=false:=by rw [beq_eq_false_iff_ne];omega
 have RB:=kp (Bk.keep (Bk.new w (.cells #[.int .i8 0,.string { data:=#[] },.int .i64 0,.int .i64 0] 152)) (.cells #[.func (.func 155) #[] #[],.func (.func 156) #[] #[],.func (.func 157) #[] #[],.func (.func 158) #[] #[],.func (.func 159) #[] #[],.func (.func 160) #[] #[],.func (.func 161) #[] #[]] 233));have BB:=kp (((brq w).alloc nlq (.cells #[.int .i8 0,.string { data:=#[] },.int .i64 0,.int .i64 0] 152)).alloc (by simp) (.cells #[.func (.func 155) #[] #[],.func (.func 156) #[] #[],.func (.func 157) #[] #[],.func (.func 158) #[] #[],.func (.func 159) #[] #[],.func (.func 160) #[] #[],.func (.func 161) #[] #[]] 233))
 have AB:=kp (show((w.alloc (.cells #[.int .i8 0,.string { data:=#[] },.int .i64 0,.int .i64 0] 152)).alloc (.cells #[.func (.func 155) #[] #[],.func (.func 156) #[] #[],.func (.func 157) #[] #[],.func (.func 158) #[] #[],.func (.func 159) #[] #[],.func (.func 160) #[] #[],.func (.func 161) #[] #[]] 233)).heap[w.heap.size+1]?=some (.cells #[.func (.func 155) #[] #[],.func (.func 156) #[] #[],.func (.func 157) #[] #[],.func (.func 158) #[] #[],.func (.func 159) #[] #[],.func (.func 160) #[] #[],.func (.func 161) #[] #[]] 233 (0,0)) by
  have h:=Bk.new (w.alloc (.cells #[.int .i8 0,.string { data:=#[] },.int .i64 0,.int .i64 0] 152)) (.cells #[.func (.func 155) #[] #[],.func (.func 156) #[] #[],.func (.func 157) #[] #[],.func (.func 158) #[] #[],.func (.func 159) #[] #[],.func (.func 160) #[] #[],.func (.func 161) #[] #[]] 233)
  rwa [show(w.alloc (.cells #[.int .i8 0,.string { data:=#[] },.int .i64 0,.int .i64 0] 152)).heap.size=w.heap.size+1 by simp] at h)
 unfold ScPost at HF;clear hsk hj hF hs hp
 go_enter Tryz.func105,Tryz.ntmps105
 go_upto_region 2 with fail
 generalize (w.alloc (.cells #[.int .i8 0,.string { data:=#[] },.int .i64 0,.int .i64 0] 152)).alloc (.cells #[.func (.func 155) #[] #[],.func (.func 156) #[] #[],.func (.func 157) #[] #[],.func (.func 158) #[] #[],.func (.func 159) #[] #[],.func (.func 160) #[] #[],.func (.func 161) #[] #[]] 233)=w2 at *;obtain ⟨q0,q1,q2,q3,q4,q5,q6,qf⟩:=Bk.c7 AB.out;go_wp2_with fail
 refine(HK.out _).mono ?_;rintro e w' ⟨rfl,rfl⟩;go_wp2_with fail
 refine(HBy.out _).mono ?_;rintro e w' ⟨rfl,rfl⟩;go_wp2_with fail
 refine(HF.out _).mono ?_;rintro e w3 ⟨rfl,hb⟩;have RB3:=kp (Bk.on RB.out hb);have B3:=kp (BB.out.trans (hb.mono BB.out.size));clear hb q0 q1 q2 q3 q4 q5 q6 qf;obtain ⟨z0,z1,z2,z3,zf⟩:=Bk.c4 RB3.out;go_wp2_with fail
 exact tok_ret' (w:=set4t (set4t w3 w.heap.size _ _ _ _) w.heap.size _ _ _ _) Tryz.results105 (set4t_at (set4t_at RB3.out _ _ _ _) _ _ _ _) rfl rfl rfl rfl ⟨rfl,set4t_below (set4t_below B3.out nlq _ _ _ _) nlq _ _ _ _⟩
theorem nextG_close (s:ByteArray) (p q:Nat) (w:World) (hp:p<=s.size) (hs:s.size<=140737488351232) (hsk:skipP s p=q) (hq:q < s.size) (k:Int) (t:ByteArray) (E:Nat) (hj:byI (s[q].toNat:Int)=1)
  (hF:∀ W,Calls Tryz.prog 156 #[.agg #[.string s,.int .i64 q]] W (ScPost W k t q E)) :
  Calls Tryz.prog 105 #[.string s,.int .i64 p] w fun e w'=>e=.returned (.tuple #[.agg #[.int .i8 k,.string t,.int .i64 q,.int .i64 E],.bool true,.int .i64 0])/\Below w.heap.size w w':=by
 have HK:=kp (fun W=>skip_any s p W hp hs);rw [hsk] at HK;have HBy:=kp (fun W=>by_any (s[q].toNat:Int) W (by omega) (by have:=s[q].toNat_lt;omega));rw [hj,show((1:Nat):Int)=1 from rfl] at HBy;have HF:=kp hF;have hq2:(q:Int) < (s.size:Int):=by omega
 have hqn:((q:Int) == (s.size:Int))=false:=by rw [beq_eq_false_iff_ne];omega
 have RB:=kp (Bk.keep (Bk.new w (.cells #[.int .i8 0,.string { data:=#[] },.int .i64 0,.int .i64 0] 152)) (.cells #[.func (.func 155) #[] #[],.func (.func 156) #[] #[],.func (.func 157) #[] #[],.func (.func 158) #[] #[],.func (.func 159) #[] #[],.func (.func 160) #[] #[],.func (.func 161) #[] #[]] 233));have BB:=kp (((brq w).alloc nlq (.cells #[.int .i8 0,.string { data:=#[] },.int .i64 0,.int .i64 0] 152)).alloc (by simp) (.cells #[.func (.func 155) #[] #[],.func (.func 156) #[] #[],.func (.func 157) #[] #[],.func (.func 158) #[] #[],.func (.func 159) #[] #[],.func (.func 160) #[] #[],.func (.func 161) #[] #[]] 233))
 have AB:=kp (show((w.alloc (.cells #[.int .i8 0,.string { data:=#[] },.int .i64 0,.int .i64 0] 152)).alloc (.cells #[.func (.func 155) #[] #[],.func (.func 156) #[] #[],.func (.func 157) #[] #[],.func (.func 158) #[] #[],.func (.func 159) #[] #[],.func (.func 160) #[] #[],.func (.func 161) #[] #[]] 233)).heap[w.heap.size+1]?=some (.cells #[.func (.func 155) #[] #[],.func (.func 156) #[] #[],.func (.func 157) #[] #[],.func (.func 158) #[] #[],.func (.func 159) #[] #[],.func (.func 160) #[] #[],.func (.func 161) #[] #[]] 233 (0,0)) by
  have h:=Bk.new (w.alloc (.cells #[.int .i8 0,.string { data:=#[] },.int .i64 0,.int .i64 0] 152)) (.cells #[.func (.func 155) #[] #[],.func (.func 156) #[] #[],.func (.func 157) #[] #[],.func (.func 158) #[] #[],.func (.func 159) #[] #[],.func (.func 160) #[] #[],.func (.func 161) #[] #[]] 233)
  rwa [show(w.alloc (.cells #[.int .i8 0,.string { data:=#[] },.int .i64 0,.int .i64 0] 152)).heap.size=w.heap.size+1 by simp] at h)
 unfold ScPost at HF;clear hsk hj hF hs hp
 go_enter Tryz.func105,Tryz.ntmps105
 go_upto_region 2 with fail
 generalize (w.alloc (.cells #[.int .i8 0,.string { data:=#[] },.int .i64 0,.int .i64 0] 152)).alloc (.cells #[.func (.func 155) #[] #[],.func (.func 156) #[] #[],.func (.func 157) #[] #[],.func (.func 158) #[] #[],.func (.func 159) #[] #[],.func (.func 160) #[] #[],.func (.func 161) #[] #[]] 233)=w2 at *;obtain ⟨q0,q1,q2,q3,q4,q5,q6,qf⟩:=Bk.c7 AB.out;go_wp2_with fail
 refine(HK.out _).mono ?_;rintro e w' ⟨rfl,rfl⟩;go_wp2_with fail
 refine(HBy.out _).mono ?_;rintro e w' ⟨rfl,rfl⟩;go_wp2_with fail
 refine(HF.out _).mono ?_;rintro e w3 ⟨rfl,hb⟩;have RB3:=kp (Bk.on RB.out hb);have B3:=kp (BB.out.trans (hb.mono BB.out.size));clear hb q0 q1 q2 q3 q4 q5 q6 qf;obtain ⟨z0,z1,z2,z3,zf⟩:=Bk.c4 RB3.out;go_wp2_with fail
 exact tok_ret' (w:=set4t (set4t w3 w.heap.size _ _ _ _) w.heap.size _ _ _ _) Tryz.results105 (set4t_at (set4t_at RB3.out _ _ _ _) _ _ _ _) rfl rfl rfl rfl ⟨rfl,set4t_below (set4t_below B3.out nlq _ _ _ _) nlq _ _ _ _⟩
theorem nextG_bar (s:ByteArray) (p q:Nat) (w:World) (hp:p<=s.size) (hs:s.size<=140737488351232) (hsk:skipP s p=q) (hq:q < s.size) (k:Int) (t:ByteArray) (E:Nat) (hj:byI (s[q].toNat:Int)=2)
  (hF:∀ W,Calls Tryz.prog 157 #[.agg #[.string s,.int .i64 q]] W (ScPost W k t q E)) :
  Calls Tryz.prog 105 #[.string s,.int .i64 p] w fun e w'=>e=.returned (.tuple #[.agg #[.int .i8 k,.string t,.int .i64 q,.int .i64 E],.bool true,.int .i64 0])/\Below w.heap.size w w':=by
 have HK:=kp (fun W=>skip_any s p W hp hs);rw [hsk] at HK;have HBy:=kp (fun W=>by_any (s[q].toNat:Int) W (by omega) (by have:=s[q].toNat_lt;omega));rw [hj,show((2:Nat):Int)=2 from rfl] at HBy;have HF:=kp hF;have hq2:(q:Int) < (s.size:Int):=by omega
 have hqn:((q:Int) == (s.size:Int))=false:=by rw [beq_eq_false_iff_ne];omega
 have RB:=kp (Bk.keep (Bk.new w (.cells #[.int .i8 0,.string { data:=#[] },.int .i64 0,.int .i64 0] 152)) (.cells #[.func (.func 155) #[] #[],.func (.func 156) #[] #[],.func (.func 157) #[] #[],.func (.func 158) #[] #[],.func (.func 159) #[] #[],.func (.func 160) #[] #[],.func (.func 161) #[] #[]] 233));have BB:=kp (((brq w).alloc nlq (.cells #[.int .i8 0,.string { data:=#[] },.int .i64 0,.int .i64 0] 152)).alloc (by simp) (.cells #[.func (.func 155) #[] #[],.func (.func 156) #[] #[],.func (.func 157) #[] #[],.func (.func 158) #[] #[],.func (.func 159) #[] #[],.func (.func 160) #[] #[],.func (.func 161) #[] #[]] 233))
 have AB:=kp (show((w.alloc (.cells #[.int .i8 0,.string { data:=#[] },.int .i64 0,.int .i64 0] 152)).alloc (.cells #[.func (.func 155) #[] #[],.func (.func 156) #[] #[],.func (.func 157) #[] #[],.func (.func 158) #[] #[],.func (.func 159) #[] #[],.func (.func 160) #[] #[],.func (.func 161) #[] #[]] 233)).heap[w.heap.size+1]?=some (.cells #[.func (.func 155) #[] #[],.func (.func 156) #[] #[],.func (.func 157) #[] #[],.func (.func 158) #[] #[],.func (.func 159) #[] #[],.func (.func 160) #[] #[],.func (.func 161) #[] #[]] 233 (0,0)) by
  have h:=Bk.new (w.alloc (.cells #[.int .i8 0,.string { data:=#[] },.int .i64 0,.int .i64 0] 152)) (.cells #[.func (.func 155) #[] #[],.func (.func 156) #[] #[],.func (.func 157) #[] #[],.func (.func 158) #[] #[],.func (.func 159) #[] #[],.func (.func 160) #[] #[],.func (.func 161) #[] #[]] 233)
  rwa [show(w.alloc (.cells #[.int .i8 0,.string { data:=#[] },.int .i64 0,.int .i64 0] 152)).heap.size=w.heap.size+1 by simp] at h)
 unfold ScPost at HF;clear hsk hj hF hs hp
 go_enter Tryz.func105,Tryz.ntmps105
 go_upto_region 2 with fail
 generalize (w.alloc (.cells #[.int .i8 0,.string { data:=#[] },.int .i64 0,.int .i64 0] 152)).alloc (.cells #[.func (.func 155) #[] #[],.func (.func 156) #[] #[],.func (.func 157) #[] #[],.func (.func 158) #[] #[],.func (.func 159) #[] #[],.func (.func 160) #[] #[],.func (.func 161) #[] #[]] 233)=w2 at *;obtain ⟨q0,q1,q2,q3,q4,q5,q6,qf⟩:=Bk.c7 AB.out;go_wp2_with fail
 refine(HK.out _).mono ?_;rintro e w' ⟨rfl,rfl⟩;go_wp2_with fail
 refine(HBy.out _).mono ?_;rintro e w' ⟨rfl,rfl⟩;go_wp2_with fail
 refine(HF.out _).mono ?_;rintro e w3 ⟨rfl,hb⟩;have RB3:=kp (Bk.on RB.out hb);have B3:=kp (BB.out.trans (hb.mono BB.out.size));clear hb q0 q1 q2 q3 q4 q5 q6 qf;obtain ⟨z0,z1,z2,z3,zf⟩:=Bk.c4 RB3.out;go_wp2_with fail
 exact tok_ret' (w:=set4t (set4t w3 w.heap.size _ _ _ _) w.heap.size _ _ _ _) Tryz.results105 (set4t_at (set4t_at RB3.out _ _ _ _) _ _ _ _) rfl rfl rfl rfl ⟨rfl,set4t_below (set4t_below B3.out nlq _ _ _ _) nlq _ _ _ _⟩
theorem nextG_key (s:ByteArray) (p q:Nat) (w:World) (hp:p<=s.size) (hs:s.size<=140737488351232) (hsk:skipP s p=q) (hq:q < s.size) (k:Int) (t:ByteArray) (E:Nat) (hj:byI (s[q].toNat:Int)=3)
  (hF:∀ W,Calls Tryz.prog 158 #[.agg #[.string s,.int .i64 q]] W (ScPost W k t q E)) :
  Calls Tryz.prog 105 #[.string s,.int .i64 p] w fun e w'=>e=.returned (.tuple #[.agg #[.int .i8 k,.string t,.int .i64 q,.int .i64 E],.bool true,.int .i64 0])/\Below w.heap.size w w':=by
 have HK:=kp (fun W=>skip_any s p W hp hs);rw [hsk] at HK;have HBy:=kp (fun W=>by_any (s[q].toNat:Int) W (by omega) (by have:=s[q].toNat_lt;omega));rw [hj,show((3:Nat):Int)=3 from rfl] at HBy;have HF:=kp hF;have hq2:(q:Int) < (s.size:Int):=by omega
 have hqn:((q:Int) == (s.size:Int))=false:=by rw [beq_eq_false_iff_ne];omega
 have RB:=kp (Bk.keep (Bk.new w (.cells #[.int .i8 0,.string { data:=#[] },.int .i64 0,.int .i64 0] 152)) (.cells #[.func (.func 155) #[] #[],.func (.func 156) #[] #[],.func (.func 157) #[] #[],.func (.func 158) #[] #[],.func (.func 159) #[] #[],.func (.func 160) #[] #[],.func (.func 161) #[] #[]] 233));have BB:=kp (((brq w).alloc nlq (.cells #[.int .i8 0,.string { data:=#[] },.int .i64 0,.int .i64 0] 152)).alloc (by simp) (.cells #[.func (.func 155) #[] #[],.func (.func 156) #[] #[],.func (.func 157) #[] #[],.func (.func 158) #[] #[],.func (.func 159) #[] #[],.func (.func 160) #[] #[],.func (.func 161) #[] #[]] 233))
 have AB:=kp (show((w.alloc (.cells #[.int .i8 0,.string { data:=#[] },.int .i64 0,.int .i64 0] 152)).alloc (.cells #[.func (.func 155) #[] #[],.func (.func 156) #[] #[],.func (.func 157) #[] #[],.func (.func 158) #[] #[],.func (.func 159) #[] #[],.func (.func 160) #[] #[],.func (.func 161) #[] #[]] 233)).heap[w.heap.size+1]?=some (.cells #[.func (.func 155) #[] #[],.func (.func 156) #[] #[],.func (.func 157) #[] #[],.func (.func 158) #[] #[],.func (.func 159) #[] #[],.func (.func 160) #[] #[],.func (.func 161) #[] #[]] 233 (0,0)) by
  have h:=Bk.new (w.alloc (.cells #[.int .i8 0,.string { data:=#[] },.int .i64 0,.int .i64 0] 152)) (.cells #[.func (.func 155) #[] #[],.func (.func 156) #[] #[],.func (.func 157) #[] #[],.func (.func 158) #[] #[],.func (.func 159) #[] #[],.func (.func 160) #[] #[],.func (.func 161) #[] #[]] 233)
  rwa [show(w.alloc (.cells #[.int .i8 0,.string { data:=#[] },.int .i64 0,.int .i64 0] 152)).heap.size=w.heap.size+1 by simp] at h)
 unfold ScPost at HF;clear hsk hj hF hs hp
 go_enter Tryz.func105,Tryz.ntmps105
 go_upto_region 2 with fail
 generalize (w.alloc (.cells #[.int .i8 0,.string { data:=#[] },.int .i64 0,.int .i64 0] 152)).alloc (.cells #[.func (.func 155) #[] #[],.func (.func 156) #[] #[],.func (.func 157) #[] #[],.func (.func 158) #[] #[],.func (.func 159) #[] #[],.func (.func 160) #[] #[],.func (.func 161) #[] #[]] 233)=w2 at *;obtain ⟨q0,q1,q2,q3,q4,q5,q6,qf⟩:=Bk.c7 AB.out;go_wp2_with fail
 refine(HK.out _).mono ?_;rintro e w' ⟨rfl,rfl⟩;go_wp2_with fail
 refine(HBy.out _).mono ?_;rintro e w' ⟨rfl,rfl⟩;go_wp2_with fail
 refine(HF.out _).mono ?_;rintro e w3 ⟨rfl,hb⟩;have RB3:=kp (Bk.on RB.out hb);have B3:=kp (BB.out.trans (hb.mono BB.out.size));clear hb q0 q1 q2 q3 q4 q5 q6 qf;obtain ⟨z0,z1,z2,z3,zf⟩:=Bk.c4 RB3.out;go_wp2_with fail
 exact tok_ret' (w:=set4t (set4t w3 w.heap.size _ _ _ _) w.heap.size _ _ _ _) Tryz.results105 (set4t_at (set4t_at RB3.out _ _ _ _) _ _ _ _) rfl rfl rfl rfl ⟨rfl,set4t_below (set4t_below B3.out nlq _ _ _ _) nlq _ _ _ _⟩
theorem nextG_num (s:ByteArray) (p q:Nat) (w:World) (hp:p<=s.size) (hs:s.size<=140737488351232) (hsk:skipP s p=q) (hq:q < s.size) (k:Int) (t:ByteArray) (E:Nat) (hj:byI (s[q].toNat:Int)=4)
  (hF:∀ W,Calls Tryz.prog 159 #[.agg #[.string s,.int .i64 q]] W (ScPost W k t q E)) :
  Calls Tryz.prog 105 #[.string s,.int .i64 p] w fun e w'=>e=.returned (.tuple #[.agg #[.int .i8 k,.string t,.int .i64 q,.int .i64 E],.bool true,.int .i64 0])/\Below w.heap.size w w':=by
 have HK:=kp (fun W=>skip_any s p W hp hs);rw [hsk] at HK;have HBy:=kp (fun W=>by_any (s[q].toNat:Int) W (by omega) (by have:=s[q].toNat_lt;omega));rw [hj,show((4:Nat):Int)=4 from rfl] at HBy;have HF:=kp hF;have hq2:(q:Int) < (s.size:Int):=by omega
 have hqn:((q:Int) == (s.size:Int))=false:=by rw [beq_eq_false_iff_ne];omega
 have RB:=kp (Bk.keep (Bk.new w (.cells #[.int .i8 0,.string { data:=#[] },.int .i64 0,.int .i64 0] 152)) (.cells #[.func (.func 155) #[] #[],.func (.func 156) #[] #[],.func (.func 157) #[] #[],.func (.func 158) #[] #[],.func (.func 159) #[] #[],.func (.func 160) #[] #[],.func (.func 161) #[] #[]] 233));have BB:=kp (((brq w).alloc nlq (.cells #[.int .i8 0,.string { data:=#[] },.int .i64 0,.int .i64 0] 152)).alloc (by simp) (.cells #[.func (.func 155) #[] #[],.func (.func 156) #[] #[],.func (.func 157) #[] #[],.func (.func 158) #[] #[],.func (.func 159) #[] #[],.func (.func 160) #[] #[],.func (.func 161) #[] #[]] 233))
 have AB:=kp (show((w.alloc (.cells #[.int .i8 0,.string { data:=#[] },.int .i64 0,.int .i64 0] 152)).alloc (.cells #[.func (.func 155) #[] #[],.func (.func 156) #[] #[],.func (.func 157) #[] #[],.func (.func 158) #[] #[],.func (.func 159) #[] #[],.func (.func 160) #[] #[],.func (.func 161) #[] #[]] 233)).heap[w.heap.size+1]?=some (.cells #[.func (.func 155) #[] #[],.func (.func 156) #[] #[],.func (.func 157) #[] #[],.func (.func 158) #[] #[],.func (.func 159) #[] #[],.func (.func 160) #[] #[],.func (.func 161) #[] #[]] 233 (0,0)) by
  have h:=Bk.new (w.alloc (.cells #[.int .i8 0,.string { data:=#[] },.int .i64 0,.int .i64 0] 152)) (.cells #[.func (.func 155) #[] #[],.func (.func 156) #[] #[],.func (.func 157) #[] #[],.func (.func 158) #[] #[],.func (.func 159) #[] #[],.func (.func 160) #[] #[],.func (.func 161) #[] #[]] 233)
  rwa [show(w.alloc (.cells #[.int .i8 0,.string { data:=#[] },.int .i64 0,.int .i64 0] 152)).heap.size=w.heap.size+1 by simp] at h)
 unfold ScPost at HF;clear hsk hj hF hs hp
 go_enter Tryz.func105,Tryz.ntmps105
 go_upto_region 2 with fail
 generalize (w.alloc (.cells #[.int .i8 0,.string { data:=#[] },.int .i64 0,.int .i64 0] 152)).alloc (.cells #[.func (.func 155) #[] #[],.func (.func 156) #[] #[],.func (.func 157) #[] #[],.func (.func 158) #[] #[],.func (.func 159) #[] #[],.func (.func 160) #[] #[],.func (.func 161) #[] #[]] 233)=w2 at *;obtain ⟨q0,q1,q2,q3,q4,q5,q6,qf⟩:=Bk.c7 AB.out;go_wp2_with fail
 refine(HK.out _).mono ?_;rintro e w' ⟨rfl,rfl⟩;go_wp2_with fail
 refine(HBy.out _).mono ?_;rintro e w' ⟨rfl,rfl⟩;go_wp2_with fail
 refine(HF.out _).mono ?_;rintro e w3 ⟨rfl,hb⟩;have RB3:=kp (Bk.on RB.out hb);have B3:=kp (BB.out.trans (hb.mono BB.out.size));clear hb q0 q1 q2 q3 q4 q5 q6 qf;obtain ⟨z0,z1,z2,z3,zf⟩:=Bk.c4 RB3.out;go_wp2_with fail
 exact tok_ret' (w:=set4t (set4t w3 w.heap.size _ _ _ _) w.heap.size _ _ _ _) Tryz.results105 (set4t_at (set4t_at RB3.out _ _ _ _) _ _ _ _) rfl rfl rfl rfl ⟨rfl,set4t_below (set4t_below B3.out nlq _ _ _ _) nlq _ _ _ _⟩
theorem nextG_name (s:ByteArray) (p q:Nat) (w:World) (hp:p<=s.size) (hs:s.size<=140737488351232) (hsk:skipP s p=q) (hq:q < s.size) (k:Int) (t:ByteArray) (E:Nat) (hj:byI (s[q].toNat:Int)=5)
  (hF:∀ W,Calls Tryz.prog 160 #[.agg #[.string s,.int .i64 q]] W (ScPost W k t q E)) :
  Calls Tryz.prog 105 #[.string s,.int .i64 p] w fun e w'=>e=.returned (.tuple #[.agg #[.int .i8 k,.string t,.int .i64 q,.int .i64 E],.bool true,.int .i64 0])/\Below w.heap.size w w':=by
 have HK:=kp (fun W=>skip_any s p W hp hs);rw [hsk] at HK;have HBy:=kp (fun W=>by_any (s[q].toNat:Int) W (by omega) (by have:=s[q].toNat_lt;omega));rw [hj,show((5:Nat):Int)=5 from rfl] at HBy;have HF:=kp hF;have hq2:(q:Int) < (s.size:Int):=by omega
 have hqn:((q:Int) == (s.size:Int))=false:=by rw [beq_eq_false_iff_ne];omega
 have RB:=kp (Bk.keep (Bk.new w (.cells #[.int .i8 0,.string { data:=#[] },.int .i64 0,.int .i64 0] 152)) (.cells #[.func (.func 155) #[] #[],.func (.func 156) #[] #[],.func (.func 157) #[] #[],.func (.func 158) #[] #[],.func (.func 159) #[] #[],.func (.func 160) #[] #[],.func (.func 161) #[] #[]] 233));have BB:=kp (((brq w).alloc nlq (.cells #[.int .i8 0,.string { data:=#[] },.int .i64 0,.int .i64 0] 152)).alloc (by simp) (.cells #[.func (.func 155) #[] #[],.func (.func 156) #[] #[],.func (.func 157) #[] #[],.func (.func 158) #[] #[],.func (.func 159) #[] #[],.func (.func 160) #[] #[],.func (.func 161) #[] #[]] 233))
 have AB:=kp (show((w.alloc (.cells #[.int .i8 0,.string { data:=#[] },.int .i64 0,.int .i64 0] 152)).alloc (.cells #[.func (.func 155) #[] #[],.func (.func 156) #[] #[],.func (.func 157) #[] #[],.func (.func 158) #[] #[],.func (.func 159) #[] #[],.func (.func 160) #[] #[],.func (.func 161) #[] #[]] 233)).heap[w.heap.size+1]?=some (.cells #[.func (.func 155) #[] #[],.func (.func 156) #[] #[],.func (.func 157) #[] #[],.func (.func 158) #[] #[],.func (.func 159) #[] #[],.func (.func 160) #[] #[],.func (.func 161) #[] #[]] 233 (0,0)) by
  have h:=Bk.new (w.alloc (.cells #[.int .i8 0,.string { data:=#[] },.int .i64 0,.int .i64 0] 152)) (.cells #[.func (.func 155) #[] #[],.func (.func 156) #[] #[],.func (.func 157) #[] #[],.func (.func 158) #[] #[],.func (.func 159) #[] #[],.func (.func 160) #[] #[],.func (.func 161) #[] #[]] 233)
  rwa [show(w.alloc (.cells #[.int .i8 0,.string { data:=#[] },.int .i64 0,.int .i64 0] 152)).heap.size=w.heap.size+1 by simp] at h)
 unfold ScPost at HF;clear hsk hj hF hs hp
 go_enter Tryz.func105,Tryz.ntmps105
 go_upto_region 2 with fail
 generalize (w.alloc (.cells #[.int .i8 0,.string { data:=#[] },.int .i64 0,.int .i64 0] 152)).alloc (.cells #[.func (.func 155) #[] #[],.func (.func 156) #[] #[],.func (.func 157) #[] #[],.func (.func 158) #[] #[],.func (.func 159) #[] #[],.func (.func 160) #[] #[],.func (.func 161) #[] #[]] 233)=w2 at *;obtain ⟨q0,q1,q2,q3,q4,q5,q6,qf⟩:=Bk.c7 AB.out;go_wp2_with fail
 refine(HK.out _).mono ?_;rintro e w' ⟨rfl,rfl⟩;go_wp2_with fail
 refine(HBy.out _).mono ?_;rintro e w' ⟨rfl,rfl⟩;go_wp2_with fail
 refine(HF.out _).mono ?_;rintro e w3 ⟨rfl,hb⟩;have RB3:=kp (Bk.on RB.out hb);have B3:=kp (BB.out.trans (hb.mono BB.out.size));clear hb q0 q1 q2 q3 q4 q5 q6 qf;obtain ⟨z0,z1,z2,z3,zf⟩:=Bk.c4 RB3.out;go_wp2_with fail
 exact tok_ret' (w:=set4t (set4t w3 w.heap.size _ _ _ _) w.heap.size _ _ _ _) Tryz.results105 (set4t_at (set4t_at RB3.out _ _ _ _) _ _ _ _) rfl rfl rfl rfl ⟨rfl,set4t_below (set4t_below B3.out nlq _ _ _ _) nlq _ _ _ _⟩
theorem next_any (s:ByteArray) (p:Nat) (w:World) (hp:p<=s.size) (hs:s.size<=140737488351232) (k:Int) (t r:List UInt8) (hn:nextL (skipL false (from_ s p))=.tok k t r) :
  Calls Tryz.prog 105 #[.string s,.int .i64 p] w (TokPost w k t (skipP s p) (at_ s r)):=by
 have hsf:=from_of_suffix (s:=s) (k:=p) (skipL_suffix false (from_ s p));have hq1:from_ s (skipP s p)=skipL false (from_ s p):=hsf.1;rw [← hq1] at hn
 have hq:skipP s p < s.size:=by
  rcases Nat.lt_or_ge (skipP s p) s.size with h | h
  ·exact h
  ·rw [from_end h] at hn;cases hn
 clear hsf hq1;have G0:=fun K T E=>nextG_open s p _ w hp hs rfl hq K T E;have G1:=fun K T E=>nextG_close s p _ w hp hs rfl hq K T E;have G2:=fun K T E=>nextG_bar s p _ w hp hs rfl hq K T E;have G3:=fun K T E=>nextG_key s p _ w hp hs rfl hq K T E;have G4:=fun K T E=>nextG_num s p _ w hp hs rfl hq K T E;have G5:=fun K T E=>nextG_name s p _ w hp hs rfl hq K T E;generalize skipP s p=q at *;have hc:=from_at hq;rw [hc,nextL_cons] at hn;have hn1:at_ s (from_ s (q+1))=q+1:=at_from hq;have hle:=runN_le s q;have hle1:=runN_le s (q+1);unfold TokPost
 by_cases h40:(s[q].toNat:Int)=40
 ·rw [if_pos h40] at hn;obtain ⟨rfl,rfl,rfl⟩:0=k/\[]=t/\from_ s (q+1)=r:=by simpa using hn
  rw [hn1];exact G0 0 { data:=#[] } (q+1) (by unfold byI;rw [if_pos h40]) fun W=>sc_open s q W (by omega)
 by_cases h41:(s[q].toNat:Int)=41
 ·rw [if_neg h40,if_pos h41] at hn;obtain ⟨rfl,rfl,rfl⟩:1=k/\[]=t/\from_ s (q+1)=r:=by simpa using hn
  rw [hn1];exact G1 1 { data:=#[] } (q+1) (by unfold byI;rw [if_neg h40,if_pos h41]) fun W=>sc_close s q W (by omega)
 by_cases h124:(s[q].toNat:Int)=124
 ·rw [if_neg h40,if_neg h41,if_pos h124] at hn
  have hqq:quotedL (from_ s (q+1))=some (t,r)/\t.length<=100/\2=k:=by
   cases hqq:quotedL (from_ s (q+1)) with
   | none=>rw [hqq] at hn;cases hn
   | some pr =>
    rw [hqq] at hn;simp only at hn
    split at hn
    ·rename_i h100
     simp only [Tk.tok.injEq] at hn;obtain ⟨h1,h2,h3⟩:=hn;subst h2 h3;exact⟨rfl,h100,h1⟩
    ·cases hn
  obtain ⟨hqq,h100,rfl⟩:=hqq;exact G2 2 ⟨t.toArray⟩ (at_ s r) (by unfold byI;rw [if_neg h40,if_neg h41,if_pos h124]) fun W=>sc_bar s q W hq hs t r hqq h100
 by_cases h58:(s[q].toNat:Int)=58
 ·rw [if_neg h40,if_neg h41,if_neg h124,if_pos h58] at hn
  split at hn
  ·cases hn
  rename_i hno
  simp only [Tk.tok.injEq] at hn;obtain ⟨rfl,rfl,rfl⟩:=hn;have hr1:0 < runN s (q+1)/\runN s (q+1)<=100:=by unfold runN;omega
  rw [← extract_run,at_run (by omega)];exact G3 4 _ _ (by unfold byI;rw [if_neg h40,if_neg h41,if_neg h124,if_pos h58]) fun W=>sc_key s q W hq hs hr1.2 hr1.1
 rw [if_neg h40,if_neg h41,if_neg h124,if_neg h58,← hc] at hn
 split at hn
 ·cases hn
 rename_i hno
 have hr1:0 < runN s q/\runN s q<=100:=by unfold runN;omega
 split at hn
 ·rename_i hdg
  split at hn
  ·rename_i hnum
   simp only [Tk.tok.injEq] at hn;obtain ⟨rfl,rfl,rfl⟩:=hn;rw [← extract_run,at_run (by omega)];exact G4 3 _ _ (by unfold byI;rw [if_neg h40,if_neg h41,if_neg h124,if_neg h58,if_pos hdg]) fun W=>sc_number s q W (by omega) hs hr1.2 hnum
  ·cases hn
 ·rename_i hdg
  simp only [Tk.tok.injEq] at hn;obtain ⟨rfl,rfl,rfl⟩:=hn;rw [← extract_run,at_run (by omega)]
  have hsg:Lx.signI (s[q].toNat:Int)=true:=by
   cases h:Lx.signI (s[q].toNat:Int) with
   | true=>rfl
   | false=>have:=runN_stop hq h;omega
  exact G5 2 _ _ (by unfold byI;rw [if_neg h40,if_neg h41,if_neg h124,if_neg h58,if_neg hdg,if_pos hsg]) fun W=>sc_name s q W (by omega) hs hr1.2
end Dt
end Go.Proofs.YtmcbolkpbklfeaaGreatDoor

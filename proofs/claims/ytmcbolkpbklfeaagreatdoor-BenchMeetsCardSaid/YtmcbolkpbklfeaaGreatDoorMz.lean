import Derived.Test.YtmcbolkpbklfeaaGreatDoorShort
import Derived.Test.YtmcbolkpbklfeaaGreatDoorMv
import Derived.Deep.Cut
/- merged by wip/merge.py from: LxNext -/
set_option maxRecDepth 100000
set_option maxHeartbeats 51200000
namespace Go.Proofs.YtmcbolkpbklfeaaGreatDoor
namespace Dt
open Go.RowKit
namespace Lx2
open Go.Proofs.YtmcbolkpbklfeaaGreatDoor.Lx
theorem all_digit (s:ByteArray) (w:World) (hs:(s.size:Int)<=9223372036854775807) :
  Calls Tryz.prog 218 #[.string s,.func (Fn.func 221) #[] #[]] w fun e w'=>e=.returned (.bool ((bs s).all fun c=>Lx.digitI c.toNat))/\w=w':=by
 go_enter Tryz.func218,Tryz.ntmps218
 go_wp2_with fail
 go_loop [8,5] (fun v _=>∃ k:Nat,k<=s.size/\v=.int .i64 k/\((bs s).take k).all (fun c=>Lx.digitI c.toNat)=true) (fun v _=>s.size - (intOf v).toNat)
 case atStart=>exact⟨0,Nat.zero_le _,rfl,rfl⟩
 case round =>
  obtain ⟨k,hk,rfl,hall⟩:=hrel;have HA:=kp hall;clear hall
  by_cases hlt:k < s.size
  ·have hlt2:(k:Int) < (s.size:Int):=by omega
   have HC:=kp ((fun c w h0 h1=>Lx.digit_any c w h0 h1) (s[k].toNat:Int) w (by omega) (by have:=s[k].toNat_lt;omega));have HT:=kp (bs_next hlt);have HM:=kp (show s[k] ∈ (bs s) from bs_mem hlt)
   cases hb:Lx.digitI (s[k].toNat:Int) with
   | true =>
    have HB:=kp hb;rw [hb] at HC;clear hb;go_wp2_with fail
    refine HC.out.mono ?_;rintro e w' ⟨rfl,rfl⟩;go_wp2_with fail
    go_round
    case rel=>exact⟨k+1,by omega,by go_num,by rw [HT.out,List.all_append,HA.out];simp [HB.out]⟩
    case measure=>simp [intOf];omega
   | false =>
    have HB:=kp (show((bs s).all fun c=>Lx.digitI c.toNat)=false from by rw [Bool.eq_false_iff];intro h;rw [List.all_eq_true] at h;have:=h _ HM.out;rw [hb] at this;cases this);rw [hb] at HC;clear hb;go_wp2_with fail
    refine HC.out.mono ?_;rintro e w' ⟨rfl,rfl⟩;go_wp2_with fail
    go_ret;exact⟨ret_bool HB.out.symm,rfl⟩
  ·obtain rfl:k=s.size:=by omega
   have HB:=kp (show((bs s).all fun c=>Lx.digitI c.toNat)=true from by have h:=HA.out;rwa [List.take_of_length_le (by rw [bs_length];omega)] at h);go_wp2_with fail
   go_ret;exact⟨ret_bool HB.out.symm,rfl⟩
end Lx2
theorem sc_key (s:ByteArray) (q:Nat) (w:World) (hq:q < s.size) (hs:s.size<=140737488351232) (hr:runN s (q+1)<=100) (h0:0 < runN s (q+1)) :
  Calls Tryz.prog 158 #[.agg #[.string s,.int .i64 q]] w (ScPost w 4 (s.extract (q+1) (q+1+runN s (q+1))) q (q+1+runN s (q+1))):=by
 have HR:=kp (fun W=>run_any s q (q+1) W (by omega) hs);have hle:=runN_le s (q+1);have hsz:(s.extract (q+1) (q+1+runN s (q+1))).size=runN s (q+1):=by simp;omega
 have HT:=kp (fun W=>token_any s (s.extract (q+1) (q+1+runN s (q+1))) q 4 (((s.extract (q+1) (q+1+runN s (q+1))).size:Int)+1) W (by omega) (by omega) (by omega));have hq1:((q+1:Nat):Int)=(q:Int)+1:=by omega
 have hne:((s.extract (q+1) (q+1+runN s (q+1))).toList == [])=false:=by
  rw [Lx.bs_toList,beq_eq_false_iff_ne];intro h;have:=congrArg List.length h;rw [Lx.bs_length,hsz] at this;simp at this
  omega
 rw [hq1] at HR;generalize s.extract (q+1) (q+1+runN s (q+1))=t at *;have hsz2:(t.size:Int)<=100:=by omega
 have hnn:(t.toList != [])=true:=by rw [bne,hne];rfl
 have HSz:=kp hsz;clear hsz;have SB:=kp (Bk.keep (Bk.new w (.cells #[.string s,.int .i64 q] 232)) (.cells #[.int .i8 0,.string { data:=#[] },.int .i64 0,.int .i64 0] 152));have BB:=kp (((brq w).alloc nlq (.cells #[.string s,.int .i64 q] 232)).alloc (by simp) (.cells #[.int .i8 0,.string { data:=#[] },.int .i64 0,.int .i64 0] 152))
 have RB:=kp (show((w.alloc (.cells #[.string s,.int .i64 q] 232)).alloc (.cells #[.int .i8 0,.string { data:=#[] },.int .i64 0,.int .i64 0] 152)).heap[w.heap.size+1]?=some (.cells #[.int .i8 0,.string { data:=#[] },.int .i64 0,.int .i64 0] 152 (0,0)) by
  have h:=Bk.new (w.alloc (.cells #[.string s,.int .i64 q] 232)) (.cells #[.int .i8 0,.string { data:=#[] },.int .i64 0,.int .i64 0] 152)
  rwa [show(w.alloc (.cells #[.string s,.int .i64 q] 232)).heap.size=w.heap.size+1 by simp] at h)
 go_enter Tryz.func158,Tryz.ntmps158
 go_upto_region 1 with fail
 generalize (w.alloc (.cells #[.string s,.int .i64 q] 232)).alloc (.cells #[.int .i8 0,.string { data:=#[] },.int .i64 0,.int .i64 0] 152)=w2 at *;obtain ⟨s0,s1,sf⟩:=Bk.c2 SB.out;go_wp2_with fail
 refine(HR.out _).mono ?_;rintro e w3 ⟨rfl,hb⟩;have RB3:=kp (Bk.on RB.out hb);have SB3:=kp (Bk.on SB.out hb);have B3:=kp (BB.out.trans (hb.mono BB.out.size));clear hb s0 s1 sf;obtain ⟨s0,s1,sf⟩:=Bk.c2 SB3.out;go_wp2_with fail
 refine(HT.out _).mono ?_;rintro e w4 ⟨rfl,hb⟩;have TB4:=kp (Bk.new w4 (.cells #[.int .i8 4,.string t,.int .i64 q,.int .i64 (q+(t.size+1))] 152));have RB4:=kp (Bk.keep (Bk.on RB3.out hb) (.cells #[.int .i8 4,.string t,.int .i64 q,.int .i64 (q+(t.size+1))] 152));have B4:=kp ((B3.out.trans (hb.mono B3.out.size)).alloc (Nat.le_trans B3.out.size hb.size) (.cells #[.int .i8 4,.string t,.int .i64 q,.int .i64 (q+(t.size+1))] 152));clear hb s0 s1 sf;go_upto_region 3 with fail
 generalize w4.heap.size=tb at *;generalize w4.alloc (.cells #[.int .i8 4,.string t,.int .i64 q,.int .i64 (q+(t.size+1))] 152)=w5 at *;obtain ⟨t0,t1,t2,t3,tf⟩:=Bk.c4 TB4.out;obtain ⟨z0,z1,z2,z3,zf⟩:=Bk.c4 RB4.out;go_wp2_with fail
 exact pair_ret (w:=set4t w5 (w.heap.size+1) _ _ _ _) Tryz.results158 (set4t_at RB4.out _ _ _ _) rfl rfl rfl ⟨by rw [show(q:Int)+((t.size:Int)+1)=((q+1+runN s (q+1):Nat):Int) by have:=HSz.out;omega],set4t_below B4.out (by omega) _ _ _ _⟩
theorem sc_bar (s:ByteArray) (q:Nat) (w:World) (hq:q < s.size) (hs:s.size<=140737488351232) (n r:List UInt8) (hqq:quotedL (from_ s (q+1))=some (n,r)) (hn:n.length<=100) :
  Calls Tryz.prog 157 #[.agg #[.string s,.int .i64 q]] w (ScPost w 2 ⟨n.toArray⟩ q (at_ s r)):=by
 obtain ⟨hi,htk,hdr,hlt,hall⟩:=quoted_index hqq;rw [from_len] at hlt;have hex:s.extract (q+1) (q+1+n.length)=⟨n.toArray⟩:=by rw [extract_from,show q+1+n.length - (q+1)=n.length by omega,htk]
 have hat:at_ s r=q+1+n.length+1:=by
  rw [← hdr,show List.drop (n.length+1) (from_ s (q+1))=from_ s (q+1+n.length+1) by unfold from_;rw [List.drop_drop,show q+1+(n.length+1)=q+1+n.length+1 by omega],at_from (by omega)]
 have HI:=kp (fun W=>Tryz.strings_IndexByte (s.extract (q+1) s.size) 124 W);rw [drop_from,show(124:Int).toNat.toUInt8=124 from rfl,hi] at HI;have HA:=kp (fun W=>Lx.all_inside (⟨n.toArray⟩:ByteArray) W (by show((⟨n.toArray⟩:ByteArray).size:Int)<=_;rw [← Lx.bs_length,Lx.bs_mk];omega));rw [Lx.bs_mk,hall] at HA;have HT:=kp (fun W=>token_any s ⟨n.toArray⟩ q 2 ((n.length:Int)+2) W (by omega) (by omega) (by rw [← Lx.bs_length,Lx.bs_mk];exact hn));have hno:¬ (n.length:Int) < 0:=by omega
 rw [← hex] at HA HT;have HEx:=kp hex;have HAt:=kp hat;clear hi htk hdr hall hex hat hqq;generalize n.length=k at *;have hk1:(q:Int)+1+(k:Int)<=(s.size:Int):=by omega
 have SB:=kp (Bk.keep (Bk.new w (.cells #[.string s,.int .i64 q] 232)) (.cells #[.int .i8 0,.string { data:=#[] },.int .i64 0,.int .i64 0] 152));have BB:=kp (((brq w).alloc nlq (.cells #[.string s,.int .i64 q] 232)).alloc (by simp) (.cells #[.int .i8 0,.string { data:=#[] },.int .i64 0,.int .i64 0] 152))
 have RB:=kp (show((w.alloc (.cells #[.string s,.int .i64 q] 232)).alloc (.cells #[.int .i8 0,.string { data:=#[] },.int .i64 0,.int .i64 0] 152)).heap[w.heap.size+1]?=some (.cells #[.int .i8 0,.string { data:=#[] },.int .i64 0,.int .i64 0] 152 (0,0)) by
  have h:=Bk.new (w.alloc (.cells #[.string s,.int .i64 q] 232)) (.cells #[.int .i8 0,.string { data:=#[] },.int .i64 0,.int .i64 0] 152)
  rwa [show(w.alloc (.cells #[.string s,.int .i64 q] 232)).heap.size=w.heap.size+1 by simp] at h)
 go_enter Tryz.func157,Tryz.ntmps157
 go_upto_region 1 with fail
 generalize (w.alloc (.cells #[.string s,.int .i64 q] 232)).alloc (.cells #[.int .i8 0,.string { data:=#[] },.int .i64 0,.int .i64 0] 152)=w2 at *;obtain ⟨s0,s1,sf⟩:=Bk.c2 SB.out;go_wp2_with fail
 refine(HI.out _).mono ?_;rintro e w3 ⟨rfl,rfl⟩;go_wp2_with fail
 refine(HA.out _).mono ?_;rintro e w3 ⟨rfl,rfl⟩;go_wp2_with fail
 have hz1:(0:Int)<=(q:Int)+1+(k:Int):=by omega
 have hz2:(0:Int)<=(q:Int)+1:=by omega
 have hz3:(q:Int)+1<=(q:Int)+1+(k:Int):=by omega
 have hw1:IntKind.i64.wrap ((q:Int)+1)=(q:Int)+1:=by simp [IntKind.wrap,IntKind.signed,IntKind.bits];omega
 have hw2:IntKind.i64.wrap ((q:Int)+1+(k:Int))=(q:Int)+1+(k:Int):=by simp [IntKind.wrap,IntKind.signed,IntKind.bits];omega
 have hw3:IntKind.i64.wrap ((k:Int)+2)=(k:Int)+2:=by simp [IntKind.wrap,IntKind.signed,IntKind.bits];omega
 refine wp_region_held_drew (S:=fun W=>W.heap[w.heap.size]?=some (.cells #[.string s,.int .i64 q] 232 (0,0))) (by kernel_rfl) (SB.out) (fun hHeld=>?_);refine plz [0,1,2,3,4,5,6,7,8,9,10,11,12,13] ?_;iterate 14 (refine tnz (v:=?_) ?_ ?_;rotate_left;(focus first | ((intro w hSw;(obtain ⟨s0,s1,sf⟩:=Bk.c2 hSw;go_simp;try with_reducible rfl));done) | ((intro w hSw;go_simp;try with_reducible rfl);done));try simp only [pt])
 refine pzz ?_;have B0:=kp (brq w3).drew;refine rd 14 fun K hK=>?_;go_simp
 go_wp2_with (go_at_call 217;refine(HT.out _).mono ?_;rintro e W1 ⟨rfl,hb⟩;have hb':=B0.out.trans hb;have B3:=kp (BB.out.trans (hb'.mono BB.out.size));have RB3:=kp (Bk.on RB.out hb');have SB3:=kp (Bk.on SB.out hb');clear hb hb')
 refine hK.out _ _ (SB3.out) (fun hHeld=>?_);clear hK K;try simp only [pt]
 refine plz [15,16] ?_;iterate 2 (refine tnz (v:=?_) ?_ ?_;rotate_left;(focus (intro w hSw;go_simp;try with_reducible rfl));try simp only [pt])
 refine pzz ?_;obtain ⟨z0,z1,z2,z3,zf⟩:=Bk.c4 RB3.out;have hne:w.heap.size≠w.heap.size+1:=by omega
 have HNe:=kp hne;clear hne s0 s1 sf;refine rd 17 fun K hK=>?_;go_simp;refine hK.out _ _ ((Bk.apart (Bk.apart (Bk.apart (Bk.apart SB3.out (p:=⟨w.heap.size+1,0,none⟩) HNe.out _) (p:=⟨w.heap.size+1,1,none⟩) HNe.out _) (p:=⟨w.heap.size+1,2,none⟩) HNe.out _) (p:=⟨w.heap.size+1,3,none⟩) HNe.out _)) (fun hHeld=>?_);clear hK K;try simp only [pt]
 refine tk 18 (v:=?_) ?_ ?_;rotate_left
 ·(intro w hSw;go_simp;try with_reducible rfl)
 try simp only [pt]
 refine dnz ?_;clear hHeld z0 z1 z2 z3 zf;go_wp2_with fail
 exact pair_ret (w:=set4t W1 (w.heap.size+1) _ _ _ _) Tryz.results157 (set4t_at RB3.out _ _ _ _) rfl rfl rfl ⟨by rw [HEx.out,HAt.out,show(q:Int)+((k:Int)+2)=((q+1+k+1:Nat):Int) by omega],set4t_below B3.out (by omega) _ _ _ _⟩
theorem sc_number (s:ByteArray) (q:Nat) (w:World) (hq:q<=s.size) (hs:s.size<=140737488351232) (hr:runN s q<=100) (hn:isNum ((from_ s q).takeWhile sgn)=true) :
  Calls Tryz.prog 159 #[.agg #[.string s,.int .i64 q]] w (ScPost w 3 (s.extract q (q+runN s q)) q (q+runN s q)):=by
 have HR:=kp (fun W=>run_any s q q W hq hs);have hle:=runN_le s q;have hsz:(s.extract q (q+runN s q)).size=runN s q:=by simp;omega
 have HT:=kp (fun W=>token_any s (s.extract q (q+runN s q)) q 3 ((s.extract q (q+runN s q)).size:Int) W (by omega) (by omega) (by omega));have hbs:Lx.bs (s.extract q (q+runN s q))=(from_ s q).takeWhile sgn:=by rw [extract_run,Lx.bs_mk]
 rw [← hbs] at hn;clear hbs;generalize s.extract q (q+runN s q)=t at *;obtain ⟨hd,hne,hz,h48⟩:=num_parts hn;have HA:=kp (fun W=>Lx2.all_digit t W (by omega))
 rw [show((Lx.bs t).all fun c=>Lx.digitI c.toNat)=true by
  rw [List.all_eq_true];intro c hc;have:=(isNum_iff.1 hn).2.2 c hc;unfold isDig at this;exact this] at HA
 have H48:=kp h48;have HSz:=kp hsz;clear hd hn h48 hsz;have SB:=kp (Bk.keep (Bk.new w (.cells #[.string s,.int .i64 q] 232)) (.cells #[.int .i8 0,.string { data:=#[] },.int .i64 0,.int .i64 0] 152));have BB:=kp (((brq w).alloc nlq (.cells #[.string s,.int .i64 q] 232)).alloc (by simp) (.cells #[.int .i8 0,.string { data:=#[] },.int .i64 0,.int .i64 0] 152))
 have RB:=kp (show((w.alloc (.cells #[.string s,.int .i64 q] 232)).alloc (.cells #[.int .i8 0,.string { data:=#[] },.int .i64 0,.int .i64 0] 152)).heap[w.heap.size+1]?=some (.cells #[.int .i8 0,.string { data:=#[] },.int .i64 0,.int .i64 0] 152 (0,0)) by
  have h:=Bk.new (w.alloc (.cells #[.string s,.int .i64 q] 232)) (.cells #[.int .i8 0,.string { data:=#[] },.int .i64 0,.int .i64 0] 152)
  rwa [show(w.alloc (.cells #[.string s,.int .i64 q] 232)).heap.size=w.heap.size+1 by simp] at h)
 go_enter Tryz.func159,Tryz.ntmps159
 go_upto_region 1 with fail
 generalize (w.alloc (.cells #[.string s,.int .i64 q] 232)).alloc (.cells #[.int .i8 0,.string { data:=#[] },.int .i64 0,.int .i64 0] 152)=w2 at *;obtain ⟨s0,s1,sf⟩:=Bk.c2 SB.out;go_wp2_with fail
 refine(HR.out _).mono ?_;rintro e w3 ⟨rfl,hb⟩;have RB3:=kp (Bk.on RB.out hb);have SB3:=kp (Bk.on SB.out hb);have B3:=kp (BB.out.trans (hb.mono BB.out.size));clear hb s0 s1 sf;obtain ⟨s0,s1,sf⟩:=Bk.c2 SB3.out;go_wp2_with fail
 refine(HT.out _).mono ?_;rintro e w4 ⟨rfl,hb⟩;have TB4:=kp (Bk.new w4 (.cells #[.int .i8 3,.string t,.int .i64 q,.int .i64 (q+t.size)] 152));have RB4:=kp (Bk.keep (Bk.on RB3.out hb) (.cells #[.int .i8 3,.string t,.int .i64 q,.int .i64 (q+t.size)] 152));have B4:=kp ((B3.out.trans (hb.mono B3.out.size)).alloc (Nat.le_trans B3.out.size hb.size) (.cells #[.int .i8 3,.string t,.int .i64 q,.int .i64 (q+t.size)] 152));have HTb:=kp (show w4.heap.size≠w.heap.size+1 by have h1:=lt_of_block RB3.out;have h2:=hb.size;omega);clear hb s0 s1 sf;go_upto_region 3 with fail
 generalize w4.heap.size=tb at *;generalize w4.alloc (.cells #[.int .i8 3,.string t,.int .i64 q,.int .i64 (q+t.size)] 152)=w5 at *;obtain ⟨t0,t1,t2,t3,tf⟩:=Bk.c4 TB4.out;obtain ⟨z0,z1,z2,z3,zf⟩:=Bk.c4 RB4.out
 have h0:((t.toList == [48])=true)\/((t.toList == [48])=false/\((t[0].toNat:Int) == 48)=false):=by
  cases hb:(t.toList == [48]) with
  | true=>exact .inl rfl
  | false=>exact .inr ⟨rfl,H48.out hb hz⟩
 have hz':(0:Int) < (t.size:Int):=by omega
 have HNe:=kp (show tb≠w.heap.size+1 from HTb.out);clear t0 t1 t2 t3 tf z0 z1 z2 z3 zf HTb;rcases h0 with h0 | ⟨h0,h1⟩
 ·skip;have TD:=kp (show w5.drew.heap[tb]?=_ from TB4.out);refine wp_region_held_drew (S:=fun W=>W.heap[tb]?=some (.cells #[.int .i8 3,.string t,.int .i64 q,.int .i64 (q+t.size)] 152 (0,0))) (by kernel_rfl) (TB4.out) (fun hHeld=>?_);refine plz [0,1,2,3] ?_;iterate 4 (refine tnz (v:=?_) ?_ ?_;rotate_left;(focus first | ((intro w hSw;(obtain ⟨t0,t1,t2,t3,tf⟩:=Bk.c4 hSw;go_simp;try with_reducible rfl));done) | ((intro w hSw;go_simp;try with_reducible rfl);done));try simp only [pt])
  refine pzz ?_;refine rd 4 fun K hK=>?_;go_simp
  go_wp2_with (go_at_call 218;refine(HA.out _).mono ?_;rintro e W1 ⟨rfl,rfl⟩)
  refine hK.out _ _ (TD.out) (fun hHeld=>?_);clear hK K;try simp only [pt]
  refine plz [5,6,7,8,9] ?_;iterate 5 (refine tnz (v:=?_) ?_ ?_;rotate_left;(focus (intro w hSw;go_simp;try with_reducible rfl));try simp only [pt])
  refine pzz ?_;refine sk 10 ?_;try simp only [pt]
  refine sk 11 ?_;try simp only [pt]
  refine sk 12 ?_;try simp only [pt]
  refine plz [13,14] ?_;iterate 2 (refine tnz (v:=?_) ?_ ?_;rotate_left;(focus (intro w hSw;go_simp;try with_reducible rfl));try simp only [pt])
  refine pzz ?_;obtain ⟨z0,z1,z2,z3,zf⟩:=Bk.c4 RB4.out;refine rd 15 fun K hK=>?_;go_simp;refine hK.out _ _ ((Bk.apart (Bk.apart (Bk.apart (Bk.apart TD.out (p:=⟨w.heap.size+1,0,none⟩) HNe.out _) (p:=⟨w.heap.size+1,1,none⟩) HNe.out _) (p:=⟨w.heap.size+1,2,none⟩) HNe.out _) (p:=⟨w.heap.size+1,3,none⟩) HNe.out _)) (fun hHeld=>?_);clear hK K;try simp only [pt]
  refine tk 16 (v:=?_) ?_ ?_;rotate_left
  ·(intro w hSw;go_simp;try with_reducible rfl)
  try simp only [pt]
  refine dnz ?_;clear hHeld z0 z1 z2 z3 zf;go_wp2_with fail
  exact pair_ret (w:=set4t w5.drew (w.heap.size+1) _ _ _ _) Tryz.results159 (set4t_at (show w5.drew.heap[w.heap.size+1]?=_ from RB4.out) _ _ _ _) rfl rfl rfl ⟨by rw [show(q:Int)+(t.size:Int)=((q+runN s q:Nat):Int) by have:=HSz.out;omega],set4t_below B4.out.drew (by omega) _ _ _ _⟩
 ·have h1':((t[0].toNat:Int) != 48)=true:=by rw [bne,h1];rfl
  have TD:=kp (show w5.drew.heap[tb]?=_ from TB4.out);refine wp_region_held_drew (S:=fun W=>W.heap[tb]?=some (.cells #[.int .i8 3,.string t,.int .i64 q,.int .i64 (q+t.size)] 152 (0,0))) (by kernel_rfl) (TB4.out) (fun hHeld=>?_);refine plz [0,1,2,3] ?_;iterate 4 (refine tnz (v:=?_) ?_ ?_;rotate_left;(focus first | ((intro w hSw;(obtain ⟨t0,t1,t2,t3,tf⟩:=Bk.c4 hSw;go_simp;try with_reducible rfl));done) | ((intro w hSw;go_simp;try with_reducible rfl);done));try simp only [pt])
  refine pzz ?_;refine rd 4 fun K hK=>?_;go_simp
  go_wp2_with (go_at_call 218;refine(HA.out _).mono ?_;rintro e W1 ⟨rfl,rfl⟩)
  refine hK.out _ _ (TD.out) (fun hHeld=>?_);clear hK K;try simp only [pt]
  refine plz [5,6,7,8,9,10,11,12,13,14] ?_;iterate 10 (refine tnz (v:=?_) ?_ ?_;rotate_left;(focus (intro w hSw;go_simp;try with_reducible rfl));try simp only [pt])
  refine pzz ?_;obtain ⟨z0,z1,z2,z3,zf⟩:=Bk.c4 RB4.out;refine rd 15 fun K hK=>?_;go_simp;refine hK.out _ _ ((Bk.apart (Bk.apart (Bk.apart (Bk.apart TD.out (p:=⟨w.heap.size+1,0,none⟩) HNe.out _) (p:=⟨w.heap.size+1,1,none⟩) HNe.out _) (p:=⟨w.heap.size+1,2,none⟩) HNe.out _) (p:=⟨w.heap.size+1,3,none⟩) HNe.out _)) (fun hHeld=>?_);clear hK K;try simp only [pt]
  refine tk 16 (v:=?_) ?_ ?_;rotate_left
  ·(intro w hSw;go_simp;try with_reducible rfl)
  try simp only [pt]
  refine dnz ?_;clear hHeld z0 z1 z2 z3 zf;go_wp2_with fail
  exact pair_ret (w:=set4t w5.drew (w.heap.size+1) _ _ _ _) Tryz.results159 (set4t_at (show w5.drew.heap[w.heap.size+1]?=_ from RB4.out) _ _ _ _) rfl rfl rfl ⟨by rw [show(q:Int)+(t.size:Int)=((q+runN s q:Nat):Int) by have:=HSz.out;omega],set4t_below B4.out.drew (by omega) _ _ _ _⟩
end Dt
end Go.Proofs.YtmcbolkpbklfeaaGreatDoor

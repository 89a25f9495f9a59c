import Derived.Test.YtmcbolkpbklfeaaGreatDoorShort
import Derived.Test.YtmcbolkpbklfeaaGreatDoorMf
import Derived.Test.YtmcbolkpbklfeaaGreatDoorMd
import Derived.Test.YtmcbolkpbklfeaaGreatDoorShelf
import Derived.Test.YtmcbolkpbklfeaaGreatDoorMp
/- merged by wip/merge.py from: LxSkip -/
set_option maxRecDepth 100000
set_option maxHeartbeats 51200000
namespace Go.Proofs.YtmcbolkpbklfeaaGreatDoor
namespace Dt
open Go.RowKit
theorem skip_any (s:ByteArray) (p:Nat) (w:World) (hp:p<=s.size) (hs:s.size<=140737488351232) :
  Calls Tryz.prog 42 #[.string s,.int .i64 p] w fun e w'=>e=.returned (.int .i64 (skipP s p))/\w=w':=by
 have hmn:min (p:Int) (s.size:Int)=p:=by omega
 have hmx:max (0:Int) (p:Int)=p:=by omega
 have HMn:=kp hmn
 go_enter Tryz.func42,Tryz.ntmps42
 go_wp2_with fail
 all_goals
  go_loop [1] (fun v=>∃ k:Nat,k<=s.size/\v=.int .i64 k/\skipL false (from_ s k)=skipL false (from_ s p)) (fun v=>s.size - (intOf v).toNat)
  case atStart=>exact⟨p,hp,by first | rfl | go_num,rfl⟩
  case round =>
   obtain ⟨k,hk,rfl,hl⟩:=hrel;have HL:=kp hl;clear hl
   by_cases hlt:k < s.size
   ·have hlt2:(k:Int) < (s.size:Int):=by omega
    have HF:=kp (from_at hlt);have HW:=kp (Lx.white_any (s[k].toNat:Int) w)
    by_cases h59:(s[k].toNat:Int)=59
    ·have h59':((s[k].toNat:Int) == 59)=true:=by simp [h59]
     have hb:Lx.whiteI (s[k].toNat:Int)=false:=by rw [h59];decide
     have HB:=kp (show skipL true (from_ s k)=skipL false (from_ s p) by rw [← HL.out,HF.out,skip_semi hb h59]);have HI:=kp (Tryz.strings_IndexByte (s.extract k s.size) 10 w);rw [drop_from,show(10:Int).toNat.toUInt8=10 from rfl] at HI;have hge:=Lib.indexByte_ge (from_ s k) 10
     have hln:Lib.indexByte (from_ s k) 10 < 0/\skipP s p=s.size\/∃ o:Nat,Lib.indexByte (from_ s k) 10=o/\k+o < s.size/\skipL false (from_ s (k+o+1))=skipL false (from_ s p):=by
      rcases Decidable.em (Lib.indexByte (from_ s k) 10 < 0) with h | h
      ·left
       refine⟨h,?_⟩;unfold skipP;rw [← HB.out,skip_none (by omega)]
       rfl
      ·right
       obtain ⟨o,ho⟩:=Int.eq_ofNat_of_zero_le (a:=Lib.indexByte (from_ s k) 10) (by omega);refine⟨o,ho,?_,?_⟩
       ·have h1:=(Lib.indexByte_some ho).1;obtain ⟨h2,_⟩:=gqs h1;rw [from_len] at h2
        omega
       ·rw [← HB.out,skip_some ho];unfold from_;rw [List.drop_drop,show k+(o+1)=k+o+1 by omega]
     clear h59 hb hge;rcases hln with⟨hn,hsk⟩ | ⟨o,ho,hko,hsk⟩
     ·have HSk:=kp hsk;generalize Lib.indexByte (from_ s k) 10=ix at *;clear hsk;go_wp2_with fail
      refine HI.out.mono ?_;rintro e w' ⟨rfl,rfl⟩;go_wp2_with fail
      go_ret;exact⟨ret_int (by rw [HSk.out]),rfl⟩
     ·have HSk:=kp hsk;rw [ho] at HI;have hno:¬ (o:Int) < 0:=by omega
      clear hsk ho;go_wp2_with fail
      refine HI.out.mono ?_;rintro e w' ⟨rfl,rfl⟩;go_wp2_with fail
      go_round
      case rel=>exact⟨k+o+1,by omega,by go_num,HSk.out⟩
      case measure=>simp [intOf];omega
    ·have h59':((s[k].toNat:Int) == 59)=false:=by simp [h59]
     cases hb:Lx.whiteI (s[k].toNat:Int) with
     | true =>
      have HB:=kp (show skipL false (from_ s (k+1))=skipL false (from_ s p) by rw [← HL.out,HF.out,skip_white hb]);rw [hb] at HW;clear hb h59;go_wp2_with fail
      refine HW.out.mono ?_;rintro e w' ⟨rfl,rfl⟩;go_wp2_with fail
      go_round
      case rel=>exact⟨k+1,by omega,by go_num,HB.out⟩
      case measure=>simp [intOf];omega
     | false =>
      have HP:=kp (show skipP s p=k by unfold skipP;rw [← HL.out,HF.out,skip_stop hb h59,← HF.out,at_from hk]);rw [hb] at HW;clear hb h59;go_wp2_with fail
      refine HW.out.mono ?_;rintro e w' ⟨rfl,rfl⟩;go_wp2_with fail
      go_ret;exact⟨ret_int (by rw [HP.out]),rfl⟩
   ·obtain rfl:k=s.size:=by omega
    have HP:=kp (show skipP s p=s.size by unfold skipP;rw [← HL.out,from_end nlq];rfl);go_wp2_with fail
    go_ret;exact⟨ret_int (by rw [HP.out]),rfl⟩
theorem run_any (s:ByteArray) (a:Int) (p:Nat) (w:World) (hp:p<=s.size) (hs:s.size<=140737488351232) :
  Calls Tryz.prog 220 #[.agg #[.string s,.int .i64 a],.int .i64 p] w fun e w'=>e=.returned (.string (s.extract p (p+runN s p)))/\Below w.heap.size w w':=by
 have SB:=kp (Bk.new w (.cells #[.string s,.int .i64 a] 232));have BB:=kp ((brq w).alloc nlq (.cells #[.string s,.int .i64 a] 232))
 go_enter Tryz.func220,Tryz.ntmps220
 go_upto_region 1 with fail
 generalize w.alloc (.cells #[.string s,.int .i64 a] 232)=w1 at *;obtain ⟨s0,s1,sf⟩:=Bk.c2 SB.out;go_wp2_with fail
 go_loop [5] (fun v=>∃ k:Nat,p<=k/\k<=s.size/\v=.int .i64 k/\k+runN s k=p+runN s p) (fun v=>s.size - (intOf v).toNat)
 case atStart=>exact⟨p,nlq,hp,rfl,rfl⟩
 case round =>
  obtain ⟨k,hpk,hk,rfl,hl⟩:=hrel;have HL:=kp hl;clear hl
  by_cases hlt:k < s.size
  ·have hlt2:(k:Int) < (s.size:Int):=by omega
   have HS:=kp (Lx.sign_any (s[k].toNat:Int) w1 (by omega) (by have:=s[k].toNat_lt;omega))
   cases hb:Lx.signI (s[k].toNat:Int) with
   | true =>
    have HB:=kp (show(k+1)+runN s (k+1)=p+runN s p by have:=HL.out;have:=runN_more hlt hb;omega);rw [hb] at HS;clear hb;go_wp2_with fail
    refine HS.out.mono ?_;rintro e w' ⟨rfl,rfl⟩;go_wp2_with fail
    go_round
    case rel=>exact⟨k+1,by omega,by omega,by go_num,HB.out⟩
    case measure=>simp [intOf];omega
   | false =>
    have HB:=kp (show k=p+runN s p by have:=HL.out;have:=runN_stop hlt hb;omega);rw [hb] at HS;clear hb;go_wp2_with fail
    refine HS.out.mono ?_;rintro e w' ⟨rfl,rfl⟩;go_wp2_with fail
    go_ret;refine⟨?_,BB.out⟩;rw [← HB.out]
    rfl
  ·obtain rfl:k=s.size:=by omega
   have HB:=kp (show s.size=p+runN s p by have:=HL.out;have:=runN_end (Nat.le_refl s.size);omega);go_wp2_with fail
   go_ret;refine⟨?_,BB.out⟩;rw [← HB.out]
   rfl
theorem pair_ret {f:Func} {i j:Nat} {w:World} {b:Nat} {r0 r1 r2 r3:Value} {o:Bool} {act:Act} {t:TypeId} {R:Ending->World->Prop} (hf:f.results=#[.cell i 152,.tmp j]) (hb:w.heap[b]?=some (.cells #[r0,r1,r2,r3] t (0,0))) (h2:act.tmps[i]?=some (.pointer (some ⟨b,0,none⟩))) (h3:act.tmps[j]?=some (.bool o)) (hd:act.defers=[]) (hR:R (.returned (.tuple #[.agg #[r0,r1,r2,r3],.bool o])) w) :
  bodyPost Tryz.prog f R .ret act w:=by
 obtain ⟨y0,y1,y2,y3,_⟩:=Bk.c4 hb;refine bodyPost_ret (v:=.tuple #[.agg #[r0,r1,r2,r3],.bool o]) ?_ hd hR;simp [results,hf,go_sem,y0,y1,y2,y3,h2,h3]
def set4t (w:World) (b:Nat) (v0 v1 v2 v3:Value):World:=(((w.setCell ⟨b,0,none⟩ v0).setCell ⟨b,1,none⟩ v1).setCell ⟨b,2,none⟩ v2).setCell ⟨b,3,none⟩ v3
theorem set4t_at {w:World} {b:Nat} {a0 a1 a2 a3:Value} {t:TypeId} (h:w.heap[b]?=some (.cells #[a0,a1,a2,a3] t (0,0))) (v0 v1 v2 v3:Value):(set4t w b v0 v1 v2 v3).heap[b]?=some (.cells #[v0,v1,v2,v3] t (0,0)):=by
 simp [set4t,World.setCell,Array.getElem?_modify,h]
theorem set4t_below {B b:Nat} {w0 w:World} (h:Below B w0 w) (hb:B<=b) (v0 v1 v2 v3:Value):Below B w0 (set4t w b v0 v1 v2 v3) :=
 (((h.setCell (p:=⟨b,0,none⟩) hb v0).setCell (p:=⟨b,1,none⟩) hb v1).setCell (p:=⟨b,2,none⟩) hb v2).setCell (p:=⟨b,3,none⟩) hb v3
theorem token_any (s t:ByteArray) (a k n:Int) (w:World) (ha:0<=a/\a<=1000000000000000) (hn:0<=n/\n<=1000000000000000) (ht:t.size<=100) :
  Calls Tryz.prog 217 #[.agg #[.string s,.int .i64 a],.int .i8 k,.string t,.int .i64 n] w fun e w'=>e=.returned (.tuple #[.agg #[.int .i8 k,.string t,.int .i64 a,.int .i64 (a+n)],.bool true])/\Below w.heap.size w w':=by
 have SB:=kp (Bk.keep (Bk.new w (.cells #[.string s,.int .i64 a] 232)) (.cells #[.int .i8 0,.string { data:=#[] },.int .i64 0,.int .i64 0] 152));have BB:=kp (((brq w).alloc nlq (.cells #[.string s,.int .i64 a] 232)).alloc (by simp) (.cells #[.int .i8 0,.string { data:=#[] },.int .i64 0,.int .i64 0] 152))
 have RB:=kp (show((w.alloc (.cells #[.string s,.int .i64 a] 232)).alloc (.cells #[.int .i8 0,.string { data:=#[] },.int .i64 0,.int .i64 0] 152)).heap[w.heap.size+1]?=some (.cells #[.int .i8 0,.string { data:=#[] },.int .i64 0,.int .i64 0] 152 (0,0)) by
  have h:=Bk.new (w.alloc (.cells #[.string s,.int .i64 a] 232)) (.cells #[.int .i8 0,.string { data:=#[] },.int .i64 0,.int .i64 0] 152)
  rwa [show(w.alloc (.cells #[.string s,.int .i64 a] 232)).heap.size=w.heap.size+1 by simp] at h)
 have ht':(t.size:Int)<=100:=by omega
 go_enter Tryz.func217,Tryz.ntmps217
 go_upto_region 1 with fail
 generalize (w.alloc (.cells #[.string s,.int .i64 a] 232)).alloc (.cells #[.int .i8 0,.string { data:=#[] },.int .i64 0,.int .i64 0] 152)=w2 at *;obtain ⟨s0,s1,sf⟩:=Bk.c2 SB.out;obtain ⟨z0,z1,z2,z3,zf⟩:=Bk.c4 RB.out;go_wp2_with fail
 exact pair_ret (w:=set4t w2 (w.heap.size+1) _ _ _ _) Tryz.results217 (set4t_at RB.out _ _ _ _) rfl rfl rfl ⟨rfl,set4t_below BB.out (by omega) _ _ _ _⟩
def ScPost (w:World) (k:Int) (t:ByteArray) (a b:Nat) (e:Ending) (w':World):Prop :=
 e=.returned (.tuple #[.agg #[.int .i8 k,.string t,.int .i64 a,.int .i64 b],.bool true])/\Below w.heap.size w w'
theorem sc_open (s:ByteArray) (q:Nat) (w:World) (hq:q<=140737488351232) :
  Calls Tryz.prog 155 #[.agg #[.string s,.int .i64 q]] w (ScPost w 0 { data:=#[] } q (q+1)):=by
 have HT:=kp (fun W=>token_any s { data:=#[] } q 0 1 W (by omega) (by omega) (by decide));have SB:=kp (Bk.keep (Bk.new w (.cells #[.string s,.int .i64 q] 232)) (.cells #[.int .i8 0,.string { data:=#[] },.int .i64 0,.int .i64 0] 152));have BB:=kp (((brq w).alloc nlq (.cells #[.string s,.int .i64 q] 232)).alloc (by simp) (.cells #[.int .i8 0,.string { data:=#[] },.int .i64 0,.int .i64 0] 152))
 have RB:=kp (show((w.alloc (.cells #[.string s,.int .i64 q] 232)).alloc (.cells #[.int .i8 0,.string { data:=#[] },.int .i64 0,.int .i64 0] 152)).heap[w.heap.size+1]?=some (.cells #[.int .i8 0,.string { data:=#[] },.int .i64 0,.int .i64 0] 152 (0,0)) by
  have h:=Bk.new (w.alloc (.cells #[.string s,.int .i64 q] 232)) (.cells #[.int .i8 0,.string { data:=#[] },.int .i64 0,.int .i64 0] 152)
  rwa [show(w.alloc (.cells #[.string s,.int .i64 q] 232)).heap.size=w.heap.size+1 by simp] at h)
 go_enter Tryz.func155,Tryz.ntmps155
 go_upto_region 1 with fail
 generalize (w.alloc (.cells #[.string s,.int .i64 q] 232)).alloc (.cells #[.int .i8 0,.string { data:=#[] },.int .i64 0,.int .i64 0] 152)=w2 at *;obtain ⟨s0,s1,sf⟩:=Bk.c2 SB.out;go_wp2_with fail
 refine(HT.out _).mono ?_;rintro e w3 ⟨rfl,hb⟩;have RB3:=kp (Bk.on RB.out hb);have B3:=kp (BB.out.trans (hb.mono BB.out.size));clear hb s0 s1 sf;obtain ⟨z0,z1,z2,z3,zf⟩:=Bk.c4 RB3.out;go_wp2_with fail
 exact pair_ret (w:=set4t w3 (w.heap.size+1) _ _ _ _) Tryz.results155 (set4t_at RB3.out _ _ _ _) rfl rfl rfl ⟨rfl,set4t_below B3.out (by omega) _ _ _ _⟩
theorem sc_close (s:ByteArray) (q:Nat) (w:World) (hq:q<=140737488351232) :
  Calls Tryz.prog 156 #[.agg #[.string s,.int .i64 q]] w (ScPost w 1 { data:=#[] } q (q+1)):=by
 have HT:=kp (fun W=>token_any s { data:=#[] } q 1 1 W (by omega) (by omega) (by decide));have SB:=kp (Bk.keep (Bk.new w (.cells #[.string s,.int .i64 q] 232)) (.cells #[.int .i8 0,.string { data:=#[] },.int .i64 0,.int .i64 0] 152));have BB:=kp (((brq w).alloc nlq (.cells #[.string s,.int .i64 q] 232)).alloc (by simp) (.cells #[.int .i8 0,.string { data:=#[] },.int .i64 0,.int .i64 0] 152))
 have RB:=kp (show((w.alloc (.cells #[.string s,.int .i64 q] 232)).alloc (.cells #[.int .i8 0,.string { data:=#[] },.int .i64 0,.int .i64 0] 152)).heap[w.heap.size+1]?=some (.cells #[.int .i8 0,.string { data:=#[] },.int .i64 0,.int .i64 0] 152 (0,0)) by
  have h:=Bk.new (w.alloc (.cells #[.string s,.int .i64 q] 232)) (.cells #[.int .i8 0,.string { data:=#[] },.int .i64 0,.int .i64 0] 152)
  rwa [show(w.alloc (.cells #[.string s,.int .i64 q] 232)).heap.size=w.heap.size+1 by simp] at h)
 go_enter Tryz.func156,Tryz.ntmps156
 go_upto_region 1 with fail
 generalize (w.alloc (.cells #[.string s,.int .i64 q] 232)).alloc (.cells #[.int .i8 0,.string { data:=#[] },.int .i64 0,.int .i64 0] 152)=w2 at *;obtain ⟨s0,s1,sf⟩:=Bk.c2 SB.out;go_wp2_with fail
 refine(HT.out _).mono ?_;rintro e w3 ⟨rfl,hb⟩;have RB3:=kp (Bk.on RB.out hb);have B3:=kp (BB.out.trans (hb.mono BB.out.size));clear hb s0 s1 sf;obtain ⟨z0,z1,z2,z3,zf⟩:=Bk.c4 RB3.out;go_wp2_with fail
 exact pair_ret (w:=set4t w3 (w.heap.size+1) _ _ _ _) Tryz.results156 (set4t_at RB3.out _ _ _ _) rfl rfl rfl ⟨rfl,set4t_below B3.out (by omega) _ _ _ _⟩
theorem sc_name (s:ByteArray) (q:Nat) (w:World) (hq:q<=s.size) (hs:s.size<=140737488351232) (hr:runN s q<=100) :
  Calls Tryz.prog 160 #[.agg #[.string s,.int .i64 q]] w (ScPost w 2 (s.extract q (q+runN s q)) q (q+runN s q)):=by
 have HR:=kp (fun W=>run_any s q q W hq hs);have hle:=runN_le s q;have hsz:(s.extract q (q+runN s q)).size=runN s q:=by simp;omega
 have HT:=kp (fun W=>token_any s (s.extract q (q+runN s q)) q 2 ((s.extract q (q+runN s q)).size:Int) W (by omega) (by omega) (by omega));generalize s.extract q (q+runN s q)=t at *;have HSz:=kp hsz;clear hsz;have SB:=kp (Bk.keep (Bk.new w (.cells #[.string s,.int .i64 q] 232)) (.cells #[.int .i8 0,.string { data:=#[] },.int .i64 0,.int .i64 0] 152));have BB:=kp (((brq w).alloc nlq (.cells #[.string s,.int .i64 q] 232)).alloc (by simp) (.cells #[.int .i8 0,.string { data:=#[] },.int .i64 0,.int .i64 0] 152))
 have RB:=kp (show((w.alloc (.cells #[.string s,.int .i64 q] 232)).alloc (.cells #[.int .i8 0,.string { data:=#[] },.int .i64 0,.int .i64 0] 152)).heap[w.heap.size+1]?=some (.cells #[.int .i8 0,.string { data:=#[] },.int .i64 0,.int .i64 0] 152 (0,0)) by
  have h:=Bk.new (w.alloc (.cells #[.string s,.int .i64 q] 232)) (.cells #[.int .i8 0,.string { data:=#[] },.int .i64 0,.int .i64 0] 152)
  rwa [show(w.alloc (.cells #[.string s,.int .i64 q] 232)).heap.size=w.heap.size+1 by simp] at h)
 go_enter Tryz.func160,Tryz.ntmps160
 go_upto_region 1 with fail
 generalize (w.alloc (.cells #[.string s,.int .i64 q] 232)).alloc (.cells #[.int .i8 0,.string { data:=#[] },.int .i64 0,.int .i64 0] 152)=w2 at *;obtain ⟨s0,s1,sf⟩:=Bk.c2 SB.out;go_wp2_with fail
 refine(HR.out _).mono ?_;rintro e w3 ⟨rfl,hb⟩;have RB3:=kp (Bk.on RB.out hb);have SB3:=kp (Bk.on SB.out hb);have B3:=kp (BB.out.trans (hb.mono BB.out.size));clear hb s0 s1 sf;obtain ⟨s0,s1,sf⟩:=Bk.c2 SB3.out;go_wp2_with fail
 refine(HT.out _).mono ?_;rintro e w4 ⟨rfl,hb⟩;have RB4:=kp (Bk.on RB3.out hb);have B4:=kp (B3.out.trans (hb.mono B3.out.size));clear hb s0 s1 sf;obtain ⟨z0,z1,z2,z3,zf⟩:=Bk.c4 RB4.out;go_wp2_with fail
 exact pair_ret (w:=set4t w4 (w.heap.size+1) _ _ _ _) Tryz.results160 (set4t_at RB4.out _ _ _ _) rfl rfl rfl ⟨by rw [HSz.out];rfl,set4t_below B4.out (by omega) _ _ _ _⟩
end Dt
end Go.Proofs.YtmcbolkpbklfeaaGreatDoor

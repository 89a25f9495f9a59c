import Derived.Test.YtpmdcckapddchaaGreatShort
import Derived.Test.YtpmdcckapddchaaGreatMzo
import Derived.Test.YtpmdcckapddchaaGreatMb
import Derived.Test.YtpmdcckapddchaaGreatMc
import Derived.Test.YtpmdcckapddchaaGreatMg
import Derived.Test.YtpmdcckapddchaaGreatMi
import Derived.Deep.CutRange
import Derived.Test.YtpmdcckapddchaaGreatMzn
import Derived.Test.YtpmdcckapddchaaGreatMzc
import Derived.Test.YtpmdcckapddchaaGreatRows
/- merged by wip/merge.py from: Law7Lets Law7Sorts ElabSortsCard -/
/- ElabLets: a let of a name that stands for a term, and is all there is, is that term. -/
namespace Go.Proofs.YtpmdcckapddchaaGreat.El
open Go.RowKit Go.Proofs.YtpmdcckapddchaaGreat.Dt Go.Proofs.YtpmdcckapddchaaGreat.Sg
def TermCut (W:World) (o:List Node × Int × Int) (v7 v8 v9:Value) (V:World):Prop :=
 ∃ tb A' c',v7=.pointer (some ⟨tb,0,none⟩)∧v8=.int .i64 o.2.1∧v9=.int .i64 o.2.2∧V.heap[tb]?=some (.cells #[.slice A' o.1.length c'] 38 (0,0))∧W.heap.size≤tb∧Below W.heap.size W V∧Lies 8 NodeR V A' o.1∧o.1.length≤c'∧c'≤maxLen∧o.1.length≤1000000∧I64 o.2.1
theorem sum_mem {ms:List Macro} {k:Nat} (h:sumOf (fun m:Macro=>m.body.full) ms≤k):∀ m ∈ ms,m.body.full≤k:=fun _ hm=>Nat.le_trans (sumOf_mem (sz:=fun m:Macro=>m.body.full) hm) h
theorem makes_new {w:World} {A1 A2 A3:Option Addr} {c1 c2 c3:Nat} {g:Sig} (hs:g.sorts.length≤1000000∧g.funs.length≤1000000∧g.macros.length≤1000000) (hM:∀ m ∈ g.macros,m.body.full≤3000000) {x:Sexp} (hf:x.full≤3000000)
  (h:SigAt w A1 c1 A2 c2 A3 c3 g) (At:Option Addr) (ht:Lies 8 NodeR w At newT) {A:Option Addr} {c:Nat} (hx:XAt w A c x) :
  Calls Tryz.prog 13 #[.agg #[.slice A1 g.sorts.length c1,.slice A2 g.funs.length c2,.slice A3 g.macros.length c3],.agg #[.slice At 2 2],.agg #[.int .i8 x.kind,.string x.text,.slice A x.l.length c],.int .i64 200] w (MakesPost w (termO g newT x 200)) :=
 makes_any h hs.1 hs.2.1 hs.2.2 hM ht (by decide) (by decide) (by unfold maxLen;decide) hx hf 200 ⟨by decide,by decide⟩ (by decide) (ct:=2)
set_option maxRecDepth 100000 in
set_option maxHeartbeats 25600000 in
theorem sorts_all {w:World} {A1 A2 A3:Option Addr} {c1 c2 c3:Nat} {g:Sig} (h:SigAt w A1 c1 A2 c2 A3 c3 g) {A:Option Addr} {c:Nat} {x:Sexp} (hx:XAt w A c x) (hM:sumOf (fun m:Macro=>m.body.full) g.macros≤1048576) (hP:∀ m ∈ g.macros,m.params.length≤1000000) (hf:x.full≤1048576) :
  Calls Tryz.prog 5 #[.agg #[.slice A1 g.sorts.length c1,.slice A2 g.funs.length c2,.slice A3 g.macros.length c3],.agg #[.int .i8 x.kind,.string x.text,.slice A x.l.length c]] w fun e w'=>e=.returned (.bool true)∧Below w.heap.size w w':=by
 have B2:=kp (((Below.refl w.heap.size w).alloc (Nat.le_refl _) (.cells #[.slice A1 g.sorts.length c1,.slice A2 g.funs.length c2,.slice A3 g.macros.length c3] 26)).alloc (by simp) (.cells #[.int .i8 x.kind,.string x.text,.slice A x.l.length c] 30));have G2:=kp (Bk.keep (Bk.new w (.cells #[.slice A1 g.sorts.length c1,.slice A2 g.funs.length c2,.slice A3 g.macros.length c3] 26)) (.cells #[.int .i8 x.kind,.string x.text,.slice A x.l.length c] 30))
 have X2:=kp (show((w.alloc (.cells #[.slice A1 g.sorts.length c1,.slice A2 g.funs.length c2,.slice A3 g.macros.length c3] 26)).alloc (.cells #[.int .i8 x.kind,.string x.text,.slice A x.l.length c] 30)).heap[w.heap.size+1]?=some (.cells #[.int .i8 x.kind,.string x.text,.slice A x.l.length c] 30 (0,0)) by
  have h:=Bk.new (w.alloc (.cells #[.slice A1 g.sorts.length c1,.slice A2 g.funs.length c2,.slice A3 g.macros.length c3] 26)) (.cells #[.int .i8 x.kind,.string x.text,.slice A x.l.length c] 30);simpa using h)
 have SG2:=kp (h.on B2.out);have XA2:=kp (hx.on B2.out);have HWk:=kp wakes_any;have HG3:=kp (fun W (h:XAt W A c x)=>great3_any h (by omega));have HG4:=kp (fun W (h:SigAt W A1 c1 A2 c2 A3 c3 g)=>Gr.great4_any h);have HMf:=kp (sum_mem hM);have HFx:=kp hf;have HPx:=kp hP;have HPl:=kp (sorts_plain g x);clear h hx hM hf hP
 go_enter Tryz.func5,Tryz.ntmps5
 go_upto_region 1 with fail
 generalize (w.alloc (.cells #[.slice A1 g.sorts.length c1,.slice A2 g.funs.length c2,.slice A3 g.macros.length c3] 26)).alloc (.cells #[.int .i8 x.kind,.string x.text,.slice A x.l.length c] 30)=w2 at *;obtain ⟨g0,g1,g2,gf⟩:=Bk.c3 G2.out;obtain ⟨x0,x1,x2,xf⟩:=Bk.c3 X2.out;go_wp2_with fail
 refine(HG3.out _ XA2.out).mono ?_;rintro e w3 ⟨⟨b1,rfl,hb1⟩,hb3⟩;have B3:=kp (B2.out.trans (hb3.mono B2.out.size));have G3:=kp (Bk.on G2.out hb3);have X3:=kp (Bk.on X2.out hb3);have SG3:=kp (SG2.out.on hb3);have XA3:=kp (XA2.out.on hb3);clear hb3 hb1 g0 g1 g2 gf x0 x1 x2 xf B2 G2 X2 SG2 XA2
 cases b1 with
 | true =>
  go_wp2_with fail
  refine(HWk.out _).mono ?_;rintro e w4 ⟨rfl,hb4⟩;have B4:=kp (B3.out.trans (hb4.mono B3.out.size));clear hb4;go_wp2_with fail
  go_ret;exact⟨rfl,B4.out⟩
 | false =>
  obtain ⟨g0,g1,g2,gf⟩:=Bk.c3 G3.out;go_wp2_with fail
  refine(HG4.out _ SG3.out).mono ?_;rintro e w4 ⟨⟨b2,rfl,hb2⟩,hb4⟩;have B4:=kp (B3.out.trans (hb4.mono B3.out.size));have G4:=kp (Bk.on G3.out hb4);have X4:=kp (Bk.on X3.out hb4);have SG4:=kp (SG3.out.on hb4);have XA4:=kp (XA3.out.on hb4);have HSm:=kp hb2;clear hb4 hb2 g0 g1 g2 gf B3 G3 X3 SG3 XA3
  cases b2 with
  | true =>
   go_wp2_with fail
   refine(HWk.out _).mono ?_;rintro e w5 ⟨rfl,hb5⟩;have B5:=kp (B4.out.trans (hb5.mono B4.out.size));clear hb5;go_wp2_with fail
   go_ret;exact⟨rfl,B5.out⟩
  | false =>
   have HSm2:=kp (HSm.out rfl);have HS4:=kp (show g.sorts.length≤1000000∧g.funs.length≤1000000∧g.macros.length≤1000000 from⟨by have:=HSm2.out.1;omega,by have:=HSm2.out.2.1;omega,by have:=HSm2.out.2.2;omega⟩);have HMm:=kp (show ∀ m ∈ g.macros,m.body.full≤3000000 from fun m hm=>Nat.le_trans (HMf.out m hm) (by omega));have HMx:=kp (fun W (h:SigAt W A1 c1 A2 c2 A3 c3 g) At (ht:Lies 8 NodeR W At newT) (hx:XAt W A c x)=>makes_new HS4.out HMm.out (by have:=HFx.out;omega) h At ht hx);have HN:=kp tnew_any
   have HSo:=kp (show Calls Tryz.prog 18 #[.agg #[.slice A1 g.sorts.length c1,.slice A2 g.funs.length c2,.slice A3 g.macros.length c3],.slice none 0 0,.agg #[.int .i8 x.kind,.string x.text,.slice A x.l.length c]] w4 fun e w'=>e=.returned (.tuple #[.int .i64 (sortO g [] x).1,.int .i64 (sortO g [] x).2])∧Below w4.heap.size w4 w' from
    sort_any (vars:=[]) (Av:=none) SG4.out HS4.out.1 HS4.out.2.1 HS4.out.2.2 HMm.out 0 (.inl rfl) (by decide) XA4.out (by have:=HFx.out;omega))
   have HLf:=kp (fun W (h:SigAt W A1 c1 A2 c2 A3 c3 g)=>lfits_any h HS4.out.1 HS4.out.2.1 HS4.out.2.2 HMm.out HPx.out);have HTb:=kp (fun W (h:SigAt W A1 c1 A2 c2 A3 c3 g) B (t:List Node) d (ht:Lies 8 NodeR W B t) (hn:t.length≤1000000)=>rtable6_any h ht (c:=d) hn);generalize fitsB g=fb at *;generalize sortO g [] x=so at *;unfold MakesPost at HMx;generalize termO g newT x 200=ans at *;obtain ⟨g0,g1,g2,gf⟩:=Bk.c3 G4.out;obtain ⟨x0,x1,x2,xf⟩:=Bk.c3 X4.out;go_upto_region 3 with fail
   go_wp2_with fail
   refine HSo.out.mono ?_;rintro e w5 ⟨rfl,hb5⟩;have B5:=kp (B4.out.trans (hb5.mono B4.out.size));have G5:=kp (Bk.on G4.out hb5);have X5:=kp (Bk.on X4.out hb5);have SG5:=kp (SG4.out.on hb5);have XA5:=kp (XA4.out.on hb5);clear hb5 g0 g1 g2 gf x0 x1 x2 xf B4 G4 X4 SG4 XA4 HSo;go_upto_region 4 with fail
   go_cut [7,8,9] from 23 to 30 (fun v7 v8 v9 V=>TermCut w5 ans v7 v8 v9 V)
   case first =>
    have GB:=kp G5.out;have XB:=kp X5.out;have B0:=kp (Below.refl w5.heap.size w5).drew;refine wp_region_held_drew (S:=fun V=>V.heap[w.heap.size]?=some (.cells #[.slice A1 g.sorts.length c1,.slice A2 g.funs.length c2,.slice A3 g.macros.length c3] 26 (0,0))∧V.heap[w.heap.size+1]?=some (.cells #[.int .i8 x.kind,.string x.text,.slice A x.l.length c] 30 (0,0))) (by kernel_rfl) (⟨GB.out,XB.out⟩) (fun hHeld=>?_);refine plz [0,2] ?_;iterate 2 (refine tnz (v:=?_) ?_ ?_;rotate_left;(focus first | ((intro w hSw;(obtain ⟨x0,x1,x2,xf⟩:=Bk.c3 hSw.1;go_simp;try with_reducible rfl));done) | ((intro w hSw;(obtain ⟨x0,x1,x2,xf⟩:=Bk.c3 hSw.2;go_simp;try with_reducible rfl));done));try simp only [pt])
    refine pzz ?_;generalize hwd:World.drew _=wd at *;clear hwd;have hz0:=B0.out.size;refine r2y 1 8 (fun K hK=>?_) fun K hK=>?_
    ·skip;go_simp
     go_wp2_with (go_at_call 14;refine(HN.out _).mono ?_;rintro e w5 ⟨g5,rfl,hle5,ht5,hb5⟩;have B5:=kp (B0.out.trans (hb5.mono B0.out.size));have T5:=kp (new_lies ht5);have H5:=kp hb5;clear hle5 ht5 hb5)
     refine hK.out _ _ ⟨Bk.on GB.out B5.out,Bk.on XB.out B5.out⟩ (fun hHeld=>?_);clear hK K;try simp only [pt]
     refine r2y 3 8 (fun K hK=>?_) fun K hK=>?_
     ·skip;go_simp;have HMx:=kp (HMx.out _ (SG5.out.on B5.out) _ T5.out (XA5.out.on B5.out))
      go_wp2_with (go_at_call 13;refine HMx.out.mono ?_;rintro e w6 ⟨A',c',rfl,hl6,hle6,hlm6,hlen6,hi6,hb6⟩;have B6:=kp (B5.out.trans (hb6.mono B5.out.size));have Q6:=kp (And.intro hl6 (And.intro hle6 (And.intro hlm6 (And.intro hlen6 hi6))));have H6:=kp hb6;clear hl6 hle6 hlm6 hlen6 hi6 hb6)
      refine hK.out _ _ ⟨Bk.on GB.out B6.out,Bk.on XB.out B6.out⟩ (fun hHeld=>?_);clear hK K;try simp only [pt]
      refine plz [4,5,6,7] ?_;iterate 4 (refine tnz (v:=?_) ?_ ?_;rotate_left;(focus (intro w hSw;go_simp;try with_reducible rfl));try simp only [pt])
      refine pzz ?_;have B7:=kp (B6.out.alloc B6.out.size (.cells #[.slice none 0 0] 38));have T7:=kp (Bk.new w6 (.cells #[.slice none 0 0] 38));have Q7:=kp (And.intro (Q6.out.1.on NodeR.lasts ((Below.refl w6.heap.size w6).alloc (Nat.le_refl _) (.cells #[.slice none 0 0] 38))) Q6.out.2);have hz6:=B6.out.size;refine rd 8 fun K hK=>?_;go_simp;refine hK.out _ _ ⟨Bk.on GB.out B7.out,Bk.on XB.out B7.out⟩ (fun hHeld=>?_);clear hK K;try simp only [pt]
      clear B6 Q6 H6;generalize w6.alloc (.cells #[.slice none 0 0] 38)=w7 at *;generalize w6.heap.size=tb at *;have B6:=kp B7.out;have Q6:=kp Q7.out;have hTb:=T7.out;have FR:=kp (far_table Q6.out.1 hTb);obtain ⟨t0,tf⟩:=Bk.c1 hTb;refine rd 9 fun K hK=>?_;go_simp;refine hK.out _ _ (⟨Bk.apart (Bk.on GB.out B6.out) (p:=⟨tb,0,none⟩) (Nat.ne_of_lt (Nat.lt_of_lt_of_le (lt_of_block GB.out) hz6)) _,Bk.apart (Bk.on XB.out B6.out) (p:=⟨tb,0,none⟩) (Nat.ne_of_lt (Nat.lt_of_lt_of_le (lt_of_block XB.out) hz6)) _⟩) (fun hHeld=>?_);clear hK K;try simp only [pt]
      refine plz [10,11] ?_;iterate 2 (refine tnz (v:=?_) ?_ ?_;rotate_left;(focus (intro w hSw;go_simp;try with_reducible rfl));try simp only [pt])
      refine pzz ?_;refine dnz ?_;clear hHeld;go_wp2_with fail
      go_meet;exact⟨tb,_,_,rfl,rfl,rfl,Bk.set_at hTb 0 _,hz6,B6.out.setCell (p:=⟨tb,0,none⟩) hz6 _,lies_other Q6.out.1 FR.out,Q6.out.2.1,Q6.out.2.2.1,Q6.out.2.2.2.1,Q6.out.2.2.2.2⟩
     ·skip;have B7:=kp (B5.out.alloc B5.out.size (.cells #[.slice none 0 0] 38));have T7:=kp (Bk.new w5 (.cells #[.slice none 0 0] 38));have N7:=kp (T5.out.on NodeR.lasts ((Below.refl w5.heap.size w5).alloc (Nat.le_refl _) (.cells #[.slice none 0 0] 38)));have hz6:=B5.out.size;go_simp;refine hK.out _ _ ⟨Bk.on GB.out B7.out,Bk.on XB.out B7.out⟩ (fun hHeld=>?_);clear hK K;try simp only [pt]
      generalize w5.alloc (.cells #[.slice none 0 0] 38)=w7 at *;generalize w5.heap.size=tb at *;refine rd 3 fun K hK=>?_;go_simp;have HMx:=kp (HMx.out _ (SG5.out.on B7.out) _ N7.out (XA5.out.on B7.out))
      go_wp2_with (go_at_call 13;refine HMx.out.mono ?_;rintro e w6 ⟨A',c',rfl,hl6,hle6,hlm6,hlen6,hi6,hb6⟩;have B6:=kp (B7.out.trans (hb6.mono B7.out.size));have Q6:=kp (And.intro hl6 (And.intro hle6 (And.intro hlm6 (And.intro hlen6 hi6))));have H6:=kp hb6;clear hl6 hle6 hlm6 hlen6 hi6 hb6)
      refine hK.out _ _ ⟨Bk.on GB.out B6.out,Bk.on XB.out B6.out⟩ (fun hHeld=>?_);clear hK K;try simp only [pt]
      refine plz [4,5,6,7] ?_;iterate 4 (refine tnz (v:=?_) ?_ ?_;rotate_left;(focus (intro w hSw;go_simp;try with_reducible rfl));try simp only [pt])
      refine pzz ?_;have T8:=kp (Bk.on T7.out H6.out);have hTb:=T8.out;have FR:=kp (far_table Q6.out.1 hTb);obtain ⟨t0,tf⟩:=Bk.c1 hTb;refine rd 9 fun K hK=>?_;go_simp;refine hK.out _ _ (⟨Bk.apart (Bk.on GB.out B6.out) (p:=⟨tb,0,none⟩) (Nat.ne_of_lt (Nat.lt_of_lt_of_le (lt_of_block GB.out) hz6)) _,Bk.apart (Bk.on XB.out B6.out) (p:=⟨tb,0,none⟩) (Nat.ne_of_lt (Nat.lt_of_lt_of_le (lt_of_block XB.out) hz6)) _⟩) (fun hHeld=>?_);clear hK K;try simp only [pt]
      refine plz [10,11] ?_;iterate 2 (refine tnz (v:=?_) ?_ ?_;rotate_left;(focus (intro w hSw;go_simp;try with_reducible rfl));try simp only [pt])
      refine pzz ?_;refine dnz ?_;clear hHeld;go_wp2_with fail
      go_meet;exact⟨tb,_,_,rfl,rfl,rfl,Bk.set_at hTb 0 _,hz6,B6.out.setCell (p:=⟨tb,0,none⟩) hz6 _,lies_other Q6.out.1 FR.out,Q6.out.2.1,Q6.out.2.2.1,Q6.out.2.2.2.1,Q6.out.2.2.2.2⟩
    ·skip;have B7:=kp (B0.out.alloc B0.out.size (.cells #[.slice none 0 0] 38));have T7:=kp (Bk.new wd (.cells #[.slice none 0 0] 38));go_simp;refine hK.out _ _ ⟨Bk.on GB.out B7.out,Bk.on XB.out B7.out⟩ (fun hHeld=>?_);clear hK K;try simp only [pt]
     generalize wd.alloc (.cells #[.slice none 0 0] 38)=w7 at *;generalize wd.heap.size=tb at *;refine rd 1 fun K hK=>?_;go_simp
     go_wp2_with (go_at_call 14;refine(HN.out _).mono ?_;rintro e w5 ⟨g5,rfl,hle5,ht5,hb5⟩;have B5:=kp (B7.out.trans (hb5.mono B7.out.size));have T5:=kp (new_lies ht5);have H5:=kp hb5;clear hle5 ht5 hb5)
     refine hK.out _ _ ⟨Bk.on GB.out B5.out,Bk.on XB.out B5.out⟩ (fun hHeld=>?_);clear hK K;try simp only [pt]
     have T8:=kp (Bk.on T7.out H5.out);refine rd 3 fun K hK=>?_;go_simp;have HMx:=kp (HMx.out _ (SG5.out.on B5.out) _ T5.out (XA5.out.on B5.out))
     go_wp2_with (go_at_call 13;refine HMx.out.mono ?_;rintro e w6 ⟨A',c',rfl,hl6,hle6,hlm6,hlen6,hi6,hb6⟩;have B6:=kp (B5.out.trans (hb6.mono B5.out.size));have Q6:=kp (And.intro hl6 (And.intro hle6 (And.intro hlm6 (And.intro hlen6 hi6))));have H6:=kp hb6;clear hl6 hle6 hlm6 hlen6 hi6 hb6)
     refine hK.out _ _ ⟨Bk.on GB.out B6.out,Bk.on XB.out B6.out⟩ (fun hHeld=>?_);clear hK K;try simp only [pt]
     refine plz [4,5,6,7] ?_;iterate 4 (refine tnz (v:=?_) ?_ ?_;rotate_left;(focus (intro w hSw;go_simp;try with_reducible rfl));try simp only [pt])
     refine pzz ?_;have T9:=kp (Bk.on T8.out H6.out);have hTb:=T9.out;have FR:=kp (far_table Q6.out.1 hTb);obtain ⟨t0,tf⟩:=Bk.c1 hTb;refine rd 9 fun K hK=>?_;go_simp;refine hK.out _ _ (⟨Bk.apart (Bk.on GB.out B6.out) (p:=⟨tb,0,none⟩) (Nat.ne_of_lt (Nat.lt_of_lt_of_le (lt_of_block GB.out) hz0)) _,Bk.apart (Bk.on XB.out B6.out) (p:=⟨tb,0,none⟩) (Nat.ne_of_lt (Nat.lt_of_lt_of_le (lt_of_block XB.out) hz0)) _⟩) (fun hHeld=>?_);clear hK K;try simp only [pt]
     refine plz [10,11] ?_;iterate 2 (refine tnz (v:=?_) ?_ ?_;rotate_left;(focus (intro w hSw;go_simp;try with_reducible rfl));try simp only [pt])
     refine pzz ?_;refine dnz ?_;clear hHeld;go_wp2_with fail
     go_meet;exact⟨tb,_,_,rfl,rfl,rfl,Bk.set_at hTb 0 _,hz0,B6.out.setCell (p:=⟨tb,0,none⟩) hz0 _,lies_other Q6.out.1 FR.out,Q6.out.2.1,Q6.out.2.2.1,Q6.out.2.2.2.1,Q6.out.2.2.2.2⟩
   case rest =>
    obtain ⟨ta,Aa,ca,rfl,rfl,rfl,hTa,hle,hb6,hla,hl1,hl2,hl3,hl4⟩:=hcut;have B6:=kp (B5.out.trans (hb6.mono B5.out.size));have G6:=kp (Bk.on G5.out hb6);have SG6:=kp (SG5.out.on hb6);have TA6:=kp hTa;have LA6:=kp hla;clear hTa hle hb6 hla hl1 hl2 B5 G5 X5 SG5 XA5 HMx HN;generalize hwc:wc=w6 at *;clear hwc;go_upto_region 5 with fail
    by_cases hs0:so.2=0
    ·have hs0':(so.2 != 0)=false:=by simp [hs0]
     have HP2:=kp (HPl.out.2.1 hs0);have HP3:=kp (HPl.out.2.2 hs0);clear hs0 HPl
     by_cases hf0:ans.2.2=0
     ·have hf0':(ans.2.2 != 0)=false:=by simp [hf0]
      obtain ⟨htb,hln,k,n,hk,hn,hsn⟩:=HP3.out hf0;have HT6:=kp (HTb.out _ SG6.out Aa ans.1 ca LA6.out (by omega));rw [htb] at HT6;have hkl:k < ans.1.length:=(List.getElem?_eq_some_iff.1 hn).1;obtain ⟨g0,g1,g2,gf⟩:=Bk.c3 G6.out;obtain ⟨a0,af⟩:=Bk.c1 TA6.out;have HN6:=kp hn;have q1:(0:Int)≤(k:Int):=by omega
      have q2:(k:Int) < (ans.1.length:Int):=by omega
      have q3:(n.sort == so.1)=true:=by rw [hsn];simp
      have q4:(ans.1.length:Int)≤200:=by omega
      obtain ⟨nb,no,hAa,hNA,_⟩:=node_get LA6.out hn;subst hAa;have NA6:=kp hNA;clear htb hn hf0 HP3 HP2 hsn hNA;rw [hk];go_wp2_with fail
      refine HT6.out.mono ?_;rintro e w7 ⟨rfl,hb7⟩;have B7:=kp (B6.out.trans (hb7.mono B6.out.size));have TA7:=kp (Bk.on TA6.out hb7);have NA7:=NA6.out.on hb7;clear hb7 g0 g1 g2 gf a0 af hk;obtain ⟨a0,af⟩:=Bk.c1 TA7.out;obtain ⟨_,n0,n1,n2,n3,n4,n5,n6,n7⟩:=NA7;go_wp2_with fail
      refine(HWk.out _).mono ?_;rintro e w8 ⟨rfl,hb8⟩;have B8:=kp (B7.out.trans (hb8.mono B7.out.size));clear hb8;go_wp2_with fail
      go_ret;exact⟨rfl,B8.out⟩
     ·have hf0':(ans.2.2 != 0)=true:=by simp [hf0]
      have hor:=HP2.out hf0;clear hf0 HP2 HP3
      by_cases h10:ans.2.2=10
      ·have h10':(ans.2.2 == 10)=true:=by simp [h10]
       clear h10 hor;go_wp2_with fail
       refine(HWk.out _).mono ?_;rintro e w7 ⟨rfl,hb7⟩;have B7:=kp (B6.out.trans (hb7.mono B6.out.size));clear hb7;go_wp2_with fail
       go_ret;exact⟨rfl,B7.out⟩
      ·have h10':(ans.2.2 == 10)=false:=by simp [h10]
       by_cases h40:ans.2.2=40
       ·have h40':(ans.2.2 == 40)=true:=by simp [h40]
        clear h10 h40 hor;go_wp2_with fail
        refine(HWk.out _).mono ?_;rintro e w7 ⟨rfl,hb7⟩;have B7:=kp (B6.out.trans (hb7.mono B6.out.size));clear hb7;go_wp2_with fail
        go_ret;exact⟨rfl,B7.out⟩
       ·have h40':(ans.2.2 == 40)=false:=by simp [h40]
        have hfb:fb=false:=(hor.resolve_left h10).resolve_left h40;subst hfb;clear h10 h40 hor;obtain ⟨g0,g1,g2,gf⟩:=Bk.c3 G6.out;go_wp2_with fail
        refine(HLf.out _ SG6.out).mono ?_;rintro e w7 ⟨rfl,hb7⟩;have B7:=kp (B6.out.trans (hb7.mono B6.out.size));clear hb7;go_wp2_with fail
        refine(HWk.out _).mono ?_;rintro e w8 ⟨rfl,hb8⟩;have B8:=kp (B7.out.trans (hb8.mono B7.out.size));clear hb8;go_wp2_with fail
        go_ret;exact⟨rfl,B8.out⟩
    ·have hs0':(so.2 != 0)=true:=by simp [hs0]
     have ha:=HPl.out.1 hs0;have q1:(ans.2.2 == so.2)=true:=by rw [ha];simp
     have q2:((ans.1.length:Int) == 0)=true:=by rw [ha];rfl
     clear ha hs0 HPl;obtain ⟨a0,af⟩:=Bk.c1 TA6.out;go_wp2_with fail
     refine(HWk.out _).mono ?_;rintro e w7 ⟨rfl,hb7⟩;have B7:=kp (B6.out.trans (hb7.mono B6.out.size));clear hb7;go_wp2_with fail
     go_ret;exact⟨rfl,B7.out⟩
end Go.Proofs.YtpmdcckapddchaaGreat.El
/- ElabSorts: for any input the law answers true, and each argument reads as before: the tied card, of bulk at most 1048576. -/
namespace Go.Proofs.YtpmdcckapddchaaGreat.elabSorts
open Go.RowKit Go.ChangeShapes Go.WideShapes Go.ChangeAt Go.WideMaps Go.WideElems
open Go.ChangeMaps (setBlock shut_map_nil open_string shut_string keptBut_setBlock frozen?_setBlock heap_setBlock_same)
theorem cellsInt:Tryz.prog.cellsOf 3=1:=by kernel_rfl
set_option maxRecDepth 100000 in
theorem contract (H:Type) (enc:TypeId × Value→H) (W:World) (base:Nat) (args:Array Value) (ds gs:List (DataW H)) (before:List MemPlace)
  (hval:∀ (j:Nat) t v,Tryz.f5.params[j]?=some t→args[j]?=some v→Value.okWide Tryz.prog W .any base t v)
  (hW:DataW.Whole enc Tryz.prog Tryz.f5.params.toList Rows.elabSortsSpec.vars false W args.toList ds gs before) (hR:(DataW.weightsEach Tryz.prog (Tryz.f5.params.toList ++ Rows.elabSortsSpec.plain.varTypes Tryz.prog) (ds ++ gs)).all (·≤reachBytes)=true) (hk:Rows.uptoSmall H (ds ++ gs)=true) :
  Calls Tryz.prog 5 args W fun e W'=>∃ v,e=.returned v∧Rows.elabSortsSpec.post enc Tryz.prog Tryz.f5 false true false false W args v W':=by
 have hW':=hW;obtain ⟨p,q,hA0,hV,rfl,hfz,hnd⟩:=hW;have hA:DataW.TrodAll enc Tryz.prog W 0 (fun _=>true) true Tryz.f5.params.toList args.toList ds p:=hA0;have hfit:∀ (j:Nat) t d,Tryz.f5.params.toList[j]?=some t→ds[j]?=some d→Fits Tryz.prog t d:=fun j t d h1 h2=>fits_each (fun m hm=>of_decide_eq_true (List.all_eq_true.1 hR m hm)) j t d (by rw [List.getElem?_append_left (List.getElem?_eq_some_iff.1 h1).1];exact h1) (by rw [List.getElem?_append_left (List.getElem?_eq_some_iff.1 h2).1];exact h2);rw [Tryz.params5] at hfit;rw [Tryz.params5] at hA hval;obtain ⟨v0,vs0,d0,ds0,p0,q0,hargs,rfl,rfl,h0,r0⟩:=trodAll_cons hA;obtain ⟨v1,vs1,d1,ds1,p1,q1,rfl,rfl,rfl,h1,r1⟩:=trodAll_cons r0;obtain ⟨rfl,rfl,rfl⟩:=trodAll_nil r1;obtain rfl:args=#[v0,v1]:=by cases args;simp_all
 obtain ⟨g0,A0_0,c0_0,A0_1,c0_1,A0_2,c0_2,rfl,hg0⟩:=Dt.open_sig (hval 0 26 v0 rfl rfl) h0 (hfit 0 26 d0 rfl rfl);obtain ⟨x1,A1,c1,rfl,hx1⟩:=Dt.open_sx (hval 1 30 v1 rfl rfl) h1 (hfit 1 30 d1 rfl rfl);have hbk:=Dt.bulk_le hk;rw [Dt.bulk_cons,Dt.bulk_cons,Dt.bulk_nil] at hbk;have hb0:=Dt.bulk_sig h0 ⟨_,_,_,_,_,_,rfl,hg0⟩;have hb1:=Dt.bulk_sexp h1 hx1;have hb2:=Dt.bulk_sigP h0 ⟨_,_,_,_,_,_,rfl,hg0⟩;refine(El.sorts_all (w:=W) hg0 hx1 (by omega) (fun m hm=>by have:=hb2 m hm;omega) (by omega)).mono fun e W' ⟨he,hb⟩=>⟨_,he,?_⟩;exact law_post laidOut (by kernel_rfl) rfl Tryz.underlying4 rfl rfl hW' hb
noncomputable def laidWorld (os:Os):World:=World.holding Tryz.prog os ⟨#[],#[],[]⟩
theorem laid_met (os:Os):laidMetH Tryz.prog Rows.elabSortsUptoRow.laid ((laidWorld os).forCall (fun _ _=>0) ⟨#[],#[.agg #[.slice none 0 0,.slice none 0 0,.slice none 0 0],.agg #[.int .i8 0,.string ⟨#[]⟩,.slice none 0 0]],[]⟩).memory :=
 laidMetH_of_parts3 (fuel:=8) (laidMet_of_run' 8 (by kernel_rfl) (by kernel_rfl)) (by kernel_rfl) (by kernel_rfl)
theorem reads (os:Os) {H:Type} (enc:TypeId × Value→H):∃ x,DataW.whole enc Tryz.prog ((laidWorld os).forCall (fun _ _=>0) ⟨#[],#[.agg #[.slice none 0 0,.slice none 0 0,.slice none 0 0],.agg #[.int .i8 0,.string ⟨#[]⟩,.slice none 0 0]],[]⟩).memory Tryz.f5.params.toList Rows.elabSortsSpec.vars false #[Value.agg #[.slice none 0 0,.slice none 0 0,.slice none 0 0],.agg #[.int .i8 0,.string ⟨#[]⟩,.slice none 0 0]].toList 8=some ([.agg [.nil,.nil,.nil],.agg [.lit (.int .i8 0),.lit (.string []),.nil]],[],x) :=
 ⟨[],by kernel_rfl⟩
set_option maxRecDepth 100000 in
theorem lifted (os:Os) (started:os.Started) (H:Type) (enc:TypeId × Value→H) (F:Stop.Interp) :
  ReturnsInHanded {} Tryz.checked os 5 .any ((Rows.OpenSpec.upto Rows.elabSortsSpec).preRow enc Tryz.prog Tryz.f5 Rows.elabSortsUptoRow.domain false Rows.elabSortsUptoRow.laid) (((Rows.OpenSpec.upto Rows.elabSortsSpec).at F).post enc Tryz.prog Tryz.f5 false true false false):=by
 obtain ⟨places,hx⟩:=reads os enc
 refine returnsInHanded_of_row (C:=Tryz.checked) (s:=Rows.OpenSpec.upto Rows.elabSortsSpec) own started (by kernel_rfl) Tryz.func5
  (witness_row_at (enc:=enc) (C:=Tryz.checked) false (laidWorld os) #[.agg #[.slice none 0 0,.slice none 0 0,.slice none 0 0],.agg #[.int .i8 0,.string ⟨#[]⟩,.slice none 0 0]] rfl (by kernel_rfl) (by kernel_rfl) (by kernel_rfl)
   (OpenSpec.preRow_of_cond 8 hx (by kernel_rfl) (fun k hk=>by cases hk;kernel_rfl) (by kernel_rfl) (laid_met os))) ?_
 intro W base args ds gs before hval hW _ hcond hR hL _ _;exact contract H enc W base args ds gs before hval hW hR (hcond _ rfl)
theorem said:Rows.ElabSortsUptoSaid :=
 OpenClaim.holds_of_cond 5 Tryz.f5 rfl rfl rfl rfl rfl rfl rfl ⟨rfl,rfl,rfl,rfl,rfl⟩ rfl rfl rfl rfl rfl (by kernel_rfl) Tryz.func5 (by kernel_rfl)
  (of_decide_eq_true (by kernel_rfl)) (by unfold Func.isWrapper;first | (rw [if_pos (by decide +kernel)];kernel_rfl) | (rw [if_neg (by decide +kernel)];exact⟨rfl,rfl⟩))
  (fun os started H enc _ F=>by rw [OpenClaim.pre_eq_preRow];exact lifted os started H enc F)
end Go.Proofs.YtpmdcckapddchaaGreat.elabSorts

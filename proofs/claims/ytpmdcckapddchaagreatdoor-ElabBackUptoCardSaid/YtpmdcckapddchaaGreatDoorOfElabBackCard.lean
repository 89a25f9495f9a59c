import Derived.Test.YtpmdcckapddchaaGreatDoorShort
import Derived.Test.YtpmdcckapddchaaGreatDoorMzm
import Derived.Test.YtpmdcckapddchaaGreatDoorMd
import Derived.Deep.CutRange
import Derived.Test.YtpmdcckapddchaaGreatDoorMzj
import Derived.Test.YtpmdcckapddchaaGreatDoorMl
import Derived.Test.YtpmdcckapddchaaGreatDoorMk
import Derived.Test.YtpmdcckapddchaaGreatDoorMzg
import Derived.Test.YtpmdcckapddchaaGreatDoorMx
import Derived.Test.YtpmdcckapddchaaGreatDoorMza
import Derived.Test.YtpmdcckapddchaaGreatDoorCards
import Derived.Test.YtpmdcckapddchaaGreatDoorTie
import Derived.Test.YtpmdcckapddchaaGreatDoorMb
/- merged by wip/merge.py from: Law7Term Law7TextsL Law7BackL ElabBackCard -/
set_option maxRecDepth 100000
set_option maxHeartbeats 51200000
namespace Go.Proofs.YtpmdcckapddchaaGreatDoor
namespace El
open Go.RowKit Dt Sg
theorem tsame_any {w:World} {A B:Option Addr} {xs ys:List Node} (c d:Nat) (hx:Lies 8 NodeR w A xs) (hy:Lies 8 NodeR w B ys) (hl:(xs.length:Int)<=9223372036854775807) :
  Calls Tryz.prog 16 #[.agg #[.slice A xs.length c],.agg #[.slice B ys.length d]] w fun e w'=>e=.returned (.bool (decide (xs=ys)))/\Below w.heap.size w w':=by
 have B2:=kp (((brq w).alloc nlq (.cells #[.slice A xs.length c] 29)).alloc (by simp) (.cells #[.slice B ys.length d] 29));have HE:=kp (eqNodes_any c d (hx.on NodeR.lasts B2.out) (hy.on NodeR.lasts B2.out) hl)
 go_enter Tryz.func16,Tryz.ntmps16
 go_wp2_with fail
 refine HE.out.mono ?_;rintro e w3 ⟨rfl,hb⟩;have B3:=kp (B2.out.trans (hb.mono B2.out.size));clear hb;go_wp2_with fail
 go_ret;exact⟨rfl,B3.out⟩
def TermCut (W:World) (o:List Node × Int × Int) (v7 v8 v9:Value) (V:World):Prop :=
 ∃ tb A' c',v7=.pointer (some ⟨tb,0,none⟩)/\v8=.int .i64 o.2.1/\v9=.int .i64 o.2.2/\V.heap[tb]?=some (.cells #[.slice A' o.1.length c'] 29 (0,0))/\W.heap.size<=tb/\Below W.heap.size W V/\Lies 8 NodeR V A' o.1/\o.1.length<=c'/\c'<=maxLen/\o.1.length<=1000000/\I64 o.2.1
theorem sum_mem {ms:List Macro} {k:Nat} (h:sumOf (fun m:Macro=>m.body.full) ms<=k):∀ m ∈ ms,m.body.full<=k:=fun _ hm=>Nat.le_trans (sumOf_mem (sz:=fun m:Macro=>m.body.full) hm) h
theorem makes_new {w:World} {A1 A2 A3:Option Addr} {c1 c2 c3:Nat} {g:Sig} (hs:g.sorts.length<=1000000/\g.funs.length<=1000000/\g.macros.length<=1000000) (hM:∀ m ∈ g.macros,m.body.full<=3000000) {x:Sexp} (hf:x.full<=3000000)
  (h:SigAt w A1 c1 A2 c2 A3 c3 g) (At:Option Addr) (ht:Lies 8 NodeR w At newT) {A:Option Addr} {c:Nat} (hx:XAt w A c x) :
  Calls Tryz.prog 11 #[.agg #[.slice A1 g.sorts.length c1,.slice A2 g.funs.length c2,.slice A3 g.macros.length c3],.agg #[.slice At 2 2],.agg #[.int .i8 x.kind,.string x.text,.slice A x.l.length c],.int .i64 200] w (MakesPost w (termO g newT x 200)) :=
 makes_any h hs.1 hs.2.1 hs.2.2 hM ht (by decide) (by decide) (by unfold maxLen;decide) hx hf 200 ⟨by decide,by decide⟩ (by decide) (ct:=2)
theorem sig_names {w:World} {A1 A2 A3:Option Addr} {c1 c2 c3:Nat} {g:Sig} (h:SigAt w A1 c1 A2 c2 A3 c3 g):∀ f ∈ g.funs,(f.name.size:Int)<=140737488351232:=fun f hf=>by
 obtain ⟨i,hi,rfl⟩:=List.getElem_of_mem hf;obtain ⟨_,_,_,_,_,_,_,hr⟩:=h.funs.at' (gqe hi);exact hr.2.1
theorem term_good {g:Sig} {x:Sexp} (h:(termO g newT x 200).2.2=0):tableE g (termO g newT x 200).1=0/\(termO g newT x 200).1.length<=200/\∃ k:Nat,(termO g newT x 200).2.1=(k:Int)/\k < (termO g newT x 200).1.length:=by
 have hp:=sorts_plain g x
 by_cases hs:(sortO g [] x).2=0
 ·obtain ⟨h1,h2,k,n,hk,hn,_⟩:=hp.2.2 hs h;exact⟨h1,h2,k,hk,(gqs hn).1⟩
 ·rw [hp.1 hs] at h;exact absurd h hs
theorem back_plain {g:Sig} {t:List Node} {k:Nat} (h:tableE g t=0) (hk:k < t.length) {ks:List Nat} (hp:k ∈ ks) (hc:∀ k ∈ ks,∀ n,t[k]?=some n->∀ a ∈ argsOf n,a.toNat ∈ ks) (hd:∀ k ∈ ks,∀ n,t[k]?=some n->n.op=12->(nodeAt t n.a1).op≠10) (hx:(exprX g t k).depth<=60):termO g t (exprX g t k) 200=(t,(k:Int),0) :=
 made_again num_x num_s h (P:=fun k=>k ∈ ks) (fun k n hk hn=>⟨hc k hk n hn,hd k hk n hn⟩) hk hp hx 200
theorem back_rd {g:Sig} {t:List Node} {k:Nat} (h:tableE g t=0) (hk:k < t.length):Rd (from_ (bytesN (exprX g t k).textL) 0) (exprX g t k) []:=by
 have h1:=rd_text (exprX g t k) (expr_stands num_s h k hk) [] (by first | exact trivial | exact .inl rfl | decide);rw [List.append_nil] at h1
 have h2:from_ (bytesN (exprX g t k).textL) 0=(exprX g t k).textL:=by
  unfold from_;rw [bs_bytes,List.drop_zero]
 rw [h2];exact h1
theorem back_full {g:Sig} {t:List Node} {k:Nat} (h:tableE g t=0) (hk:k < t.length):(exprX g t k).full<=(exprX g t k).textL.length+1:=full_text _ _ (Nat.lt_succ_self _) (expr_stands num_s h k hk)
theorem back_all {w:World} {A1 A2 A3:Option Addr} {c1 c2 c3:Nat} {g:Sig} (h:SigAt w A1 c1 A2 c2 A3 c3 g) {A:Option Addr} {c:Nat} {x:Sexp} (hx:XAt w A c x) (hM:sumOf (fun m:Macro=>m.body.full) g.macros<=1048576) (hf:x.full<=1048576) (htab:TabOk w) :
  Calls Tryz.prog 4 #[.agg #[.slice A1 g.sorts.length c1,.slice A2 g.funs.length c2,.slice A3 g.macros.length c3],.agg #[.int .i8 x.kind,.string x.text,.slice A x.l.length c]] w fun e w'=>e=.returned (.bool true)/\Below w.heap.size w w':=by
 have B2:=kp (((brq w).alloc nlq (.cells #[.slice A1 g.sorts.length c1,.slice A2 g.funs.length c2,.slice A3 g.macros.length c3] 26)).alloc (by simp) (.cells #[.int .i8 x.kind,.string x.text,.slice A x.l.length c] 40));have G2:=kp (Bk.keep (Bk.new w (.cells #[.slice A1 g.sorts.length c1,.slice A2 g.funs.length c2,.slice A3 g.macros.length c3] 26)) (.cells #[.int .i8 x.kind,.string x.text,.slice A x.l.length c] 40))
 have X2:=kp (show((w.alloc (.cells #[.slice A1 g.sorts.length c1,.slice A2 g.funs.length c2,.slice A3 g.macros.length c3] 26)).alloc (.cells #[.int .i8 x.kind,.string x.text,.slice A x.l.length c] 40)).heap[w.heap.size+1]?=some (.cells #[.int .i8 x.kind,.string x.text,.slice A x.l.length c] 40 (0,0)) by
  have h:=Bk.new (w.alloc (.cells #[.slice A1 g.sorts.length c1,.slice A2 g.funs.length c2,.slice A3 g.macros.length c3] 26)) (.cells #[.int .i8 x.kind,.string x.text,.slice A x.l.length c] 40);simpa using h)
 have SG2:=kp (h.on B2.out);have XA2:=kp (hx.on B2.out);have HWk:=kp wakes_any;have HG3:=kp (fun W (h:XAt W A c x)=>great3_any h (by omega));have HG4:=kp (fun W (h:SigAt W A1 c1 A2 c2 A3 c3 g)=>Gr.great4_any h);have HMf:=kp (sum_mem hM);have HFx:=kp hf;have HTab:=kp htab;have HNm:=kp (sig_names h);clear h hx hM hf htab
 go_enter Tryz.func4,Tryz.ntmps4
 go_upto_region 1 with fail
 generalize (w.alloc (.cells #[.slice A1 g.sorts.length c1,.slice A2 g.funs.length c2,.slice A3 g.macros.length c3] 26)).alloc (.cells #[.int .i8 x.kind,.string x.text,.slice A x.l.length c] 40)=w2 at *;obtain ⟨g0,g1,g2,gf⟩:=Bk.c3 G2.out;obtain ⟨x0,x1,x2,xf⟩:=Bk.c3 X2.out;go_wp2_with fail
 refine(HG3.out _ XA2.out).mono ?_;rintro e w3 ⟨⟨b1,rfl,hb1⟩,hb3⟩;have B3:=kp (B2.out.trans (hb3.mono B2.out.size));have G3:=kp (Bk.on G2.out hb3);have X3:=kp (Bk.on X2.out hb3);have SG3:=kp (SG2.out.on hb3);have XA3:=kp (XA2.out.on hb3);clear hb3 hb1 g0 g1 g2 gf x0 x1 x2 xf B2 G2 X2 SG2 XA2
 cases b1 with
 | true =>
  go_wp2_with fail
  refine(HWk.out _).mono ?_;rintro e w4 ⟨rfl,hb4⟩;have B4:=kp (B3.out.trans (hb4.mono B3.out.size));clear hb4;go_wp2_with fail
  go_ret;exact⟨rfl,B4.out⟩
 | false =>
  obtain ⟨g0,g1,g2,gf⟩:=Bk.c3 G3.out;go_wp2_with fail
  refine(HG4.out _ SG3.out).mono ?_;rintro e w4 ⟨⟨b2,rfl,hb2⟩,hb4⟩;have B4:=kp (B3.out.trans (hb4.mono B3.out.size));have G4:=kp (Bk.on G3.out hb4);have X4:=kp (Bk.on X3.out hb4);have SG4:=kp (SG3.out.on hb4);have XA4:=kp (XA3.out.on hb4);have HSm:=kp hb2;clear hb4 hb2 g0 g1 g2 gf B3 G3 X3 SG3 XA3
  cases b2 with
  | true =>
   go_wp2_with fail
   refine(HWk.out _).mono ?_;rintro e w5 ⟨rfl,hb5⟩;have B5:=kp (B4.out.trans (hb5.mono B4.out.size));clear hb5;go_wp2_with fail
   go_ret;exact⟨rfl,B5.out⟩
  | false =>
   have HSm2:=kp (HSm.out rfl);have HS4:=kp (show g.sorts.length<=1000000/\g.funs.length<=1000000/\g.macros.length<=1000000 from⟨by have:=HSm2.out.1;omega,by have:=HSm2.out.2.1;omega,by have:=HSm2.out.2.2;omega⟩);have HMm:=kp (show ∀ m ∈ g.macros,m.body.full<=3000000 from fun m hm=>Nat.le_trans (HMf.out m hm) (by omega));have HMx:=kp (fun W (h:SigAt W A1 c1 A2 c2 A3 c3 g) At (ht:Lies 8 NodeR W At newT) (hx:XAt W A c x)=>makes_new HS4.out HMm.out (by have:=HFx.out;omega) h At ht hx);have HN:=kp tnew_any;have HGd:=kp (fun h=>term_good (g:=g) (x:=x) h);unfold MakesPost at HMx;generalize termO g newT x 200=ans at *;obtain ⟨g0,g1,g2,gf⟩:=Bk.c3 G4.out;obtain ⟨x0,x1,x2,xf⟩:=Bk.c3 X4.out;go_upto_region 3 with fail
   clear g0 g1 g2 gf x0 x1 x2 xf
   go_cut [5,6,7] from 23 to 30 (fun v5 v6 v7 V=>TermCut w4 ans v5 v6 v7 V)
   case first =>
    have GB:=kp G4.out;have XB:=kp X4.out;have B0:=kp (brq w4).drew;refine wp_region_held_drew (S:=fun V=>V.heap[w.heap.size]?=some (.cells #[.slice A1 g.sorts.length c1,.slice A2 g.funs.length c2,.slice A3 g.macros.length c3] 26 (0,0))/\V.heap[w.heap.size+1]?=some (.cells #[.int .i8 x.kind,.string x.text,.slice A x.l.length c] 40 (0,0))) (by kernel_rfl) (⟨GB.out,XB.out⟩) (fun hHeld=>?_);refine plz [0,2] ?_;iterate 2 (refine tnz (v:=?_) ?_ ?_;rotate_left;(focus first | ((intro w hSw;(obtain ⟨x0,x1,x2,xf⟩:=Bk.c3 hSw.1;go_simp;try with_reducible rfl));done) | ((intro w hSw;(obtain ⟨x0,x1,x2,xf⟩:=Bk.c3 hSw.2;go_simp;try with_reducible rfl));done));try simp only [pt])
    refine pzz ?_;generalize hwd:World.drew _=wd at *;clear hwd;have hz0:=B0.out.size;refine r2y 1 8 (fun K hK=>?_) fun K hK=>?_
    ·skip;go_simp
     go_wp2_with (go_at_call 12;refine(HN.out _).mono ?_;rintro e w5 ⟨g5,rfl,hle5,ht5,hb5⟩;have B5:=kp (B0.out.trans (hb5.mono B0.out.size));have T5:=kp (new_lies ht5);have H5:=kp hb5;clear hle5 ht5 hb5)
     refine hK.out _ _ ⟨Bk.on GB.out B5.out,Bk.on XB.out B5.out⟩ (fun hHeld=>?_);clear hK K;try simp only [pt]
     refine r2y 3 8 (fun K hK=>?_) fun K hK=>?_
     ·skip;go_simp;have HMx:=kp (HMx.out _ (SG4.out.on B5.out) _ T5.out (XA4.out.on B5.out))
      go_wp2_with (go_at_call 11;refine HMx.out.mono ?_;rintro e w6 ⟨A',c',rfl,hl6,hle6,hlm6,hlen6,hi6,hb6⟩;have B6:=kp (B5.out.trans (hb6.mono B5.out.size));have Q6:=kp (And.intro hl6 (And.intro hle6 (And.intro hlm6 (And.intro hlen6 hi6))));have H6:=kp hb6;clear hl6 hle6 hlm6 hlen6 hi6 hb6)
      refine hK.out _ _ ⟨Bk.on GB.out B6.out,Bk.on XB.out B6.out⟩ (fun hHeld=>?_);clear hK K;try simp only [pt]
      refine plz [4,5,6,7] ?_;iterate 4 (refine tnz (v:=?_) ?_ ?_;rotate_left;(focus (intro w hSw;go_simp;try with_reducible rfl));try simp only [pt])
      refine pzz ?_;have B7:=kp (B6.out.alloc B6.out.size (.cells #[.slice none 0 0] 29));have T7:=kp (Bk.new w6 (.cells #[.slice none 0 0] 29));have Q7:=kp (And.intro (Q6.out.1.on NodeR.lasts ((brq w6).alloc nlq (.cells #[.slice none 0 0] 29))) Q6.out.2);have hz6:=B6.out.size;refine rd 8 fun K hK=>?_;go_simp;refine hK.out _ _ ⟨Bk.on GB.out B7.out,Bk.on XB.out B7.out⟩ (fun hHeld=>?_);clear hK K;try simp only [pt]
      clear B6 Q6 H6;generalize w6.alloc (.cells #[.slice none 0 0] 29)=w7 at *;generalize w6.heap.size=tb at *;have B6:=kp B7.out;have Q6:=kp Q7.out;have hTb:=T7.out;have FR:=kp (far_table Q6.out.1 hTb);obtain ⟨t0,tf⟩:=Bk.c1 hTb;refine rd 9 fun K hK=>?_;go_simp;refine hK.out _ _ (⟨Bk.apart (Bk.on GB.out B6.out) (p:=⟨tb,0,none⟩) (Nat.ne_of_lt (Nat.lt_of_lt_of_le (lt_of_block GB.out) hz6)) _,Bk.apart (Bk.on XB.out B6.out) (p:=⟨tb,0,none⟩) (Nat.ne_of_lt (Nat.lt_of_lt_of_le (lt_of_block XB.out) hz6)) _⟩) (fun hHeld=>?_);clear hK K;try simp only [pt]
      refine plz [10,11] ?_;iterate 2 (refine tnz (v:=?_) ?_ ?_;rotate_left;(focus (intro w hSw;go_simp;try with_reducible rfl));try simp only [pt])
      refine pzz ?_;refine dnz ?_;clear hHeld;go_wp2_with fail
      go_meet;exact⟨tb,_,_,rfl,rfl,rfl,Bk.set_at hTb 0 _,hz6,B6.out.setCell (p:=⟨tb,0,none⟩) hz6 _,lies_other Q6.out.1 FR.out,Q6.out.2.1,Q6.out.2.2.1,Q6.out.2.2.2.1,Q6.out.2.2.2.2⟩
     ·skip;have B7:=kp (B5.out.alloc B5.out.size (.cells #[.slice none 0 0] 29));have T7:=kp (Bk.new w5 (.cells #[.slice none 0 0] 29));have N7:=kp (T5.out.on NodeR.lasts ((brq w5).alloc nlq (.cells #[.slice none 0 0] 29)));have hz6:=B5.out.size;go_simp;refine hK.out _ _ ⟨Bk.on GB.out B7.out,Bk.on XB.out B7.out⟩ (fun hHeld=>?_);clear hK K;try simp only [pt]
      generalize w5.alloc (.cells #[.slice none 0 0] 29)=w7 at *;generalize w5.heap.size=tb at *;refine rd 3 fun K hK=>?_;go_simp;have HMx:=kp (HMx.out _ (SG4.out.on B7.out) _ N7.out (XA4.out.on B7.out))
      go_wp2_with (go_at_call 11;refine HMx.out.mono ?_;rintro e w6 ⟨A',c',rfl,hl6,hle6,hlm6,hlen6,hi6,hb6⟩;have B6:=kp (B7.out.trans (hb6.mono B7.out.size));have Q6:=kp (And.intro hl6 (And.intro hle6 (And.intro hlm6 (And.intro hlen6 hi6))));have H6:=kp hb6;clear hl6 hle6 hlm6 hlen6 hi6 hb6)
      refine hK.out _ _ ⟨Bk.on GB.out B6.out,Bk.on XB.out B6.out⟩ (fun hHeld=>?_);clear hK K;try simp only [pt]
      refine plz [4,5,6,7] ?_;iterate 4 (refine tnz (v:=?_) ?_ ?_;rotate_left;(focus (intro w hSw;go_simp;try with_reducible rfl));try simp only [pt])
      refine pzz ?_;have T8:=kp (Bk.on T7.out H6.out);have hTb:=T8.out;have FR:=kp (far_table Q6.out.1 hTb);obtain ⟨t0,tf⟩:=Bk.c1 hTb;refine rd 9 fun K hK=>?_;go_simp;refine hK.out _ _ (⟨Bk.apart (Bk.on GB.out B6.out) (p:=⟨tb,0,none⟩) (Nat.ne_of_lt (Nat.lt_of_lt_of_le (lt_of_block GB.out) hz6)) _,Bk.apart (Bk.on XB.out B6.out) (p:=⟨tb,0,none⟩) (Nat.ne_of_lt (Nat.lt_of_lt_of_le (lt_of_block XB.out) hz6)) _⟩) (fun hHeld=>?_);clear hK K;try simp only [pt]
      refine plz [10,11] ?_;iterate 2 (refine tnz (v:=?_) ?_ ?_;rotate_left;(focus (intro w hSw;go_simp;try with_reducible rfl));try simp only [pt])
      refine pzz ?_;refine dnz ?_;clear hHeld;go_wp2_with fail
      go_meet;exact⟨tb,_,_,rfl,rfl,rfl,Bk.set_at hTb 0 _,hz6,B6.out.setCell (p:=⟨tb,0,none⟩) hz6 _,lies_other Q6.out.1 FR.out,Q6.out.2.1,Q6.out.2.2.1,Q6.out.2.2.2.1,Q6.out.2.2.2.2⟩
    ·skip;have B7:=kp (B0.out.alloc B0.out.size (.cells #[.slice none 0 0] 29));have T7:=kp (Bk.new wd (.cells #[.slice none 0 0] 29));go_simp;refine hK.out _ _ ⟨Bk.on GB.out B7.out,Bk.on XB.out B7.out⟩ (fun hHeld=>?_);clear hK K;try simp only [pt]
     generalize wd.alloc (.cells #[.slice none 0 0] 29)=w7 at *;generalize wd.heap.size=tb at *;refine rd 1 fun K hK=>?_;go_simp
     go_wp2_with (go_at_call 12;refine(HN.out _).mono ?_;rintro e w5 ⟨g5,rfl,hle5,ht5,hb5⟩;have B5:=kp (B7.out.trans (hb5.mono B7.out.size));have T5:=kp (new_lies ht5);have H5:=kp hb5;clear hle5 ht5 hb5)
     refine hK.out _ _ ⟨Bk.on GB.out B5.out,Bk.on XB.out B5.out⟩ (fun hHeld=>?_);clear hK K;try simp only [pt]
     have T8:=kp (Bk.on T7.out H5.out);refine rd 3 fun K hK=>?_;go_simp;have HMx:=kp (HMx.out _ (SG4.out.on B5.out) _ T5.out (XA4.out.on B5.out))
     go_wp2_with (go_at_call 11;refine HMx.out.mono ?_;rintro e w6 ⟨A',c',rfl,hl6,hle6,hlm6,hlen6,hi6,hb6⟩;have B6:=kp (B5.out.trans (hb6.mono B5.out.size));have Q6:=kp (And.intro hl6 (And.intro hle6 (And.intro hlm6 (And.intro hlen6 hi6))));have H6:=kp hb6;clear hl6 hle6 hlm6 hlen6 hi6 hb6)
     refine hK.out _ _ ⟨Bk.on GB.out B6.out,Bk.on XB.out B6.out⟩ (fun hHeld=>?_);clear hK K;try simp only [pt]
     refine plz [4,5,6,7] ?_;iterate 4 (refine tnz (v:=?_) ?_ ?_;rotate_left;(focus (intro w hSw;go_simp;try with_reducible rfl));try simp only [pt])
     refine pzz ?_;have T9:=kp (Bk.on T8.out H6.out);have hTb:=T9.out;have FR:=kp (far_table Q6.out.1 hTb);obtain ⟨t0,tf⟩:=Bk.c1 hTb;refine rd 9 fun K hK=>?_;go_simp;refine hK.out _ _ (⟨Bk.apart (Bk.on GB.out B6.out) (p:=⟨tb,0,none⟩) (Nat.ne_of_lt (Nat.lt_of_lt_of_le (lt_of_block GB.out) hz0)) _,Bk.apart (Bk.on XB.out B6.out) (p:=⟨tb,0,none⟩) (Nat.ne_of_lt (Nat.lt_of_lt_of_le (lt_of_block XB.out) hz0)) _⟩) (fun hHeld=>?_);clear hK K;try simp only [pt]
     refine plz [10,11] ?_;iterate 2 (refine tnz (v:=?_) ?_ ?_;rotate_left;(focus (intro w hSw;go_simp;try with_reducible rfl));try simp only [pt])
     refine pzz ?_;refine dnz ?_;clear hHeld;go_wp2_with fail
     go_meet;exact⟨tb,_,_,rfl,rfl,rfl,Bk.set_at hTb 0 _,hz0,B6.out.setCell (p:=⟨tb,0,none⟩) hz0 _,lies_other Q6.out.1 FR.out,Q6.out.2.1,Q6.out.2.2.1,Q6.out.2.2.2.1,Q6.out.2.2.2.2⟩
   case rest =>
    obtain ⟨ta,Aa,ca,rfl,rfl,rfl,hTa,hle,hb6,hla,hl1,hl2,hl3,hl4⟩:=hcut;have B6:=kp (B4.out.trans (hb6.mono B4.out.size));have G6:=kp (Bk.on G4.out hb6);have SG6:=kp (SG4.out.on hb6);have TA6:=kp hTa;have LA6:=kp hla;have HL:=kp (And.intro hl1 (And.intro hl2 hl3));clear hTa hle hb6 hla hl1 hl2 hl3 B4 G4 X4 SG4 XA4 HMx HN;generalize hwc:wc=w6 at *;clear hwc;go_upto_region 4 with fail
    by_cases hf0:ans.2.2=0
    ·have hf0':(ans.2.2 != 0)=false:=by simp [hf0]
     obtain ⟨htb,hln,k,hk,hkl⟩:=HGd.out hf0;obtain ⟨t,id,e0⟩:=ans;simp only at htb hln hk hkl hf0 hf0' TA6 LA6 HL;subst hk;subst hf0;clear HGd hl4 hf0';have HTb:=kp htb;have HLn:=kp hln;have HKl:=kp hkl;have HAh:=kp (ahead_of htb);have HRc:=kp (fun W (hW:Below w6.heap.size w6 W) zb (hz:Cells W (some ⟨zb,0,none⟩) ([(k:Int)].map (Value.int .i64)))=>reach_any (c:=ca) (cz:=1) (zs:=[(k:Int)]) (LA6.out.on NodeR.lasts hW) (by omega) (ahead_of htb) hz (by simp));obtain ⟨g0,g1,g2,gf⟩:=Bk.c3 G6.out;obtain ⟨t0,tf⟩:=Bk.c1 TA6.out;have BZ:=kp ((brq w6).alloc nlq (.cells #[.int .i64 (k:Int)] 3));have HRz:=kp (HRc.out _ BZ.out w6.heap.size (int_cells (Bk.new w6 (.cells #[.int .i64 (k:Int)] 3))));clear htb hln HRc;go_wp2_with fail
     refine HRz.out.mono ?_;rintro e w7 ⟨L,cl,ks,rfl,hrow,hks1,hks2,hks3,hks4,hb7⟩;have hb67:=BZ.out.trans (hb7.mono BZ.out.size);have B7:=kp (B6.out.trans (hb67.mono B6.out.size));have G7:=kp (Bk.on G6.out hb67);have SG7:=kp (SG6.out.on hb67);have TA7:=kp (Bk.on TA6.out hb67);have LA7:=kp (LA6.out.on NodeR.lasts hb67);have HK0:=kp (show k ∈ ks from hks3 (k:Int) (by simp) (by omega) (by omega));have HKs1:=kp hks1;have HKs2:=kp hks2;have hkp:=List.length_pos_of_mem HK0.out;have hkm:(ks.length:Int)<=200:=by have:=HLn.out;omega
     obtain ⟨gr,rfl,_,hgr,hrc⟩:=hrow.at' (by rw [List.length_map];exact hkp);have HRc:=kp (fun(m q:Nat) (h:ks[m]?=some q) W (hW:Below w7.heap.size w7 W)=>show W.cell? ⟨gr,m,none⟩=some (.int .i64 (q:Int)) from((bcell hW).1 gr m hgr).trans (hrc m (q:Int) (by rw [List.getElem?_map,h];rfl)));clear g0 g1 g2 gf t0 tf BZ HRz hb67 hb7 hrow hks1 hks2 hks3 hrc hgr G6 SG6 TA6 LA6 B6 hks4;obtain ⟨t0,tf⟩:=Bk.c1 TA7.out;go_wp2_with fail
     go_loopw [39] (fun i wr=>∃ m:Nat,m<=ks.length/\i=.int .i64 m/\Below w7.heap.size w7 wr/\∀ (p q:Nat) n,p < m->ks[p]?=some q->t[q]?=some n->n.op=12->(nodeAt t n.a1).op≠10) (fun i _=>ks.length - (intOf i).toNat)
     case atStart=>exact⟨0,Nat.zero_le _,rfl,Below.refl _ _,fun p q n h=>by omega⟩
     case round =>
      obtain ⟨m,hm,rfl,hb8,hno⟩:=hrel;have B8:=kp (B7.out.trans (hb8.mono B7.out.size));have H8:=kp hb8;have G8:=kp (Bk.on G7.out hb8);have SG8:=kp (SG7.out.on hb8);have TA8:=kp (Bk.on TA7.out hb8);have LA8:=kp (LA7.out.on NodeR.lasts hb8);have HNo:=kp hno;clear hno hb8 t0 tf;obtain ⟨t0,tf⟩:=Bk.c1 TA8.out
      by_cases hml:m < ks.length
      ·have hml2:(m:Int) < (ks.length:Int):=by omega
       obtain ⟨q,hq⟩:∃ q,ks[m]?=some q:=⟨_,gqe hml⟩;have hql:=HKs1.out q (mgq hq);obtain ⟨n,hn⟩:∃ n,t[q]?=some n:=⟨_,gqe hql⟩;have hcell:=HRc.out m q hq wr H8.out;have HNth:=kp (nth_any (ct:=ca) LA8.out hn);have HQ:=kp hq;have HNn:=kp hn;have hnode:=table_node HTb.out hn;clear hq hn;go_wp2_with fail
       refine HNth.out.mono ?_;rintro e w9 ⟨rfl,hb9⟩;have H9:=kp (H8.out.trans (hb9.mono H8.out.size));have TA9:=kp (Bk.on TA8.out hb9);have LA9:=kp (LA8.out.on NodeR.lasts hb9);clear hb9 t0 tf hcell HNth;have HBx:=kp ((brq w9).alloc nlq (.cells #[.int .i8 n.op,.int .i8 n.len,.int .i64 n.a0,.int .i64 n.a1,.int .i64 n.a2,.int .i64 n.sort,.int .i64 n.fn,.int .i64 n.n] 49));have HNx:=kp (Bk.new w9 (.cells #[.int .i8 n.op,.int .i8 n.len,.int .i64 n.a0,.int .i64 n.a1,.int .i64 n.a2,.int .i64 n.sort,.int .i64 n.fn,.int .i64 n.n] 49));go_upto_region 10 with fail
       generalize w9.alloc (.cells #[.int .i8 n.op,.int .i8 n.len,.int .i64 n.a0,.int .i64 n.a1,.int .i64 n.a2,.int .i64 n.sort,.int .i64 n.fn,.int .i64 n.n] 49)=wx at *;obtain ⟨y0,y1,y2,y3,y4,y5,y6,y7,yf⟩:=Bk.c8 HNx.out;have Hx:=kp (H9.out.trans (HBx.out.mono H9.out.size));have Bx:=kp (B7.out.trans (Hx.out.mono B7.out.size));have TAx:=kp (Bk.on TA9.out HBx.out);have LAx:=kp (LA9.out.on NodeR.lasts HBx.out);obtain ⟨t0,tf⟩:=Bk.c1 TAx.out
       by_cases h12:n.op=12
       ·have h12':(n.op == 12)=true:=by simp [h12]
        have hlen:n.len=2:=by
         rcases op_cases hnode.1 with h | ⟨h,h2⟩ | ⟨h,h2⟩ | ⟨h,h2⟩ | ⟨h,h2⟩ | ⟨h,h2⟩ | ⟨h,h2⟩;all_goals first | omega | exact h2
        have ha1:=HAh.out q n HNn.out n.a1 (by rw [args2 hlen];simp);obtain ⟨a,ha⟩:∃ a:Nat,n.a1=(a:Int):=⟨n.a1.toNat,by omega⟩;have HA1:=kp ha;rw [ha] at y3 ha1;have hal:a < t.length:=by omega
        obtain ⟨n2,hn2⟩:∃ n2,t[a]?=some n2:=⟨_,gqe hal⟩;have HNt2:=kp (nth_any (ct:=ca) LAx.out hn2);have HAt:=kp (show nodeAt t n.a1=n2 by rw [HA1.out];exact nodeAt_get hn2);have hfd:∀ W,(Instr.field 49 (.agg #[.int .i8 n2.op,.int .i8 n2.len,.int .i64 n2.a0,.int .i64 n2.a1,.int .i64 n2.a2,.int .i64 n2.sort,.int .i64 n2.fn,.int .i64 n2.n]) 0).run Tryz.prog W=.ok (.int .i8 n2.op) W:=fun W=>by kernel_rfl
        clear hlen ha1 ha hn2 hal;go_wp2_with fail
        refine HNt2.out.mono ?_;rintro e wy ⟨rfl,hby⟩;have Hy:=kp (Hx.out.trans (hby.mono Hx.out.size));have By:=kp (Bx.out.trans (hby.mono Bx.out.size));clear hby y0 y1 y2 y3 y4 y5 y6 y7 yf t0 tf HNt2
        by_cases h10:n2.op=10
        ·have h10':(n2.op == 10)=true:=by simp [h10]
         clear h10 h12;go_wp2_with fail
         refine(HWk.out _).mono ?_;rintro e wz ⟨rfl,hbz⟩;have Bz:=kp (By.out.trans (hbz.mono By.out.size));clear hbz;go_wp2_with fail
         go_ret;exact⟨rfl,Bz.out⟩
        ·have h10':(n2.op == 10)=false:=by simp [h10]
         have HNo2:=kp (show ∀ (p q:Nat) n,p < m+1->ks[p]?=some q->t[q]?=some n->n.op=12->(nodeAt t n.a1).op≠10 from fun p q' n' hp hpq hqn h=>by
          by_cases e:p=m
          ·subst e;rw [HQ.out] at hpq
           cases hpq
           rw [HNn.out] at hqn
           cases hqn
           rw [HAt.out];exact h10
          ·exact HNo.out p q' n' (by omega) hpq hqn h)
         clear h10 h12;go_wp2_with fail
         go_roundw
         case rel=>exact⟨m+1,by omega,by go_num,Hy.out,HNo2.out⟩
         case measure=>first | (simp [intOf];done) | (simp [intOf];omega)
       ·have h12':(n.op == 12)=false:=by simp [h12]
        have HNo2:=kp (show ∀ (p q:Nat) n,p < m+1->ks[p]?=some q->t[q]?=some n->n.op=12->(nodeAt t n.a1).op≠10 from fun p q' n' hp hpq hqn h=>by
         by_cases e:p=m
         ·subst e;rw [HQ.out] at hpq
          cases hpq
          rw [HNn.out] at hqn
          cases hqn
          exact absurd h h12
         ·exact HNo.out p q' n' (by omega) hpq hqn h)
        clear h12;go_wp2_with fail
        go_roundw
        case rel=>exact⟨m+1,by omega,by go_num,Hx.out,HNo2.out⟩
        case measure=>first | (simp [intOf];done) | (simp [intOf];omega)
      ·obtain rfl:m=ks.length:=by omega
       have HAs:=kp (fun q (hq:q ∈ ks) n (hn:t[q]?=some n) (h:n.op=12)=>(show(nodeAt t n.a1).op≠10 from by
        obtain ⟨p,hp,rfl⟩:=List.getElem_of_mem hq;exact HNo.out p _ n hp (gqe hp) hn h))
       have HPl:=kp (fun hx=>back_plain HTb.out HKl.out HK0.out HKs2.out HAs.out hx);have HRd:=kp (back_rd HTb.out HKl.out);have HFl:=kp (back_full HTb.out HKl.out);have HTx:=kp (etext_any tree_any SG8.out HS4.out.1 HS4.out.2.1 HS4.out.2.2 LA8.out HL.out.2.2 HL.out.1 HL.out.2.1 (fun u hu=>HTab.out.on (B8.out.trans (hu.mono B8.out.size))) HNm.out (k:Int));have HOk:=kp (textO_ok (g:=g) HKl.out);rw [HTb.out] at HTx;clear HNo HAs HK0 HKs1 HKs2 HRc;obtain ⟨g0,g1,g2,gf⟩:=Bk.c3 G8.out;generalize textO g 0 t (k:Int)=o at *;unfold TextPost at HTx;go_wp2_with fail
       refine HTx.out.mono ?_;rintro e w9 ⟨rfl,hb9⟩;have B9:=kp (B8.out.trans (hb9.mono B8.out.size));have G9:=kp (Bk.on G8.out hb9);have SG9:=kp (SG8.out.on hb9);have TA9:=kp (Bk.on TA8.out hb9);have LA9:=kp (LA8.out.on NodeR.lasts hb9);clear hb9 g0 g1 g2 gf t0 tf HTx G8 SG8 TA8 LA8 B8 H8
       have ho:o.2=41\/(o=(bytesN (exprX g t k).textL,0)/\(exprX g t k).textL.length<=8192):=by
        rw [HOk.out]
        split
        ·exact .inl rfl
        ·split
         ·exact .inl rfl
         ·exact .inr ⟨rfl,by omega⟩
       obtain ⟨os,oe⟩:=o;clear HOk;rcases ho with ho | ⟨ho,hlen⟩
       ·simp only at ho;subst ho;go_wp2_with fail
        refine(HWk.out _).mono ?_;rintro e wa ⟨rfl,hba⟩;have Ba:=kp (B9.out.trans (hba.mono B9.out.size));clear hba;go_wp2_with fail
        go_ret;exact⟨rfl,Ba.out⟩
       ·simp only [Prod.mk.injEq] at ho;obtain ⟨rfl,rfl⟩:=ho;have hsz:(bytesN (exprX g t k).textL).size<=100000:=by rw [bytesN_size];omega
        have hfl:=HFl.out;have hfy:(exprX g t k).full<=3000000:=by omega
        have HDp:=kp (fun hd W=>sread_deep _ 0 W _ _ (Nat.zero_le _) hsz hd HRd.out);have HRk:=kp (fun hd W=>sread_any _ 0 W _ _ (Nat.zero_le _) hsz hd HRd.out);have HMk:=kp (fun W (h:SigAt W A1 c1 A2 c2 A3 c3 g) (ht:Lies 8 NodeR W Aa t) Ay cy (hy:XAt W Ay cy (exprX g t k))=>makes_any h HS4.out.1 HS4.out.2.1 HS4.out.2.2 HMm.out ht HL.out.2.2 HL.out.1 HL.out.2.1 (A:=Ay) (c:=cy) hy hfy 200 ⟨by decide,by decide⟩ (by decide));clear hsz hfl hlen HRd HFl hfy;generalize at_ (bytesN (exprX g t k).textL) []=er at *;generalize bytesN (exprX g t k).textL=s at *;unfold ReadPost at HRk;unfold MakesPost at HMk;generalize exprX g t k=y at *
        by_cases hdp:y.depth<=60
        ·have HP:=HPl.out hdp;rw [HP] at HMk;have HR1:=kp (HRk.out hdp);clear HP HPl HDp HRk hdp;go_wp2_with fail
         refine(HR1.out _).mono ?_;rintro e wa ⟨Ay,cy,rfl,hin,hba⟩;have Ba:=kp ((B9.out.trans (hba.mono B9.out.size)).alloc (Nat.le_trans B9.out.size hba.size) (.cells #[.int .i8 y.kind,.string y.text,.slice Ay y.l.length cy] 40));have Ya:=kp (Bk.new wa (.cells #[.int .i8 y.kind,.string y.text,.slice Ay y.l.length cy] 40));have HXa:=kp (show XAt (wa.alloc (.cells #[.int .i8 y.kind,.string y.text,.slice Ay y.l.length cy] 40)) Ay cy y from XAt.on hin.now ((brq wa).alloc nlq _));have hb9a:=hba.alloc hba.size (.cells #[.int .i8 y.kind,.string y.text,.slice Ay y.l.length cy] 40);have Ga:=kp (Bk.on G9.out hb9a);have SGa:=kp (SG9.out.on hb9a);have TAa:=kp (Bk.on TA9.out hb9a);have LAa:=kp (LA9.out.on NodeR.lasts hb9a);clear hin hba hb9a HR1;go_upto_region 19 with fail
         generalize wa.alloc (.cells #[.int .i8 y.kind,.string y.text,.slice Ay y.l.length cy] 40)=wb at *;obtain ⟨g0,g1,g2,gf⟩:=Bk.c3 Ga.out;obtain ⟨t0,tf⟩:=Bk.c1 TAa.out;obtain ⟨y0,y1,y2,yf⟩:=Bk.c3 Ya.out;have HMb:=kp (HMk.out _ SGa.out LAa.out _ _ HXa.out);clear HMk;go_wp2_with fail
         refine HMb.out.mono ?_;rintro e wc2 ⟨A',c',rfl,hl6,_,_,_,_,hb6⟩;have hbc:=hb6.alloc hb6.size (.cells #[.slice A' t.length c'] 29);have Bc:=kp (Ba.out.trans (hbc.mono Ba.out.size));have TAc:=kp (Bk.on TAa.out hbc);have LAc:=kp (LAa.out.on NodeR.lasts hbc);have TN:=kp (Bk.new wc2 (.cells #[.slice A' t.length c'] 29));have LN:=kp (hl6.on NodeR.lasts ((brq wc2).alloc nlq (.cells #[.slice A' t.length c'] 29)));have hkk:((k:Int) == (k:Int))=true:=by simp
         clear hb6 hl6 hbc g0 g1 g2 gf t0 tf y0 y1 y2 yf HMb;go_upto_region 20 with fail
         generalize wc2.alloc (.cells #[.slice A' t.length c'] 29)=wd at *;obtain ⟨t0,tf⟩:=Bk.c1 TAc.out;obtain ⟨n0,nf⟩:=Bk.c1 TN.out;have htl:(t.length:Int)<=9223372036854775807:=by have:=HLn.out;omega
         go_wp2_with fail
         refine(tsame_any ca c' LAc.out LN.out htl).mono ?_;rintro e we ⟨rfl,hbe⟩;have Be:=kp (Bc.out.trans (hbe.mono Bc.out.size));have htt:decide (t=t)=true:=decide_eq_true rfl;clear hbe t0 tf n0 nf;go_wp2_with fail
         refine(HWk.out _).mono ?_;rintro e wf ⟨rfl,hbf⟩;have Bf:=kp (Be.out.trans (hbf.mono Be.out.size));clear hbf;go_wp2_with fail
         go_ret;exact⟨rfl,Bf.out⟩
        ·have HD1:=kp (HDp.out (by omega));clear HDp HRk HPl HMk hdp;go_wp2_with fail
         refine(HD1.out _).mono ?_;rintro e wa ⟨⟨E,rfl⟩,hba⟩;have Ba:=kp ((B9.out.trans (hba.mono B9.out.size)).alloc (Nat.le_trans B9.out.size hba.size) (.cells #[.int .i8 0,.string { data:=#[] },.slice none 0 0] 40));clear hba HD1;go_wp2_with fail
         refine(HWk.out _).mono ?_;rintro e wf ⟨rfl,hbf⟩;have Bf:=kp (Ba.out.trans (hbf.mono Ba.out.size));clear hbf;go_wp2_with fail
         go_ret;exact⟨rfl,Bf.out⟩
    ·have hf0':(ans.2.2 != 0)=true:=by simp [hf0]
     clear hf0;go_wp2_with fail
     refine(HWk.out _).mono ?_;rintro e w7 ⟨rfl,hb7⟩;have B7:=kp (B6.out.trans (hb7.mono B6.out.size));clear hb7;go_wp2_with fail
     go_ret;exact⟨rfl,B7.out⟩
end El
namespace elabBack
open Go.RowKit Go.ChangeShapes Go.WideShapes Go.ChangeAt Go.WideMaps Go.WideElems
open Go.ChangeMaps (setBlock shut_map_nil open_string shut_string keptBut_setBlock frozen?_setBlock heap_setBlock_same)
theorem gTabType:(Tryz.prog.globals[1]?).map (·.type)=some 236:=by kernel_rfl
theorem cellsTab:Tryz.prog.cellsOf 236=20:=by kernel_rfl
theorem cellsU64:Tryz.prog.cellsOf 210=1:=by kernel_rfl
theorem tabOk {W:World} (h:laidMetH Tryz.prog Rows.elabBackUptoRow.laid W):TabOk W:=by
 have h2 := h.filter (fun x => x.1 == "internal/strconv.uint64pow10"); rw [MakeChecks.laidMetH_plain _ _ _ (by kernel_rfl)] at h2; exact Lib.tabIs_of_head (rest := []) gTab gTabType Tryz.underlying236 Tryz.underlying210 cellsU64 cellsTab h2
theorem cellsInt:Tryz.prog.cellsOf 3=1:=by kernel_rfl
theorem contract (H:Type) (enc:TypeId × Value->H) (W:World) (base:Nat) (args:Array Value) (ds gs:List (DataW H)) (before:List MemPlace)
  (hval:∀ (j:Nat) t v,Tryz.f4.params[j]?=some t->args[j]?=some v->Value.okWide Tryz.prog W .any base t v)
  (hW:DataW.Whole enc Tryz.prog Tryz.f4.params.toList Rows.elabBackSpec.vars false W args.toList ds gs before) (hR:(DataW.weightsEach Tryz.prog (Tryz.f4.params.toList ++ Rows.elabBackSpec.plain.varTypes Tryz.prog) (ds ++ gs)).all (·<=reachBytes)=true) (hL:laidMetH Tryz.prog Rows.elabBackUptoRow.laid W) (hk:Rows.uptoSmall H (ds ++ gs)=true) :
  Calls Tryz.prog 4 args W fun e W'=>∃ v,e=.returned v/\Rows.elabBackSpec.post enc Tryz.prog Tryz.f4 false true false false W args v W':=by
 have hW':=hW;obtain ⟨p,q,hA0,hV,rfl,hfz,hnd⟩:=hW;have hA:DataW.TrodAll enc Tryz.prog W 0 (fun _=>true) true Tryz.f4.params.toList args.toList ds p:=hA0;have hfit:∀ (j:Nat) t d,Tryz.f4.params.toList[j]?=some t->ds[j]?=some d->Fits Tryz.prog t d:=fun j t d h1 h2=>fits_each (fun m hm=>of_decide_eq_true (List.all_eq_true.1 hR m hm)) j t d (by rw [List.getElem?_append_left (gqs h1).1];exact h1) (by rw [List.getElem?_append_left (gqs h2).1];exact h2);rw [Tryz.params4] at hfit;rw [Tryz.params4] at hA hval;obtain ⟨v0,vs0,d0,ds0,p0,q0,hargs,rfl,rfl,h0,r0⟩:=trodAll_cons hA;obtain ⟨v1,vs1,d1,ds1,p1,q1,rfl,rfl,rfl,h1,r1⟩:=trodAll_cons r0;obtain ⟨rfl,rfl,rfl⟩:=trodAll_nil r1;obtain rfl:args=#[v0,v1]:=by cases args;simp_all
 obtain ⟨g0,A0_0,c0_0,A0_1,c0_1,A0_2,c0_2,rfl,hg0⟩:=Dt.open_sig (hval 0 26 v0 rfl rfl) h0 (hfit 0 26 d0 rfl rfl);obtain ⟨x1,A1,c1,rfl,hx1⟩:=Dt.open_sx (hval 1 40 v1 rfl rfl) h1 (hfit 1 40 d1 rfl rfl);have hbk:=Dt.bulk_le hk;rw [Dt.bulk_cons,Dt.bulk_cons,Dt.bulk_nil] at hbk;have hb0:=Dt.bulk_sig h0 ⟨_,_,_,_,_,_,rfl,hg0⟩;have hb1:=Dt.bulk_sexp h1 hx1;refine(El.back_all (w:=W) hg0 hx1 (by omega) (by omega) (tabOk hL)).mono fun e W' ⟨he,hb⟩=>⟨_,he,?_⟩;exact law_post laidOut (by kernel_rfl) rfl Tryz.underlying4 rfl rfl hW' hb
noncomputable def laidWorld (os:Os):World:=World.doorLaid Tryz.prog 24 os
theorem laid_met (os:Os):laidMetH Tryz.prog Rows.elabBackUptoRow.laid ((laidWorld os).forCall (fun _ _=>0) ⟨#[],#[.agg #[.slice none 0 0,.slice none 0 0,.slice none 0 0],.agg #[.int .i8 0,.string ⟨#[]⟩,.slice none 0 0]],[]⟩).memory :=
 laidMetH_of_parts3 (fuel:=8) (laidMet_of_run' 8 (by kernel_rfl) (by kernel_rfl)) (by kernel_rfl) (by kernel_rfl)
theorem reads (os:Os) {H:Type} (enc:TypeId × Value->H):∃ x,DataW.whole enc Tryz.prog ((laidWorld os).forCall (fun _ _=>0) ⟨#[],#[.agg #[.slice none 0 0,.slice none 0 0,.slice none 0 0],.agg #[.int .i8 0,.string ⟨#[]⟩,.slice none 0 0]],[]⟩).memory Tryz.f4.params.toList Rows.elabBackSpec.vars false #[Value.agg #[.slice none 0 0,.slice none 0 0,.slice none 0 0],.agg #[.int .i8 0,.string ⟨#[]⟩,.slice none 0 0]].toList 8=some ([.agg [.nil,.nil,.nil],.agg [.lit (.int .i8 0),.lit (.string []),.nil]],[],x) :=
 ⟨[],by kernel_rfl⟩
theorem lifted (os:Os) (started:os.Started) (H:Type) (enc:TypeId × Value->H) (F:Stop.Interp) :
  ReturnsInHanded {} Tryz.checked os 4 .any ((Rows.OpenSpec.upto Rows.elabBackSpec).preRow enc Tryz.prog Tryz.f4 Rows.elabBackUptoRow.domain false Rows.elabBackUptoRow.laid) (((Rows.OpenSpec.upto Rows.elabBackSpec).at F).post enc Tryz.prog Tryz.f4 false true false false):=by
 obtain ⟨places,hx⟩:=reads os enc
 refine returnsInHanded_of_row (C:=Tryz.checked) (s:=Rows.OpenSpec.upto Rows.elabBackSpec) own started (by kernel_rfl) Tryz.func4
  (witness_row_at (enc:=enc) (C:=Tryz.checked) false (laidWorld os) #[.agg #[.slice none 0 0,.slice none 0 0,.slice none 0 0],.agg #[.int .i8 0,.string ⟨#[]⟩,.slice none 0 0]] rfl (by kernel_rfl) (by kernel_rfl) (by kernel_rfl)
   (OpenSpec.preRow_of_cond 8 hx (by kernel_rfl) (fun k hk=>by cases hk;kernel_rfl) (by kernel_rfl) (laid_met os))) ?_
 intro W base args ds gs before hval hW _ hcond hR hL _ _;exact contract H enc W base args ds gs before hval hW hR hL (hcond _ rfl)
theorem said:Rows.ElabBackUptoSaid :=
 OpenClaim.holds_of_cond 4 Tryz.f4 rfl rfl rfl rfl rfl rfl rfl ⟨rfl,rfl,rfl,rfl,rfl⟩ rfl rfl rfl rfl rfl (by kernel_rfl) Tryz.func4 (by kernel_rfl)
  (of_decide_eq_true (by kernel_rfl)) (by unfold Func.isWrapper;first | (rw [if_pos (by decide +kernel)];kernel_rfl) | (rw [if_neg (by decide +kernel)];exact⟨rfl,rfl⟩))
  (fun os started H enc _ F=>by rw [OpenClaim.pre_eq_preRow];exact lifted os started H enc F)
theorem plain (f : FuncId) (fn : Func) (hf : Tryz.pinned.checked.prog.funcNamed "gantry/gantrylaw07.ElabBack" = some f) (hfn : Tryz.pinned.checked.prog.funcs[f]? = some fn) :
  false=Tryz.pinned.checked.prog.looks []/\∀ (j:Nat) t,fn.params[j]?=some t->Tryz.pinned.checked.prog.wantsStandIn t=false:=by
 obtain rfl : f = 4 := Option.some.inj ((show Tryz.prog.funcNamed "gantry/gantrylaw07.ElabBack" = some 4 by kernel_rfl).symm.trans hf) |>.symm; obtain rfl : fn = Tryz.f4 := (Option.some.inj (Tryz.func4.symm.trans hfn)).symm; refine ⟨by kernel_rfl, fun j t ht => ?_⟩; have hm := Array.mem_of_getElem? ht; have hall : (Tryz.f4.params.toList.all fun u => !Tryz.prog.wantsStandIn u) = true := by kernel_rfl
 exact(show Tryz.prog.wantsStandIn t=false by simpa using List.all_eq_true.1 hall t (by simpa using hm))
theorem card:Rows.ElabBackUptoCardSaid :=
 Claim7.holds_tied_plain_at .later [] _ _ _ _ said (fun _ h=>by cases h) (by kernel_rfl) (fun _ h=>by cases h) elabBackUpto_row_tie rfl ⟨rfl,rfl⟩ (by kernel_rfl) rfl plain (by kernel_rfl)
end elabBack
end Go.Proofs.YtpmdcckapddchaaGreatDoor

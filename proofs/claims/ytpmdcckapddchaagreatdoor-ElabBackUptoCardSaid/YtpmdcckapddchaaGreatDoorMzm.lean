import Derived.Test.YtpmdcckapddchaaGreatDoorShort
import Derived.Test.YtpmdcckapddchaaGreatDoorMzl
import Derived.Test.YtpmdcckapddchaaGreatDoorMe
import Derived.Test.YtpmdcckapddchaaGreatDoorMza
import Derived.Test.YtpmdcckapddchaaGreatDoorMw
/- merged by wip/merge.py from: Law7Node -/
set_option maxRecDepth 100000
set_option maxHeartbeats 51200000
namespace Go.Proofs.YtpmdcckapddchaaGreatDoor
namespace El
open Go.RowKit Dt Sg
theorem small_ret {f:Func} {w:World} {b:Nat} {r0 r1 r2:Value} {act:Act} {t:TypeId} {R:Ending->World->Prop} (hf:f.results=#[.cell 0 26]) (hb:w.heap[b]?=some (.cells #[r0,r1,r2] t (0,0))) (h2:act.tmps[0]?=some (.pointer (some ⟨b,0,none⟩))) (hd:act.defers=[]) (hR:R (.returned (.agg #[r0,r1,r2])) w) :
  bodyPost Tryz.prog f R .ret act w:=by
 obtain ⟨y0,y1,y2,_⟩:=Bk.c3 hb;refine bodyPost_ret (v:=.agg #[r0,r1,r2]) ?_ hd hR;simp [results,hf,go_sem,y0,y1,y2,h2]
def funV4 (f:Fun4):List Value:=[.string f.name,.int .i64 f.len,.int .i64 f.a0,.int .i64 f.a1,.int .i64 f.a2,.int .i64 f.res]
theorem small_at {W:World} {b1 b2:Nat} (h1:W.heap[b1]?=some (.cells #[.string { data:=#[83] }] 9 (0,0))) (h2:W.heap[b2]?=some (.cells (flatV funV4 smallG.funs).toArray 108 (0,0))):SigAt W (some ⟨b1,0,none⟩) 1 (some ⟨b2,0,none⟩) 5 none 0 smallG:=by
 have hI:∀ f ∈ smallG.funs,FunR W (funV4 f) f:=by
  intro f hf;simp only [smallG,List.mem_cons,List.not_mem_nil,or_false] at hf;rcases hf with rfl | rfl | rfl | rfl | rfl <;> exact⟨rfl,by decide,⟨by decide,by decide⟩,⟨by decide,by decide⟩,⟨by decide,by decide⟩,⟨by decide,by decide⟩,⟨by decide,by decide⟩⟩
 have hf:=lies_blk (R:=FunR) (f:=id) (val:=funV4) smallG.funs h2 (List.prefix_refl _) (n:=6) (fun _=>rfl) hI;rw [List.map_id] at hf;have hs:=lies_blk (R:=StrR) (f:=id) (val:=fun s=>[Value.string s]) (L:=[.string { data:=#[83] }]) smallG.sorts h1 (List.prefix_refl _) (n:=1) (fun _=>rfl) (by intro s hs;simp only [smallG,List.mem_cons,List.not_mem_nil,or_false] at hs;subst hs;exact⟨rfl,by decide⟩);rw [List.map_id] at hs;exact⟨hs,hf,.inl rfl,by decide,by decide,by decide,by unfold maxLen;decide,by unfold maxLen;decide,by unfold maxLen;decide⟩
def SmallPost (w:World) (e:Ending) (w':World):Prop :=
 ∃ A1 A2,e=.returned (.agg #[.slice A1 1 1,.slice A2 5 5,.slice none 0 0])/\SigAt w' A1 1 A2 5 none 0 smallG/\Below w.heap.size w w'
theorem small_any (w:World):Calls Tryz.prog 34 #[] w (SmallPost w):=by
 have B1:=kp ((brq w).alloc nlq (.cells #[.slice none 0 0,.slice none 0 0,.slice none 0 0] 26));have R1:=kp (Bk.new w (.cells #[.slice none 0 0,.slice none 0 0,.slice none 0 0] 26))
 go_enter Tryz.func34,Tryz.ntmps34
 go_wp2_with fail
 have z1:(w.alloc (.cells #[.slice (some ⟨w.heap.size+1,0,none⟩) 1 1,.slice (some ⟨w.heap.size+2,0,none⟩) 5 5,.slice none 0 0] 26)).heap.size=w.heap.size+1:=by simp
 have z2:((w.alloc (.cells #[.slice (some ⟨w.heap.size+1,0,none⟩) 1 1,.slice (some ⟨w.heap.size+2,0,none⟩) 5 5,.slice none 0 0] 26)).alloc (.cells #[.string { data:=#[83] }] 9)).heap.size=w.heap.size+2:=by simp
 have N1:=Bk.new (w.alloc (.cells #[.slice (some ⟨w.heap.size+1,0,none⟩) 1 1,.slice (some ⟨w.heap.size+2,0,none⟩) 5 5,.slice none 0 0] 26)) (.cells #[.string { data:=#[83] }] 9);have N2:=Bk.new ((w.alloc (.cells #[.slice (some ⟨w.heap.size+1,0,none⟩) 1 1,.slice (some ⟨w.heap.size+2,0,none⟩) 5 5,.slice none 0 0] 26)).alloc (.cells #[.string { data:=#[83] }] 9)) (.cells (flatV funV4 smallG.funs).toArray 108);rw [z1] at N1;rw [z2] at N2
 exact small_ret (w:=((w.alloc (.cells #[.slice (some ⟨w.heap.size+1,0,none⟩) 1 1,.slice (some ⟨w.heap.size+2,0,none⟩) 5 5,.slice none 0 0] 26)).alloc (.cells #[.string { data:=#[83] }] 9)).alloc (.cells (flatV funV4 smallG.funs).toArray 108)) (b:=w.heap.size) Tryz.results34 (Bk.keep (Bk.keep (Bk.new w _) _) _) rfl rfl
  ⟨_,_,rfl,small_at (Bk.keep N1 _) N2,(((brq w).alloc nlq _).alloc (by simp) _).alloc (by rw [z2];omega) _⟩
theorem node_ret {f:Func} {w0 w:World} {b:Nat} {A':Option Addr} {c':Nat} {o:List Node × Int × Int} {act:Act} (hf:f.results=#[.cell 2 29,.tmp 3,.tmp 4]) (hb:w.heap[b]?=some (.cells #[.slice A' o.1.length c'] 29 (0,0))) (h2:act.tmps[2]?=some (.pointer (some ⟨b,0,none⟩))) (h3:act.tmps[3]?=some (.int .i64 o.2.1)) (h4:act.tmps[4]?=some (.int .i64 o.2.2)) (hd:act.defers=[])
  (hl:Lies 8 NodeR w A' o.1) (hle:o.1.length<=c') (hlm:c'<=maxLen) (hlen:o.1.length<=1000000) (hi:I64 o.2.1) (hB:Below w0.heap.size w0 w):bodyPost Tryz.prog f (MakesPost w0 o) .ret act w:=by
 obtain ⟨y0,_⟩:=Bk.c1 hb;refine bodyPost_ret (v:=.tuple #[.agg #[.slice A' o.1.length c'],.int .i64 o.2.1,.int .i64 o.2.2]) ?_ hd ⟨A',c',rfl,hl,hle,hlm,hlen,hi,hB⟩;simp [results,hf,go_sem,y0,h2,h3,h4]
theorem far_table {W:World} {A:Option Addr} {xs:List Node} {tb:Nat} {B:Option Addr} {m c:Nat} {t:TypeId} (h:Lies 8 NodeR W A xs) (hb:W.heap[tb]?=some (.cells #[.slice B m c] t (0,0))):Far tb xs A:=by
 intro hn b o e hbt;subst hbt;rcases h with h | ⟨b',o',hA,_,hr⟩
 ·exact hn h
 ·rw [e] at hA;obtain ⟨rfl,rfl⟩:=aiq hA
  cases xs with
  | nil=>exact hn rfl
  | cons x r =>
   obtain ⟨vs,h1,h2,h3,_⟩:=hr 0 x rfl;have h4:=h2 0 (Value.int .i8 x.op) (by rw [h3];rfl);rw [cell_of_cells hb] at h4
   have:∀ k:Nat,(#[Value.slice B m c]:Array Value)[k]?≠some (Value.int .i8 x.op):=by
    intro k hk;rcases k with _ | k
    ·simp at hk
    ·simp at hk
   exact this _ h4
theorem node_any (s:ByteArray) (w:World) (x:Sexp) (r:List UInt8) (hs:s.size<=100000) (hd:x.depth<=60) (hf:x.full<=3000000) (hr:Rd (from_ s 0) x r) :
  Calls Tryz.prog 18 #[.string s] w (MakesPost w (termO smallG newT x 200)):=by
 have HR:=kp (fun W=>sread_any s 0 W x r (Nat.zero_le _) hs hd hr);have HS:=kp small_any;have HN:=kp tnew_any;have HM:=kp (fun(W:World) (A1 A2:Option Addr) (h:SigAt W A1 1 A2 5 none 0 smallG) (At:Option Addr) (ht:Lies 8 NodeR W At newT) (A:Option Addr) (c:Nat) (hx:XAt W A c x)=>makes_any h (by decide) (by decide) (by decide) (by intro m hm;cases hm) ht (by decide) (by decide) (by unfold maxLen;decide) hx hf 200 ⟨by decide,by decide⟩ (by decide) (ct:=2));have B1:=kp ((brq w).alloc nlq (.cells #[.slice none 0 0] 29));have R1:=kp (Bk.new w (.cells #[.slice none 0 0] 29));generalize at_ s r=er at *;generalize termO smallG newT x 200=ans at *;unfold ReadPost at HR;clear hd hf hr hs
 go_enter Tryz.func18,Tryz.ntmps18
 go_upto_region 1 with fail
 generalize w.alloc (.cells #[.slice none 0 0] 29)=w1 at *;go_wp2_with fail
 refine(HR.out _).mono ?_;rintro e w2 ⟨A,c,rfl,hin,hb2⟩;have B3:=kp ((B1.out.trans (hb2.mono B1.out.size)).alloc (Nat.le_trans B1.out.size hb2.size) (.cells #[.int .i8 x.kind,.string x.text,.slice A x.l.length c] 40));have X3:=kp (Bk.new w2 (.cells #[.int .i8 x.kind,.string x.text,.slice A x.l.length c] 40));have R3:=kp (Bk.keep (Bk.on R1.out hb2) (.cells #[.int .i8 x.kind,.string x.text,.slice A x.l.length c] 40));have HX3:=kp (show XAt (w2.alloc (.cells #[.int .i8 x.kind,.string x.text,.slice A x.l.length c] 40)) A c x from XAt.on hin.now ((brq w2).alloc nlq _));clear hin hb2 HR;go_upto_region 4 with fail
 generalize w2.alloc (.cells #[.int .i8 x.kind,.string x.text,.slice A x.l.length c] 40)=w3 at *;generalize w2.heap.size=xb at *;have B0:=kp (brq w3).drew;refine wp_region_held_drew (S:=fun V=>V.heap[xb]?=some (.cells #[.int .i8 x.kind,.string x.text,.slice A x.l.length c] 40 (0,0))) (by kernel_rfl) (X3.out) (fun hHeld=>?_);refine tk 2 (v:=?_) ?_ ?_;rotate_left
 ·(intro w hSw;(obtain ⟨x0,x1,x2,xf⟩:=Bk.c3 hSw;go_simp;try with_reducible rfl))
 try simp only [pt]
 generalize hwd:World.drew _=wd at *;clear hwd;refine rd 0 fun K hK=>?_;go_simp
 go_wp2_with (go_at_call 34;refine(HS.out _).mono ?_;rintro e w4 ⟨A1,A2,rfl,hg4,hb4⟩;have B4:=kp (B0.out.trans (hb4.mono B0.out.size));have G4:=kp hg4;clear hg4 hb4)
 refine hK.out _ _ ((Bk.on X3.out B4.out)) (fun hHeld=>?_);clear hK K;try simp only [pt]
 refine rd 1 fun K hK=>?_;go_simp
 go_wp2_with (go_at_call 12;refine(HN.out _).mono ?_;rintro e w5 ⟨g5,rfl,hle5,ht5,hb5⟩;have B5:=kp (B4.out.trans (hb5.mono B4.out.size));have G5:=kp (G4.out.on hb5);have T5:=kp (new_lies ht5);clear hle5 ht5 hb5)
 refine hK.out _ _ ((Bk.on X3.out B5.out)) (fun hHeld=>?_);clear hK K;try simp only [pt]
 have HMx:=kp (HM.out _ _ _ G5.out _ T5.out _ _ (HX3.out.on B5.out));refine rd 3 fun K hK=>?_;go_simp
 go_wp2_with (go_at_call 11;refine HMx.out.mono ?_;rintro e w6 ⟨A',c',rfl,hl6,hle6,hlm6,hlen6,hi6,hb6⟩;have B6:=kp (B5.out.trans (hb6.mono B5.out.size));have Q6:=kp (And.intro hl6 (And.intro hle6 (And.intro hlm6 (And.intro hlen6 hi6))));clear hl6 hle6 hlm6 hlen6 hi6 hb6)
 refine hK.out _ _ ((Bk.on X3.out B6.out)) (fun hHeld=>?_);clear hK K;try simp only [pt]
 refine plz [4,5,6] ?_;iterate 3 (refine tnz (v:=?_) ?_ ?_;rotate_left;(focus (intro w hSw;go_simp;try with_reducible rfl));try simp only [pt])
 refine pzz ?_;have R6:=kp (Bk.on R3.out B6.out);have W6:=kp (show Below w.heap.size w w6 from B3.out.trans (B6.out.mono B3.out.size));have FR:=kp (far_table Q6.out.1 R6.out)
 have HXn:=kp (show xb≠w.heap.size from fun e=>by
  have h1:=X3.out;rw [e,R3.out] at h1;simp at h1)
 obtain ⟨r0,rf⟩:=Bk.c1 R6.out;refine rd 7 fun K hK=>?_;go_simp;refine hK.out _ _ ((Bk.apart (Bk.on X3.out B6.out) (p:=⟨w.heap.size,0,none⟩) HXn.out _)) (fun hHeld=>?_);clear hK K;try simp only [pt]
 refine plz [8,9] ?_;iterate 2 (refine tnz (v:=?_) ?_ ?_;rotate_left;(focus (intro w hSw;go_simp;try with_reducible rfl));try simp only [pt])
 refine pzz ?_;refine dnz ?_;clear hHeld;go_wp2_with fail
 exact node_ret (o:=ans) (A':=A') (c':=c') Tryz.results18 (Bk.set_at R6.out 0 _) rfl rfl rfl rfl (lies_other Q6.out.1 FR.out) Q6.out.2.1 Q6.out.2.2.1 Q6.out.2.2.2.1 Q6.out.2.2.2.2 (W6.out.setCell (p:=⟨w.heap.size,0,none⟩) nlq _)
theorem nth_ret {f:Func} {w:World} {b:Nat} {r0 r1 r2 r3 r4 r5 r6 r7:Value} {act:Act} {t:TypeId} {R:Ending->World->Prop} (hf:f.results=#[.cell 4 49]) (hb:w.heap[b]?=some (.cells #[r0,r1,r2,r3,r4,r5,r6,r7] t (0,0))) (h2:act.tmps[4]?=some (.pointer (some ⟨b,0,none⟩))) (hd:act.defers=[]) (hR:R (.returned (.agg #[r0,r1,r2,r3,r4,r5,r6,r7])) w) :
  bodyPost Tryz.prog f R .ret act w:=by
 obtain ⟨y0,y1,y2,y3,y4,y5,y6,y7,_⟩:=Bk.c8 hb;refine bodyPost_ret (v:=.agg #[r0,r1,r2,r3,r4,r5,r6,r7]) ?_ hd hR;simp [results,hf,go_sem,y0,y1,y2,y3,y4,y5,y6,y7,h2]
theorem nth_any {w:World} {At:Option Addr} {t:List Node} {ct k:Nat} {n:Node} (ht:Lies 8 NodeR w At t) (hk:t[k]?=some n) :
  Calls Tryz.prog 14 #[.agg #[.slice At t.length ct],.int .i64 k] w fun e w'=>e=.returned (.agg #[.int .i8 n.op,.int .i8 n.len,.int .i64 n.a0,.int .i64 n.a1,.int .i64 n.a2,.int .i64 n.sort,.int .i64 n.fn,.int .i64 n.n])/\Below w.heap.size w w':=by
 have hkl:=(gqs hk).1;have B2:=kp (((brq w).alloc nlq (.cells #[.slice At t.length ct] 29)).alloc (by simp) (.cells #[.int .i8 0,.int .i8 0,.int .i64 0,.int .i64 0,.int .i64 0,.int .i64 0,.int .i64 0,.int .i64 0] 49));have T2:=kp (Bk.keep (Bk.new w (.cells #[.slice At t.length ct] 29)) (.cells #[.int .i8 0,.int .i8 0,.int .i64 0,.int .i64 0,.int .i64 0,.int .i64 0,.int .i64 0,.int .i64 0] 49))
 have R2:=kp (show((w.alloc (.cells #[.slice At t.length ct] 29)).alloc (.cells #[.int .i8 0,.int .i8 0,.int .i64 0,.int .i64 0,.int .i64 0,.int .i64 0,.int .i64 0,.int .i64 0] 49)).heap[w.heap.size+1]?=some (.cells #[.int .i8 0,.int .i8 0,.int .i64 0,.int .i64 0,.int .i64 0,.int .i64 0,.int .i64 0,.int .i64 0] 49 (0,0)) by
  have h:=Bk.new (w.alloc (.cells #[.slice At t.length ct] 29)) (.cells #[.int .i8 0,.int .i8 0,.int .i64 0,.int .i64 0,.int .i64 0,.int .i64 0,.int .i64 0,.int .i64 0] 49)
  simpa using h)
 obtain ⟨b,o,rfl,⟨hlt,c0,c1,c2,c3,c4,c5,c6,c7⟩,_⟩:=node_get ht hk;have C2:=kp (show NodeAt _ b (o+k * 8) n from⟨Nat.lt_of_lt_of_le hlt B2.out.size,(B2.out.cell (p:=⟨b,o+k * 8,none⟩) hlt).trans c0,(B2.out.cell (p:=⟨b,o+k * 8+1,none⟩) hlt).trans c1,(B2.out.cell (p:=⟨b,o+k * 8+2,none⟩) hlt).trans c2,(B2.out.cell (p:=⟨b,o+k * 8+3,none⟩) hlt).trans c3,(B2.out.cell (p:=⟨b,o+k * 8+4,none⟩) hlt).trans c4,(B2.out.cell (p:=⟨b,o+k * 8+5,none⟩) hlt).trans c5,(B2.out.cell (p:=⟨b,o+k * 8+6,none⟩) hlt).trans c6,(B2.out.cell (p:=⟨b,o+k * 8+7,none⟩) hlt).trans c7⟩);clear hlt c0 c1 c2 c3 c4 c5 c6 c7 hk ht;have hk1:¬ (k:Int) < 0:=by omega
 have hk2:(k:Int) < (t.length:Int):=by omega
 generalize t.length=tl at *
 go_enter Tryz.func14,Tryz.ntmps14
 go_upto_region 1 with fail
 generalize (w.alloc (.cells #[.slice (some ⟨b,o,none⟩) tl ct] 29)).alloc (.cells #[.int .i8 0,.int .i8 0,.int .i64 0,.int .i64 0,.int .i64 0,.int .i64 0,.int .i64 0,.int .i64 0] 49)=w2 at *;obtain ⟨t0,tf⟩:=Bk.c1 T2.out;obtain ⟨r0,r1,r2,r3,r4,r5,r6,r7,rf⟩:=Bk.c8 R2.out;obtain ⟨hlt,c0,c1,c2,c3,c4,c5,c6,c7⟩:=C2.out;go_wp2_with fail
 exact nth_ret Tryz.results14 (Bk.set_at (Bk.set_at (Bk.set_at (Bk.set_at (Bk.set_at (Bk.set_at (Bk.set_at (Bk.set_at R2.out 0 _) 1 _) 2 _) 3 _) 4 _) 5 _) 6 _) 7 _) rfl rfl ⟨rfl,((((((((B2.out.setCell (p:=⟨w.heap.size+1,0,none⟩) (Nat.le_succ _) _).setCell (p:=⟨w.heap.size+1,1,none⟩) (Nat.le_succ _) _).setCell (p:=⟨w.heap.size+1,2,none⟩) (Nat.le_succ _) _).setCell (p:=⟨w.heap.size+1,3,none⟩) (Nat.le_succ _) _).setCell (p:=⟨w.heap.size+1,4,none⟩) (Nat.le_succ _) _).setCell (p:=⟨w.heap.size+1,5,none⟩) (Nat.le_succ _) _).setCell (p:=⟨w.heap.size+1,6,none⟩) (Nat.le_succ _) _).setCell (p:=⟨w.heap.size+1,7,none⟩) (Nat.le_succ _) _)⟩
theorem wakes_any (w:World):Calls Tryz.prog 7 #[] w fun e w'=>e=.returned (.bool true)/\Below w.heap.size w w':=by
 have HA:=kp (fun W=>node_any txA W xA [] (by decide) (by decide +kernel) (by decide +kernel) rdA);have HB:=kp (fun W=>node_any txB W xB [] (by decide) (by decide +kernel) (by decide +kernel) rdB);have HC:=kp (fun W=>node_any txC W xC [] (by decide) (by decide +kernel) (by decide +kernel) rdC);obtain ⟨ha0,ka,hka,na,hna,hpa⟩:=ansB_out ansA;obtain ⟨hb0,kb,hkb,nb,hnb,hpb⟩:=ansB_out ansBd;have hc0:=ansC;rw [Bool.and_eq_true,decide_eq_true_eq,decide_eq_true_eq] at hpa;rw [decide_eq_true_eq] at hpb;have HNa:=kp (fun(W:World) At ct (h:Lies 8 NodeR W At (termO smallG newT xA 200).1)=>nth_any (ct:=ct) h hna);have HNb:=kp (fun(W:World) At ct (h:Lies 8 NodeR W At (termO smallG newT xB 200).1)=>nth_any (ct:=ct) h hnb);unfold txA at HA;unfold txB at HB;unfold txC at HC;unfold MakesPost at HA HB HC;generalize termO smallG newT xA 200=oa at *;generalize termO smallG newT xB 200=ob at *;generalize termO smallG newT xC 200=oc at *;obtain ⟨ta,ia,ea⟩:=oa;obtain ⟨tb,ib,eb⟩:=ob;obtain ⟨tc,ic,ec⟩:=oc;simp only at ha0 hka hb0 hkb hc0 HNa HNb HA HB HC;subst ha0 hka hb0 hkb hc0;obtain ⟨hp1,hp2⟩:=hpa;have B0:=kp (brq w);clear hna hnb
 go_enter Tryz.func7,Tryz.ntmps7
 go_wp2_with fail
 refine(HA.out _).mono ?_;rintro e w1 ⟨Aa,ca,rfl,hla,_,_,_,_,hb1⟩;have A2:=kp (Bk.new w1 (.cells #[.slice Aa ta.length ca] 29));have B2:=kp (hb1.alloc hb1.size (.cells #[.slice Aa ta.length ca] 29));have LA:=kp (hla.on NodeR.lasts ((brq w1).alloc nlq (.cells #[.slice Aa ta.length ca] 29)));clear hla hb1;go_upto_region 2 with fail
 generalize w1.alloc (.cells #[.slice Aa ta.length ca] 29)=w2 at *;generalize w1.heap.size=ab at *;go_wp2_with fail
 refine(HB.out _).mono ?_;rintro e w3 ⟨Ab,cb,rfl,hlb,_,_,_,_,hb3⟩;have A4:=kp (Bk.keep (Bk.on A2.out hb3) (.cells #[.slice Ab tb.length cb] 29));have BB4:=kp (Bk.new w3 (.cells #[.slice Ab tb.length cb] 29));have B4:=kp ((B2.out.trans (hb3.mono B2.out.size)).alloc (Nat.le_trans B2.out.size hb3.size) (.cells #[.slice Ab tb.length cb] 29));have LB:=kp (hlb.on NodeR.lasts ((brq w3).alloc nlq (.cells #[.slice Ab tb.length cb] 29)));have LA4:=kp ((LA.out.on NodeR.lasts hb3).on NodeR.lasts ((brq w3).alloc nlq (.cells #[.slice Ab tb.length cb] 29)));clear hlb hb3;go_upto_region 3 with fail
 generalize w3.alloc (.cells #[.slice Ab tb.length cb] 29)=w4 at *;generalize w3.heap.size=bb at *;go_wp2_with fail
 refine(HC.out _).mono ?_;rintro e w5 ⟨Ac,cc,rfl,hlc,_,_,_,_,hb5⟩;have A6:=kp (Bk.keep (Bk.on A4.out hb5) (.cells #[.slice Ac tc.length cc] 29));have BB6:=kp (Bk.keep (Bk.on BB4.out hb5) (.cells #[.slice Ac tc.length cc] 29));have B6:=kp ((B4.out.trans (hb5.mono B4.out.size)).alloc (Nat.le_trans B4.out.size hb5.size) (.cells #[.slice Ac tc.length cc] 29));have LA6:=kp ((LA4.out.on NodeR.lasts hb5).on NodeR.lasts ((brq w5).alloc nlq (.cells #[.slice Ac tc.length cc] 29)));have LB6:=kp ((LB.out.on NodeR.lasts hb5).on NodeR.lasts ((brq w5).alloc nlq (.cells #[.slice Ac tc.length cc] 29)));clear hlc hb5;go_upto_region 4 with fail
 generalize w5.alloc (.cells #[.slice Ac tc.length cc] 29)=w6 at *;generalize w5.heap.size=cb' at *;obtain ⟨a0,af⟩:=Bk.c1 A6.out;obtain ⟨b0,bf⟩:=Bk.c1 BB6.out;have f0:∀ w,(Instr.field 49 (.agg #[.int .i8 na.op,.int .i8 na.len,.int .i64 na.a0,.int .i64 na.a1,.int .i64 na.a2,.int .i64 na.sort,.int .i64 na.fn,.int .i64 na.n]) 0).run Tryz.prog w=.ok (.int .i8 na.op) w:=fun w=>by kernel_rfl
 have f5:∀ w,(Instr.field 49 (.agg #[.int .i8 na.op,.int .i8 na.len,.int .i64 na.a0,.int .i64 na.a1,.int .i64 na.a2,.int .i64 na.sort,.int .i64 na.fn,.int .i64 na.n]) 5).run Tryz.prog w=.ok (.int .i64 na.n) w:=fun w=>by kernel_rfl
 have g0:∀ w,(Instr.field 49 (.agg #[.int .i8 nb.op,.int .i8 nb.len,.int .i64 nb.a0,.int .i64 nb.a1,.int .i64 nb.a2,.int .i64 nb.sort,.int .i64 nb.fn,.int .i64 nb.n]) 0).run Tryz.prog w=.ok (.int .i8 nb.op) w:=fun w=>by kernel_rfl
 have d1:(na.op == 12)=true:=by simp [hp1]
 have d2:(na.n == 3)=true:=by simp [hp2]
 have d3:(nb.op == 1)=true:=by simp [hpb]
 clear hp1 hp2 hpb;go_wp2_with fail
 refine(HNa.out _ _ _ LA6.out).mono ?_;rintro e w7 ⟨rfl,hb7⟩;have A7:=kp (Bk.on A6.out hb7);have BB7:=kp (Bk.on BB6.out hb7);have B7:=kp (B6.out.trans (hb7.mono B6.out.size));have LA7:=kp (LA6.out.on NodeR.lasts hb7);have LB7:=kp (LB6.out.on NodeR.lasts hb7);clear hb7 a0 af b0 bf;obtain ⟨a0,af⟩:=Bk.c1 A7.out;go_wp2_with fail
 refine(HNa.out _ _ _ LA7.out).mono ?_;rintro e w8 ⟨rfl,hb8⟩;have BB8:=kp (Bk.on BB7.out hb8);have B8:=kp (B7.out.trans (hb8.mono B7.out.size));have LB8:=kp (LB7.out.on NodeR.lasts hb8);clear hb8 a0 af;obtain ⟨b0,bf⟩:=Bk.c1 BB8.out;go_wp2_with fail
 refine(HNb.out _ _ _ LB8.out).mono ?_;rintro e w9 ⟨rfl,hb9⟩;have B9:=kp (B8.out.trans (hb9.mono B8.out.size));clear hb9 b0 bf;go_wp2_with fail
 go_ret;exact⟨rfl,B9.out⟩
end El
end Go.Proofs.YtpmdcckapddchaaGreatDoor

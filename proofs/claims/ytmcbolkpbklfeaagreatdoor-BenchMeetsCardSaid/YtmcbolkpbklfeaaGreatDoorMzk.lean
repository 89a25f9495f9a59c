import Derived.Test.YtmcbolkpbklfeaaGreatDoorShort
import Derived.Test.YtmcbolkpbklfeaaGreatDoorMzj
import Derived.Test.YtmcbolkpbklfeaaGreatDoorMf
/- merged by wip/merge.py from: DrRun BnScore BnScoreA -/
set_option maxRecDepth 100000
set_option maxHeartbeats 51200000
namespace Go.Proofs.YtmcbolkpbklfeaaGreatDoor
namespace Dr
open Go Go.RowKit Dt Cm Bn
inductive RunP (s:ByteArray):Nat->Nat->List ByteArray->Prop
 | nil {p n:Nat}:p<=s.size->skipL false (from_ s p)=[]->RunP s p n []
 | push {p n:Nat} {x:Sexp} {r:List UInt8} {rest:List ByteArray}:p<=s.size->Rd (from_ s p) x r->x.depth<=60->cmdO x=some (numCmd 6 1)->n<=6->RunP s (at_ s r) (n+1) rest->RunP s p n (successS :: rest)
 | pop {p n:Nat} {m:Int} {x:Sexp} {r:List UInt8} {rest:List ByteArray}:p<=s.size->Rd (from_ s p) x r->x.depth<=60->cmdO x=some (numCmd 7 m)->n<=7->(n:Int) < m->m<=1000->mayCB (numCmd 7 m)=true->RunP s (at_ s r) n rest->RunP s p n (⟨err50.toArray⟩ :: rest)
structure RunW (w W:World) (db g:Nat) (us:List Unit) (pre:List ByteArray) (A:Option Addr) (c:Nat) (Am:Option Addr) (cm:Nat):Prop where
 box:W.heap[w.heap.size]?=some (.cells #[.slice A pre.length c] 25 (0,0))
 row:PRow valS 9 1 (w.heap.size+1) W (.slice A pre.length c) pre
 drv:W.heap[db]?=some (.cells (drvL g (.slice Am us.length cm)).toArray 106 (0,0))
 marks:PRow valM 178 5 (w.heap.size+1) W (.slice Am us.length cm) us
 tab:TabAt W g
 below:Below w.heap.size w W
theorem RunW.on {w W W':World} {db g:Nat} {us:List Unit} {pre:List ByteArray} {A Am:Option Addr} {c cm:Nat} (h:RunW w W db g us pre A c Am cm) (hb:Below W.heap.size W W'):RunW w W' db g us pre A c Am cm :=
 ⟨Bk.on h.box hb,h.row.below hb,Bk.on h.drv hb,h.marks.below hb,Bk.on h.tab hb,h.below.trans (hb.mono h.below.size)⟩
theorem row_but {α:Type} {val:α->List Value} {t:TypeId} {n base:Nat} {w w':World} {v:Value} {xs:List α} (h:PRow val t n base w v xs) (hk:∀ (b:Nat) (cs:Array Value),base<=b->w.heap[b]?=some (.cells cs t (0,0))->w'.heap[b]?=some (.cells cs t (0,0))):PRow val t n base w' v xs:=by
 refine⟨h.own.1,?_⟩;rcases h.own.2 with h1 | ⟨g,cap,cur,h1,hg,hat,h2⟩
 ·exact .inl h1
 ·exact .inr ⟨g,cap,cur,h1,hg,hk _ _ hg hat,h2⟩
theorem unlike_blocks {W:World} {a b:Nat} {cs ds:Array Value} {t u:TypeId} {z y:Nat × Nat} (ha:W.heap[a]?=some (.cells cs t z)) (hb:W.heap[b]?=some (.cells ds u y)) (hne:t≠u):a≠b:=fun e=>by
 subst e;rw [ha] at hb
 cases hb
 exact hne rfl
theorem RunW.store {w W W':World} {db g:Nat} {us us':List Unit} {pre:List ByteArray} {A Am Am':Option Addr} {c cm cm':Nat} (h:RunW w W db g us pre A c Am cm) (hb:Below W.heap.size W W') (hm:PRow valM 178 5 (w.heap.size+1) W' (.slice Am' us'.length cm') us') (hdb:w.heap.size < db) :
  RunW w (W'.setCells db 0 (drvL g (.slice Am' us'.length cm'))) db g us' pre A c Am' cm':=by
 have k:=h.on hb
 exact⟨(setCells_other (by omega) _ _ _).trans k.box,row_but k.row (fun b cs _ hc=>(setCells_other (unlike_blocks hc k.drv (by decide)) _ _ _).trans hc),setCells_all k.drv _ rfl,row_but hm (fun b cs _ hc=>(setCells_other (unlike_blocks hc k.drv (by decide)) _ _ _).trans hc),
  (setCells_other (unlike_blocks k.tab k.drv (by decide)) _ _ _).trans k.tab,setCells_below (by omega) _ _ _ k.below⟩
theorem RunW.answer {w W W':World} {db g:Nat} {us:List Unit} {pre:List ByteArray} {A Am A':Option Addr} {c cm c':Nat} {x:ByteArray} (h:RunW w W db g us pre A c Am cm) (hbox:W'.heap[w.heap.size]?=some (.cells #[.slice A' (pre.length+1) c'] 25 (0,0))) (hrow:PRow valS 9 1 (w.heap.size+1) W' (.slice A' (pre.length+1) c') (pre ++ [x])) (hb:Below w.heap.size W W')
  (hdb:w.heap.size < db) (ho:∀ (k:Nat) (cs:Array Value) (t:TypeId),t≠9->k≠w.heap.size->W.heap[k]?=some (.cells cs t (0,0))->W'.heap[k]?=some (.cells cs t (0,0))):RunW w W' db g us (pre ++ [x]) A' c' Am cm:=by
 have e:(pre ++ [x]).length=pre.length+1:=by simp
 exact⟨by rw [e];exact hbox,by rw [e];exact hrow,ho _ _ _ (by decide) (by omega) h.drv,row_but h.marks (fun b cs hb2 hc=>ho _ _ _ (by decide) (by omega) hc),ho _ _ _ (by decide) (unlike_blocks h.tab h.box (by decide)) h.tab,h.below.trans hb⟩
theorem run_any {T:Lib.PrintTabs} (s:ByteArray) (hs:s.size<=8192) (outs:List ByteArray) (ho:outs.length<=1000) (hr:RunP s 0 0 outs) (w:World) (hT:LaidOk T w) :
  Calls Tryz.prog 38 #[.string s] w fun e w'=>∃ A c,e=.returned (.slice A outs.length c)/\PRow valS 9 1 w.heap.size w' (.slice A outs.length c) outs/\Below w.heap.size w w':=by
 have HR:=kp hr;have HT:=kp hT;have HO:=kp ho;clear hr hT ho
 go_enter Tryz.func38,Tryz.ntmps38
 go_upto_region 1 with fail
 have X1:=kp (Bk.new w (.cells #[.slice none 0 0] 25));have B1:=kp ((brq w).alloc nlq (.cells #[.slice none 0 0] 25));have hz1:(w.alloc (.cells #[.slice none 0 0] 25)).heap.size=w.heap.size+1:=by simp
 generalize w.alloc (.cells #[.slice none 0 0] 25)=w1 at *;go_wp2_with fail
 refine(dnew_any w1).mono ?_;rintro e w2 ⟨g,rfl,hg,hat,hb⟩;have X2:=kp (Bk.on X1.out hb);have HTa:=kp hat;have B2:=kp (B1.out.trans (hb.mono B1.out.size));have hz2:=hb.size;clear hat hb;unfold drvV;go_upto_region 5 with fail
 have R3:=kp (show RunW w (w2.alloc (.cells #[.slice none 0 0,.slice none 0 0,.slice none 0 0,.slice (some ⟨g,0,none⟩) 2 2,.slice none 0 0,.slice none 0 0,.bool false,.int .i64 4096,.slice none 0 0,.bool false,.int .i8 0,.bool false,.slice none 0 0,.slice none 0 0,.slice none 0 0] 106)) w2.heap.size g [] [] none 0 none 0 from⟨Bk.keep X2.out _,PRow.nil _ _ _ _ _,Bk.new w2 _,PRow.nil _ _ _ _ _,Bk.keep HTa.out _,B2.out.alloc B2.out.size _⟩);generalize w2.alloc (.cells #[.slice none 0 0,.slice none 0 0,.slice none 0 0,.slice (some ⟨g,0,none⟩) 2 2,.slice none 0 0,.slice none 0 0,.bool false,.int .i64 4096,.slice none 0 0,.bool false,.int .i8 0,.bool false,.slice none 0 0,.slice none 0 0,.slice none 0 0] 106)=w3 at *;have hdb:w.heap.size < w2.heap.size:=by omega
 generalize w2.heap.size=db at *;clear X1 B1 X2 B2 HTa hz1 hz2 hg;go_wp2_with fail
 go_loopw [5,6] (fun o a wr=>∃ (p:Nat) (us:List Unit) (rest pre:List ByteArray) (A:Option Addr) (c:Nat) (Am:Option Addr) (cm:Nat),o=.int .i64 p/\a=.bool false/\RunP s p us.length rest/\pre ++ rest=outs/\RunW w wr db g us pre A c Am cm) (fun a _ _=>s.size - (intOf a).toNat)
 case atStart=>exact⟨0,[],outs,[],none,0,none,0,rfl,rfl,HR.out,rfl,R3.out⟩
 case round =>
  obtain ⟨p,us,rest,pre,A,c,Am,cm,rfl,rfl,hseq,hlen,hw⟩:=hrel;have HW:=kp hw;have HLe:=kp hlen;clear hw hlen
  cases hseq with
  | nil hp hn =>
   have HE:=kp (sread_end s p wr hp (by omega) hn);have HLp:=kp (show pre=outs by have:=HLe.out;simpa using this);clear hn;go_wp2_with fail
   refine HE.out.mono ?_;rintro e w4 ⟨rfl,hb4⟩;have W4:=kp (HW.out.on hb4);go_upto_region 8 with fail
   have W5:=kp (W4.out.on ((brq w4).alloc nlq (.cells #[.int .i8 0,.string { data:=#[] },.slice none 0 0] 81)));clear hb4 HE HW W4;have hz5:=lt_of_block W5.out.box;obtain ⟨b0,bf⟩:=Bk.c1 W5.out.box;generalize w4.alloc (.cells #[.int .i8 0,.string { data:=#[] },.slice none 0 0] 81)=w5 at *;go_wp2_with fail
   have BE:=kp (W5.out.below.setCell (p:=⟨w.heap.size,0,none⟩) nlq (.slice A pre.length c));have XE:=kp (show(w5.setCell ⟨w.heap.size,0,none⟩ (.slice A pre.length c)).heap[w.heap.size]?=some (.cells #[.slice A pre.length c] 25 (0,0)) from Bk.set_at W5.out.box 0 (.slice A pre.length c));have PE:=kp (W5.out.row.same (SameIn.setCell (w.heap.size+1) w5.heap.size w5 ⟨w.heap.size,0,none⟩ (.slice A pre.length c) (Or.inl (Nat.lt_succ_self _))));refine bodyPost_ret (v:=.slice A pre.length c) ?_ rfl ⟨A,c,by rw [← HLp.out],by rw [← HLp.out];exact PE.out.mono (Nat.le_succ _),BE.out⟩;obtain ⟨y0,_⟩:=Bk.c1 XE.out;simp [results,Tryz.results38,go_sem,y0]
  | @push _ _ x r rest hp hr hd hc hn hrest =>
   have hn1:=rd_next hp hr;have HE:=kp (sread_any s p wr x r hp (by omega) hd hr);have HC:=kp hc;have HRe:=kp hrest;unfold ReadPost at HE;clear hr hrest hc;generalize at_ s r=p' at *;go_wp2_with fail
   refine HE.out.mono ?_;rintro e w4 ⟨A4,c4,rfl,hin,hb4⟩;have W4:=kp (HW.out.on hb4);have I4:=kp hin;clear hin hb4 HE;go_upto_region 8 with fail
   have W5:=kp (W4.out.on ((brq w4).alloc nlq (.cells #[.int .i8 x.kind,.string x.text,.slice A4 x.l.length c4] 81)));have I5:=kp (I4.out.below ((brq w4).alloc nlq (.cells #[.int .i8 x.kind,.string x.text,.slice A4 x.l.length c4] 81)));have S5:=kp (Bk.new w4 (.cells #[.int .i8 x.kind,.string x.text,.slice A4 x.l.length c4] 81));generalize w4.alloc (.cells #[.int .i8 x.kind,.string x.text,.slice A4 x.l.length c4] 81)=w5 at *;generalize w4.heap.size=sb at *;clear W4 I4 HW;have HP5:=kp (parse_cmd_any (w:=w5) (A:=A4) (c:=c4) (x:=x) I5.out.now);rw [HC.out] at HP5;unfold agS at HP5;obtain ⟨s0,s1,s2,sf⟩:=Bk.c3 S5.out;generalize x.l.length=xl at *;go_upto_region 17 with fail
   go_wp2_with fail
   refine HP5.out.mono ?_;rintro e w6 ⟨A1,c1,A2,c2,A3,c3,A5,c5,rfl,hcm,hb6⟩;have C6:=kp (show CmdAt w6 A1 c1 A2 c2 A3 c3 A5 c5 (numCmd 6 1) from hcm);have W6:=kp (W5.out.on hb6);clear hcm hb6 W5 I5 S5 HP5 s0 s1 s2 sf;rw [show(Ending.returned (.tuple #[.agg (cmdCells A1 c1 A2 c2 A3 c3 A5 c5 ((some (numCmd 6 1)).getD noCmd)).toArray,.int .i64 (if(some (numCmd 6 1)).isSome=true then 0 else 30)]):Ending)=.returned (.tuple #[cmdV A1 c1 A2 c2 A3 c3 A5 c5 6 1,.int .i64 0]) from rfl];unfold cmdV;go_upto_region 20 with fail
   have W7:=kp (W6.out.on ((brq w6).alloc nlq (.cells #[.int .i8 6,.string { data:=#[] },.int .i64 1,.slice A1 0 c1,.slice A2 0 c2,.slice A3 0 c3,.string { data:=#[] },.slice A5 0 c5] 110)));have C7:=kp (C6.out.on ((brq w6).alloc nlq (.cells #[.int .i8 6,.string { data:=#[] },.int .i64 1,.slice A1 0 c1,.slice A2 0 c2,.slice A3 0 c3,.string { data:=#[] },.slice A5 0 c5] 110)));have K7:=kp (Bk.new w6 (.cells #[.int .i8 6,.string { data:=#[] },.int .i64 1,.slice A1 0 c1,.slice A2 0 c2,.slice A3 0 c3,.string { data:=#[] },.slice A5 0 c5] 110));generalize w6.alloc (.cells #[.int .i8 6,.string { data:=#[] },.int .i64 1,.slice A1 0 c1,.slice A2 0 c2,.slice A3 0 c3,.string { data:=#[] },.slice A5 0 c5] 110)=w7 at *;generalize w6.heap.size=kb at *;clear C6 W6;have HD7:=kp (do_push (T:=T) (HT.out.on W7.out.below) W7.out.tab W7.out.marks (by omega) C7.out);obtain ⟨y0,y1,y2,y3,y4,y5,y6,y7,yf⟩:=Bk.c8 K7.out;have XV:=W7.out.drv;unfold drvL at XV;obtain ⟨⟨x0,x1,x2,x3,x4,x5,x6,x7⟩,⟨x8,x9,x10,x11,x12,x13,x14⟩,xf⟩:=Bk.c15 XV;clear XV;unfold drvV cmdV at HD7;go_wp2_with fail
   refine HD7.out.mono ?_;rintro e w8 ⟨Am',cm',rfl,hm8,hb8⟩;obtain ⟨us',hus⟩:∃ us',us'=us ++ [()]:=⟨_,rfl⟩;have hul:us.length+1=us'.length:=by rw [hus];simp
   rw [← hus] at hm8;rw [hul] at hm8 HRe ⊢;clear hul hus x0 x1 x2 x3 x4 x5 x6 x7 x8 x9 x10 x11 x12 x13 x14 xf y0 y1 y2 y3 y4 y5 y6 y7 yf HD7 C7 K7;have hz7:=lt_of_block W7.out.box;have R9:=kp (W7.out.store hb8 (hm8.mono (by omega)) hdb);have XV:=Bk.on W7.out.drv hb8;unfold drvL at XV;obtain ⟨⟨x0,x1,x2,x3,x4,x5,x6,x7⟩,⟨x8,x9,x10,x11,x12,x13,x14⟩,xf⟩:=Bk.c15 XV;clear XV hm8 hb8 W7;go_upto_region 22 with fail
   generalize hw9:(((((((((((((((w8.setCell ⟨db,0,none⟩ (.slice none 0 0)).setCell ⟨db,1,none⟩ (.slice none 0 0)).setCell ⟨db,2,none⟩ (.slice none 0 0)).setCell ⟨db,3,none⟩ (.slice (some ⟨g,0,none⟩) 2 2)).setCell ⟨db,4,none⟩ (.slice none 0 0)).setCell ⟨db,5,none⟩ (.slice Am' us'.length cm')).setCell ⟨db,6,none⟩ (.bool false)).setCell ⟨db,7,none⟩ (.int .i64 4096)).setCell ⟨db,8,none⟩ (.slice none 0 0)).setCell ⟨db,9,none⟩ (.bool false)).setCell ⟨db,10,none⟩ (.int .i8 0)).setCell ⟨db,11,none⟩ (.bool false)).setCell ⟨db,12,none⟩ (.slice none 0 0)).setCell ⟨db,13,none⟩ (.slice none 0 0)).setCell ⟨db,14,none⟩ (.slice none 0 0))=w9;have RN:=kp (show RunW w w9 db g us' pre A c Am' cm' by rw [← hw9];exact R9.out);clear hw9 R9;have R9:=RN;clear RN;have HA:=kp (answer_any successS R9.out.box R9.out.row (by have:=congrArg List.length HLe.out;have:=HO.out;simp at *;omega));clear x0 x1 x2 x3 x4 x5 x6 x7 x8 x9 x10 x11 x12 x13 x14 xf;go_wp2_with fail
   refine HA.out.mono ?_;rintro e w10 ⟨A',c',v,rfl,h1,h2,h3,h4,h5⟩;have RT:=kp (R9.out.answer h1 h2 h3 hdb h5);clear h1 h2 h3 h4 h5 HA R9;have hlp:(pre ++ [successS]).length=pre.length+1:=by simp
   go_wp2_with fail
   go_roundw
   case rel=>exact⟨p',us',rest,pre ++ [successS],A',c',Am',cm',rfl,rfl,HRe.out,by rw [← HLe.out];simp,RT.out⟩
   case measure=>simp [intOf];omega
  | @pop _ _ m x r rest hp hr hd hc hn hm hm2 hmay hrest =>
   have hn1:=rd_next hp hr;have HE:=kp (sread_any s p wr x r hp (by omega) hd hr);have HC:=kp hc;have HRe:=kp hrest;unfold ReadPost at HE;clear hr hrest hc;generalize at_ s r=p' at *;go_wp2_with fail
   refine HE.out.mono ?_;rintro e w4 ⟨A4,c4,rfl,hin,hb4⟩;have W4:=kp (HW.out.on hb4);have I4:=kp hin;clear hin hb4 HE;go_upto_region 8 with fail
   have W5:=kp (W4.out.on ((brq w4).alloc nlq (.cells #[.int .i8 x.kind,.string x.text,.slice A4 x.l.length c4] 81)));have I5:=kp (I4.out.below ((brq w4).alloc nlq (.cells #[.int .i8 x.kind,.string x.text,.slice A4 x.l.length c4] 81)));have S5:=kp (Bk.new w4 (.cells #[.int .i8 x.kind,.string x.text,.slice A4 x.l.length c4] 81));generalize w4.alloc (.cells #[.int .i8 x.kind,.string x.text,.slice A4 x.l.length c4] 81)=w5 at *;generalize w4.heap.size=sb at *;clear W4 I4 HW;have HP5:=kp (parse_cmd_any (w:=w5) (A:=A4) (c:=c4) (x:=x) I5.out.now);rw [HC.out] at HP5;unfold agS at HP5;obtain ⟨s0,s1,s2,sf⟩:=Bk.c3 S5.out;generalize x.l.length=xl at *;go_upto_region 17 with fail
   go_wp2_with fail
   refine HP5.out.mono ?_;rintro e w6 ⟨A1,c1,A2,c2,A3,c3,A5,c5,rfl,hcm,hb6⟩;have C6:=kp (show CmdAt w6 A1 c1 A2 c2 A3 c3 A5 c5 (numCmd 7 m) from hcm);have W6:=kp (W5.out.on hb6);clear hcm hb6 W5 I5 S5 HP5 s0 s1 s2 sf;rw [show(Ending.returned (.tuple #[.agg (cmdCells A1 c1 A2 c2 A3 c3 A5 c5 ((some (numCmd 7 m)).getD noCmd)).toArray,.int .i64 (if(some (numCmd 7 m)).isSome=true then 0 else 30)]):Ending)=.returned (.tuple #[cmdV A1 c1 A2 c2 A3 c3 A5 c5 7 m,.int .i64 0]) from rfl];unfold cmdV;go_upto_region 20 with fail
   have W7:=kp (W6.out.on ((brq w6).alloc nlq (.cells #[.int .i8 7,.string { data:=#[] },.int .i64 m,.slice A1 0 c1,.slice A2 0 c2,.slice A3 0 c3,.string { data:=#[] },.slice A5 0 c5] 110)));have C7:=kp (C6.out.on ((brq w6).alloc nlq (.cells #[.int .i8 7,.string { data:=#[] },.int .i64 m,.slice A1 0 c1,.slice A2 0 c2,.slice A3 0 c3,.string { data:=#[] },.slice A5 0 c5] 110)));have K7:=kp (Bk.new w6 (.cells #[.int .i8 7,.string { data:=#[] },.int .i64 m,.slice A1 0 c1,.slice A2 0 c2,.slice A3 0 c3,.string { data:=#[] },.slice A5 0 c5] 110));generalize w6.alloc (.cells #[.int .i8 7,.string { data:=#[] },.int .i64 m,.slice A1 0 c1,.slice A2 0 c2,.slice A3 0 c3,.string { data:=#[] },.slice A5 0 c5] 110)=w7 at *;generalize w6.heap.size=kb at *;clear C6 W6;have HD7:=kp (do_pop (T:=T) (m:=m) (HT.out.on W7.out.below) W7.out.tab W7.out.marks hn hm hm2 hmay C7.out);obtain ⟨y0,y1,y2,y3,y4,y5,y6,y7,yf⟩:=Bk.c8 K7.out;have XV:=W7.out.drv;unfold drvL at XV;obtain ⟨⟨x0,x1,x2,x3,x4,x5,x6,x7⟩,⟨x8,x9,x10,x11,x12,x13,x14⟩,xf⟩:=Bk.c15 XV;clear XV;unfold drvV cmdV at HD7;go_wp2_with fail
   refine HD7.out.mono ?_;rintro e w8 ⟨rfl,hb8⟩;clear x0 x1 x2 x3 x4 x5 x6 x7 x8 x9 x10 x11 x12 x13 x14 xf y0 y1 y2 y3 y4 y5 y6 y7 yf HD7 C7 K7;have R9:=kp (W7.out.store hb8 (W7.out.marks.below hb8) hdb);have XV:=Bk.on W7.out.drv hb8;unfold drvL at XV;obtain ⟨⟨x0,x1,x2,x3,x4,x5,x6,x7⟩,⟨x8,x9,x10,x11,x12,x13,x14⟩,xf⟩:=Bk.c15 XV;clear XV hb8 W7;go_upto_region 22 with fail
   generalize hw9:(((((((((((((((w8.setCell ⟨db,0,none⟩ (.slice none 0 0)).setCell ⟨db,1,none⟩ (.slice none 0 0)).setCell ⟨db,2,none⟩ (.slice none 0 0)).setCell ⟨db,3,none⟩ (.slice (some ⟨g,0,none⟩) 2 2)).setCell ⟨db,4,none⟩ (.slice none 0 0)).setCell ⟨db,5,none⟩ (.slice Am us.length cm)).setCell ⟨db,6,none⟩ (.bool false)).setCell ⟨db,7,none⟩ (.int .i64 4096)).setCell ⟨db,8,none⟩ (.slice none 0 0)).setCell ⟨db,9,none⟩ (.bool false)).setCell ⟨db,10,none⟩ (.int .i8 0)).setCell ⟨db,11,none⟩ (.bool false)).setCell ⟨db,12,none⟩ (.slice none 0 0)).setCell ⟨db,13,none⟩ (.slice none 0 0)).setCell ⟨db,14,none⟩ (.slice none 0 0))=w9;have RN:=kp (show RunW w w9 db g us pre A c Am cm by rw [← hw9];exact R9.out);clear hw9 R9;have R9:=RN;clear RN;have HA:=kp (answer_any ⟨err50.toArray⟩ R9.out.box R9.out.row (by have:=congrArg List.length HLe.out;have:=HO.out;simp at *;omega));clear x0 x1 x2 x3 x4 x5 x6 x7 x8 x9 x10 x11 x12 x13 x14 xf;go_wp2_with fail
   refine HA.out.mono ?_;rintro e w10 ⟨A',c',v,rfl,h1,h2,h3,h4,h5⟩;have RT:=kp (R9.out.answer h1 h2 h3 hdb h5);clear h1 h2 h3 h4 h5 HA R9;have hlp:(pre ++ [(⟨err50.toArray⟩:ByteArray)]).length=pre.length+1:=by simp
   go_wp2_with fail
   go_roundw
   case rel=>exact⟨p',us,rest,pre ++ [⟨err50.toArray⟩],A',c',Am,cm,rfl,rfl,HRe.out,by rw [← HLe.out];simp,RT.out⟩
   case measure=>simp [intOf];omega
end Dr
namespace Bn
open Go Go.RowKit Dt Dr Cm
def r50:ByteArray:=⟨err50.toArray⟩
theorem runA:RunP bA 0 0 [successS,r50]:=.push (by decide) rdA1 (of_decide_eq_true (by kernel_rfl)) cmd_push (by decide) (.pop (m:=2) (by decide) rdA2 (of_decide_eq_true (by kernel_rfl)) cmd_pop2 (by decide) (by decide) (by decide) may_pop2 (.nil (by decide) (by kernel_rfl)))
theorem runB:RunP bB 0 0 [r50]:=.pop (m:=1) (by decide) rdB1 (of_decide_eq_true (by kernel_rfl)) cmd_pop1 (by decide) (by decide) (by decide) may_pop1 (.nil (by decide) (by kernel_rfl))
def aheadA (p:Nat):Nat:=if p < 8 then 0 else if p < 27 then 1 else 2
def aheadB (p:Nat):Nat:=if p < 7 then 0 else 1
def exSucc:Ex:=(0,1,[115,117,99,99,101,115,115])
def exErr:Ex:=(2,2,[40,101,114,114,111,114])
theorem itemsA:itemsAt bA 0=[(0,bA.extract 0 9),(9,bA.extract 9 20),(20,bA.extract 20 28),(28,bA.extract 28 38)]:=by kernel_rfl
theorem itemsB:itemsAt bB 0=[(0,bB.extract 0 8),(8,bB.extract 8 18)]:=by kernel_rfl
theorem marksA:∀ k,k < 3->Lib.hasPrefix (Lx.bs (bA.extract 0 9)) (mark k)=false/\Lib.hasPrefix (Lx.bs (bA.extract 20 28)) (mark k)=false/\Lib.hasPrefix (Lx.bs (bB.extract 0 8)) (mark k)=false:=fun k hk=>by
 obtain rfl | rfl | rfl:k=0\/k=1\/k=2:=by omega
 all_goals exact⟨by kernel_rfl,by kernel_rfl,by kernel_rfl⟩
theorem expsA (w:World):Calls Tryz.prog 9 #[.string bA] w fun e w'=>∃ A c,e=.returned (.slice A 2 c)/\PRow valE 24 3 w.heap.size w' (.slice A 2 c) [exSucc,exErr]/\Below w.heap.size w w':=by
 have h:=expects_any bA (by decide) aheadA (fun x hx k hk hp=>by
  rw [itemsA] at hx;simp only [List.mem_cons,List.mem_nil_iff,or_false] at hx;rcases hx with rfl | rfl | rfl | rfl
  ·have:=(marksA k hk).1;dsimp only at hp;rw [this] at hp;cases hp
  ·exact⟨_,by dsimp only;rw [ahead1_at];exact seq1,rfl⟩
  ·have:=(marksA k hk).2.1;dsimp only at hp;rw [this] at hp;cases hp
  ·exact⟨_,by dsimp only;rw [ahead2_at];exact seq2,rfl⟩) w
 have e:expectsL aheadA (Lx.bs bA)=[exSucc,exErr]:=two_expects;rw [e] at h;exact h
theorem expsB (w:World):Calls Tryz.prog 9 #[.string bB] w fun e w'=>∃ A c,e=.returned (.slice A 1 c)/\PRow valE 24 3 w.heap.size w' (.slice A 1 c) [exSucc]/\Below w.heap.size w w':=by
 have h:=expects_any bB (by decide) aheadB (fun x hx k hk hp=>by
  rw [itemsB] at hx;simp only [List.mem_cons,List.mem_nil_iff,or_false] at hx;rcases hx with rfl | rfl
  ·have:=(marksA k hk).2.2;dsimp only at hp;rw [this] at hp;cases hp
  ·exact⟨_,by dsimp only;rw [ahead3_at];exact seq3,rfl⟩) w
 have e:expectsL aheadB (Lx.bs bB)=[exSucc]:=b_expects;rw [e] at h;exact h
theorem str_lies {t:TypeId} {base k c:Nat} {w:World} {A:Option Addr} {xs:List ByteArray} (h:PRow valS t 1 base w (.slice A k c) xs) (hx:∀ x ∈ xs,(x.size:Int)<=140737488351232):Lies 1 StrR w A xs:=by
 by_cases h0:0 < xs.length
 ·obtain ⟨g,rfl,_,hl,hc⟩:=h.cell valS_len h0;exact .inr ⟨g,0,rfl,hl,fun i x hx'=>⟨valS x,rfl,fun j u hu=>by rw [Nat.zero_add];exact(hc i x hx' j u hu).1,rfl,hx x (mgq hx')⟩⟩
 ·exact .inl (List.length_eq_zero_iff.1 (by omega))
theorem metA1:metI 0 1 (Lx.bs ⟨exSucc.2.2.toArray⟩) ([successS,r50].map Lx.bs)=true:=by kernel_rfl
theorem metA2:metI 2 2 (Lx.bs ⟨exErr.2.2.toArray⟩) ([successS,r50].map Lx.bs)=true:=by kernel_rfl
theorem metB1:metI 0 1 (Lx.bs ⟨exSucc.2.2.toArray⟩) ([r50].map Lx.bs)=false:=by kernel_rfl
structure ScW (nm txt:ByteArray) (w W:World) (al me at_:Int) (got:ByteArray):Prop where
 prob:W.heap[w.heap.size]?=some (.cells #[.string nm,.string txt] 31 (0,0))
 res:W.heap[w.heap.size+1]?=some (.cells #[.string { data:=#[] },.int .i64 0,.int .i64 0,.int .i64 0,.string { data:=#[] }] 54 (0,0))
 sc:W.heap[w.heap.size+1+1]?=some (.cells #[.string nm,.int .i64 al,.int .i64 me,.int .i64 at_,.string got] 54 (0,0))
 below:Below w.heap.size w W
theorem ScW.on {nm txt:ByteArray} {w W W':World} {al me at_:Int} {got:ByteArray} (h:ScW nm txt w W al me at_ got) (hb:Below W.heap.size W W'):ScW nm txt w W' al me at_ got :=
 ⟨Bk.on h.prob hb,Bk.on h.res hb,Bk.on h.sc hb,h.below.trans (hb.mono h.below.size)⟩
theorem ScW.new (nm txt:ByteArray) (w:World):ScW nm txt w (((w.alloc (.cells #[.string nm,.string txt] 31)).alloc (.cells #[.string { data:=#[] },.int .i64 0,.int .i64 0,.int .i64 0,.string { data:=#[] }] 54)).alloc (.cells #[.string nm,.int .i64 0,.int .i64 0,.int .i64 0,.string { data:=#[] }] 54)) 0 0 0 { data:=#[] }:=by
 have h1:=Bk.new w (.cells #[.string nm,.string txt] 31);have h2:=Bk.new (w.alloc (.cells #[.string nm,.string txt] 31)) (.cells #[.string { data:=#[] },.int .i64 0,.int .i64 0,.int .i64 0,.string { data:=#[] }] 54);have h3:=Bk.new ((w.alloc (.cells #[.string nm,.string txt] 31)).alloc (.cells #[.string { data:=#[] },.int .i64 0,.int .i64 0,.int .i64 0,.string { data:=#[] }] 54)) (.cells #[.string nm,.int .i64 0,.int .i64 0,.int .i64 0,.string { data:=#[] }] 54);rw [show(w.alloc (.cells #[.string nm,.string txt] 31)).heap.size=w.heap.size+1 by simp] at h2;rw [show((w.alloc (.cells #[.string nm,.string txt] 31)).alloc (.cells #[.string { data:=#[] },.int .i64 0,.int .i64 0,.int .i64 0,.string { data:=#[] }] 54)).heap.size=w.heap.size+1+1 by simp] at h3;exact⟨Bk.keep (Bk.keep h1 _) _,Bk.keep h2 _,h3,(((brq w).alloc nlq _).alloc (by simp) _).alloc (by simp;omega) _⟩
theorem ScW.all {nm txt:ByteArray} {w W:World} {al me at_:Int} {got:ByteArray} (h:ScW nm txt w W al me at_ got) (v:Int):ScW nm txt w (W.setCell ⟨w.heap.size+1+1,1,none⟩ (.int .i64 v)) v me at_ got :=
 ⟨(Below.heap_setCell W ⟨w.heap.size+1+1,1,none⟩ _ _ (by show w.heap.size≠w.heap.size+1+1;omega)).trans h.prob,(Below.heap_setCell W ⟨w.heap.size+1+1,1,none⟩ _ _ (by show w.heap.size+1≠w.heap.size+1+1;omega)).trans h.res,Bk.set_at h.sc 1 _,h.below.setCell (p:=⟨w.heap.size+1+1,1,none⟩) (by show w.heap.size<=w.heap.size+1+1;omega) _⟩
theorem ScW.met {nm txt:ByteArray} {w W:World} {al me at_:Int} {got:ByteArray} (h:ScW nm txt w W al me at_ got) (v:Int):ScW nm txt w (W.setCell ⟨w.heap.size+1+1,2,none⟩ (.int .i64 v)) al v at_ got :=
 ⟨(Below.heap_setCell W ⟨w.heap.size+1+1,2,none⟩ _ _ (by show w.heap.size≠w.heap.size+1+1;omega)).trans h.prob,(Below.heap_setCell W ⟨w.heap.size+1+1,2,none⟩ _ _ (by show w.heap.size+1≠w.heap.size+1+1;omega)).trans h.res,Bk.set_at h.sc 2 _,h.below.setCell (p:=⟨w.heap.size+1+1,2,none⟩) (by show w.heap.size<=w.heap.size+1+1;omega) _⟩
theorem ScW.first {nm txt:ByteArray} {w W:World} {al me at_:Int} {got:ByteArray} (h:ScW nm txt w W al me at_ got) (v:Int):ScW nm txt w (W.setCell ⟨w.heap.size+1+1,3,none⟩ (.int .i64 v)) al me v got :=
 ⟨(Below.heap_setCell W ⟨w.heap.size+1+1,3,none⟩ _ _ (by show w.heap.size≠w.heap.size+1+1;omega)).trans h.prob,(Below.heap_setCell W ⟨w.heap.size+1+1,3,none⟩ _ _ (by show w.heap.size+1≠w.heap.size+1+1;omega)).trans h.res,Bk.set_at h.sc 3 _,h.below.setCell (p:=⟨w.heap.size+1+1,3,none⟩) (by show w.heap.size<=w.heap.size+1+1;omega) _⟩
theorem ScW.said {nm txt:ByteArray} {w W:World} {al me at_:Int} {got:ByteArray} (h:ScW nm txt w W al me at_ got) (v:ByteArray):ScW nm txt w (W.setCell ⟨w.heap.size+1+1,4,none⟩ (.string v)) al me at_ v :=
 ⟨(Below.heap_setCell W ⟨w.heap.size+1+1,4,none⟩ _ _ (by show w.heap.size≠w.heap.size+1+1;omega)).trans h.prob,(Below.heap_setCell W ⟨w.heap.size+1+1,4,none⟩ _ _ (by show w.heap.size+1≠w.heap.size+1+1;omega)).trans h.res,Bk.set_at h.sc 4 _,h.below.setCell (p:=⟨w.heap.size+1+1,4,none⟩) (by show w.heap.size<=w.heap.size+1+1;omega) _⟩
structure ScL (nm txt:ByteArray) (w W:World) (al me at_:Int) (got:ByteArray) (outs:List ByteArray) (Ar:Option Addr) (cr:Nat) (exps:List Ex) (Ae:Option Addr) (ce:Nat):Prop where
 sc:ScW nm txt w W al me at_ got
 outs:PRow valS 9 1 (w.heap.size+1+1+1) W (.slice Ar outs.length cr) outs
 exps:PRow valE 24 3 (w.heap.size+1+1+1) W (.slice Ae exps.length ce) exps
section
variable {nm txt:ByteArray} {w W W':World} {al me at_:Int} {got:ByteArray} {outs:List ByteArray} {Ar Ae:Option Addr} {cr ce:Nat} {exps:List Ex}
theorem ScL.on (h:ScL nm txt w W al me at_ got outs Ar cr exps Ae ce) (hb:Below W.heap.size W W'):ScL nm txt w W' al me at_ got outs Ar cr exps Ae ce:=⟨h.sc.on hb,h.outs.below hb,h.exps.below hb⟩
theorem same_sc (w W:World) (o:Nat) (v:Value):SameIn (w.heap.size+1+1+1) W.heap.size W (W.setCell ⟨w.heap.size+1+1,o,none⟩ v):=SameIn.setCell _ _ _ _ _ (Or.inl (Nat.lt_succ_self _))
theorem ScL.all (h:ScL nm txt w W al me at_ got outs Ar cr exps Ae ce) (v:Int):ScL nm txt w (W.setCell ⟨w.heap.size+1+1,1,none⟩ (.int .i64 v)) v me at_ got outs Ar cr exps Ae ce:=⟨h.sc.all v,h.outs.same (same_sc _ _ _ _),h.exps.same (same_sc _ _ _ _)⟩
theorem ScL.met (h:ScL nm txt w W al me at_ got outs Ar cr exps Ae ce) (v:Int):ScL nm txt w (W.setCell ⟨w.heap.size+1+1,2,none⟩ (.int .i64 v)) al v at_ got outs Ar cr exps Ae ce:=⟨h.sc.met v,h.outs.same (same_sc _ _ _ _),h.exps.same (same_sc _ _ _ _)⟩
theorem ScL.first (h:ScL nm txt w W al me at_ got outs Ar cr exps Ae ce) (v:Int):ScL nm txt w (W.setCell ⟨w.heap.size+1+1,3,none⟩ (.int .i64 v)) al me v got outs Ar cr exps Ae ce:=⟨h.sc.first v,h.outs.same (same_sc _ _ _ _),h.exps.same (same_sc _ _ _ _)⟩
theorem ScL.said (h:ScL nm txt w W al me at_ got outs Ar cr exps Ae ce) (v:ByteArray):ScL nm txt w (W.setCell ⟨w.heap.size+1+1,4,none⟩ (.string v)) al me at_ v outs Ar cr exps Ae ce:=⟨h.sc.said v,h.outs.same (same_sc _ _ _ _),h.exps.same (same_sc _ _ _ _)⟩
end
end Bn
namespace Bn
open Go Go.RowKit Dt Dr Cm
def nmA:ByteArray:={ data:=#[97] }
def nmB:ByteArray:={ data:=#[98] }
theorem frz {α:Type} {val:α->List Value} {t:TypeId} {n base k c ge:Nat} {w:World} {A:Option Addr} {xs:List α} (h:PRow val t n base w (.slice A k c) xs) (hA:A=some ⟨ge,0,none⟩):∀ j,w.frozen? ⟨ge,j,none⟩=false:=fun j=>by
 rcases h.own.2 with⟨h1,_⟩ | ⟨g,cap,cur,h1,_,hat,_⟩
 ·rw [hA] at h1;simp at h1
 ·rw [hA] at h1;simp only [Value.slice.injEq,Option.some.injEq,Addr.mk.injEq] at h1;rw [h1.1.1];exact frozen_of_cells hat j
theorem sc_ret {w:World} {b:Nat} {v0 v1 v2 v3 v4:Value} {act:Act} {R:Ending->World->Prop} (hb:w.heap[b]?=some (.cells [v0,v1,v2,v3,v4].toArray 54 (0,0))) (h2:act.tmps[2]?=some (.pointer (some ⟨b,0,none⟩))) (hd:act.defers=[]) (hR:R (.returned (.agg #[v0,v1,v2,v3,v4])) w) :
  bodyPost Tryz.prog Tryz.f17 R .ret act w:=by
 obtain ⟨y0,y1,y2,y3,y4,_⟩:=Bk.c5 hb;refine bodyPost_ret (v:=.agg #[v0,v1,v2,v3,v4]) ?_ hd hR;simp [results,Tryz.results17,go_sem,y0,y1,y2,y3,y4,h2]
theorem score_a {T:Lib.PrintTabs} (w:World) (hT:LaidOk T w) :
  Calls Tryz.prog 17 #[.agg #[.string nmA,.string bA]] w fun e w'=>e=.returned (.agg #[.string nmA,.int .i64 2,.int .i64 2,.int .i64 0,.string { data:=#[] }])/\Below w.heap.size w w':=by
 have HT:=kp hT;clear hT;have W1:=kp (ScW.new nmA bA w);obtain ⟨txt,htxt⟩:∃ t:ByteArray,t=bA:=⟨_,rfl⟩;obtain ⟨nm,hnm⟩:∃ t:ByteArray,t=nmA:=⟨_,rfl⟩;rw [← htxt] at W1 ⊢;rw [← hnm] at W1 ⊢;have HTx:=kp htxt;clear htxt hnm
 go_enter Tryz.func17,Tryz.ntmps17
 go_upto_region 2 with fail
 generalize ((w.alloc (.cells #[.string nm,.string txt] 31)).alloc (.cells #[.string { data:=#[] },.int .i64 0,.int .i64 0,.int .i64 0,.string { data:=#[] }] 54)).alloc (.cells #[.string nm,.int .i64 0,.int .i64 0,.int .i64 0,.string { data:=#[] }] 54)=w1 at *;have HR:=kp (show Calls Tryz.prog 38 #[.string txt] w1 _ by rw [HTx.out];exact run_any (T:=T) bA (by decide) [successS,r50] (by decide) runA w1 (HT.out.on W1.out.below));obtain ⟨p0,p1,pf⟩:=Bk.c2 W1.out.prob;go_wp2_with fail
 refine HR.out.mono ?_;rintro e w2 ⟨Ar,cr,rfl,hpr,hb2⟩;have W2:=kp (W1.out.on hb2);have P2:=kp hpr;have HZ1:=kp (lt_of_block W1.out.sc);have HZ2:=kp hb2.size;clear hpr hb2 p0 p1 pf HR W1;have HE:=kp (show Calls Tryz.prog 9 #[.string txt] w2 _ by rw [HTx.out];exact expsA w2);obtain ⟨p0,p1,pf⟩:=Bk.c2 W2.out.prob;go_wp2_with fail
 refine HE.out.mono ?_;rintro e w3 ⟨Ae,ce,rfl,hpe,hb3⟩;have W3:=kp (W2.out.on hb3);have P3:=kp (P2.out.below hb3);have E3:=kp hpe;clear hpe hb3 p0 p1 pf HE W2 P2;have hz1:=HZ1.out;have hz2:=HZ2.out;have L3:=kp (show ScL nm txt w w3 0 0 0 { data:=#[] } [successS,r50] Ar cr [exSucc,exErr] Ae ce from⟨W3.out,P3.out.mono (by omega),E3.out.mono (by omega)⟩);clear HZ1 HZ2 hz1 hz2 W3 P3 E3;go_wp2_with fail
 go_loopw [18] (fun a wr=>(a=.int .i64 0/\ScL nm txt w wr 0 0 0 { data:=#[] } [successS,r50] Ar cr [exSucc,exErr] Ae ce)\/(a=.int .i64 1/\ScL nm txt w wr 1 1 0 { data:=#[] } [successS,r50] Ar cr [exSucc,exErr] Ae ce)\/(a=.int .i64 2/\ScL nm txt w wr 2 2 0 { data:=#[] } [successS,r50] Ar cr [exSucc,exErr] Ae ce)) (fun a _=>2 - (intOf a).toNat)
 case atStart=>exact .inl ⟨rfl,L3.out⟩
 case round =>
  rcases hrel with⟨rfl,hl⟩ | ⟨rfl,hl⟩ | ⟨rfl,hl⟩
  ·obtain ⟨ge,hge,_,_,hce⟩:=hl.exps.cell valE_len (by decide);obtain ⟨t,ht⟩:∃ t:ByteArray,t=⟨exSucc.2.2.toArray⟩:=⟨_,rfl⟩;have e0:wr.cell? ⟨ge,0,none⟩=some (.int .i8 0):=(hce 0 exSucc rfl 0 _ rfl).1;have e1:wr.cell? ⟨ge,1,none⟩=some (.int .i64 1):=(hce 0 exSucc rfl 1 _ rfl).1;have e2:wr.cell? ⟨ge,2,none⟩=some (.string t):=by rw [ht];exact(hce 0 exSucc rfl 2 _ rfl).1
   have f0:∀ j,wr.frozen? ⟨ge,j,none⟩=false:=frz hl.exps hge;subst hge;have HM:=kp (show metI 0 1 (Lx.bs t) ([successS,r50].map Lx.bs)=true by rw [ht];exact metA1);have L0:=kp hl;clear hce ht hl;go_upto_region 6 with fail
   have L1:=kp (L0.out.on ((brq wr).alloc nlq (.cells #[.int .i8 0,.int .i64 1,.string t] 24)));have K1:=kp (Bk.new wr (.cells #[.int .i8 0,.int .i64 1,.string t] 24));have hkb:=lt_of_block L0.out.sc.sc;generalize wr.alloc (.cells #[.int .i8 0,.int .i64 1,.string t] 24)=w4 at *;generalize wr.heap.size=kb at *;clear L0 e0 e1 e2 f0;obtain ⟨s0,s1,s2,s3,s4,sf⟩:=Bk.c5 L1.out.sc.sc;go_upto_region 7 with fail
   have L2:=kp (L1.out.all 1);have K2:=kp ((Below.heap_setCell w4 ⟨w.heap.size+1+1,1,none⟩ (.int .i64 1) kb (by show kb≠w.heap.size+1+1;omega)).trans K1.out);clear s0 s1 s2 s3 s4 sf L1 K1;generalize w4.setCell ⟨w.heap.size+1+1,1,none⟩ (.int .i64 1)=w5 at *;obtain ⟨e0,e1,e2,ef⟩:=Bk.c3 K2.out;go_wp2_with fail
   refine(met_any 0 1 (by decide) ⟨by decide,by decide⟩ t [successS,r50] Ar cr w5 (str_lies L2.out.outs (by decide)) (by decide)).mono ?_;rintro e w6 ⟨rfl,hb6⟩;rw [HM.out];have L3:=kp (L2.out.on hb6);clear L2 K2 e0 e1 e2 ef hb6 HM;obtain ⟨s0,s1,s2,s3,s4,sf⟩:=Bk.c5 L3.out.sc.sc;go_wp2_with fail
   go_roundw
   case rel=>exact .inr (.inl ⟨rfl,L3.out.met 1⟩)
   case measure=>decide
  ·obtain ⟨ge,hge,_,_,hce⟩:=hl.exps.cell valE_len (by decide);obtain ⟨t,ht⟩:∃ t:ByteArray,t=⟨exErr.2.2.toArray⟩:=⟨_,rfl⟩;have e0:wr.cell? ⟨ge,3,none⟩=some (.int .i8 2):=(hce 1 exErr rfl 0 _ rfl).1;have e1:wr.cell? ⟨ge,4,none⟩=some (.int .i64 2):=(hce 1 exErr rfl 1 _ rfl).1;have e2:wr.cell? ⟨ge,5,none⟩=some (.string t):=by rw [ht];exact(hce 1 exErr rfl 2 _ rfl).1
   have f0:∀ j,wr.frozen? ⟨ge,j,none⟩=false:=frz hl.exps hge;subst hge;have HM:=kp (show metI 2 2 (Lx.bs t) ([successS,r50].map Lx.bs)=true by rw [ht];exact metA2);have L0:=kp hl;clear hce ht hl;go_upto_region 6 with fail
   have L1:=kp (L0.out.on ((brq wr).alloc nlq (.cells #[.int .i8 2,.int .i64 2,.string t] 24)));have K1:=kp (Bk.new wr (.cells #[.int .i8 2,.int .i64 2,.string t] 24));have hkb:=lt_of_block L0.out.sc.sc;generalize wr.alloc (.cells #[.int .i8 2,.int .i64 2,.string t] 24)=w4 at *;generalize wr.heap.size=kb at *;clear L0 e0 e1 e2 f0;obtain ⟨s0,s1,s2,s3,s4,sf⟩:=Bk.c5 L1.out.sc.sc;go_upto_region 7 with fail
   have L2:=kp (L1.out.all 2);have K2:=kp ((Below.heap_setCell w4 ⟨w.heap.size+1+1,1,none⟩ (.int .i64 2) kb (by show kb≠w.heap.size+1+1;omega)).trans K1.out);clear s0 s1 s2 s3 s4 sf L1 K1;generalize w4.setCell ⟨w.heap.size+1+1,1,none⟩ (.int .i64 2)=w5 at *;obtain ⟨e0,e1,e2,ef⟩:=Bk.c3 K2.out;go_wp2_with fail
   refine(met_any 2 2 (by decide) ⟨by decide,by decide⟩ t [successS,r50] Ar cr w5 (str_lies L2.out.outs (by decide)) (by decide)).mono ?_;rintro e w6 ⟨rfl,hb6⟩;rw [HM.out];have L3:=kp (L2.out.on hb6);clear L2 K2 e0 e1 e2 ef hb6 HM;obtain ⟨s0,s1,s2,s3,s4,sf⟩:=Bk.c5 L3.out.sc.sc;go_wp2_with fail
   go_roundw
   case rel=>exact .inr (.inr ⟨rfl,L3.out.met 2⟩)
   case measure=>decide
  ·have L0:=kp hl;clear hl;obtain ⟨s0,s1,s2,s3,s4,sf⟩:=Bk.c5 L0.out.sc.sc;obtain ⟨r0,r1,r2,r3,r4,rf⟩:=Bk.c5 L0.out.sc.res;go_wp2_with fail
   have X3:=setCells_all L0.out.sc.res [.string nm,.int .i64 2,.int .i64 2,.int .i64 0,.string { data:=#[] }] rfl;exact sc_ret (w:=wr.setCells (w.heap.size+1) 0 [.string nm,.int .i64 2,.int .i64 2,.int .i64 0,.string { data:=#[] }]) X3 rfl rfl ⟨rfl,setCells_below (Nat.le_succ _) _ _ _ L0.out.sc.below⟩
end Bn
end Go.Proofs.YtmcbolkpbklfeaaGreatDoor

import Derived.Test.YtmcbolkpbklfeaaGreatDoorShort
import Derived.Test.YtmcbolkpbklfeaaGreatDoorMp
import Derived.Test.YtmcbolkpbklfeaaGreatDoorMd
import Derived.DeepKeys5
import Derived.Deep.RegionHeld3
import Derived.Test.YtmcbolkpbklfeaaGreatDoorMc
import Derived.Test.YtmcbolkpbklfeaaGreatDoorMf
import Derived.Shelf.Strconv.Quoted
/- merged by wip/merge.py from: TmNode TmEqual DrTold TmPlaces -/
set_option maxRecDepth 100000
set_option maxHeartbeats 51200000
namespace Go.Proofs.YtmcbolkpbklfeaaGreatDoor
namespace El
open Go.RowKit Go.Maps Dt Sg
def nodeV (n:Node):Value:=.agg #[.int .i8 n.op,.int .i8 n.len,.int .i64 n.a0,.int .i64 n.a1,.int .i64 n.a2,.int .i64 n.sort,.int .i64 n.fn,.int .i64 n.n]
def nodeLits (n:Node):List Lit:=[.int .i8 n.op,.int .i8 n.len,.int .i64 n.a0,.int .i64 n.a1,.int .i64 n.a2,.int .i64 n.sort,.int .i64 n.fn,.int .i64 n.n]
theorem nodeLits_inj {a b:Node} (h:nodeLits a=nodeLits b):a=b:=by
 cases a;cases b
 simp [nodeLits] at h;simp
 omega
theorem nodeV_inj (a b:Node) (h:nodeV a=nodeV b):a=b:=by
 cases a;cases b
 simp [nodeV] at h;simp
 omega
theorem node_wide:Tryz.prog.keyType 166=true:=by kernel_rfl
theorem cNode:Tryz.prog.cellsOf 166=8:=by kernel_rfl
theorem node_key:Keyed Tryz.prog 166:=Keyed.of_law (deep_law_gate laidOut (of_decide_eq_true (by kernel_rfl)) (of_decide_eq_true (by kernel_rfl)) node_wide (by kernel_rfl))
theorem node_lits {n:Node} (h:NodeI n) (m:Nat):Tryz.prog.keyLits (m+3) 166 (nodeL n)=some (nodeLits n):=by
 have c1:Tryz.prog.cellsOf 3=1:=by kernel_rfl
 have c2:Tryz.prog.cellsOf 22=1:=by kernel_rfl
 have c3:Tryz.prog.cellsOf 164=3:=by kernel_rfl
 have w0:(Lit.int .i8 n.op).wf=true:=h.op;have w1:(Lit.int .i8 n.len).wf=true:=h.len;have w2:=WalkArith.wf_i64 h.a0;have w3:=WalkArith.wf_i64 h.a1;have w4:=WalkArith.wf_i64 h.a2;have w5:=WalkArith.wf_i64 h.sort;have w6:=WalkArith.wf_i64 h.fn;have w7:=WalkArith.wf_i64 h.n;have r3:List.range 3=[0,1,2]:=rfl;unfold nodeL nodeLits;simp [Program.keyLits,Tryz.underlying166,Tryz.underlying164,Tryz.underlying3,Tryz.underlying22,cNode,c1,c2,c3,w0,w1,w2,w3,w4,w5,w6,w7,r3]
theorem formed_node (n:Node):(nodeV n).formed Tryz.prog 166=true:=by
 simp [nodeV,Value.formed,Tryz.underlying166,cNode]
theorem keyOf_node {n:Node} (h:NodeI n):∃ kl,keyOf Tryz.prog 166 (nodeV n)=some kl:=by
 obtain ⟨m,hm⟩:=many_types;unfold keyOf;simp only [Tryz.underlying166];rw [if_pos (by rw [node_wide,formed_node];rfl),hm,show(nodeV n).cells.toList=nodeL n from rfl,node_lits h m];exact⟨_,rfl⟩
theorem node_eqIn {a b:Node} (ha:NodeI a) (hb:NodeI b) (W:World):(Op.equalIn 10000 166 (nodeV a) (nodeV b)).run Tryz.prog W=.ok (decide (a=b)) W:=by
 have hk:Tryz.prog.keyTypeAt 4 166=true:=by kernel_rfl
 obtain ⟨r,h1,h2⟩:=run_equalIn_deep (P:=Tryz.prog) 9996 4 166 hk W 3 3 (nodeV a) (nodeV b) (nodeLits a) (nodeLits b) (formed_node a) (formed_node b) (node_lits ha 0) (node_lits hb 0);rw [h1]
 have:r=decide (a=b):=by
  rw [Bool.eq_iff_iff,h2,decide_eq_true_eq];exact⟨nodeLits_inj,fun e=>by rw [e]⟩
 rw [this]
theorem NodeAt.drew {w:World} {b o:Nat} {n:Node} (h:NodeAt w b o n):NodeAt w.drew b o n:=h.on (Below.refl _ _).drew
theorem eqNodes_any {w:World} {A B:Option Addr} {xs ys:List Node} (c d:Nat) (hx:Lies 8 NodeR w A xs) (hy:Lies 8 NodeR w B ys) (hl:(xs.length:Int)<=9223372036854775807) :
  Calls Tryz.prog 233 #[.slice A xs.length c,.slice B ys.length d] w fun e w'=>e=.returned (.bool (decide (xs=ys)))/\Below w.heap.size w w':=by
 have hdec:eqB xs ys=decide (xs=ys):=by rw [Bool.eq_iff_iff,eqB_true,decide_eq_true_eq]
 rw [← hdec];clear hdec
 by_cases hq:xs.length=ys.length
 ·have hq2:((xs.length:Int) != (ys.length:Int))=false:=by simp;omega
  have HE:=kp (eqB_full hq)
  go_enter Tryz.func233,Tryz.ntmps233
  go_wp2_with fail
  go_loopw [13] (fun v wr=>∃ k:Nat,k<=xs.length/\v=.int .i64 k/\xs.take k=ys.take k/\Below w.heap.size w wr) (fun v _=>xs.length - (intOf v).toNat)
  case atStart=>exact⟨0,Nat.zero_le _,rfl,by simp,Below.refl _ _⟩
  case round =>
   obtain ⟨k,hk,rfl,ht,hb⟩:=hrel;have HT:=kp ht;have HB:=kp hb;clear ht
   by_cases hlt:k < xs.length
   ·have hlt2:(k:Int) < (xs.length:Int):=by omega
    have hltm:(k:Int) < (ys.length:Int):=by omega
    obtain ⟨x,hr⟩:∃ r,xs[k]?=some r:=⟨_,gqe hlt⟩;obtain ⟨y,hqq⟩:∃ q,ys[k]?=some q:=⟨_,gqe (show k < ys.length by omega)⟩;obtain ⟨b,o,rfl,hnx,hix⟩:=node_get (hx.on NodeR.lasts hb.drew) hr;obtain ⟨b',o',rfl,hny,hiy⟩:=node_get (hy.on NodeR.lasts hb.drew) hqq;have HS:=kp (eqB_next hr hqq);have HA:=kp (fun W=>node_eqIn hix hiy W);have HNx:=kp hnx;have HNy:=kp hny;unfold nodeV at HA;clear hb hr hqq hnx hny hix hiy
    cases hab:decide (x=y) with
    | false =>
     have HN:=kp (HS.out.2 (of_decide_eq_false hab));rw [hab] at HA;have hab:=HA.out;clear HS HA;go_wp2_with fail
     refine wp_region_held_drew (S:=fun W=>NodeAt W b (o+k * 8) x/\NodeAt W b' (o'+k * 8) y) (by kernel_rfl) (⟨HNx.out,HNy.out⟩) (fun hHeld=>?_);refine plz [0,1,2,3,4,5,6,7,8] ?_;iterate 9 (refine tnz (v:=?_) ?_ ?_;rotate_left;(focus first | ((intro w hSw;go_simp;try with_reducible rfl);done) | ((intro w hSw;(obtain ⟨hbl,h0,h1,h2,h3,h4,h5,h6,h7⟩:=hSw.1;go_simp;try with_reducible rfl));done) | ((intro w hSw;(obtain ⟨hbl,h0,h1,h2,h3,h4,h5,h6,h7⟩:=hSw.2;go_simp;try with_reducible rfl));done));try simp only [pt])
     refine pzz ?_;refine dnz ?_;clear hHeld;go_wp2_with fail
     go_ret;exact⟨ret_bool HN.out.symm,HB.out.drew⟩
    | true =>
     have HN:=kp (HS.out.1 (of_decide_eq_true hab) HT.out);rw [hab] at HA;have hab:=HA.out;clear HS HA;go_wp2_with fail
     refine wp_region_held_drew (S:=fun W=>NodeAt W b (o+k * 8) x/\NodeAt W b' (o'+k * 8) y) (by kernel_rfl) (⟨HNx.out,HNy.out⟩) (fun hHeld=>?_);refine plz [0,1,2,3,4,5,6,7,8] ?_;iterate 9 (refine tnz (v:=?_) ?_ ?_;rotate_left;(focus first | ((intro w hSw;go_simp;try with_reducible rfl);done) | ((intro w hSw;(obtain ⟨hbl,h0,h1,h2,h3,h4,h5,h6,h7⟩:=hSw.1;go_simp;try with_reducible rfl));done) | ((intro w hSw;(obtain ⟨hbl,h0,h1,h2,h3,h4,h5,h6,h7⟩:=hSw.2;go_simp;try with_reducible rfl));done));try simp only [pt])
     refine pzz ?_;refine dnz ?_;clear hHeld;go_wp2_with fail
     go_roundw
     case rel=>exact⟨k+1,by omega,by go_num,HN.out,HB.out.drew⟩
     case measure=>simp [intOf];omega
   ·obtain rfl:k=xs.length:=by omega
    have HN:=kp (HE.out HT.out);clear hb;go_wp2_with fail
    go_ret;exact⟨ret_bool HN.out.symm,HB.out⟩
 ·have hq2:((xs.length:Int) != (ys.length:Int))=true:=by simp;omega
  have HN:=kp (eqB_len hq);clear hq
  go_enter Tryz.func233,Tryz.ntmps233
  go_wp2_with fail
  go_ret;exact⟨ret_bool HN.out.symm,Below.refl _ _⟩
theorem table_ret {f:Func} {w:World} {b:Nat} {r0:Value} {act:Act} {t:TypeId} {R:Ending->World->Prop} (hf:f.results=#[.cell 0 96]) (hb:w.heap[b]?=some (.cells #[r0] t (0,0))) (h2:act.tmps[0]?=some (.pointer (some ⟨b,0,none⟩))) (hd:act.defers=[]) (hR:R (.returned (.agg #[r0])) w) :
  bodyPost Tryz.prog f R .ret act w:=by
 obtain ⟨y0,_⟩:=Bk.c1 hb;refine bodyPost_ret (v:=.agg #[r0]) ?_ hd hR;simp [results,hf,go_sem,y0,h2]
theorem new_lies {w:World} {b:Nat} {t:TypeId} (h:w.heap[b]?=some (.cells (nodeL nodeTrue ++ nodeL nodeZero).toArray t (0,0))):Lies 8 NodeR w (some ⟨b,0,none⟩) newT:=by
 have hi:∀ n:Node,n=nodeTrue\/n=nodeZero->NodeI n:=fun n hn=>by rcases hn with rfl | rfl <;> exact⟨(by decide:(Lit.int .i8 _).wf=true),(by decide:(Lit.int .i8 _).wf=true),⟨by decide,by decide⟩,⟨by decide,by decide⟩,⟨by decide,by decide⟩,⟨by decide,by decide⟩,⟨by decide,by decide⟩,⟨by decide,by decide⟩⟩
 refine .inr ⟨b,0,rfl,lt_of_block h,fun i x hx=>?_⟩;have hil:i < 2:=(gqs hx).1;have:i=0\/i=1:=by omega
 rcases this with rfl | rfl
 ·obtain rfl:nodeTrue=x:=by simpa [newT] using hx
  refine⟨nodeL nodeTrue,rfl,fun j u hu=>?_,rfl,hi _ (.inl rfl)⟩;rw [Nat.zero_mul,Nat.add_zero,Nat.zero_add,cell_of_cells h j];have hj:=(gqs hu).1;simp only [List.getElem?_toArray];rw [List.getElem?_append_left hj];exact hu
 ·obtain rfl:nodeZero=x:=by simpa [newT] using hx
  refine⟨nodeL nodeZero,rfl,fun j u hu=>?_,rfl,hi _ (.inr rfl)⟩;rw [show 0+1 * 8+j=8+j by omega,cell_of_cells h (8+j)];simp only [List.getElem?_toArray];rw [List.getElem?_append_right (by show(nodeL nodeTrue).length<=8+j;show 8<=8+j;omega),show 8+j - (nodeL nodeTrue).length=j by show 8+j - 8=j;omega];exact hu
theorem tnew_any (w:World):Calls Tryz.prog 69 #[] w fun e w'=>∃ g,e=.returned (.agg #[.slice (some ⟨g,0,none⟩) 2 2])/\w.heap.size<=g/\w'.heap[g]?=some (.cells (nodeL nodeTrue ++ nodeL nodeZero).toArray 166 (0,0))/\Below w.heap.size w w':=by
 go_enter Tryz.func69,Tryz.ntmps69
 go_wp2_with fail
 have hz:(w.alloc (.cells #[.slice (some ⟨w.heap.size+1,0,none⟩) 2 2] 96)).heap.size=w.heap.size+1:=by simp
 have NB:=Bk.new (w.alloc (.cells #[.slice (some ⟨w.heap.size+1,0,none⟩) 2 2] 96)) (.cells (nodeL nodeTrue ++ nodeL nodeZero).toArray 166);rw [hz] at NB
 exact table_ret (w:=(w.alloc (.cells #[.slice (some ⟨w.heap.size+1,0,none⟩) 2 2] 96)).alloc (.cells (nodeL nodeTrue ++ nodeL nodeZero).toArray 166)) (b:=w.heap.size) (r0:=.slice (some ⟨w.heap.size+1,0,none⟩) 2 2) Tryz.results69 (Bk.keep (Bk.new w _) _) rfl rfl
  ⟨w.heap.size+1,rfl,by omega,NB,((brq w).alloc nlq _).alloc (by simp) _⟩
end El
namespace Dr
open Go Go.RowKit Dt El
structure LaidOk (T:Lib.PrintTabs) (w:World):Prop where
 tab:TabOk w
 prints:Lib.PrintTabsAt 6 7 8 9 T w
 utf8:Lib.Utf8Tabs 1 2 w
theorem LaidOk.on {T:Lib.PrintTabs} {w w':World} (h:LaidOk T w) (hb:Below w.heap.size w w'):LaidOk T w':=⟨h.tab.on hb,printTabs_below h.prints hb,Utf8Tabs_below h.utf8 hb⟩
theorem told_50 {T:Lib.PrintTabs} {w:World} (h:LaidOk T w):Calls Tryz.prog 51 #[.int .i64 50] w fun e w'=>e=.returned (.string ⟨Bn.err50.toArray⟩)/\Below w.heap.size w w':=by
 have HI:=kp (fun W=>(Tryz.strconv_Itoa_small 50 (by decide) W).mono (R':=fun e w'=>e=.returned (.string ⟨#[53,48]⟩)/\w'=W) (fun e w' h=>⟨by rw [h.1,Bn.digits_50],h.2⟩));have HQ:=kp ((Tryz.strconv_Quote T ⟨#[53,48]⟩ w (by decide) h.prints h.utf8).mono (R':=fun e w'=>e=.returned (.string ⟨#[34,53,48,34]⟩)/\Below w.heap.size w w') (fun e w' h=>⟨by rw [h.1,Bn.quote_50],h.2⟩));clear h
 go_enter Tryz.func51,Tryz.ntmps51
 go_wp2_with (go_at_call 18;refine(HI.out _).mono ?_;rintro e w2 ⟨rfl,rfl⟩)
 refine HQ.out.mono ?_;rintro e w2 ⟨rfl,hb⟩;have HB:=kp hb;clear hb;go_wp2_with fail
 go_ret;exact⟨rfl,HB.out⟩
def drvL (g:Nat) (mk:Value):List Value:=[.slice none 0 0,.slice none 0 0,.slice none 0 0,.slice (some ⟨g,0,none⟩) 2 2,.slice none 0 0,mk,.bool false,.int .i64 4096,.slice none 0 0,.bool false,.int .i8 0,.bool false,.slice none 0 0,.slice none 0 0,.slice none 0 0]
def drvV (g:Nat) (mk:Value):Value:=.agg #[.slice none 0 0,.slice none 0 0,.slice none 0 0,.slice (some ⟨g,0,none⟩) 2 2,.slice none 0 0,mk,.bool false,.int .i64 4096,.slice none 0 0,.bool false,.int .i8 0,.bool false,.slice none 0 0,.slice none 0 0,.slice none 0 0]
def TabAt (w:World) (g:Nat):Prop:=w.heap[g]?=some (.cells (nodeL nodeTrue ++ nodeL nodeZero).toArray 166 (0,0))
theorem new_ret {w:World} {b g:Nat} {mk:Value} {act:Act} {R:Ending->World->Prop} (hb:w.heap[b]?=some (.cells (drvL g mk).toArray 106 (0,0))) (h2:act.tmps[0]?=some (.pointer (some ⟨b,0,none⟩))) (hd:act.defers=[]) (hR:R (.returned (drvV g mk)) w) :
  bodyPost Tryz.prog Tryz.f53 R .ret act w:=by
 unfold drvL at hb;obtain ⟨⟨y0,y1,y2,y3,y4,y5,y6,y7⟩,⟨y8,y9,y10,y11,y12,y13,y14⟩,_⟩:=Bk.c15 hb;refine bodyPost_ret (v:=drvV g mk) ?_ hd hR;simp [results,Tryz.results53,go_sem,drvV,y0,y1,y2,y3,y4,y5,y6,y7,y8,y9,y10,y11,y12,y13,y14,h2]
theorem dnew_any (w:World):Calls Tryz.prog 53 #[] w fun e w'=>∃ g,e=.returned (drvV g (.slice none 0 0))/\w.heap.size<=g/\TabAt w' g/\Below w.heap.size w w':=by
 have X1:=kp (Bk.new w (.cells #[.slice none 0 0,.slice none 0 0,.slice none 0 0,.slice none 0 0,.slice none 0 0,.slice none 0 0,.bool false,.int .i64 0,.slice none 0 0,.bool false,.int .i8 0,.bool false,.slice none 0 0,.slice none 0 0,.slice none 0 0] 106));have B1:=kp ((brq w).alloc nlq (.cells #[.slice none 0 0,.slice none 0 0,.slice none 0 0,.slice none 0 0,.slice none 0 0,.slice none 0 0,.bool false,.int .i64 0,.slice none 0 0,.bool false,.int .i8 0,.bool false,.slice none 0 0,.slice none 0 0,.slice none 0 0] 106))
 go_enter Tryz.func53,Tryz.ntmps53
 go_upto_region 1 with fail
 generalize w.alloc _=w1 at *;go_wp2_with fail
 refine(tnew_any w1).mono ?_;rintro e w2 ⟨g,rfl,hg,hat,hb⟩;have X2:=kp (Bk.on X1.out hb);have HT:=kp hat;have B2:=kp (B1.out.trans (hb.mono B1.out.size));have hz1:=lt_of_block X1.out;obtain ⟨⟨x0,x1,x2,x3,x4,x5,x6,x7⟩,⟨x8,x9,x10,x11,x12,x13,x14⟩,xf⟩:=Bk.c15 X2.out;have hz:=B1.out.size;clear hat hb;go_wp2_with fail
 have X3:=setCells_all X2.out (drvL g (.slice none 0 0)) rfl;exact new_ret (w:=w2.setCells w.heap.size 0 (drvL g (.slice none 0 0))) X3 rfl rfl ⟨g,rfl,by omega,(setCells_other (by omega) _ _ _).trans HT.out,setCells_below nlq _ _ _ B2.out⟩
end Dr
namespace El
open Go.RowKit Go.Maps Dt Sg
def lastTo (t:List Node):Nat->Node->Option Value
 | 0,_=>none
 | k+1,x=>match t[k]? with
  | some n=>if x=n then some (.int .i64 (k:Int)) else lastTo t k x
  | none=>lastTo t k x
def cntN (t:List Node):Nat->Nat
 | 0=>0
 | k+1=>match t[k]? with
  | some n=>if(lastTo t k n).isSome then cntN t k else cntN t k+1
  | none=>cntN t k
theorem last_succ {t:List Node} {k:Nat} {n:Node} (h:t[k]?=some n) (x:Node):(if x=n then some (Value.int .i64 (k:Int)) else lastTo t k x)=lastTo t (k+1) x:=by
 conv=>rhs;unfold lastTo
 rw [h]
theorem cntN_succ {t:List Node} {k:Nat} {n:Node} (h:t[k]?=some n):(if(lastTo t k n).isSome then cntN t k else cntN t k+1)=cntN t (k+1):=by
 conv=>rhs;unfold cntN
 rw [h]
theorem last_mem {t:List Node} {x:Node}:∀ {k:Nat},k<=t.length->((lastTo t k x).isSome=true ↔ x ∈ t.take k)
 | 0,_=>by simp [lastTo]
 | k+1,hk=>by
  have hn:=gqe (show k < t.length by omega);have e0:t.take (k+1)=t.take k ++ [t[k]]:=by rw [List.take_add_one,hn];rfl
  rw [← last_succ hn,e0,List.mem_append];have ih:=last_mem (t:=t) (x:=x) (k:=k) (by omega)
  split
  ·rename_i e;subst e;simp
  ·rename_i e
   rw [ih];simp [e]
theorem cntN_le (t:List Node):∀ k,cntN t k<=k
 | 0=>nlq
 | k+1=>by
  have:=cntN_le t k;unfold cntN
  split
  ·split <;> omega
  ·omega
theorem cntN_once {t:List Node}:∀ {k:Nat},k<=t.length->(cntN t k=k ↔ (t.take k).Nodup)
 | 0,_=>by simp [cntN]
 | k+1,hk=>by
  have hn:=gqe (show k < t.length by omega);have ih:=cntN_once (t:=t) (k:=k) (by omega);have hle:=cntN_le t k;have hm:=last_mem (t:=t) (x:=t[k]) (k:=k) (by omega);rw [← cntN_succ hn,List.take_add_one,hn];show _ ↔ (t.take k ++ [t[k]]).Nodup;rw [List.nodup_append]
  split
  ·rename_i h
   constructor
   ·intro e;omega
   ·intro e;exact absurd rfl (e.2.2 _ (hm.1 h) _ (by simp))
  ·rename_i h
   constructor
   ·intro e;refine⟨ih.1 (by omega),by simp,fun a ha b hb=>?_⟩;simp at hb;subst hb;intro e2;subst e2;exact h (hm.2 ha)
   ·intro e;have:=ih.2 e.1
    omega
theorem cntN_all (t:List Node):((cntN t t.length:Int) == (t.length:Int))=decide t.Nodup:=by
 rw [Bool.eq_iff_iff,decide_eq_true_eq];have:=cntN_once (t:=t) (k:=t.length) nlq;rw [List.take_length] at this;rw [← this];simp only [beq_iff_eq]
 omega
theorem run_makeMap_n (n:Nat) (W:World):(Instr.makeMap 331 (some (.int .i64 (n:Int)))).run Tryz.prog W=.ok (.map (some W.heap.size)) (W.alloc (.map #[] 0)):=by
 simp [Instr.makeMap,run_underlying Tryz.underlying331,asInt,go_sem]
def PlacesPost (t:List Node) (w:World) (e:Ending) (w':World):Prop:=∃ bm,e=.returned (.tuple #[.map (some bm),.bool (decide t.Nodup)])/\KeyMapN 166 nodeV w' bm t.length (cntN t t.length) (lastTo t t.length)/\Below w.heap.size w w'/\w.heap.size<=bm
theorem places_any {w:World} {A:Option Addr} {c:Nat} {t:List Node} (h:Lies 8 NodeR w A t) (hl:(t.length:Int)<=1000000) :
  Calls Tryz.prog 235 #[.agg #[.slice A t.length c]] w (PlacesPost t w):=by
 have HL:=kp (fun W (hW:Below w.heap.size w W) k n (hn:t[k]?=some n)=>node_get (h.on NodeR.lasts hW) hn);have TB:=kp (Bk.new w (.cells #[.slice A t.length c] 96));have B1:=kp ((brq w).alloc nlq (.cells #[.slice A t.length c] 96));have HP:=kp (fun bm w' e (h0:e=Ending.returned (.tuple #[.map (some bm),.bool (decide t.Nodup)])) h1 h2 h3=>(show PlacesPost t w e w' from⟨bm,h0,h1,h2,h3⟩));have HO:=kp (cntN_all t);have HIs:=kp (fun k n hn x=>last_succ (t:=t) (k:=k) (n:=n) hn x);have HCs:=kp (fun k n hn=>cntN_succ (t:=t) (k:=k) (n:=n) hn);have hmm:=run_makeMap_n t.length;clear h
 go_enter Tryz.func235,Tryz.ntmps235
 go_upto_region 1 with fail
 have HM0:=kp (KeyMapN.made (kt:=166) (key:=nodeV) (w.alloc (.cells #[.slice A t.length c] 96)));have HB0:=kp (B1.out.alloc B1.out.size (.map #[] 0));have TB0:=kp (Bk.keep TB.out (.map #[] 0));have HZ:=kp (show w.heap.size < (w.alloc (.cells #[.slice A t.length c] 96)).heap.size by simp);generalize w.alloc (.cells #[.slice A t.length c] 96)=w1 at *;obtain ⟨q0,qf⟩:=Bk.c1 TB.out;go_upto_region 2 with fail
 clear q0 qf;have HZ':=kp HZ.out;generalize w1.heap.size=bm at *;generalize w1.alloc (.map #[] 0)=w2 at *;obtain ⟨q0,qf⟩:=Bk.c1 TB0.out;go_wp2_with fail
 clear q0 qf
 go_loopw [14] (fun v wr=>∃ k:Nat,k<=t.length/\v=.int .i64 k/\Below w.heap.size w wr/\wr.heap[w.heap.size]?=some (.cells #[.slice A t.length c] 96 (0,0))/\KeyMapN 166 nodeV wr bm k (cntN t k) (lastTo t k)) (fun v _=>t.length - (intOf v).toNat)
 case atStart=>exact⟨0,by omega,rfl,HB0.out,TB0.out,HM0.out⟩
 case round =>
  obtain ⟨k,hk,rfl,hb,htb,hm⟩:=hrel;have HB:=kp hb;have HTb:=kp htb;have HM:=kp hm;clear hb hm htb HM0 hmm HB0 TB0 TB B1
  by_cases hlk:k < t.length
  ·have hlk2:(k:Int) < (t.length:Int):=by omega
   obtain ⟨n,hn⟩:∃ n,t[k]?=some n:=⟨_,gqe hlk⟩;obtain ⟨b,o,rfl,hat,hi⟩:=HL.out wr HB.out k n hn;have HI:=kp hi;obtain ⟨kl,hkl⟩:=keyOf_node hi;have HKl:=kp hkl;have HCs':=kp (HCs.out k n hn);have HIs':=kp (HIs.out k n hn);have NB:=kp (Bk.new wr (.cells #[.int .i8 n.op,.int .i8 n.len,.int .i64 n.a0,.int .i64 n.a1,.int .i64 n.a2,.int .i64 n.sort,.int .i64 n.fn,.int .i64 n.n] 166));have HB2:=kp (HB.out.alloc HB.out.size (.cells #[.int .i8 n.op,.int .i8 n.len,.int .i64 n.a0,.int .i64 n.a1,.int .i64 n.a2,.int .i64 n.sort,.int .i64 n.fn,.int .i64 n.n] 166));have HM2:=kp (HM.out.below ((brq wr).alloc nlq (.cells #[.int .i8 n.op,.int .i8 n.len,.int .i64 n.a0,.int .i64 n.a1,.int .i64 n.a2,.int .i64 n.sort,.int .i64 n.fn,.int .i64 n.n] 166)));have HT2:=kp (Bk.keep HTb.out (.cells #[.int .i8 n.op,.int .i8 n.len,.int .i64 n.a0,.int .i64 n.a1,.int .i64 n.a2,.int .i64 n.sort,.int .i64 n.fn,.int .i64 n.n] 166));obtain ⟨hbl,h0,h1,h2,h3,h4,h5,h6,h7⟩:=hat;clear hn hi hkl;go_upto_region 5 with fail
   clear h0 h1 h2 h3 h4 h5 h6 h7;generalize hnb:wr.heap.size=nb at *;generalize wr.alloc (.cells #[.int .i8 n.op,.int .i8 n.len,.int .i64 n.a0,.int .i64 n.a1,.int .i64 n.a2,.int .i64 n.sort,.int .i64 n.fn,.int .i64 n.n] 166)=w4 at *;obtain ⟨h0,h1,h2,h3,h4,h5,h6,h7,hf⟩:=Bk.c8 (show w4.heap[nb]?=some (.cells #[.int .i8 n.op,.int .i8 n.len,.int .i64 n.a0,.int .i64 n.a1,.int .i64 n.a2,.int .i64 n.sort,.int .i64 n.fn,.int .i64 n.n] 166 (0,0)) from NB.out);obtain ⟨w5,hup,hm5,hg5⟩:=HM2.out.store node_key nodeV_inj Tryz.underlying331 (by unfold maxLen;omega) HKl.out (.int .i64 (k:Int));have HM5:=kp (hm5.imp HCs'.out HIs'.out);have HB5:=kp (HB2.out.grown hg5 HB2.out.size (fun j hj=>by simp at hj;have:=HZ'.out;omega));have HT5:=kp ((hg5.block _ (lt_of_block HT2.out) (fun e=>by simp at e;have:=HZ'.out;omega)).trans HT2.out);unfold nodeV at hup;clear hnb hm5 hg5;go_wp2_with fail
   go_roundw
   case rel=>exact⟨k+1,by omega,by go_num,HB5.out,HT5.out,HM5.out⟩
   case measure=>simp [intOf];omega
  ·obtain rfl:k=t.length:=by omega
   go_wp2_with fail
   refine wp_region_held_drew (S:=fun W=>W.heap[w.heap.size]?=some (.cells #[.slice A t.length c] 96 (0,0))/\KeyMapN 166 nodeV W bm t.length (cntN t t.length) (lastTo t t.length)) (by kernel_rfl) (⟨HTb.out,HM.out.below (Below.refl _ _).drew⟩) (fun hHeld=>?_);refine plz [0,1,2,3,4,5,6,7,8] ?_;iterate 9 (refine tnz (v:=?_) ?_ ?_;rotate_left;(focus first | ((intro w hSw;go_simp;try with_reducible rfl);done) | ((intro w hSw;have hL:=fun ty=>hSw.2.len Tryz.underlying331 ty;clear hSw;simp [execOp,resolve,invoke,builtin,Act.eval,hL,Result.andThen];rfl);done) | ((intro w hSw;(obtain ⟨h0,hf⟩:=Bk.c1 hSw.1;go_simp;try with_reducible rfl));done));try simp only [pt])
   refine pzz ?_;refine dnz ?_;clear hHeld;go_wp2_with fail
   have HB4:=kp (HB.out.trans ((brq wr).drew.mono HB.out.size));have HM4:=kp (HM.out.below (Below.refl _ _).drew);go_ret2;exact HP.out _ _ _ (by rw [HO.out];rfl) HM4.out HB4.out (by have:=HZ'.out;omega)
end El
end Go.Proofs.YtmcbolkpbklfeaaGreatDoor

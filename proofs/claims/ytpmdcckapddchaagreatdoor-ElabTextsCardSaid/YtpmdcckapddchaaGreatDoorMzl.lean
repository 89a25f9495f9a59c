import Derived.Test.YtpmdcckapddchaaGreatDoorShort
import Derived.Test.YtpmdcckapddchaaGreatDoorMx
import Derived.Test.YtpmdcckapddchaaGreatDoorMzk
import Derived.Test.YtpmdcckapddchaaGreatDoorMb
import Derived.Lib.ItoaMem
import Derived.Test.YtpmdcckapddchaaGreatDoorMc
import Derived.Test.YtpmdcckapddchaaGreatDoorMzf
/- merged by wip/merge.py from: ElWri3 ElWri4 RWri RWri2 -/
set_option maxRecDepth 100000
set_option maxHeartbeats 51200000
namespace Go.Proofs.YtpmdcckapddchaaGreatDoor
namespace El
open Go.RowKit Dt Sg
structure WrF (W0:World) (B b gb tb:Nat) (A2 At:Option Addr) (c2 ct:Nat) (g:Sig) (t:List Node):Prop where
 gbox:W0.cell? ⟨gb,1,none⟩=some (.slice A2 g.funs.length c2)
 gl:gb < W0.heap.size
 tbox:W0.cell? ⟨tb,0,none⟩=some (.slice At t.length ct)
 tl:tb < W0.heap.size
 funs:Lies 6 FunR W0 A2 g.funs
 nodes:Lies 8 NodeR W0 At t
 ok:tableE g t=0
 hB:W0.heap.size<=B
 tab:∀ u,Below W0.heap.size W0 u->TabOk u
 small:t.length<=1000000
 names:∀ f ∈ g.funs,(f.name.size:Int)<=140737488351232
def PutK (W0:World) (B b gb tb:Nat) (g:Sig) (t:List Node) (k:Nat):Prop:=∀ (w:World) (l:List UInt8),Below W0.heap.size W0 w->EW B b (.pointer (some ⟨gb,0,none⟩)) (.pointer (some ⟨tb,0,none⟩)) l w->l.length+(exprX g t k).textL.length<=140737488355328 ->
 Calls Tryz.prog 21 #[.pointer (some ⟨b,0,none⟩),.int .i64 k] w (PutE B b (.pointer (some ⟨gb,0,none⟩)) (.pointer (some ⟨tb,0,none⟩)) (l ++ (exprX g t k).textL) w)
theorem own_on {w w':World} {s n:Nat} {e:TypeId} {v:Value} {xs:List Value} (h:w.ownsRow s e 1 v n xs) (hb:Below w.heap.size w w'):w'.ownsRow s e 1 v n xs:=by
 refine⟨h.1,?_⟩;rcases h.2 with h1 | ⟨g,cap,cur,h1,h2,h3,h4⟩
 ·exact .inl h1
 ·exact .inr ⟨g,cap,cur,h1,h2,(hb.block g (lt_of_block h3)).trans h3,h4⟩
theorem AL.keep {s0 b:Nat} {w wr w2 w3:World} {al:List Int} {rv:Value} {vs:List Value} (h:AL s0 b w al wr rv vs) (hb:Below wr.heap.size wr w2) (hg:w2.grownBy w3 rv.ownBlock):Box1 w3 (s0+1) rv 98:=by
 have hl:=lt_of_block h.ab;unfold Box1;rw [hg.block _ (Nat.lt_of_lt_of_le hl hb.size) (fun e=>?_),hb.block _ hl]
 ·exact h.ab
 ·rcases h.own.2 with⟨hv,_⟩ | ⟨g,cap,cur,hv,_,hbk,_⟩
  ·rw [hv] at e;cases e
  ·rw [hv] at e;have e2:s0+1=g:=by simpa [Value.ownBlock] using e
   have h1:=h.ab;unfold Box1 at h1;rw [← e2,h1] at hbk;simp at hbk
theorem EW.block {B b:Nat} {x y:Value} {l:List UInt8} {w:World} (h:EW B b x y l w):∃ cs z,w.heap[b]?=some (.cells cs 70 z):=by
 rcases h with⟨_,v,hb,_⟩ | ⟨_,v,hb,_⟩
 ·exact⟨_,_,hb⟩
 ·exact⟨_,_,hb⟩
def argTexts (g:Sig) (t:List Node) (n:Node):List (List UInt8):=(argsOf n).map fun a=>(exprX g t a).textL
theorem argTexts_gaps (g:Sig) (t:List Node) (n:Node):Sexp.restsL ((argsOf n).map (exprX g t))=gaps (argTexts g t n):=by
 rw [rests_gaps,List.map_map]
 rfl
theorem AL.writes {W0 w wr:World} {B b gb tb:Nat} {A2 At:Option Addr} {c2 ct:Nat} {g:Sig} {t:List Node} (hF:WrF W0 B b gb tb A2 At c2 ct g t) {k:Nat} (ih:∀ j,j < k->PutK W0 B b gb tb g t j) (hb0:Below W0.heap.size W0 w) {n:Node} {rv:Value} {vs:List Value} {l:List UInt8} (hA:AL w.heap.size b w (argsOf n) wr rv vs)
  (hE:EW B b (.pointer (some ⟨gb,0,none⟩)) (.pointer (some ⟨tb,0,none⟩)) l wr) (hargs:∀ a ∈ argsOf n,0<=a/\a < k) (hbw:b < w.heap.size) :
  ∀ i (hi:i < vs.length) (hT:i < (argTexts g t n).length),Writes B b (.pointer (some ⟨gb,0,none⟩)) (.pointer (some ⟨tb,0,none⟩)) vs[i] (argTexts g t n)[i] wr:=by
 intro i hi hT;obtain ⟨bi,e1,e2⟩:=hA.fs i hi;have hTl:i < (argsOf n).length:=by simpa [argTexts] using hT
 have hT2:(argTexts g t n)[i]=(exprX g t (argsOf n)[i]).textL:=by simp [argTexts]
 have ha:=hargs _ (List.getElem_mem hTl);have hg:(argsOf n).getD i 0=(argsOf n)[i]:=by rw [List.getD_eq_getElem?_getD,gqe hTl];rfl
 rw [hg] at e2;rw [hT2];generalize (argsOf n)[i]=a at *;obtain ⟨j,rfl⟩:∃ j:Nat,a=(j:Int):=⟨a.toNat,by omega⟩;refine⟨_,_,_,.inl rfl,e1,fun l' u hu hw hlen=>?_⟩;obtain ⟨cs,z,hbk⟩:=hE.block
 have hne:bi≠b:=fun e=>by
  unfold Box1 at e2;rw [e,hbk] at e2;simp at e2
 refine wrput1_any (hu.keep _ _ _ _ hne e2 (by decide)) (hu.keep _ _ _ _ (by omega) hA.wb (by decide)) ?_;exact ih j (by omega) u l' ((hb0.trans (hA.below.mono hb0.size)).trans (hu.below.mono hF.hB)) hw hlen
theorem stands_kind {n:Node} {a:Int} (h:standsN n a=true):(n.op=0\/n.op=10\/n.op=11\/n.op=12\/n.op=13\/(1<=n.op/\n.op<=9))/\(n.op=11->n.len=1):=by
 unfold standsN at h
 cases ha:arityN n.op with
 | none=>rw [ha] at h;cases h
 | some q =>
  obtain ⟨lo,hi⟩:=q;rw [ha] at h;simp only [Bool.and_eq_true,decide_eq_true_eq,Bool.or_eq_true] at h;obtain ⟨⟨⟨⟨⟨⟨⟨hlen,hsort⟩,a0⟩,a1⟩,a2⟩,hfn⟩,hf13⟩,hnum⟩:=h;unfold arityN at ha
  repeat' split at ha
  all_goals first
   | (cases ha;done)
   | (simp only [Option.some.injEq,Prod.mk.injEq] at ha;omega)
theorem name_at (q:Nat) (h1:1<=q) (h9:q<=9):(#[Value.string { data:=#[116,114,117,101] },.string { data:=#[110,111,116] },.string { data:=#[97,110,100] },.string { data:=#[111,114] },.string { data:=#[120,111,114] },.string { data:=#[61,62] },.string { data:=#[61] },.string { data:=#[105,116,101] },.string { data:=#[60,61] },.string { data:=#[60] },.string { data:=#[] },.string { data:=#[] },.string { data:=#[] },.string { data:=#[] }]:Array Value)[q]?=some (.string (opName q)):=by
 have hc:q=1\/q=2\/q=3\/q=4\/q=5\/q=6\/q=7\/q=8\/q=9:=by omega
 rcases hc with rfl | rfl | rfl | rfl | rfl | rfl | rfl | rfl | rfl <;> rfl
theorem PartsR.on {B b:Nat} {w w':World} {A:Option Addr} {vs:List Value} (h:PartsR b w A vs) (hw:Wr B b w w'):PartsR b w' A vs:=by
 rcases h with h | ⟨ba,cs,z,hA,hn,hb,ht⟩
 ·exact .inl h
 ·exact .inr ⟨ba,cs,z,hA,hn,hw.keep _ _ _ _ hn hb (by decide),ht⟩
theorem info_fn:(Tryz.prog.info? 1).map (fun i=>(i.zero,i.size,i.bytes))=some (some .nilFunc,1,8):=by kernel_rfl
theorem put_step {W0:World} {B b gb tb:Nat} {A2 At:Option Addr} {c2 ct:Nat} {g:Sig} {t:List Node} (hF:WrF W0 B b gb tb A2 At c2 ct g t) {k:Nat} (hk:k < t.length) (ih:∀ j,j < k->PutK W0 B b gb tb g t j):PutK W0 B b gb tb g t k:=by
 intro w l hb hw hlen;obtain ⟨n,hn⟩:∃ n,t[k]?=some n:=⟨_,gqe hk⟩;have hok:=node_ok (table_node hF.ok hn).1;have HKi:=kp (stands_kind (table_node hF.ok hn).1);obtain ⟨nb,no,hAt,hna,hni⟩:=node_get hF.nodes hn;subst hAt;obtain ⟨m,hm⟩:∃ m:Nat,n.len=(m:Int):=⟨n.len.toNat,by have:=hok.len;omega⟩;have hm3:m<=3:=by have:=hok.len;omega
 have HX:=kp (exprX_eq (g:=g) (ahead_of hF.ok) hn);have HN:=kp (fun u (hu:Below W0.heap.size W0 u)=>hna.on hu);have HTb:=kp (fun u (hu:Below W0.heap.size W0 u)=>(hu.cell (p:=⟨tb,0,none⟩) hF.tl).trans hF.tbox);have HOk:=kp hok;have HNi:=kp hni;have HAf:=kp (fun h13=>app_fun hF.ok hn h13);have HSo:=kp (table_node hF.ok hn).2;have HF:=kp hF;have HIh:=kp ih;have HLen:=kp hlen;have HW:=kp hw;have HB0:=kp hb;have hm128:(m:Int) < 128:=by omega
 have hm3i:(m:Int)<=3:=by omega
 have hm0:(0:Int)<=(m:Int):=by omega
 have hsb:W0.heap.size<=w.heap.size:=hb.size;have hmf:∀ (fn:Fn) (first cap:Array Value) (w:World),(Instr.makeFunc fn first cap).run Tryz.prog w=.ok (.func fn first cap) w:=fun _ _ _ _=>rfl;obtain ⟨i0,hi,hz0,hz1,hz2⟩:=info_parts info_fn;have B1:=kp ((brq w).alloc nlq (.cells #[.pointer (some ⟨b,0,none⟩)] 62));have S1:=kp (heap_alloc_new w (.cells #[.pointer (some ⟨b,0,none⟩)] 62));have Z1:=kp (show(w.alloc (.cells #[.pointer (some ⟨b,0,none⟩)] 62)).heap.size=w.heap.size+1 by simp);clear hF ih hlen hw hb hok hna hn hni
 go_enter Tryz.func21,Tryz.ntmps21
 go_upto_region 1 with fail
 generalize w.alloc (.cells #[.pointer (some ⟨b,0,none⟩)] 62)=w1 at *;have q1:w1.cell? ⟨w.heap.size,0,none⟩=some (.pointer (some ⟨b,0,none⟩)):=by rw [cell_of_cells S1.out];rfl
 obtain ⟨x1,x2⟩:=(HW.out.below B1.out).cells;have x3:=HTb.out w1 (HB0.out.trans (B1.out.mono hsb));have hkl:(k:Int) < (t.length:Int):=by omega
 go_upto_region 2 with fail
 clear q1 x1 x2 x3;have B2:=kp (B1.out.trans ((brq w1).alloc nlq (.cells #[.slice none 0 0] 98) |>.mono B1.out.size));have S2:=kp (heap_alloc_new w1 (.cells #[.slice none 0 0] 98));have T2:=kp ((Lib.alloc_old w1 (.cells #[.slice none 0 0] 98) _ (lt_of_block S1.out)).trans S1.out);have Z2:=kp (show(w1.alloc (.cells #[.slice none 0 0] 98)).heap.size=w.heap.size+2 by simp [Z1.out]);go_upto_region 3 with fail
 rw [Z1.out] at *;generalize w1.alloc (.cells #[.slice none 0 0] 98)=w2 at *;obtain ⟨_,_,d1,_⟩:=HN.out w2 (HB0.out.trans (B2.out.mono hsb));rw [hm] at d1;refine wp_region_held_drew (S:=fun W=>W.cell? ⟨nb,no+k * 8+1,none⟩=some (.int .i8 (m:Int))) (by kernel_rfl) (d1) (fun hHeld=>?_);refine plz [0,1,2,3,4,5,6,7,8,9] ?_;iterate 10 (refine tnz (v:=?_) ?_ ?_;rotate_left;(focus (intro w hSw;go_simp;try with_reducible rfl));try simp only [pt])
 refine pzz ?_;refine dnz ?_;clear hHeld d1;go_wp2_with fail
 have A0:=kp (show AL w.heap.size b w (argsOf n) w2.drew (.slice none 0 0) [] from⟨B2.out.drew,by show w.heap.size+1 < w2.heap.size;have:=Z2.out;omega,T2.out,S2.out,World.ownsRow_nil _ _ _ _,fun k h=>by simp at h⟩);clear B2 S2 T2 Z2 B1 S1 Z1;generalize w2.drew=w3 at *
 go_loopw [28] (fun v wr=>∃ j:Nat,j<=m/\v=.int .i64 j/\∃ rv vs,vs.length=j/\AL w.heap.size b w (argsOf n) wr rv vs) (fun v _=>m - (intOf v).toNat)
 case atStart=>exact⟨0,Nat.zero_le _,rfl,_,_,rfl,A0.out⟩
 case round =>
  obtain ⟨j,hj,rfl,rv,vs,hvs,hA⟩:=hrel;have AR:=kp hA;have z5:=hA.ab.cell;have zb:=hA.big
  by_cases hlt:j < m
  ·have hlt2:(j:Int) < (m:Int):=by omega
   have HG:=kp (args_get HOk.out (i:=j) (by rw [hm];exact hlt2))
   have ca:wr.cell? ⟨nb,no+k * 8+2+j,none⟩=some (.int .i64 (n.arg j)):=by
    obtain ⟨_,_,_,a0,a1,a2,_⟩:=HN.out wr (HB0.out.trans (hA.below.mono hsb));have hc:j=0\/j=1\/j=2:=by omega
    rcases hc with rfl | rfl | rfl
    ·exact a0
    ·exact a1
    ·exact a2
   generalize n.arg j=aj at HG ca;have Hn:=kp (heap_alloc_new wr (.cells #[.int .i64 aj] 3));have Hb:=kp ((brq wr).alloc nlq (.cells #[.int .i64 aj] 3));have hHz:wr.heap.size < (wr.alloc (.cells #[.int .i64 aj] 3)).heap.size:=by simp
   have HOw:=kp hA.own;clear hA;go_upto_region 6 with fail
   generalize wr.alloc (.cells #[.int .i64 aj] 3)=wa at *;have y5:wa.cell? ⟨w.heap.size+1,0,none⟩=some rv:=(Hb.out.cell (p:=⟨w.heap.size+1,0,none⟩) zb).trans z5;have HOa:=kp (own_on HOw.out Hb.out);clear z5 ca HOw
   go_wp2_with (at_builtin;refine wpList_append_own _ rfl _ _ 98 rfl w.heap.size 1 i0 .nilFunc 1 8 Tryz.underlying98 hi hz0 hz1 hz2 rfl (by decide) _ _ _ rfl (HOa.out.alloc _) ⟨wa.heap.size,0,none⟩ 1 1 [.func (.func 40) #[] #[.pointer (some ⟨w.heap.size,0,none⟩),.pointer (some ⟨wr.heap.size,0,none⟩)]] rfl rfl ?c1 ?c2 ?c3 ?c4 ?c5 ?_)
   case c1 =>
    intro j u hj
    match j,hj with
    | 0,hj=>simp at hj;subst hj;simp [Addr.add]
   case c2=>intro u hu;simp at hu;subst hu;rfl
   case c3=>unfold maxLen;omega
   case c4=>omega
   case c5=>simp;omega
   intro v' w5 hown hgrow _
   obtain ⟨ao,nx,cap,rfl⟩:∃ ao nx cap,v'=.slice ao nx cap:=by
    rcases hown.2 with⟨hv,_⟩ | ⟨g,cap,cur,hv,_⟩
    ·exact⟨_,_,_,hv⟩
    ·exact⟨_,_,_,hv⟩
   have Ha:=kp (Hb.out.trans ((brq wa).alloc nlq (.cells #[.func (.func 40) #[] #[.pointer (some ⟨w.heap.size,0,none⟩),.pointer (some ⟨wr.heap.size,0,none⟩)]] 1) |>.mono Hb.out.size));have Hna:=kp (show Box1 (wa.alloc (.cells #[.func (.func 40) #[] #[.pointer (some ⟨w.heap.size,0,none⟩),.pointer (some ⟨wr.heap.size,0,none⟩)]] 1)) wr.heap.size (.int .i64 aj) 3 from(Lib.alloc_old wa _ _ hHz).trans Hn.out);have AN:=kp (AR.out.push (a:=aj) (by rw [hvs,List.getD_eq_getElem?_getD,HG.out];rfl) Ha.out Hna.out (by rw [hvs];exact hown) hgrow);have hk5:=AR.out.keep Ha.out hgrow;have d5:=hk5.cell;have f5:w5.frozen? ⟨w.heap.size+1,0,none⟩=false:=Lib.frozen_of_heap hk5 0;clear hown hgrow hk5;go_wp2_with fail
   go_roundw
   case rel=>exact⟨j+1,by omega,by go_num,_,_,by rw [List.length_append,hvs];rfl,AN.out⟩
   case measure=>simp [intOf];omega
  ·obtain rfl:j=m:=by omega
   have hbs:b < w.heap.size:=HW.out.lt.1;obtain ⟨A,c,rfl,hpr⟩:=hA.row hbs;have E0:=HW.out.below hA.below;have HP:=kp (hA.writes HF.out HIh.out HB0.out E0 (fun a ha=>args_mem HOk.out ha) hbs);have HPr:=kp hpr;have HLv:=kp (show(argTexts g t n).length=vs.length by unfold argTexts;rw [List.length_map,args_len HOk.out,hm,hvs];rfl);have HE:=kp E0;have HR:=kp ((Wr.refl B b w).of hA.below (by have:=HW.out.lt;omega));rw [hvs] at z5;have zt:=hA.wb.cell;have hnm:=heap_alloc_new wr (.cells #[.string { data:=#[116,114,117,101] },.string { data:=#[110,111,116] },.string { data:=#[97,110,100] },.string { data:=#[111,114] },.string { data:=#[120,111,114] },.string { data:=#[61,62] },.string { data:=#[61] },.string { data:=#[105,116,101] },.string { data:=#[60,61] },.string { data:=#[60] },.string { data:=#[] },.string { data:=#[] },.string { data:=#[] },.string { data:=#[] }] 99);clear hpr E0;have HNm:=kp hnm;have HR4:=kp (HR.out.alloc (by have:=HW.out.lt;have:=hA.below.size;omega) (.cells #[.string { data:=#[116,114,117,101] },.string { data:=#[110,111,116] },.string { data:=#[97,110,100] },.string { data:=#[111,114] },.string { data:=#[120,111,114] },.string { data:=#[61,62] },.string { data:=#[61] },.string { data:=#[105,116,101] },.string { data:=#[60,61] },.string { data:=#[60] },.string { data:=#[] },.string { data:=#[] },.string { data:=#[] },.string { data:=#[] }] 99))
   have HE4:=kp (HE.out.below ((brq wr).alloc nlq (.cells #[.string { data:=#[116,114,117,101] },.string { data:=#[110,111,116] },.string { data:=#[97,110,100] },.string { data:=#[111,114] },.string { data:=#[120,111,114] },.string { data:=#[61,62] },.string { data:=#[61] },.string { data:=#[105,116,101] },.string { data:=#[60,61] },.string { data:=#[60] },.string { data:=#[] },.string { data:=#[] },.string { data:=#[] },.string { data:=#[] }] 99)));have HW4:=kp ((Wr.refl B b wr).alloc (by have:=HW.out.lt;have:=hA.below.size;omega) (.cells #[.string { data:=#[116,114,117,101] },.string { data:=#[110,111,116] },.string { data:=#[97,110,100] },.string { data:=#[111,114] },.string { data:=#[120,111,114] },.string { data:=#[61,62] },.string { data:=#[61] },.string { data:=#[105,116,101] },.string { data:=#[60,61] },.string { data:=#[60] },.string { data:=#[] },.string { data:=#[] },.string { data:=#[] },.string { data:=#[] }] 99));have Z4:=kp (show(wr.alloc (.cells #[.string { data:=#[116,114,117,101] },.string { data:=#[110,111,116] },.string { data:=#[97,110,100] },.string { data:=#[111,114] },.string { data:=#[120,111,114] },.string { data:=#[61,62] },.string { data:=#[61] },.string { data:=#[105,116,101] },.string { data:=#[60,61] },.string { data:=#[60] },.string { data:=#[] },.string { data:=#[] },.string { data:=#[] },.string { data:=#[] }] 99)).heap.size=wr.heap.size+1 by simp)
   have HWb:=kp hA.wb;have HAb:=kp hA.ab;clear hA hnm zt z5;go_upto_region 9 with fail
   generalize wr.alloc (.cells #[.string { data:=#[116,114,117,101] },.string { data:=#[110,111,116] },.string { data:=#[97,110,100] },.string { data:=#[111,114] },.string { data:=#[120,111,114] },.string { data:=#[61,62] },.string { data:=#[61] },.string { data:=#[105,116,101] },.string { data:=#[60,61] },.string { data:=#[60] },.string { data:=#[] },.string { data:=#[] },.string { data:=#[] },.string { data:=#[] }] 99)=w4 at *;have HU:=kp (HB0.out.trans ((HR4.out.below).mono HF.out.hB));have HNa:=kp (HN.out w4 HU.out);have zt:w4.cell? ⟨w.heap.size,0,none⟩=some (.pointer (some ⟨b,0,none⟩)):=by have h:=HW4.out.keep _ _ _ _ (by omega) HWb.out (by decide);exact Box1.cell h
   have z5:w4.cell? ⟨w.heap.size+1,0,none⟩=some (.slice A j c):=by have h:=HW4.out.keep _ _ _ _ (by omega) HAb.out (by decide);rw [hvs] at h;exact Box1.cell h
   obtain ⟨_,o0,o1,_,_,_,_,o6,o7⟩:=HNa.out;rw [hm] at o1;have hNo:n.len=(j:Int):=hm
   have HC0:=kp (fun W (hW:Wr B b w4 W)=>(show W.cell? ⟨w.heap.size,0,none⟩=some (.pointer (some ⟨b,0,none⟩))/\W.cell? ⟨w.heap.size+1,0,none⟩=some (.slice A j c)/\NodeAt W nb (no+k * 8) n from
    ⟨Box1.cell ((HW4.out.trans hW).keep _ _ _ _ (by omega) HWb.out (by decide)),by have h:=(HW4.out.trans hW).keep _ _ _ _ (by omega) HAb.out (by decide);rw [hvs] at h;exact Box1.cell h,HN.out W (HU.out.trans (hW.below.mono HF.out.hB))⟩))
   have HPw:=kp (fun W (hW:Wr B b w4 W) i hi hT=>(HP.out i hi hT).on (HW4.out.trans hW));have HNum:=kp (fun(n':Int) (hm':mayB n'=true) (h64:I64 n') (u:World) (hu:Below w4.heap.size w4 u)=>wrnum_full (B:=B) (b:=b) (x:=.pointer (some ⟨gb,0,none⟩)) (y:=.pointer (some ⟨tb,0,none⟩)) (w:=u) hm' h64 (fun v hv=>HF.out.tab v (HU.out.trans ((hu.mono (by have:=HU.out.size;have:=HF.out.hB;have:=HE4.out.lt;omega)).trans (hv.mono HF.out.hB)))) HE4.out.lt.2 (by have:=HE4.out.lt;have:=hu.size;omega));have HTe:=kp (show(exprX g t k).textL=(exprN g n ((argsOf n).map (exprX g t))).textL by rw [HX.out]);have HBw:=kp (show B<=w4.heap.size by have:=HE4.out.lt;omega);have HSt:=kp (fun(s:ByteArray) (u:World) (hu:Below w4.heap.size w4 u) (h:l.length+s.size<=140737488355328)=>e_wstr_any B b l s u (HE4.out.below hu) h (by have:=HBw.out;have:=hu.size;omega));have HFr:=kp (fun u (hu:Below w4.heap.size w4 u)=>HR4.out.of hu HBw.out);have HLi:=kp (fun(name:ByteArray) (u:World) (A':Option Addr) (c':Nat) (vs':List Value) (Ts:List (List UInt8)) (hu:Below w4.heap.size w4 u)=>wrlist_any (w:=u) (A:=A') (c:=c') (vs:=vs') (Ts:=Ts) name (HE4.out.below hu));have HKi':=HKi.out;clear hNo HX HKi HIh;rcases HKi'.1 with h0 | h0 | h0 | h0 | h0 | h0
   ·rw [text_true h0] at HTe;rw [HTe.out] at HLen;rw [h0] at o0;have HS:=kp (HSt.out { data:=#[116,114,117,101] } w4 (Below.refl _ _) HLen.out);rw [show Lx.bs { data:=#[116,114,117,101] }=[116,114,117,101] by decide] at HS;clear HKi' o1 o6 o7 z5;go_wp2_with fail
    refine HS.out.mono ?_;rintro e w6 ⟨rfl,h6,hb6⟩;have HZ:=kp (And.intro h6 (HR4.out.trans hb6));clear h6 hb6;go_wp2_with fail
    go_end0
    exact⟨rfl,by rw [HTe.out];exact HZ.out⟩
   ·rw [text_num h0] at HTe;rw [HTe.out] at HLen;rw [h0] at o0
    have HC:=kp (fun W (hW:Wr B b w4 W)=>(show W.cell? ⟨w.heap.size,0,none⟩=some (.pointer (some ⟨b,0,none⟩))/\W.cell? ⟨w.heap.size+1,0,none⟩=some (.slice A j c)/\W.cell? ⟨nb,no+k * 8+7,none⟩=some (.int .i64 n.n)/\True from by
     obtain ⟨y1,y2,_,y3,y4,_,_,_,_,y5,y6⟩:=HC0.out W hW;exact⟨y1,y2,y6,trivial⟩))
    have HM:=kp (HNum.out n.n (HOk.out.num (.inl h0)) HNi.out.n w4.drew ((brq w4).drew));clear HKi' o1 o6 o7 z5;go_upto_region 14 with fail
    refine wp_region_held_drew (S:=fun W=>Wr B b w4 W) (by kernel_rfl) ((Wr.refl B b w4).drew) (fun hHeld=>?_);refine plz [0,1,2,3,4] ?_;iterate 5 (refine tnz (v:=?_) ?_ ?_;rotate_left;(focus (intro w hSw;(obtain ⟨z1,z2,z3,z4⟩:=HC.out _ hSw;go_simp;try with_reducible rfl)));try simp only [pt])
    refine pzz ?_;refine rd 5 fun K hK=>?_;go_simp
    go_wp2_with (go_at_call 42;refine HM.out.mono ?_;rintro e w5 ⟨c1,c2,rfl,hb5,hr5⟩)
    refine hK.out _ _ ((Wr.refl B b w4).of ((brq w4).drew.trans hb5) HBw.out) (fun hHeld=>?_);clear hK K;try simp only [pt]
    have HH5:=kp hHeld;have HQ:=kp (hr5 l w5 (Wr.refl B b w5) (HE4.out.below ((brq w4).drew.trans hb5)) HLen.out);clear hr5 hb5;refine rd 6 fun K hK=>?_;go_simp
    go_wp2_with (go_at_call 75;refine HQ.out.mono ?_;rintro e w6 ⟨rfl,h6,hb6⟩)
    refine hK.out _ _ (HH5.out.trans hb6) (fun hHeld=>?_);clear hK K;try simp only [pt]
    refine dnz ?_;have HZ:=kp (And.intro h6 (HR4.out.trans (HH5.out.trans hb6)));clear hHeld h6 hb6;go_wp2_with fail
    go_end0
    exact⟨rfl,by rw [HTe.out];exact HZ.out⟩
   ·have hl1:=HKi'.2 h0;obtain rfl:j=1:=by omega
    obtain ⟨v0,rfl⟩:∃ v0,vs=[v0]:=by
     match vs,hvs with
     | [x],_=>exact⟨x,rfl⟩
    obtain ⟨T0,hT0⟩:∃ T0,argTexts g t n=[T0]:=by
     have h:=HLv.out
     match hh:argTexts g t n,h with
     | [x],_=>exact⟨x,rfl⟩
    have HPw0:=kp (fun W (hW:Wr B b w4 W)=>(show Writes B b (.pointer (some ⟨gb,0,none⟩)) (.pointer (some ⟨tb,0,none⟩)) v0 T0 W from by have h:=HPw.out W hW 0 (by simp) (by rw [hT0];simp);simpa [hT0] using h));obtain ⟨ba,hA0,_⟩:=HPr.out.get HW4.out (k:=0) (by simp);subst hA0
    have HC:=kp (fun W (hW:Wr B b w4 W)=>(show W.cell? ⟨w.heap.size,0,none⟩=some (.pointer (some ⟨b,0,none⟩))/\W.cell? ⟨w.heap.size+1,0,none⟩=some (.slice (some ⟨ba,0,none⟩) 1 c)/\W.cell? ⟨nb,no+k * 8+7,none⟩=some (.int .i64 n.n)/\W.cell? ⟨ba,0,none⟩=some v0 from by
     obtain ⟨y1,y2,_,y3,y4,_,_,_,_,y5,y6⟩:=HC0.out W hW;obtain ⟨ba',e1,e2⟩:=HPr.out.get (HW4.out.trans hW) (k:=0) (by simp);simp only [Option.some.injEq,Addr.mk.injEq,and_true] at e1;subst e1;exact⟨y1,y2,y6,e2⟩))
    have hnum:=HOk.out.num (.inr (.inl h0));have hmb:=mayB_iff.1 hnum;obtain ⟨fk,k1,k2,hfk,rfl,_⟩:=HPw0.out w4 (Wr.refl B b w4);have HV0:=kp (show(Value.func (.func fk) #[] #[k1,k2]).oneCell'=true from rfl);rw [h0] at o0;clear o1 o6 z5 zt HKi'
    by_cases hn0:n.n < 0
    ·have e0:decide (n.n < 0)=true:=decide_eq_true hn0;rw [text_sub h0 hn0,argTexts_gaps,hT0] at HTe;rw [HTe.out] at HLen;have hmN:mayB (-n.n)=true:=mayB_iff.2 (by omega);have h64:I64 (-n.n):=⟨by omega,by omega⟩;have HM:=kp (HNum.out (-n.n) hmN h64 w4.drew ((brq w4).drew));have hnt:(numX (-n.n)).textL=Lib.itoa (-n.n):=by rw [num_text,if_neg (by omega)]
     rw [hnt] at HM;have HWp:=kp (show IntKind.i64.wrap (-n.n)=-n.n from IntWalk.i64_in _ (by omega));clear hT0 hnum hnt;go_upto_region 17 with fail
     refine wp_region_held_drew (S:=fun W=>Wr B b w4 W) (by kernel_rfl) ((Wr.refl B b w4).drew) (fun hHeld=>?_);refine plz [0,1,2,3,4,5,6,7,8,9] ?_;iterate 10 (refine tnz (v:=?_) ?_ ?_;rotate_left;(focus (intro w hSw;(obtain ⟨z1,z2,z3,z4⟩:=HC.out _ hSw;go_simp;try with_reducible rfl)));try simp only [pt])
     refine pzz ?_;refine rd 10 fun K hK=>?_;go_simp
     go_wp2_with (go_at_call 42;rw [HWp.out];refine HM.out.mono ?_;rintro e w5 ⟨c1,c2,rfl,hb5,hr5⟩)
     refine hK.out _ _ ((Wr.refl B b w4).of ((brq w4).drew.trans hb5) HBw.out) (fun hHeld=>?_);clear hK K;try simp only [pt]
     have HB5:=kp ((brq w4).drew.trans hb5);have HR5:=kp hr5;have Hz5:=kp (show B<=w5.heap.size by have h1:=HBw.out;have h2:w4.heap.size<=w5.heap.size:=HB5.out.size;omega);have HH6:=kp (hHeld.alloc Hz5.out (.cells #[.func (.func fk) #[] #[k1,k2],.func (.func 75) #[] #[c1,c2]] 1));have HL:=kp (HLi.out ({ data:=#[45] }:ByteArray) (w5.alloc (.cells #[.func (.func fk) #[] #[k1,k2],.func (.func 75) #[] #[c1,c2]] 1)) (some ⟨w5.heap.size,0,none⟩) 2 [.func (.func fk) #[] #[k1,k2],.func (.func 75) #[] #[c1,c2]] [T0,Lib.itoa (-n.n)] (HB5.out.alloc HB5.out.size _) (.inr ⟨_,_,_,rfl,by have h1:=HE4.out.lt;have h2:w4.heap.size<=w5.heap.size:=HB5.out.size;omega,heap_alloc_new w5 _,rfl⟩) rfl (by simp) ?hp ?hl)
     case hp =>
      intro i hi hT
      match i,hi with
      | 0,_=>exact HPw0.out _ HH6.out
      | 1,_=>exact⟨_,_,_,.inr (.inr rfl),rfl,fun l' u hu=>HR5.out l' u (((Wr.refl B b w5).alloc Hz5.out _).trans hu)⟩
     case hl=>have h:=HLen.out;simp only [gaps,List.flatMap_cons,List.flatMap_nil,List.length_append,List.length_cons,List.length_nil] at h ⊢;have:(({ data:=#[45] }:ByteArray):ByteArray).size=1:=rfl;omega
     clear hr5 hb5;refine rd 11 fun K hK=>?_;go_simp;refine hK.out _ _ (HH6.out) (fun hHeld=>?_);clear hK K;try simp only [pt]
     refine rd 12 fun K hK=>?_;go_simp
     go_wp2_with (go_at_call 43;refine HL.out.mono ?_;rintro e w6 ⟨rfl,h6,hb6⟩)
     refine hK.out _ _ (HH6.out.trans hb6) (fun hHeld=>?_);clear hK K;try simp only [pt]
     refine dnz ?_;have HZ:=kp (And.intro h6 (HR4.out.trans (HH6.out.trans hb6)));clear hHeld h6 hb6;go_wp2_with fail
     go_end0
     refine⟨rfl,?_⟩;rw [HTe.out];have h:=HZ.out;have hbn:Lx.bs ({ data:=#[45] }:ByteArray)=[45]:=by decide
     rw [hbn] at h
     simpa [gaps] using h
    ·have e0:decide (n.n < 0)=false:=dfq hn0;rw [text_add h0 hn0,argTexts_gaps,hT0] at HTe;rw [HTe.out] at HLen;have HM:=kp (HNum.out n.n hnum HNi.out.n w4.drew ((brq w4).drew));have hnt:(numX n.n).textL=Lib.itoa n.n:=by rw [num_text,if_neg hn0]
     rw [hnt] at HM;clear hT0 hnum hnt;go_upto_region 18 with fail
     refine wp_region_held_drew (S:=fun W=>Wr B b w4 W) (by kernel_rfl) ((Wr.refl B b w4).drew) (fun hHeld=>?_);refine plz [0,1,2,3,4,5,6,7,8] ?_;iterate 9 (refine tnz (v:=?_) ?_ ?_;rotate_left;(focus (intro w hSw;(obtain ⟨z1,z2,z3,z4⟩:=HC.out _ hSw;go_simp;try with_reducible rfl)));try simp only [pt])
     refine pzz ?_;refine rd 9 fun K hK=>?_;go_simp
     go_wp2_with (go_at_call 42;refine HM.out.mono ?_;rintro e w5 ⟨c1,c2,rfl,hb5,hr5⟩)
     refine hK.out _ _ ((Wr.refl B b w4).of ((brq w4).drew.trans hb5) HBw.out) (fun hHeld=>?_);clear hK K;try simp only [pt]
     have HB5:=kp ((brq w4).drew.trans hb5);have HR5:=kp hr5;have Hz5:=kp (show B<=w5.heap.size by have h1:=HBw.out;have h2:w4.heap.size<=w5.heap.size:=HB5.out.size;omega);have HH6:=kp (hHeld.alloc Hz5.out (.cells #[.func (.func fk) #[] #[k1,k2],.func (.func 75) #[] #[c1,c2]] 1));have HL:=kp (HLi.out ({ data:=#[43] }:ByteArray) (w5.alloc (.cells #[.func (.func fk) #[] #[k1,k2],.func (.func 75) #[] #[c1,c2]] 1)) (some ⟨w5.heap.size,0,none⟩) 2 [.func (.func fk) #[] #[k1,k2],.func (.func 75) #[] #[c1,c2]] [T0,Lib.itoa n.n] (HB5.out.alloc HB5.out.size _) (.inr ⟨_,_,_,rfl,by have h1:=HE4.out.lt;have h2:w4.heap.size<=w5.heap.size:=HB5.out.size;omega,heap_alloc_new w5 _,rfl⟩) rfl (by simp) ?hp ?hl)
     case hp =>
      intro i hi hT
      match i,hi with
      | 0,_=>exact HPw0.out _ HH6.out
      | 1,_=>exact⟨_,_,_,.inr (.inr rfl),rfl,fun l' u hu=>HR5.out l' u (((Wr.refl B b w5).alloc Hz5.out _).trans hu)⟩
     case hl=>have h:=HLen.out;simp only [gaps,List.flatMap_cons,List.flatMap_nil,List.length_append,List.length_cons,List.length_nil] at h ⊢;have:(({ data:=#[43] }:ByteArray):ByteArray).size=1:=rfl;omega
     clear hr5 hb5;refine rd 10 fun K hK=>?_;go_simp;refine hK.out _ _ (HH6.out) (fun hHeld=>?_);clear hK K;try simp only [pt]
     refine rd 11 fun K hK=>?_;go_simp
     go_wp2_with (go_at_call 43;refine HL.out.mono ?_;rintro e w6 ⟨rfl,h6,hb6⟩)
     refine hK.out _ _ (HH6.out.trans hb6) (fun hHeld=>?_);clear hK K;try simp only [pt]
     refine dnz ?_;have HZ:=kp (And.intro h6 (HR4.out.trans (HH6.out.trans hb6)));clear hHeld h6 hb6;go_wp2_with fail
     go_end0
     refine⟨rfl,?_⟩;rw [HTe.out];have h:=HZ.out;have hbn:Lx.bs ({ data:=#[43] }:ByteArray)=[43]:=by decide
     rw [hbn] at h
     simpa [gaps] using h
   ·rw [text_diff h0,argTexts_gaps] at HTe;rw [HTe.out] at HLen;rw [h0] at o0
    have HC:=kp (fun W (hW:Wr B b w4 W)=>(show W.cell? ⟨w.heap.size,0,none⟩=some (.pointer (some ⟨b,0,none⟩))/\W.cell? ⟨w.heap.size+1,0,none⟩=some (.slice A j c)/\W.cell? ⟨nb,no+k * 8+7,none⟩=some (.int .i64 n.n)/\True from by
     obtain ⟨y1,y2,_,y3,y4,_,_,_,_,y5,y6⟩:=HC0.out W hW;exact⟨y1,y2,y6,trivial⟩))
    have HM:=kp (HNum.out n.n (HOk.out.num (.inr (.inr h0))) HNi.out.n w4.drew ((brq w4).drew))
    have HPw0:=kp (fun W (hW:Wr B b w4 W)=>(show Writes B b (.pointer (some ⟨gb,0,none⟩)) (.pointer (some ⟨tb,0,none⟩)) (.func (.func 44) #[] #[.pointer (some ⟨w.heap.size,0,none⟩),.pointer (some ⟨w.heap.size+1,0,none⟩)]) (40 :: ([45] ++ gaps (argTexts g t n) ++ [41])) W from
     ⟨_,_,_,.inr (.inl rfl),rfl,fun l' u hu hw' hlen'=>wrput2_any (by have h:=(HW4.out.trans (hW.trans hu)).keep _ _ _ _ (by omega) HAb.out (by decide);exact h) (by have h:=(HW4.out.trans (hW.trans hu)).keep _ _ _ _ (by omega) HWb.out (by decide);exact h)
      (by
       have h:=wrlist_any (c:=c) { data:=#[45] } hw' (HPr.out.on (HW4.out.trans (hW.trans hu))) HLv.out (by omega) (fun i hi hT=>HPw.out _ (hW.trans hu) i hi hT) (by have h1:=hlen';simp only [List.length_append,List.length_cons,List.length_nil] at h1 ⊢;have:(({ data:=#[45] }:ByteArray)).size=1:=rfl;omega);exact h)⟩))
    clear HKi' o1 o6 o7 z5;go_upto_region 20 with fail
    refine wp_region_held_drew (S:=fun W=>Wr B b w4 W) (by kernel_rfl) ((Wr.refl B b w4).drew) (fun hHeld=>?_);refine plz [0,1,2,3,4,5,6] ?_;iterate 7 (refine tnz (v:=?_) ?_ ?_;rotate_left;(focus (intro w hSw;(obtain ⟨z1,z2,z3,z4⟩:=HC.out _ hSw;go_simp;try with_reducible rfl)));try simp only [pt])
    refine pzz ?_;refine rd 7 fun K hK=>?_;go_simp
    go_wp2_with (go_at_call 42;refine HM.out.mono ?_;rintro e w5 ⟨c1,c2,rfl,hb5,hr5⟩)
    refine hK.out _ _ ((Wr.refl B b w4).of ((brq w4).drew.trans hb5) HBw.out) (fun hHeld=>?_);clear hK K;try simp only [pt]
    have HB5:=kp ((brq w4).drew.trans hb5);have HR5:=kp hr5;have Hz5:=kp (show B<=w5.heap.size by have h1:=HBw.out;have h2:w4.heap.size<=w5.heap.size:=HB5.out.size;omega);have HH6:=kp (hHeld.alloc Hz5.out (.cells #[.func (.func 44) #[] #[.pointer (some ⟨w.heap.size,0,none⟩),.pointer (some ⟨w.heap.size+1,0,none⟩)],.func (.func 75) #[] #[c1,c2]] 1));have HL:=kp (HLi.out ({ data:=#[60,61] }:ByteArray) (w5.alloc (.cells #[.func (.func 44) #[] #[.pointer (some ⟨w.heap.size,0,none⟩),.pointer (some ⟨w.heap.size+1,0,none⟩)],.func (.func 75) #[] #[c1,c2]] 1)) (some ⟨w5.heap.size,0,none⟩) 2 [.func (.func 44) #[] #[.pointer (some ⟨w.heap.size,0,none⟩),.pointer (some ⟨w.heap.size+1,0,none⟩)],.func (.func 75) #[] #[c1,c2]] [40 :: ([45] ++ gaps (argTexts g t n) ++ [41]),(numX n.n).textL] (HB5.out.alloc HB5.out.size _) (.inr ⟨_,_,_,rfl,by have h1:=HE4.out.lt;have h2:w4.heap.size<=w5.heap.size:=HB5.out.size;omega,heap_alloc_new w5 _,rfl⟩) rfl (by simp) ?hp ?hl)
    case hp =>
     intro i hi hT
     match i,hi with
     | 0,_=>exact HPw0.out _ HH6.out
     | 1,_=>exact⟨_,_,_,.inr (.inr rfl),rfl,fun l' u hu=>HR5.out l' u (((Wr.refl B b w5).alloc Hz5.out _).trans hu)⟩
    case hl=>have h:=HLen.out;simp only [gaps,List.flatMap_cons,List.flatMap_nil,List.length_append,List.length_cons,List.length_nil] at h ⊢;have:(({ data:=#[60,61] }:ByteArray):ByteArray).size=2:=rfl;omega
    clear hr5 hb5;refine rd 8 fun K hK=>?_;go_simp;refine hK.out _ _ (HH6.out) (fun hHeld=>?_);clear hK K;try simp only [pt]
    refine rd 9 fun K hK=>?_;go_simp
    go_wp2_with (go_at_call 43;refine HL.out.mono ?_;rintro e w6 ⟨rfl,h6,hb6⟩)
    refine hK.out _ _ (HH6.out.trans hb6) (fun hHeld=>?_);clear hK K;try simp only [pt]
    refine dnz ?_;have HZ:=kp (And.intro h6 (HR4.out.trans (HH6.out.trans hb6)));clear hHeld h6 hb6;go_wp2_with fail
    go_end0
    refine⟨rfl,?_⟩;rw [HTe.out];have h:=HZ.out;have hbn:Lx.bs ({ data:=#[60,61] }:ByteArray)=[60,61]:=by decide
    rw [hbn] at h
    simpa [gaps] using h
   ·obtain ⟨r,f,hr,hf,_⟩:=HAf.out h0;have hrl:=(gqs hf).1;have hrl2:(r:Int) < (g.funs.length:Int):=by omega
    have hfn:funName g n.fn=f.name:=by unfold funName;rw [hr,Int.toNat_natCast,hf];rfl
    have HQt:=kp (fun W=>Lx.quote_any f.name W (HF.out.names f (mgq hf)));obtain ⟨fb,fo,hfa,hfc,_⟩:=fun_get HF.out.funs hf
    have HC:=kp (fun W (hW:Below w4.heap.size w4 W)=>(show W.cell? ⟨w.heap.size,0,none⟩=some (.pointer (some ⟨b,0,none⟩))/\W.cell? ⟨b,2,none⟩=some (.pointer (some ⟨gb,0,none⟩))/\W.cell? ⟨gb,1,none⟩=some (.slice (some ⟨fb,fo,none⟩) g.funs.length c2)/\W.cell? ⟨nb,no+k * 8+6,none⟩=some (.int .i64 (r:Int))/\W.cell? ⟨fb,fo+r * 6,none⟩=some (.string f.name)/\W.cell? ⟨nb,no+k * 8+1,none⟩=some (.int .i8 (j:Int)) from by
     have hW0:=HU.out.trans (hW.mono (by have:=HBw.out;have:=HF.out.hB;omega));obtain ⟨y1,y2,_,y3,y4,_,_,_,_,y5,y6⟩:=HC0.out W ((Wr.refl B b w4).of hW HBw.out);exact⟨y1,(HE4.out.below hW).cells.1,by rw [← hfa];exact(hW0.cell (p:=⟨gb,1,none⟩) HF.out.gl).trans HF.out.gbox,by rw [← hr];exact y5,(hW0.cell (p:=⟨fb,fo+r * 6,none⟩) hfc.1).trans hfc.2.1,by rw [← hm];exact y4⟩))
    rw [h0] at o0;clear hfc hfa HKi' o1 o6 o7 z5 zt;go_upto_region 22 with fail
    refine wp_region_held_drew (S:=fun W=>Below w4.heap.size w4 W) (by kernel_rfl) ((brq w4).drew) (fun hHeld=>?_);refine plz [0,1,2,3,4,5,6,7,8,9,10,11,12,13] ?_;iterate 14 (refine tnz (v:=?_) ?_ ?_;rotate_left;(focus (intro w hSw;(obtain ⟨z1,z2,z3,z4,z5,z6⟩:=HC.out _ hSw;go_simp;try with_reducible rfl)));try simp only [pt])
    refine pzz ?_;refine rd 14 fun K hK=>?_;go_simp
    go_wp2_with (go_at_call 45;refine(HQt.out _).mono ?_;rintro e w5 ⟨rfl,rfl⟩)
    refine hK.out _ _ (hHeld) (fun hHeld=>?_);clear hK K;try simp only [pt]
    refine tk 15 (v:=?_) ?_ ?_;rotate_left
    ·(intro w hSw;(obtain ⟨z1,z2,z3,z4,z5,z6⟩:=HC.out _ hSw;go_simp;try with_reducible rfl))
    try simp only [pt]
    refine dnz ?_;clear hHeld;obtain ⟨z1,z2,_,_,_,z6⟩:=HC.out _ ((brq w4).drew);have hQ:Lx.bs (Lx.quoteS f.name)=Lx.quoteL (Lx.bs f.name):=Lx.bs_quoteS f.name
    by_cases hj0:j=0
    ·subst hj0;rw [text_name h0 (by rw [hm];rfl),hfn,← hQ] at HTe;rw [HTe.out] at HLen;have HS:=kp (HSt.out (Lx.quoteS f.name) w4.drew ((brq w4).drew) (by rw [← Lx.bs_length];exact HLen.out));clear hQ;go_wp2_with fail
     refine HS.out.mono ?_;rintro e w6 ⟨rfl,h6,hb6⟩;have HZ:=kp (And.intro h6 (HR4.out.trans ((Wr.refl B b w4).drew.trans hb6)));clear h6 hb6;go_wp2_with fail
     go_end0
     exact⟨rfl,by rw [HTe.out];exact HZ.out⟩
    ·rw [text_app h0 (by rw [hm];omega),hfn,← hQ,argTexts_gaps] at HTe;rw [HTe.out] at HLen;have hj1:((j:Int) == 0)=false:=beq_eq_false_iff_ne.2 (by omega);obtain ⟨_,z5,_⟩:=HC0.out _ ((Wr.refl B b w4).drew);have HL:=kp (HLi.out (Lx.quoteS f.name) w4.drew A c vs (argTexts g t n) ((brq w4).drew) ?p1 HLv.out (by omega) (fun i hi hT=>HPw.out _ (Wr.refl B b w4).drew i hi hT) ?p2)
     case p1=>exact HPr.out.on ((HW4.out).drew)
     case p2=>have h:=HLen.out;simp only [List.length_append,List.length_cons,List.length_nil,Lx.bs_length] at h;omega
     rw [hvs] at HL;clear hQ hj0;go_wp2_with fail
     refine HL.out.mono ?_;rintro e w6 ⟨rfl,h6,hb6⟩;have HZ:=kp (And.intro h6 (HR4.out.trans ((Wr.refl B b w4).drew.trans hb6)));clear h6 hb6;go_wp2_with fail
     go_end0
     exact⟨rfl,by rw [HTe.out];exact HZ.out⟩
   ·obtain ⟨q,hq⟩:∃ q:Nat,n.op=(q:Int):=⟨n.op.toNat,by omega⟩;have hq1:1<=q:=by omega
    have hq9:q<=9:=by omega
    rw [text_op (by omega) (by omega) (by omega) (by omega) (by omega),argTexts_gaps] at HTe;rw [HTe.out] at HLen;rw [hq] at o0 HLen HTe;have g0:((q:Int) == 0)=false:=beq_eq_false_iff_ne.2 (by omega);have g1:((q:Int) == 10)=false:=beq_eq_false_iff_ne.2 (by omega);have g2:((q:Int) == 11)=false:=beq_eq_false_iff_ne.2 (by omega);have g3:((q:Int) == 12)=false:=beq_eq_false_iff_ne.2 (by omega);have g4:((q:Int) == 13)=false:=beq_eq_false_iff_ne.2 (by omega);have hq14:(q:Int) < 14:=by omega
    have hq128:(q:Int) < 128:=by omega
    have HQn:=kp (name_at q hq1 hq9);have HNq:=kp (fun W (hW:Wr B b w4 W)=>(cell_of_cells (hW.keep _ _ _ _ (by have:=HE.out.lt;omega) HNm.out (by decide)) q).trans (name_at q hq1 hq9))
    have HC:=kp (fun W (hW:Wr B b w4 W)=>(show W.cell? ⟨w.heap.size,0,none⟩=some (.pointer (some ⟨b,0,none⟩))/\W.cell? ⟨w.heap.size+1,0,none⟩=some (.slice A j c)/\W.cell? ⟨nb,no+k * 8,none⟩=some (.int .i8 (q:Int))/\W.cell? ⟨wr.heap.size,q,none⟩=some (.string (opName q)) from by
     obtain ⟨y1,y2,_,y3,y4,_,_,_,_,y5,y6⟩:=HC0.out W hW;exact⟨y1,y2,by rw [← hq];exact y3,HNq.out W hW⟩))
    have HL:=kp (HLi.out (opName q) w4.drew A c vs (argTexts g t n) ((brq w4).drew) ?p1 HLv.out (by omega) (fun i hi hT=>HPw.out _ (Wr.refl B b w4).drew i hi hT) ?p2)
    case p1=>exact HPr.out.on ((HW4.out).drew)
    case p2=>have h:=HLen.out;unfold wordL at h;simp only [List.length_append,List.length_cons,List.length_nil,Lx.bs_length] at h;omega
    rw [hvs] at HL;have HL2:=kp (show l ++ 40 :: (Lx.bs (opName q) ++ gaps (argTexts g t n) ++ [41])=l ++ 40 :: (wordL q ++ gaps (argTexts g t n) ++ [41]) from rfl);rw [HL2.out] at HL;clear HKi' o1 o6 o7 h0 hq1 hq9 HL2 HLen;go_upto_region 10 with fail
    refine wp_region_held_drew (S:=fun W=>Wr B b w4 W) (by kernel_rfl) ((Wr.refl B b w4).drew) (fun hHeld=>?_);refine plz [0,1,2,3,4,5,6,7] ?_;iterate 8 (refine tnz (v:=?_) ?_ ?_;rotate_left;(focus (intro w hSw;(obtain ⟨z1,z2,z3,z4⟩:=HC.out _ hSw;go_simp;try with_reducible rfl)));try simp only [pt])
    refine pzz ?_;refine rd 8 fun K hK=>?_;go_simp
    go_wp2_with (go_at_call 43;refine HL.out.mono ?_;rintro e w6 ⟨rfl,h6,hb6⟩)
    refine hK.out _ _ ((Wr.refl B b w4).drew.trans hb6) (fun hHeld=>?_);clear hK K;try simp only [pt]
    refine dnz ?_;have HZ:=kp (And.intro h6 (HR4.out.trans ((Wr.refl B b w4).drew.trans hb6)));clear hHeld h6 hb6;go_wp2_with fail
    go_end0
    exact⟨rfl,by rw [HTe.out];exact HZ.out⟩
theorem put_all {W0:World} {B b gb tb:Nat} {A2 At:Option Addr} {c2 ct:Nat} {g:Sig} {t:List Node} (hF:WrF W0 B b gb tb A2 At c2 ct g t) (k:Nat):k < t.length->PutK W0 B b gb tb g t k:=by
 induction k using Nat.strongRecOn with
 | _ k ih=>exact fun hk=>put_step hF hk (fun j hj=>ih j hj (by omega))
def TreeLaw:Prop:=∀ (w:World) (A:Option Addr) (t:List Node) (c:Nat),Lies 8 NodeR w A t->t.length<=1000000->t.length<=c->c<=maxLen->Ahead t->∀ k:Nat,k < t.length ->
 Calls Tryz.prog 20 #[.agg #[.slice A t.length c],.int .i64 k] w fun e w'=>e=.returned (.int .i64 (treeN t k))/\Below w.heap.size w w'
theorem itoa_some (n:Int):Lib.itoa n≠[]:=by
 have hd:∀ u,Lib.decDigits u≠[]:=fun u=>by
  rw [Lib.decDigits]
  split <;> simp
 by_cases h:0<=n
 ·obtain ⟨u,rfl⟩:∃ u:Nat,n=(u:Int):=⟨n.toNat,by omega⟩;rw [Lib.itoa_nonneg];exact hd u
 ·obtain ⟨u,hu,rfl⟩:∃ u:Nat,1<=u/\n=-(u:Int):=⟨(-n).toNat,by omega,by omega⟩;rw [Lib.itoa_neg u hu];simp
theorem text_some (g:Sig) (n:Node) (xs:List Sexp):(exprN g n xs).textL≠[]:=by
 have hq:∀ l,Lx.quoteL l≠[]:=fun l=>by
  cases l with
  | nil=>decide
  | cons a l=>unfold Lx.quoteL;split <;> simp
 by_cases h0:n.op=0
 ·rw [text_true h0];simp
 ·by_cases h10:n.op=10
  ·rw [text_num h10,num_text]
   split
   ·simp
   ·exact itoa_some _
  ·by_cases h11:n.op=11
   ·by_cases hn:n.n < 0
    ·rw [text_sub h11 hn];simp
    ·rw [text_add h11 hn];simp
   ·by_cases h12:n.op=12
    ·rw [text_diff h12];simp
    ·by_cases h13:n.op=13
     ·by_cases hl:n.len=0
      ·rw [text_name h13 hl];exact hq _
      ·rw [text_app h13 hl];simp
     ·rw [text_op h0 h10 h11 h12 h13];simp
theorem textO_bad {g:Sig} {te:Int} {t:List Node} {id:Int} (h:te≠0\/id < 0\/(t.length:Int)<=id):textO g te t id=({ data:=#[] },2):=by unfold textO;rw [if_pos h]
theorem textO_ok {g:Sig} {t:List Node} {k:Nat} (hk:k < t.length):textO g 0 t k=if 4096 < treeN t k then({ data:=#[] },41) else if 8192 < (exprX g t k).textL.length then({ data:=#[] },41) else(bytesN (exprX g t k).textL,0):=by
 unfold textO;rw [if_neg (by omega)]
def TextPost (o:ByteArray × Int) (w:World) (e:Ending) (w':World):Prop:=e=.returned (.tuple #[.string o.1,.int .i64 o.2])/\Below w.heap.size w w'
theorem etext_any (hTr:TreeLaw) {w:World} {A1 A2 A3:Option Addr} {c1 c2 c3:Nat} {g:Sig} (h:SigAt w A1 c1 A2 c2 A3 c3 g) (hl1:g.sorts.length<=1000000) (hl2:g.funs.length<=1000000) (hl3:g.macros.length<=1000000) {A:Option Addr} {t:List Node} {c:Nat} (ht:Lies 8 NodeR w A t) (hn:t.length<=1000000) (hc:t.length<=c) (hcm:c<=maxLen)
  (htab:∀ u,Below w.heap.size w u->TabOk u) (hnames:∀ f ∈ g.funs,(f.name.size:Int)<=140737488351232) (id:Int) :
  Calls Tryz.prog 8 #[.agg #[.slice A1 g.sorts.length c1,.slice A2 g.funs.length c2,.slice A3 g.macros.length c3],.agg #[.slice A t.length c],.int .i64 id] w (TextPost (textO g (tableE g t) t id) w):=by
 have HT:=kp ht;have HS:=kp h;have HN:=kp (And.intro hn (And.intro hc hcm));have HNm:=kp (And.intro htab hnames);have HTt:=kp (fun W (hW:Below w.heap.size w W)=>tytable_any (h.on hW) hl1 hl2 hl3 (c:=c) (ht.on NodeR.lasts hW) hn hc hcm);have HTe:=kp (fun W (hW:Below w.heap.size w W) (ha:Ahead t)=>hTr W A t c (ht.on NodeR.lasts hW) hn hc hcm ha);have HAh:=kp (fun h=>ahead_of (g:=g) (t:=t) h);have HTO:=kp (fun(b:Int) w' (h:textO g (tableE g t) t id=({ data:=#[] },b)) (hb:Below w.heap.size w w')=>(show TextPost (textO g (tableE g t) t id) w (.returned (.tuple #[.string { data:=#[] },.int .i64 b])) w' from by unfold TextPost;rw [h];exact⟨rfl,hb⟩));have S1:=kp (Bk.keep (Bk.new w (.cells #[.slice A1 g.sorts.length c1,.slice A2 g.funs.length c2,.slice A3 g.macros.length c3] 26)) (.cells #[.slice A t.length c] 29));have T1:=kp (Bk.new (w.alloc (.cells #[.slice A1 g.sorts.length c1,.slice A2 g.funs.length c2,.slice A3 g.macros.length c3] 26)) (.cells #[.slice A t.length c] 29));rw [show(w.alloc (.cells #[.slice A1 g.sorts.length c1,.slice A2 g.funs.length c2,.slice A3 g.macros.length c3] 26)).heap.size=w.heap.size+1 by simp] at T1;have B1:=kp (((brq w).alloc nlq (.cells #[.slice A1 g.sorts.length c1,.slice A2 g.funs.length c2,.slice A3 g.macros.length c3] 26)).alloc (by simp) (.cells #[.slice A t.length c] 29));have Z1:=kp (show w.heap.size+2<=((w.alloc (.cells #[.slice A1 g.sorts.length c1,.slice A2 g.funs.length c2,.slice A3 g.macros.length c3] 26)).alloc (.cells #[.slice A t.length c] 29)).heap.size by simp)
 have HOk:=kp (show ∀ k:Nat,k < t.length->tableE g t=0->id=(k:Int)->textO g (tableE g t) t id=if 4096 < treeN t k then({ data:=#[] },41) else if 8192 < (exprX g t k).textL.length then({ data:=#[] },41) else(bytesN (exprX g t k).textL,0) from fun k hk h0 hid=>by rw [h0,hid];exact textO_ok hk);have HBad:=kp (fun hb=>textO_bad (g:=g) (te:=tableE g t) (t:=t) (id:=id) hb);have HLn:=kp (fun h k hk=>text_len (g:=g) (t:=t) h k hk);have HEx:=kp (fun k n (hk:t[k]?=some n) h=>exprX_eq (g:=g) (ahead_of (g:=g) (t:=t) h) hk);have HW:=kp (fun W (hW:Below w.heap.size w W) (h0:tableE g t=0) gb tb (q1:W.cell? ⟨gb,1,none⟩=some (.slice A2 g.funs.length c2)) (q2:gb < W.heap.size) (q3:W.cell? ⟨tb,0,none⟩=some (.slice A t.length c)) (q4:tb < W.heap.size)=>(⟨q1,q2,q3,q4,h.funs.on FunR.lasts hW,ht.on NodeR.lasts hW,h0,nlq,fun u hu=>htab u (hW.trans (hu.mono hW.size)),hn,hnames⟩:WrF W W.heap.size W.heap.size gb tb A2 A c2 c g t));clear h ht hTr hn hc hcm htab hnames;generalize hte:tableE g t=te at *;generalize hres:textO g te t id=res at *
 go_enter Tryz.func8,Tryz.ntmps8
 go_upto_region 1 with fail
 generalize (w.alloc (.cells #[.slice A1 g.sorts.length c1,.slice A2 g.funs.length c2,.slice A3 g.macros.length c3] 26)).alloc (.cells #[.slice A t.length c] 29)=w1 at *;obtain ⟨s0,s1,s2,sf⟩:=Bk.c3 S1.out;obtain ⟨t0,tf⟩:=Bk.c1 T1.out;go_wp2_with fail
 refine(HTt.out w1 B1.out).mono ?_;rintro e w2 ⟨rfl,hb2⟩;have B2:=kp (B1.out.trans (hb2.mono B1.out.size));have S2:=kp (Bk.on S1.out hb2);have T2:=kp (Bk.on T1.out hb2);have Z2:=kp (Nat.le_trans Z1.out hb2.size);clear hb2 s0 s1 s2 sf t0 tf S1 T1 Z1;obtain ⟨t0,tf⟩:=Bk.c1 T2.out
 by_cases h0:te=0
 ·have h0':(te != 0)=false:=by simp [h0]
  by_cases hneg:id < 0
  ·have hR:=kp (HBad.out (.inr (.inl hneg)));go_wp2_with fail
   go_ret2;exact HTO.out 2 _ hR.out B2.out
  ·by_cases hge:(t.length:Int)<=id
   ·have hR:=kp (HBad.out (.inr (.inr hge)));go_wp2_with fail
    go_ret2;exact HTO.out 2 _ hR.out B2.out
   ·obtain ⟨k,rfl⟩:∃ k:Nat,id=(k:Int):=⟨id.toNat,by omega⟩;have hk:k < t.length:=by omega
    have hR:=kp (HOk.out k hk h0 rfl);have HTe1:=kp (HTe.out w2 B2.out (HAh.out h0) k hk);have HL:=kp (HLn.out h0 k hk);obtain ⟨n,hnk⟩:∃ n,t[k]?=some n:=⟨_,gqe hk⟩;have HE:=kp (show(exprX g t k).textL≠[] by rw [HEx.out k n hnk h0];exact text_some _ _ _);have HW0:=kp (fun W hW=>HW.out W hW h0);have hk2:(k:Int) < (t.length:Int):=by omega
    clear HTt HTe HAh HOk HBad HLn HEx HW hnk;go_wp2_with fail
    refine HTe1.out.mono ?_;rintro e w3 ⟨rfl,hb3⟩;have B3:=kp (B2.out.trans (hb3.mono B2.out.size));have S3:=kp (Bk.on S2.out hb3);have T3:=kp (Bk.on T2.out hb3);clear hb3 t0 tf S2 T2 Z2 HTe1;generalize treeN t k=tn at *
    by_cases h4:4096 < tn
    ·have hR2:=kp (hR.out.trans (if_pos h4));have h4':decide (tn > 4096)=true:=decide_eq_true h4;go_wp2_with fail
     go_ret2;exact HTO.out 41 _ hR2.out B3.out
    ·have hR2:=kp (hR.out.trans (if_neg h4));have h4':decide (tn > 4096)=false:=dfq h4;have hlen:=HL.out (by omega);have HF:=kp (HW0.out w3 B3.out w.heap.size (w.heap.size+1) (by rw [cell_of_cells S3.out];rfl) (lt_of_block S3.out) (by rw [cell_of_cells T3.out];rfl) (lt_of_block T3.out));have HE0:=kp (show EW w3.heap.size w3.heap.size (.pointer (some ⟨w.heap.size,0,none⟩)) (.pointer (some ⟨w.heap.size+1,0,none⟩)) [] (w3.alloc (.cells #[.pointer none,.slice none 0 0,.pointer (some ⟨w.heap.size,0,none⟩),.pointer (some ⟨w.heap.size+1,0,none⟩)] 70)) from .inl ⟨nlq,.slice none 0 0,heap_alloc_new w3 _,World.ownsRow_nil _ _ _ _,by simp [Value.ownBlock]⟩);have B4:=kp ((brq w3).alloc nlq (.cells #[.pointer none,.slice none 0 0,.pointer (some ⟨w.heap.size,0,none⟩),.pointer (some ⟨w.heap.size+1,0,none⟩)] 70));have HP:=kp (put_all HF.out k hk (w3.alloc (.cells #[.pointer none,.slice none 0 0,.pointer (some ⟨w.heap.size,0,none⟩),.pointer (some ⟨w.heap.size+1,0,none⟩)] 70)) [] B4.out HE0.out (by rw [List.length_nil];omega));rw [List.nil_append] at HP;generalize (exprX g t k).textL=T at *;clear HL HF HE0 HW0 hR;go_wp2_with fail
     refine HP.out.mono ?_;rintro e w5 ⟨rfl,h5,hb5⟩;have B5:=kp (B3.out.trans ((B4.out.trans hb5.below).mono B3.out.size));have HLn:=kp (e_blen_any _ _ _ _ h5);have HSg:=kp (e_bstring_any _ _ _ _ h5 HE.out);clear h5 hb5;go_wp2_with fail
     refine HLn.out.mono ?_;rintro e w5' ⟨rfl,rfl⟩
     by_cases h8:8192 < T.length
     ·have h8':decide ((T.length:Int) > 8192)=true:=decide_eq_true (by omega);have hR3:=kp (hR2.out.trans (if_pos h8));go_wp2_with fail
      go_ret2;exact HTO.out 41 _ hR3.out B5.out
     ·have h8':decide ((T.length:Int) > 8192)=false:=dfq (by omega);have hR3:=kp (hR2.out.trans (if_neg h8));go_wp2_with fail
      refine HSg.out.mono ?_;rintro e w6 ⟨rfl,hb6⟩;have HZ:=kp (show TextPost res w (.returned (.tuple #[.string (bytesN T),.int .i64 0])) w6 from by unfold TextPost;rw [hR3.out];exact⟨rfl,B5.out.trans (hb6.mono B3.out.size)⟩);clear hb6;go_wp2_with fail
      go_ret2;exact HZ.out
 ·have h0':(te != 0)=true:=by simp [h0]
  have hR:=kp (HBad.out (.inl h0));go_wp2_with fail
  go_ret2;exact HTO.out 2 _ hR.out B2.out
theorem bytesN_app (a b:List UInt8):bytesN a ++ bytesN b=bytesN (a ++ b):=by
 unfold bytesN;rw [ByteArray.mk_append_mk]
theorem bytesN_size (l:List UInt8):(bytesN l).size=l.length:=by rw [← Lx.bs_length];unfold bytesN;rw [Lx.bs_mk]
theorem bytesN_bs (s:ByteArray):bytesN (Lx.bs s)=s:=by
 apply Lx.bs_inj.1
 exact Lx.bs_mk _
theorem stands_leaf {n:Node} {a:Int} (h:standsN n a=true):(n.op=0\/n.op=10->n.len=0):=by
 unfold standsN at h
 cases ha:arityN n.op with
 | none=>rw [ha] at h;cases h
 | some q =>
  obtain ⟨lo,hi⟩:=q;rw [ha] at h;simp only [Bool.and_eq_true,decide_eq_true_eq,Bool.or_eq_true] at h;obtain ⟨⟨⟨⟨⟨⟨⟨hlen,hsort⟩,a0⟩,a1⟩,a2⟩,hfn⟩,hf13⟩,hnum⟩:=h;unfold arityN at ha
  repeat' split at ha
  all_goals first
   | (cases ha;done)
   | (simp only [Option.some.injEq,Prod.mk.injEq] at ha;omega)
theorem text_gaps {g:Sig} {t:List Node} {n:Node} {a:Int} (h:standsN n a=true):(gaps (argTexts g t n)).length<=(exprN g n ((argsOf n).map (exprX g t))).textL.length:=by
 have h0:n.len=0->gaps (argTexts g t n)=[]:=fun h=>by
  unfold argTexts argsOf;rw [h]
  rfl
 have hl:=stands_leaf h;rw [← argTexts_gaps];rw [← argTexts_gaps] at h0
 by_cases e0:n.op=0
 ·rw [h0 (hl (.inl e0))];simp
 ·by_cases e10:n.op=10
  ·rw [h0 (hl (.inr e10))];simp
  ·by_cases e11:n.op=11
   ·by_cases hn:n.n < 0
    ·rw [text_sub e11 hn];simp;omega
    ·rw [text_add e11 hn];simp;omega
   ·by_cases e12:n.op=12
    ·rw [text_diff e12];simp;omega
    ·by_cases e13:n.op=13
     ·by_cases hz:n.len=0
      ·rw [h0 hz];simp
      ·rw [text_app e13 hz];simp;omega
     ·rw [text_op e0 e10 e11 e12 e13];simp;omega
theorem rword_any (q:Nat) (h1:1<=q) (h9:q<=9) (w:World):Calls Tryz.prog 52 #[.int .i8 q] w fun e w'=>e=.returned (.string (opName q))/\w=w':=by
 have hc:q=1\/q=2\/q=3\/q=4\/q=5\/q=6\/q=7\/q=8\/q=9:=by omega
 clear h1 h9;rcases hc with rfl | rfl | rfl | rfl | rfl | rfl | rfl | rfl | rfl
 all_goals
  go_enter Tryz.func52,Tryz.ntmps52
  go_wp2_with fail
  go_ret;exact⟨rfl,rfl⟩
def RTextK (g:Sig) (t:List Node) (k:Nat):Prop:=∀ (w:World) (A1 A2 A3 A:Option Addr) (c1 c2 c3 c:Nat),SigAt w A1 c1 A2 c2 A3 c3 g->Lies 8 NodeR w A t->(exprX g t k).textL.length<=100000000 ->
 Calls Tryz.prog 26 #[.agg #[.slice A1 g.sorts.length c1,.slice A2 g.funs.length c2,.slice A3 g.macros.length c3],.agg #[.slice A t.length c],.int .i64 k] w fun e w'=>e=.returned (.string (bytesN (exprX g t k).textL))/\Below w.heap.size w w'
theorem gaps_part {Ts:List (List UInt8)} {i:Nat} {T:List UInt8} (h:Ts[i]?=some T):(gaps (Ts.take i)).length+1+T.length<=(gaps Ts).length:=by
 have h1:=gaps_take Ts h;have h2:=gaps_len Ts (i+1);rw [h1] at h2;simp only [List.length_append,List.length_cons] at h2
 omega
theorem rnum7 {w W:World} {n:Int} (hm:mayB n=true) (hn:I64 n) (hW:Below w.heap.size w W):Calls Tryz.prog 50 #[.int .i64 n] W fun e w'=>e=.returned (.tuple #[.string (bytesN (numX n).textL),.int .i64 0])/\Below w.heap.size w w':=by
 refine(Go.Proofs.YtpmdcckapddchaaGreatDoor.rtext_any n hn W).mono ?_;rintro e w' ⟨rfl,hb⟩;rw [(wrX_text hm).2,← (wrX_text hm).1];exact⟨rfl,hW.trans (hb.mono hW.size)⟩
theorem rtext_step7 {g:Sig} {t:List Node} (hok:tableE g t=0) (hnames:∀ f ∈ g.funs,(f.name.size:Int)<=140737488351232) {k:Nat} (hk:k < t.length) (ih:∀ j,j < k->RTextK g t j):RTextK g t k:=by
 intro w A1 A2 A3 A c1 c2 c3 c hs ht hlen;obtain ⟨n,hn⟩:∃ n,t[k]?=some n:=⟨_,gqe hk⟩;have hst:=(table_node hok hn).1;have hno:=node_ok hst;obtain ⟨nb,no,hAt,hna,hni⟩:=node_get ht hn;obtain ⟨m,hm⟩:∃ m:Nat,n.len=(m:Int):=⟨n.len.toNat,by have:=hno.len;omega⟩;have hm3:m<=3:=by have:=hno.len;omega
 have hX:=exprX_eq (g:=g) (ahead_of hok) hn;rw [hX] at hlen ⊢;have HG:=kp (Nat.le_trans (text_gaps (g:=g) (t:=t) hst) hlen);have HKi:=kp (stands_kind hst);have HOk:=kp hno;have HNi:=kp hni;have HAf:=kp (fun h13=>app_fun hok hn h13);have HIh:=kp ih;have HSg:=kp hs;have HTb:=kp ht;have HNm:=kp hnames;have HLen:=kp hlen;have HTl:=kp (show(argTexts g t n).length=m by unfold argTexts;rw [List.length_map,args_len hno,hm];rfl);have HTg:=kp (fun(j:Nat) (hj:(j:Int) < n.len)=>(show(argTexts g t n)[j]?=some (exprX g t (n.arg j)).textL by unfold argTexts;rw [List.getElem?_map,args_get hno hj];rfl));have HT0:=kp (fun W (hW:Below w.heap.size w W)=>(hna.on hW:NodeAt W nb (no+k * 8) n));have hk2:(k:Int) < (t.length:Int):=by omega
 have S3:=kp (Bk.keep (Bk.keep (Bk.new w (.cells #[.slice A1 g.sorts.length c1,.slice A2 g.funs.length c2,.slice A3 g.macros.length c3] 26)) (.cells #[.slice A t.length c] 29)) (.cells #[.int .i8 n.op,.int .i8 (m:Int),.int .i64 n.a0,.int .i64 n.a1,.int .i64 n.a2,.int .i64 n.sort,.int .i64 n.fn,.int .i64 n.n] 49));have T3:=kp (Bk.keep (Bk.new (w.alloc (.cells #[.slice A1 g.sorts.length c1,.slice A2 g.funs.length c2,.slice A3 g.macros.length c3] 26)) (.cells #[.slice A t.length c] 29)) (.cells #[.int .i8 n.op,.int .i8 (m:Int),.int .i64 n.a0,.int .i64 n.a1,.int .i64 n.a2,.int .i64 n.sort,.int .i64 n.fn,.int .i64 n.n] 49));have N3:=kp (Bk.new ((w.alloc (.cells #[.slice A1 g.sorts.length c1,.slice A2 g.funs.length c2,.slice A3 g.macros.length c3] 26)).alloc (.cells #[.slice A t.length c] 29)) (.cells #[.int .i8 n.op,.int .i8 (m:Int),.int .i64 n.a0,.int .i64 n.a1,.int .i64 n.a2,.int .i64 n.sort,.int .i64 n.fn,.int .i64 n.n] 49));rw [show(w.alloc (.cells #[.slice A1 g.sorts.length c1,.slice A2 g.funs.length c2,.slice A3 g.macros.length c3] 26)).heap.size=w.heap.size+1 by simp] at T3;rw [show((w.alloc (.cells #[.slice A1 g.sorts.length c1,.slice A2 g.funs.length c2,.slice A3 g.macros.length c3] 26)).alloc (.cells #[.slice A t.length c] 29)).heap.size=w.heap.size+2 by simp] at N3;have B3:=kp ((((brq w).alloc nlq (.cells #[.slice A1 g.sorts.length c1,.slice A2 g.funs.length c2,.slice A3 g.macros.length c3] 26)).alloc (by simp) (.cells #[.slice A t.length c] 29)).alloc (by simp;omega) (.cells #[.int .i8 n.op,.int .i8 (m:Int),.int .i64 n.a0,.int .i64 n.a1,.int .i64 n.a2,.int .i64 n.sort,.int .i64 n.fn,.int .i64 n.n] 49))
 have y1:=hna.on (((brq w).alloc nlq (.cells #[.slice A1 g.sorts.length c1,.slice A2 g.funs.length c2,.slice A3 g.macros.length c3] 26)).alloc (by simp) (.cells #[.slice A t.length c] 29));have Z2:=kp (show((w.alloc (.cells #[.slice A1 g.sorts.length c1,.slice A2 g.funs.length c2,.slice A3 g.macros.length c3] 26)).alloc (.cells #[.slice A t.length c] 29)).heap.size=w.heap.size+2 by simp);have hw2:Below w.heap.size w ((w.alloc (.cells #[.slice A1 g.sorts.length c1,.slice A2 g.funs.length c2,.slice A3 g.macros.length c3] 26)).alloc (.cells #[.slice A t.length c] 29)):=((brq w).alloc nlq (.cells #[.slice A1 g.sorts.length c1,.slice A2 g.funs.length c2,.slice A3 g.macros.length c3] 26)).alloc (by simp) (.cells #[.slice A t.length c] 29);have S2:=kp (Bk.keep (Bk.new w (.cells #[.slice A1 g.sorts.length c1,.slice A2 g.funs.length c2,.slice A3 g.macros.length c3] 26)) (.cells #[.slice A t.length c] 29));have T2:=kp (show((w.alloc (.cells #[.slice A1 g.sorts.length c1,.slice A2 g.funs.length c2,.slice A3 g.macros.length c3] 26)).alloc (.cells #[.slice A t.length c] 29)).heap[w.heap.size+1]?=some (.cells #[.slice A t.length c] 29 (0,0)) from by have h:=Bk.new (w.alloc (.cells #[.slice A1 g.sorts.length c1,.slice A2 g.funs.length c2,.slice A3 g.macros.length c3] 26)) (.cells #[.slice A t.length c] 29);rwa [show(w.alloc (.cells #[.slice A1 g.sorts.length c1,.slice A2 g.funs.length c2,.slice A3 g.macros.length c3] 26)).heap.size=w.heap.size+1 by simp] at h)
 have HM:=kp hm;clear hlen hst hno hna hni hok hn ih hs ht hnames hX;subst hAt;generalize hT:(exprN g n ((argsOf n).map (exprX g t))).textL=T at *
 go_enter Tryz.func26,Tryz.ntmps26
 go_upto_region 1 with fail
 generalize (w.alloc (.cells #[.slice A1 g.sorts.length c1,.slice A2 g.funs.length c2,.slice A3 g.macros.length c3] 26)).alloc (.cells #[.slice (some ⟨nb,no,none⟩) t.length c] 29)=w2 at *;obtain ⟨_,o0,o1,o2,o3,o4,o5,o6,o7⟩:=y1;rw [hm] at o1;clear hm;obtain ⟨t0,tf⟩:=Bk.c1 T2.out;go_upto_region 3 with fail
 have HNk:=kp (show ∀ W,Below w2.heap.size w2 W->Below w.heap.size w W from fun W hW=>hw2.trans (hW.mono hw2.size));try rw [Z2.out]
 generalize w2.alloc (.cells #[.int .i8 n.op,.int .i8 (m:Int),.int .i64 n.a0,.int .i64 n.a1,.int .i64 n.a2,.int .i64 n.sort,.int .i64 n.fn,.int .i64 n.n] 49)=w3 at *;clear t0 tf o0 o1 o2 o3 o4 o5 o6 o7 S2 T2 HT0 HNk hw2
 have HC:=kp (fun W (hW:Below w3.heap.size w3 W)=>(show(W.cell? ⟨w.heap.size,0,none⟩=some (.slice A1 g.sorts.length c1)/\W.cell? ⟨w.heap.size,1,none⟩=some (.slice A2 g.funs.length c2)/\W.cell? ⟨w.heap.size,2,none⟩=some (.slice A3 g.macros.length c3))/\W.cell? ⟨w.heap.size+1,0,none⟩=some (.slice (some ⟨nb,no,none⟩) t.length c)/\NodeAt W (w.heap.size+2) 0 n from by
  obtain ⟨x0,x1,x2,_⟩:=Bk.c3 (Bk.on S3.out hW);exact⟨⟨x0,x1,x2⟩,(Bk.c1 (Bk.on T3.out hW)).1,node_block (by have h:=Bk.on N3.out hW;rw [← HM.out] at h;exact h)⟩))
 have hm128:(m:Int) < 128:=by omega
 have hm3i:(m:Int)<=3:=by omega
 have hm0:(0:Int)<=(m:Int):=by omega
 go_wp2_with fail
 go_loopw [8,9] (fun u v wr=>∃ j:Nat,j<=m/\v=.int .i64 j/\u=.string (bytesN (gaps ((argTexts g t n).take j)))/\Below w3.heap.size w3 wr) (fun _ v _=>m - (intOf v).toNat)
 case atStart=>exact⟨0,Nat.zero_le _,rfl,rfl,by first | exact Below.refl _ _ | (trace_state;sorry)⟩
 case round =>
  obtain ⟨j,hj,rfl,rfl,hb⟩:=hrel;have HB:=kp hb;obtain ⟨⟨s0,s1,s2⟩,t0,_,o0,o1,o2,o3,o4,o5,o6,o7⟩:=HC.out wr hb;rw [HM.out] at o1
  by_cases hlt:j < m
  ·have hlt2:(j:Int) < (m:Int):=by omega
   have hj3:(j:Int) < 3:=by omega
   have hjl:(j:Int) < n.len:=by rw [HM.out];exact hlt2
   have ha:=HOk.out.arg j hjl;have HTj:=kp (HTg.out j hjl);have hp:=gaps_part HTj.out;have hgl:=HG.out;obtain ⟨a,haj⟩:∃ a:Nat,n.arg j=(a:Int):=⟨(n.arg j).toNat,by omega⟩;rw [haj] at HTj hp;have HRec:=kp (fun W (hW:Below w3.heap.size w3 W)=>HIh.out a (by omega) W A1 A2 A3 (some ⟨nb,no,none⟩) c1 c2 c3 c (HSg.out.on (B3.out.trans (hW.mono B3.out.size))) (HTb.out.on NodeR.lasts (B3.out.trans (hW.mono B3.out.size))) (by omega))
   have HNx:=kp (show bytesN (gaps ((argTexts g t n).take j)) ++ ({ data:=#[32] } ++ bytesN (exprX g t a).textL)=bytesN (gaps ((argTexts g t n).take (j+1))) from by
    rw [gaps_take _ HTj.out,show({ data:=#[32] }:ByteArray)=bytesN [32] from rfl,bytesN_app,bytesN_app]
    rfl)
   have hz1:((bytesN (gaps ((argTexts g t n).take j))).size:Int)<=140737488355330:=by rw [bytesN_size];omega
   have hz2:((bytesN (exprX g t a).textL).size:Int)<=140737488355330:=by rw [bytesN_size];omega
   have hz3:¬ 9223372036854775807 < 1+(bytesN (exprX g t a).textL).size:=by omega
   have hz4:¬ 9223372036854775807 < (bytesN (gaps ((argTexts g t n).take j))).size+(1+(bytesN (exprX g t a).textL).size):=by omega
   have HA:=kp (fun W (hW:Below w3.heap.size w3 W)=>(show W.cell? ⟨w.heap.size+2,2+j,none⟩=some (.int .i64 (a:Int)) from by
    obtain ⟨_,_,_,_,_,a0,a1,a2,_⟩:=HC.out W hW;rw [← haj];have hc:j=0\/j=1\/j=2:=by omega
    rcases hc with rfl | rfl | rfl
    ·exact a0
    ·exact a1
    ·exact a2))
   generalize bytesN (gaps ((argTexts g t n).take j))=sj at *;generalize bytesN (exprX g t a).textL=sa at *;clear hp hgl ha haj hjl s0 s1 s2 t0 o0 o2 o3 o4 o5 o6 o7 hb;go_upto_region 6 with fail
   refine wp_region_held_drew (S:=fun W=>Below w3.heap.size w3 W) (by kernel_rfl) (HB.out.drew) (fun hHeld=>?_);refine plz [0,1,2,3,4,5,6] ?_;iterate 7 (refine tnz (v:=?_) ?_ ?_;rotate_left;(focus (intro w hSw;(obtain ⟨⟨z0,z1,z2⟩,z3,_,z4,z5,_⟩:=HC.out _ hSw;have z6:=HA.out _ hSw;go_simp;try with_reducible rfl)));try simp only [pt])
   refine pzz ?_;refine rd 7 fun K hK=>?_;go_simp
   go_wp2_with (go_at_call 26;refine(HRec.out _ hHeld).mono ?_;rintro e w5 ⟨rfl,hb5⟩)
   refine hK.out _ _ (hHeld.trans (hb5.mono hHeld.size)) (fun hHeld=>?_);clear hK K;try simp only [pt]
   refine plz [8,9,10] ?_;iterate 3 (refine tnz (v:=?_) ?_ ?_;rotate_left;(focus (intro w hSw;(go_simp;try with_reducible rfl)));try simp only [pt])
   refine pzz ?_;refine dnz ?_;have HB5:=kp hHeld;clear hHeld hb5;go_wp2_with fail
   go_roundw
   case rel=>exact⟨j+1,by omega,by go_num,congrArg Value.string HNx.out,HB5.out⟩
   case measure=>simp [intOf];omega
  ·obtain rfl:j=m:=by omega
   have HTs:(argTexts g t n).take j=argTexts g t n:=List.take_of_length_le (by rw [HTl.out];exact nlq);rw [HTs];have hgl:=HG.out;have hzg:((bytesN (gaps (argTexts g t n))).size:Int)<=140737488355330:=by rw [bytesN_size];omega
   have HZ:=kp (B3.out.trans (hb.mono B3.out.size));have HNu:=kp (fun(n':Int) (hm':mayB n'=true) (h64:I64 n') W (hW:Below w.heap.size w W)=>rnum7 hm' h64 hW);have HNz:=kp (fun(n':Int) (hm':mayB n'=true)=>(show((bytesN (numX n').textL).size:Int)<=140737488355330 from by rw [bytesN_size];have:=num_len hm';omega));have hkd:=HKi.out.1;clear hgl HIh HTg HG HTl HTs HKi;rcases hkd with h0 | h0 | h0 | h0 | h0 | h0
   ·rw [text_true h0] at hT;subst hT;rw [h0] at o0;clear HNu HNz;go_wp2_with fail
    go_ret;exact⟨rfl,HZ.out⟩
   ·rw [text_num h0] at hT;subst hT;have HQ:=kp (HNu.out n.n (HOk.out.num (.inl h0)) HNi.out.n wr HZ.out);rw [h0] at o0;clear HNu HNz;go_wp2_with fail
    refine HQ.out.mono ?_;rintro e w5 ⟨rfl,hb5⟩;have HZ5:=kp hb5;clear hb5;go_wp2_with fail
    go_ret;exact⟨rfl,HZ5.out⟩
   ·have hnum:=HOk.out.num (.inr (.inl h0));have hmb:=mayB_iff.1 hnum;rw [h0] at o0
    by_cases hn0:n.n < 0
    ·have e0:decide (n.n < 0)=true:=decide_eq_true hn0;have hmN:mayB (-n.n)=true:=mayB_iff.2 (by omega);have hwp:IntKind.i64.wrap (-n.n)=-n.n:=IntWalk.i64_in _ (by omega);have HQ:=kp (HNu.out (-n.n) hmN ⟨by omega,by omega⟩ wr HZ.out);have hz:=HNz.out (-n.n) hmN
     have HEq:=kp (show { data:=#[40,45] } ++ bytesN (gaps (argTexts g t n)) ++ { data:=#[32] } ++ bytesN (numX (-n.n)).textL ++ { data:=#[41] }=bytesN T from by
      rw [← hT,text_sub h0 hn0,argTexts_gaps,num_text,if_neg (show ¬ -n.n < 0 by omega),show({ data:=#[40,45] }:ByteArray)=bytesN [40,45] from rfl,show({ data:=#[32] }:ByteArray)=bytesN [32] from rfl,show({ data:=#[41] }:ByteArray)=bytesN [41] from rfl,bytesN_app,bytesN_app,bytesN_app,bytesN_app];simp)
     generalize bytesN (gaps (argTexts g t n))=sg at *;generalize bytesN (numX (-n.n)).textL=sn at *;clear HNu HNz hT hmN hnum hmb;go_wp2_with fail
     try rw [hwp]
     refine HQ.out.mono ?_;rintro e w5 ⟨rfl,hb5⟩;have HZ5:=kp hb5;clear hb5;go_wp2_with fail
     go_ret;exact⟨congrArg (fun u=>Ending.returned (Value.string u)) HEq.out,HZ5.out⟩
    ·have e0:decide (n.n < 0)=false:=dfq hn0;have HQ:=kp (HNu.out n.n hnum HNi.out.n wr HZ.out);have hz:=HNz.out n.n hnum
     have HEq:=kp (show { data:=#[40,43] } ++ bytesN (gaps (argTexts g t n)) ++ { data:=#[32] } ++ bytesN (numX n.n).textL ++ { data:=#[41] }=bytesN T from by
      rw [← hT,text_add h0 hn0,argTexts_gaps,num_text,if_neg hn0,show({ data:=#[40,43] }:ByteArray)=bytesN [40,43] from rfl,show({ data:=#[32] }:ByteArray)=bytesN [32] from rfl,show({ data:=#[41] }:ByteArray)=bytesN [41] from rfl,bytesN_app,bytesN_app,bytesN_app,bytesN_app];simp)
     generalize bytesN (gaps (argTexts g t n))=sg at *;generalize bytesN (numX n.n).textL=sn at *;clear HNu HNz hT hnum hmb;go_wp2_with fail
     refine HQ.out.mono ?_;rintro e w5 ⟨rfl,hb5⟩;have HZ5:=kp hb5;clear hb5;go_wp2_with fail
     go_ret;exact⟨congrArg (fun u=>Ending.returned (Value.string u)) HEq.out,HZ5.out⟩
   ·have hnum:=HOk.out.num (.inr (.inr h0));rw [h0] at o0;have HQ:=kp (HNu.out n.n hnum HNi.out.n wr HZ.out);have hz:=HNz.out n.n hnum
    have HEq:=kp (show { data:=#[40,60,61,32,40,45] } ++ bytesN (gaps (argTexts g t n)) ++ { data:=#[41,32] } ++ bytesN (numX n.n).textL ++ { data:=#[41] }=bytesN T from by
     rw [← hT,text_diff h0,argTexts_gaps,show({ data:=#[40,60,61,32,40,45] }:ByteArray)=bytesN [40,60,61,32,40,45] from rfl,show({ data:=#[41,32] }:ByteArray)=bytesN [41,32] from rfl,show({ data:=#[41] }:ByteArray)=bytesN [41] from rfl,bytesN_app,bytesN_app,bytesN_app,bytesN_app])
    generalize bytesN (gaps (argTexts g t n))=sg at *;generalize bytesN (numX n.n).textL=sn at *;clear HNu HNz hT hnum;go_wp2_with fail
    refine HQ.out.mono ?_;rintro e w5 ⟨rfl,hb5⟩;have HZ5:=kp hb5;clear hb5;go_wp2_with fail
    go_ret;exact⟨congrArg (fun u=>Ending.returned (Value.string u)) HEq.out,HZ5.out⟩
   ·obtain ⟨r,f,hr,hf,_⟩:=HAf.out h0;have hrl:=(gqs hf).1;have hrl2:(r:Int) < (g.funs.length:Int):=by omega
    have hfn:funName g n.fn=f.name:=by unfold funName;rw [hr,Int.toNat_natCast,hf];rfl
    have HQ:=kp (Lx.rquote_any f.name wr (HNm.out f (mgq hf)));obtain ⟨fb,fo,hfa,hfc,_⟩:=fun_get HSg.out.funs hf;have hcell:wr.cell? ⟨fb,fo+r * 6,none⟩=some (.string f.name):=(HZ.out.cell (p:=⟨fb,fo+r * 6,none⟩) hfc.1).trans hfc.2.1;have hqe:Lx.quoteS f.name=bytesN (Lx.quoteL (Lx.bs f.name)):=by rw [← Lx.bs_quoteS,bytesN_bs]
    rw [hfa] at s1;rw [hr] at o6;rw [h0] at o0
    by_cases hj0:j=0
    ·subst hj0;have HEq:=kp (show Lx.quoteS f.name=bytesN T from by rw [← hT,text_name h0 (by rw [HM.out];rfl),hfn];exact hqe);clear HNu HNz hT hqe hfn hr hf hfc hfa hrl;generalize Lx.quoteS f.name=sn at *;generalize f.name=fnm at *;generalize bytesN (gaps (argTexts g t n))=sg at *;go_wp2_with fail
     refine HQ.out.mono ?_;rintro e w5 ⟨rfl,rfl⟩;go_wp2_with fail
     go_ret;exact⟨congrArg (fun u=>Ending.returned (Value.string u)) HEq.out,HZ.out⟩
    ·have hTa:=hT;rw [text_app h0 (by rw [HM.out];omega),hfn,argTexts_gaps] at hTa
     have HEq:=kp (show { data:=#[40] } ++ Lx.quoteS f.name ++ bytesN (gaps (argTexts g t n)) ++ { data:=#[41] }=bytesN T from by
      rw [← hTa,hqe,show({ data:=#[40] }:ByteArray)=bytesN [40] from rfl,show({ data:=#[41] }:ByteArray)=bytesN [41] from rfl,bytesN_app,bytesN_app,bytesN_app];simp)
     have hzq:((Lx.quoteS f.name).size:Int)<=140737488355330:=by
      have h:=HLen.out;rw [← hTa] at h;rw [hqe,bytesN_size];simp only [List.length_append,List.length_cons,List.length_nil] at h
      omega
     have hj1:((j:Int) == 0)=false:=beq_eq_false_iff_ne.2 (by omega);clear HNu HNz hT hTa hqe hfn hr hf hfc hfa hrl hj0;generalize Lx.quoteS f.name=sn at *;generalize f.name=fnm at *;generalize bytesN (gaps (argTexts g t n))=sg at *;go_wp2_with fail
     refine HQ.out.mono ?_;rintro e w5 ⟨rfl,rfl⟩;go_wp2_with fail
     go_ret;exact⟨congrArg (fun u=>Ending.returned (Value.string u)) HEq.out,HZ.out⟩
   ·obtain ⟨q,hq⟩:∃ q:Nat,n.op=(q:Int):=⟨n.op.toNat,by omega⟩;have HQ:=kp (rword_any q (by omega) (by omega) wr);have hzq:((opName (q:Int)).size:Int)<=140737488355330:=by have h:=word_len (q:Int);unfold wordL at h;rw [Lx.bs_length] at h;omega
    have HEq:=kp (show { data:=#[40] } ++ opName (q:Int) ++ bytesN (gaps (argTexts g t n)) ++ { data:=#[41] }=bytesN T from by
     rw [← hT,text_op (by omega) (by omega) (by omega) (by omega) (by omega),argTexts_gaps,hq,show opName (q:Int)=bytesN (wordL (q:Int)) from(bytesN_bs _).symm,show({ data:=#[40] }:ByteArray)=bytesN [40] from rfl,show({ data:=#[41] }:ByteArray)=bytesN [41] from rfl,bytesN_app,bytesN_app,bytesN_app];simp)
    have g0:((q:Int) == 0)=false:=beq_eq_false_iff_ne.2 (by omega);have g1:((q:Int) == 10)=false:=beq_eq_false_iff_ne.2 (by omega);have g2:((q:Int) == 11)=false:=beq_eq_false_iff_ne.2 (by omega);have g3:((q:Int) == 12)=false:=beq_eq_false_iff_ne.2 (by omega);have g4:((q:Int) == 13)=false:=beq_eq_false_iff_ne.2 (by omega);rw [hq] at o0;generalize opName (q:Int)=sn at *;generalize bytesN (gaps (argTexts g t n))=sg at *;clear HNu HNz hT h0 hq;go_wp2_with fail
    refine HQ.out.mono ?_;rintro e w5 ⟨rfl,rfl⟩;go_wp2_with fail
    go_ret;exact⟨congrArg (fun u=>Ending.returned (Value.string u)) HEq.out,HZ.out⟩
theorem rtext_all7 {g:Sig} {t:List Node} (hok:tableE g t=0) (hnames:∀ f ∈ g.funs,(f.name.size:Int)<=140737488351232) (k:Nat):k < t.length->RTextK g t k:=by
 induction k using Nat.strongRecOn with
 | _ k ih=>exact fun hk=>rtext_step7 hok hnames hk (fun j hj=>ih j hj (by omega))
def RTreeLaw:Prop:=∀ (w:World) (A:Option Addr) (t:List Node) (c:Nat),Lies 8 NodeR w A t->t.length<=1000000->t.length<=c->c<=maxLen->Ahead t->∀ k:Nat,k < t.length ->
 Calls Tryz.prog 25 #[.agg #[.slice A t.length c],.int .i64 k] w fun e w'=>e=.returned (.int .i64 (treeN t k))/\Below w.heap.size w w'
theorem rText_any (hTr:RTreeLaw) {w:World} {A1 A2 A3:Option Addr} {c1 c2 c3:Nat} {g:Sig} (h:SigAt w A1 c1 A2 c2 A3 c3 g) {A:Option Addr} {t:List Node} {c:Nat} (ht:Lies 8 NodeR w A t) (hn:t.length<=1000000) (hc:t.length<=c) (hcm:c<=maxLen)
  (hnames:∀ f ∈ g.funs,(f.name.size:Int)<=140737488351232) (id:Int) :
  Calls Tryz.prog 9 #[.agg #[.slice A1 g.sorts.length c1,.slice A2 g.funs.length c2,.slice A3 g.macros.length c3],.agg #[.slice A t.length c],.int .i64 id] w (TextPost (textO g (tableE g t) t id) w):=by
 have HT:=kp ht;have HS:=kp h;have HN:=kp (And.intro hn (And.intro hc hcm));have HNm:=kp (hnames);have HTt:=kp (fun W (hW:Below w.heap.size w W)=>rtable6_any (h.on hW) (c:=c) (ht.on NodeR.lasts hW) hn);have HTe:=kp (fun W (hW:Below w.heap.size w W) (ha:Ahead t)=>hTr W A t c (ht.on NodeR.lasts hW) hn hc hcm ha);have HAh:=kp (fun h=>ahead_of (g:=g) (t:=t) h);have HTO:=kp (fun(b:Int) w' (h:textO g (tableE g t) t id=({ data:=#[] },b)) (hb:Below w.heap.size w w')=>(show TextPost (textO g (tableE g t) t id) w (.returned (.tuple #[.string { data:=#[] },.int .i64 b])) w' from by unfold TextPost;rw [h];exact⟨rfl,hb⟩));have S1:=kp (Bk.keep (Bk.new w (.cells #[.slice A1 g.sorts.length c1,.slice A2 g.funs.length c2,.slice A3 g.macros.length c3] 26)) (.cells #[.slice A t.length c] 29));have T1:=kp (Bk.new (w.alloc (.cells #[.slice A1 g.sorts.length c1,.slice A2 g.funs.length c2,.slice A3 g.macros.length c3] 26)) (.cells #[.slice A t.length c] 29));rw [show(w.alloc (.cells #[.slice A1 g.sorts.length c1,.slice A2 g.funs.length c2,.slice A3 g.macros.length c3] 26)).heap.size=w.heap.size+1 by simp] at T1;have B1:=kp (((brq w).alloc nlq (.cells #[.slice A1 g.sorts.length c1,.slice A2 g.funs.length c2,.slice A3 g.macros.length c3] 26)).alloc (by simp) (.cells #[.slice A t.length c] 29));have Z1:=kp (show w.heap.size+2<=((w.alloc (.cells #[.slice A1 g.sorts.length c1,.slice A2 g.funs.length c2,.slice A3 g.macros.length c3] 26)).alloc (.cells #[.slice A t.length c] 29)).heap.size by simp)
 have HOk:=kp (show ∀ k:Nat,k < t.length->tableE g t=0->id=(k:Int)->textO g (tableE g t) t id=if 4096 < treeN t k then({ data:=#[] },41) else if 8192 < (exprX g t k).textL.length then({ data:=#[] },41) else(bytesN (exprX g t k).textL,0) from fun k hk h0 hid=>by rw [h0,hid];exact textO_ok hk);have HBad:=kp (fun hb=>textO_bad (g:=g) (te:=tableE g t) (t:=t) (id:=id) hb);have HLn:=kp (fun h k hk=>text_len (g:=g) (t:=t) h k hk);have HEx:=kp (fun k n (hk:t[k]?=some n) h=>exprX_eq (g:=g) (ahead_of (g:=g) (t:=t) h) hk);have HW:=kp (fun W (hW:Below w.heap.size w W) (h0:tableE g t=0) k hk hl=>rtext_all7 (g:=g) (t:=t) h0 hnames k hk W A1 A2 A3 A c1 c2 c3 c (h.on hW) (ht.on NodeR.lasts hW) hl);clear h ht hTr hn hc hcm hnames;generalize hte:tableE g t=te at *;generalize hres:textO g te t id=res at *
 go_enter Tryz.func9,Tryz.ntmps9
 go_upto_region 1 with fail
 generalize (w.alloc (.cells #[.slice A1 g.sorts.length c1,.slice A2 g.funs.length c2,.slice A3 g.macros.length c3] 26)).alloc (.cells #[.slice A t.length c] 29)=w1 at *;obtain ⟨s0,s1,s2,sf⟩:=Bk.c3 S1.out;obtain ⟨t0,tf⟩:=Bk.c1 T1.out;go_wp2_with fail
 refine(HTt.out w1 B1.out).mono ?_;rintro e w2 ⟨rfl,hb2⟩;have B2:=kp (B1.out.trans (hb2.mono B1.out.size));have S2:=kp (Bk.on S1.out hb2);have T2:=kp (Bk.on T1.out hb2);have Z2:=kp (Nat.le_trans Z1.out hb2.size);clear hb2 s0 s1 s2 sf t0 tf S1 T1 Z1;obtain ⟨t0,tf⟩:=Bk.c1 T2.out
 by_cases h0:te=0
 ·have h0':(te != 0)=false:=by simp [h0]
  by_cases hneg:id < 0
  ·have hR:=kp (HBad.out (.inr (.inl hneg)));go_wp2_with fail
   go_ret2;exact HTO.out 2 _ hR.out B2.out
  ·by_cases hge:(t.length:Int)<=id
   ·have hR:=kp (HBad.out (.inr (.inr hge)));go_wp2_with fail
    go_ret2;exact HTO.out 2 _ hR.out B2.out
   ·obtain ⟨k,rfl⟩:∃ k:Nat,id=(k:Int):=⟨id.toNat,by omega⟩;have hk:k < t.length:=by omega
    have hR:=kp (HOk.out k hk h0 rfl);have HTe1:=kp (HTe.out w2 B2.out (HAh.out h0) k hk);have HL:=kp (HLn.out h0 k hk);obtain ⟨n,hnk⟩:∃ n,t[k]?=some n:=⟨_,gqe hk⟩;have HE:=kp (show(exprX g t k).textL≠[] by rw [HEx.out k n hnk h0];exact text_some _ _ _);have HW0:=kp (fun W hW=>HW.out W hW h0);have hk2:(k:Int) < (t.length:Int):=by omega
    clear HTt HTe HAh HOk HBad HLn HEx HW hnk;go_wp2_with fail
    refine HTe1.out.mono ?_;rintro e w3 ⟨rfl,hb3⟩;have B3:=kp (B2.out.trans (hb3.mono B2.out.size));have S3:=kp (Bk.on S2.out hb3);have T3:=kp (Bk.on T2.out hb3);clear hb3 t0 tf S2 T2 Z2 HTe1;generalize treeN t k=tn at *
    by_cases h4:4096 < tn
    ·have hR2:=kp (hR.out.trans (if_pos h4));have h4':decide (tn > 4096)=true:=decide_eq_true h4;go_wp2_with fail
     go_ret2;exact HTO.out 41 _ hR2.out B3.out
    ·have hR2:=kp (hR.out.trans (if_neg h4));have h4':decide (tn > 4096)=false:=dfq h4;have hlen:=HL.out (by omega);have HP:=kp (HW0.out w3 B3.out k hk (by omega));have hbl:(bytesN (exprX g t k).textL).size=(exprX g t k).textL.length:=bytesN_size _;obtain ⟨s0,s1,s2,sf⟩:=Bk.c3 S3.out;obtain ⟨t0,tf⟩:=Bk.c1 T3.out;clear HL HW0 hR HE;go_wp2_with fail
     refine HP.out.mono ?_;rintro e w5 ⟨rfl,hb5⟩;have B5:=kp (B3.out.trans (hb5.mono B3.out.size));clear hb5 s0 s1 s2 sf t0 tf;generalize (exprX g t k).textL=T at *
     by_cases h8:8192 < T.length
     ·have hR3:=kp (hR2.out.trans (if_pos h8));have h8':decide (((bytesN T).size:Int) > 8192)=true:=decide_eq_true (by omega);clear hbl;generalize bytesN T=bt at *;go_wp2_with fail
      go_ret2;exact HTO.out 41 _ hR3.out B5.out
     ·have hR3:=kp (hR2.out.trans (if_neg h8));have h8':decide (((bytesN T).size:Int) > 8192)=false:=dfq (by omega);have HZ:=kp (show TextPost res w (.returned (.tuple #[.string (bytesN T),.int .i64 0])) w5 from by unfold TextPost;rw [hR3.out];exact⟨rfl,B5.out⟩);clear hbl hR3;generalize bytesN T=bt at *;go_wp2_with fail
      go_ret2;exact HZ.out
 ·have h0':(te != 0)=true:=by simp [h0]
  have hR:=kp (HBad.out (.inl h0));go_wp2_with fail
  go_ret2;exact HTO.out 2 _ hR.out B2.out
end El
end Go.Proofs.YtpmdcckapddchaaGreatDoor

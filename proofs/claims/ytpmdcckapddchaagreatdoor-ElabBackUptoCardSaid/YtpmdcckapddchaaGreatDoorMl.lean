import Derived.Test.YtpmdcckapddchaaGreatDoorShort
import Derived.Test.YtpmdcckapddchaaGreatDoorMd
import Derived.Test.YtpmdcckapddchaaGreatDoorMj
import Derived.Test.YtpmdcckapddchaaGreatDoorMb
import Derived.TacticsIn
import Derived.RangeFuncBound
import Derived.BigQuiet
import Derived.Laws.OwnMore
import Derived.Shelf.Abstract
/- merged by wip/merge.py from: TmArgs TmTree -/
set_option maxRecDepth 100000
set_option maxHeartbeats 51200000
namespace Go.Proofs.YtpmdcckapddchaaGreatDoor
namespace El
open Go.RowKit Dt Sg
attribute [local go_sem] Oper.semAt_some
structure ArgAt (k:Nat) where
 val:Int
 ok:0<=val/\val < k
def encA {k:Nat} (x:ArgAt k):Array Value:=#[.int .i64 x.val]
def KeptTo (n0 rb:Nat) (W W':World):Prop:=W.heap.size<=W'.heap.size/\∀ b,b < n0->b≠rb->W'.heap[b]?=W.heap[b]?
theorem KeptTo.refl (n0 rb:Nat) (W:World):KeptTo n0 rb W W:=⟨nlq,fun _ _ _=>rfl⟩
theorem KeptTo.trans {n0 rb:Nat} {A B C:World} (h:KeptTo n0 rb A B) (k:KeptTo n0 rb B C):KeptTo n0 rb A C:=⟨Nat.le_trans h.1 k.1,fun b h1 h2=>(k.2 b h1 h2).trans (h.2 b h1 h2)⟩
theorem KeptTo.put {n0 rb:Nat} {w:World} (hn:n0<=w.heap.size) (W:World) (l:Nat) (o o':Obj) (hl:w.heap.size<=l) (_:W.heap[l]?=some o) (_:o.isCells=false) (_:o.isWalk=false):KeptTo n0 rb W (W.putObj l o'):=⟨by simp,fun b h1 _=>World.putObj_heap_other (by omega)⟩
theorem KeptTo.cell {n0 rb:Nat} {W W':World} (h:KeptTo n0 rb W W') {b o:Nat} (hb:b < n0) (hr:b≠rb):W'.cell? ⟨b,o,none⟩=W.cell? ⟨b,o,none⟩:=World.cell?_of_block (h.2 b hb hr)
theorem KeptTo.of_below {n0 rb:Nat} {W W':World} (h:Below n0 W W'):KeptTo n0 rb W W':=⟨h.size,fun b h1 _=>h.block b h1⟩
theorem KeptTo.drewN (n0 rb:Nat) (W:World) (m:Nat):KeptTo n0 rb W (W.drewN m):=⟨nlq,fun _ _ _=>rfl⟩
theorem abides_drew {β:Type} {B:Nat} {J:β->World->Prop} (hJ:AbidesFrom B J) {s:β} {W:World} (h:J s W):J s W.drew:=hJ s W W.drew none h ⟨rfl,rfl,rfl,nlq,fun _ _ _=>rfl⟩ (fun r e=>by cases e)
theorem abides_drewN {β:Type} {B:Nat} {J:β->World->Prop} (hJ:AbidesFrom B J) {s:β} {W:World} (m:Nat) (h:J s W):J s (W.drewN m):=hJ s W (W.drewN m) none h ⟨rfl,rfl,rfl,nlq,fun _ _ _=>rfl⟩ (fun r e=>by cases e)
structure ArgsIn (n0 rb:Nat) (W:World) (Bt Bi tb nb no c tl k:Nat) (n:Node):Prop where
 lt:Bt < n0/\Bi < n0/\tb < n0/\nb < n0
 ne:Bt≠rb/\Bi≠rb/\tb≠rb/\nb≠rb
 bt:W.cell? ⟨Bt,0,none⟩=some (.pointer (some ⟨tb,0,none⟩))
 bi:W.cell? ⟨Bi,0,none⟩=some (.int .i64 (k:Int))
 tb:W.cell? ⟨tb,0,none⟩=some (.slice (some ⟨nb,no,none⟩) tl c)
 node:NodeAt W nb (no+k * 8) n
 size:n0<=W.heap.size
theorem ArgsIn.kept {n0 rb:Nat} {W W':World} {Bt Bi tb nb no c tl k:Nat} {n:Node} (h:ArgsIn n0 rb W Bt Bi tb nb no c tl k n) (hk:KeptTo n0 rb W W'):ArgsIn n0 rb W' Bt Bi tb nb no c tl k n:=by
 obtain ⟨⟨l1,l2,l3,l4⟩,⟨e1,e2,e3,e4⟩,b1,b2,b3,b4,b5⟩:=h;have hz:n0<=W'.heap.size:=Nat.le_trans b5 hk.1;refine⟨⟨l1,l2,l3,l4⟩,⟨e1,e2,e3,e4⟩,(hk.cell l1 e1).trans b1,(hk.cell l2 e2).trans b2,(hk.cell l3 e3).trans b3,?_,hz⟩;obtain ⟨hl,h0,h1,h2,h3,h4,h5,h6,h7⟩:=b4;exact⟨by omega,(hk.cell l4 e4).trans h0,(hk.cell l4 e4).trans h1,(hk.cell l4 e4).trans h2,(hk.cell l4 e4).trans h3,(hk.cell l4 e4).trans h4,(hk.cell l4 e4).trans h5,(hk.cell l4 e4).trans h6,(hk.cell l4 e4).trans h7⟩
def RoundPost {k:Nat} (J Jx:List (ArgAt k)->World->Prop) (n0 rb:Nat) (ys:List (ArgAt k)) (W1:World) (b:Bool) (W':World):Prop:=(b=true/\J ys W'/\KeptTo n0 rb W1 W')\/(b=false/\Jx ys W')
theorem args_stops {n0 rb:Nat} {w:World} {Bt Bi tb nb no c tl k:Nat} {n:Node} (h:ArgsIn n0 rb w Bt Bi tb nb no c tl k n) (hn0:n0<=w.heap.size) (hni:NodeI n) (hk:k < tl) (htl:tl<=1000000) (hah:∀ a ∈ argsOf n,0<=a/\a < k) :
  SeqStopsK Fence.wide 9 Tryz.prog 116 #[.pointer (some ⟨Bt,0,none⟩),.pointer (some ⟨Bi,0,none⟩)] (encA (k:=k)) (KeptTo n0 rb) (fun xs=>xs.map ArgAt.val=argsOf n) (fun pre=>pre.map ArgAt.val <+: argsOf n) (argsOf n).length w:=fun l J Jx W hW hJ hJx hY h0=>by
 have hI:=h.kept (KeptTo.of_below (hW.mono hn0));have HI:=kp hI;have HJ:=kp (fun s (V:World) m (h:J s V)=>abides_drewN hJ m h);have HJd:=kp (fun s (V:World) (h:J s V)=>abides_drew hJ h);have HY:=kp hY;have H0:=kp h0;have q1:=hni.len.lo;have q2:=hni.len.hi;have HL:=kp (argsOf_len n);have HAh:=kp hah;have hk2:(k:Int) < (tl:Int):=by omega
 have htl2:(tl:Int)<=1000000:=by omega
 obtain ⟨_,_,b1,b2,b3,⟨_,o0,o1,o2,o3,o4,_⟩,_⟩:=hI;refine callsIn_wide.2 ?_;clear h hW hJ hJx hY h0 hni hah
 go_enter Tryz.func116,Tryz.ntmps116
 go_upto_region 0 with fail
 go_quiet (fail)
 have H1:=kp (HJ.out _ _ nq H0.out);have HI1:=kp (show ArgsIn n0 rb (W.drewN nq) Bt Bi tb nb no c tl k n from HI.out.kept (KeptTo.drewN _ _ _ _));generalize W.drewN nq=W1 at *;clear b1 b2 b3 o0 o1 o2 o3 o4 H0 HI;go_wp2_with fail
 go_loopw [14] (fun i wr=>∃ (m:Nat) (pre:List (ArgAt k)),m<=3/\i=.int .i64 m/\pre.map ArgAt.val=(argsOf n).take m/\J pre wr/\ArgsIn n0 rb wr Bt Bi tb nb no c tl k n) (fun i _=>3 - (intOf i).toNat)
 case atStart=>exact⟨0,[],by omega,rfl,rfl,H1.out,HI1.out⟩
 case round =>
  obtain ⟨m,pre,hm,rfl,hpre,hj,hI⟩:=hrel;have HI:=kp hI;have HJw:=kp hj;have HP:=kp hpre;obtain ⟨_,_,b1,b2,b3,⟨_,o0,o1,o2,o3,o4,_⟩,_⟩:=hI;clear hpre hj
  by_cases hm3:m < 3
  ·have hm3i:(m:Int) < 3:=by omega
   have HIx:=kp (show ∀ W,(Instr.index 47 (.agg #[.int .i64 n.a0,.int .i64 n.a1,.int .i64 n.a2]) (.int .i64 (m:Nat))).run Tryz.prog W=.ok (.int .i64 (n.arg m)) W from fun W=>by
    have hc:m=0\/m=1\/m=2:=by omega
    rcases hc with rfl | rfl | rfl
    ·exact(show(Instr.index 47 (.agg #[.int .i64 n.a0,.int .i64 n.a1,.int .i64 n.a2]) (.int .i64 0)).run Tryz.prog W=.ok (.int .i64 n.a0) W by kernel_rfl)
    ·exact(show(Instr.index 47 (.agg #[.int .i64 n.a0,.int .i64 n.a1,.int .i64 n.a2]) (.int .i64 1)).run Tryz.prog W=.ok (.int .i64 n.a1) W by kernel_rfl)
    ·exact(show(Instr.index 47 (.agg #[.int .i64 n.a0,.int .i64 n.a1,.int .i64 n.a2]) (.int .i64 2)).run Tryz.prog W=.ok (.int .i64 n.a2) W by kernel_rfl))
   have hix:=HIx.out;have hll:=HL.out
   by_cases hml:m < (argsOf n).length
   ·have hmn:(m:Int) < n.len:=by omega
    have hga:=argsOf_get hml;have hah:=HAh.out _ (mgq hga)
    have hpl:pre.length < (argsOf n).length:=by
     have h1:pre.length=((argsOf n).take m).length:=by rw [← HP.out];exact(List.length_map _).symm
     rw [List.length_take] at h1
     omega
    obtain ⟨x,hx⟩:∃ x:ArgAt k,x.val=n.arg m:=⟨⟨n.arg m,hah⟩,rfl⟩
    have HR:=(HY.out pre x wr.drew (HJd.out _ _ HJw.out) hpl).mono (R':=fun e W'=>∃ b,e=.returned (.bool b)/\RoundPost J Jx n0 rb (pre ++ [x]) wr.drew b W') (fun e W' h=>by
     rcases h with⟨h1,h2,h3⟩ | ⟨h1,h2⟩
     ·exact⟨true,h1,.inl ⟨rfl,h2,h3⟩⟩
     ·exact⟨false,h1,.inr ⟨rfl,h2⟩⟩)
    obtain ⟨fn,tmps,assign,body,hy,hR⟩:=HR;unfold encA at hy;rw [hx] at hy;have h1:=hah.1;have h2:=hah.2
    have HPx:=kp (show(pre ++ [x]).map ArgAt.val=(argsOf n).take (m+1) from by
     rw [List.map_append,HP.out,List.take_add_one,hga];show _ ++ [x.val]=_;rw [hx]
     rfl)
    generalize pre ++ [x]=pre' at *;have HR:=kp hR;clear hR hga hah hpl hll hx;generalize n.arg m=a at *;go_upto_region 3 with fail
    have hlw:IntKind.i64.wrap n.len=n.len:=IntWalk.i64_in _ (by omega);have ha2:decide (0<=a)=true:=decide_eq_true h1;refine wp_region_rnd (n:=9) (S:=fun V=>KeptTo n0 rb wr V) (by kernel_rfl) 23 (KeptTo.drewN _ _ _ 1) (fun hHeld=>?_);refine hl1 [0,1,2,3,4,5,6,7,8,9,10,11,12,13,14,15,16,17,18,19,20,21,22] ?_;iterate 23 (refine hrt (v:=?_) ?_ ?_;rotate_left;(focus (intro w hSw;(obtain ⟨_,_,b1,b2,b3,⟨_,o0,o1,o2,o3,o4,_⟩,_⟩:=HI.out.kept (W':=w) hSw;go_simp;try with_reducible rfl)));try simp only [pt])
    refine hl0 ?_;refine wpRnd_step (i:=23) (o:=Oper.mk _ _ _ _ _ _) (by kernel_rfl) rfl (by kernel_rfl) (fun K hK=>?_);go_simp;refine HR.out.mono ?_;rintro e W3 ⟨b,rfl,hq⟩;refine hK.out _ _ ?_;clear hK K;try simp only [pt]
    refine hl1 [24,25] ?_;iterate 2 (refine hrl (v:=?_) ?_ ?_;rotate_left;(focus (intro w hSw;(go_simp;try with_reducible rfl)));try simp only [pt])
    refine hl0 ?_;refine wpRnd_done (by kernel_rfl) ?_ _;clear hHeld b1 b2 b3 o0 o1 o2 o3 o4;rcases hq with⟨rfl,hj3,hk3⟩ | ⟨rfl,hj3⟩
    ·have HI3:=kp (HI.out.kept ((KeptTo.drewN n0 rb wr 1).trans hk3));go_wp2_with fail
     go_roundw
     case rel=>exact⟨m+1,pre',by omega,by go_num,HPx.out,hj3,HI3.out⟩
     case measure=>simp [intOf];omega
    ·go_wp2_with fail
     refine bodyPost_ret (results_none rfl _ _ _) rfl ?_;exact⟨⟨_,rfl⟩,.inr ⟨pre',by rw [HPx.out];exact List.take_prefix _ _,hj3⟩⟩
   ·have hml3:m ≥ (argsOf n).length:=by omega
    have hmn:¬ (m:Int) < n.len:=by omega
    have hlw:IntKind.i64.wrap n.len=n.len:=IntWalk.i64_in _ (by omega);have hmn2:decide ((m:Int) < n.len)=false:=dfq hmn;go_upto_region 3 with fail
    go_quiet (fail)
    have HJ4:=kp (HJ.out _ _ nq HJw.out);have HI4:=kp (show ArgsIn n0 rb (wr.drewN nq) Bt Bi tb nb no c tl k n from HI.out.kept (KeptTo.drewN _ _ _ _));generalize wr.drewN nq=W4 at *;clear b1 b2 b3 o0 o1 o2 o3 o4;go_wp2_with fail
    go_roundw
    case rel=>exact⟨m+1,pre,by omega,by go_num,by rw [HP.out,List.take_of_length_le (by omega),List.take_of_length_le (by omega)],HJ4.out,HI4.out⟩
    case measure=>simp [intOf];omega
  ·obtain rfl:m=3:=by omega
   go_wp2_with fail
   go_end0
   refine⟨⟨_,rfl⟩,.inl ⟨pre,?_,HJw.out⟩⟩;rw [HP.out,List.take_of_length_le];have:=HL.out
   omega
attribute [local go_sem] Oper.semAt_some
theorem sumup_any (s x:Int) (h1:0<=s) (h2:s<=4294967296) (h3:0<=x) (h4:x<=4294967296) (w:World):Calls Tryz.prog 39 #[.int .i64 s,.int .i64 x] w fun e w'=>e=.returned (.int .i64 (s+x))/\w=w':=by
 go_enter Tryz.func39,Tryz.ntmps39
 go_wp2_with fail
 go_ret;exact⟨rfl,rfl⟩
def rowC (l:List Int):Array Value:=(l.map (Value.int .i64)).toArray
theorem made_row (n:Nat):madeCells #[.int .i64 0] n=rowC (List.replicate n 0):=by
 have h:=toList_madeCells_one (.int .i64 0) n;unfold rowC;rw [List.map_replicate,← h,Array.toArray_toList]
theorem rowC_get {l:List Int} {j:Nat} {x:Int} (h:l[j]?=some x):(rowC l)[j]?=some (.int .i64 x):=by
 unfold rowC;rw [List.getElem?_toArray,List.getElem?_map,h]
 rfl
theorem rowC_set (l:List Int) (j:Nat) (x:Int):(rowC l).setIfInBounds j (.int .i64 x)=rowC (l.set j x):=by
 unfold rowC;rw [List.setIfInBounds_toArray,List.map_set]
theorem set_mid (l z:List Int) (s u:Int):(l ++ s :: z).set l.length u=l ++ u :: z:=by
 induction l with
 | nil=>rfl
 | cons a l ih=>rw [List.cons_append,List.length_cons,List.set_cons_succ,ih];rfl
theorem get_mid (l z:List Int) (s:Int):(l ++ s :: z)[l.length]?=some s:=by
 rw [List.getElem?_append_right nlq,Nat.sub_self]
 rfl
structure GW (w W:World) (k:Nat) (row:List Int):Prop where
 put:W.cell? ⟨w.heap.size,0,none⟩=some (.func (.func 39) #[] #[])
 row:W.heap[w.heap.size+1]?=some (.cells (rowC row) 3 (0,0))
 all:W.cell? ⟨w.heap.size+2,0,none⟩=some (.slice (some ⟨w.heap.size+1,0,none⟩) (k+1) (k+1))
 size:w.heap.size+3<=W.heap.size
 below:Below w.heap.size w W
section
variable {w W W':World} {k:Nat} {row:List Int}
theorem GW.on (h:GW w W k row) (hb:Below W.heap.size W W'):GW w W' k row:=by
 have hz:=h.size;exact⟨((bcell hb).1 _ _ (by omega)).trans h.put,Bk.on h.row hb,((bcell hb).1 _ _ (by omega)).trans h.all,Nat.le_trans hz hb.size,h.below.trans (hb.mono h.below.size)⟩
theorem GW.at' (h:GW w W k row) {j:Nat} {x:Int} (hx:row[j]?=some x):W.cell? ⟨w.heap.size+1,j,none⟩=some (.int .i64 x):=by
 rw [cell_of_cells h.row];exact rowC_get hx
theorem GW.free (h:GW w W k row) (j:Nat):W.frozen? ⟨w.heap.size+1,j,none⟩=false:=frozen_of_cells h.row j
theorem GW.store (h:GW w W k row) (j:Nat) (x:Int):GW w (W.setCell ⟨w.heap.size+1,j,none⟩ (.int .i64 x)) k (row.set j x):=by
 refine⟨?_,?_,?_,?_,h.below.setCell (p:=⟨w.heap.size+1,j,none⟩) (by show w.heap.size<=w.heap.size+1;omega) _⟩
 ·rw [World.cell?_of_block (Below.heap_setCell W ⟨w.heap.size+1,j,none⟩ _ w.heap.size (by show w.heap.size≠w.heap.size+1;omega))];exact h.put
 ·have:=Bk.set_at h.row j (.int .i64 x)
  rwa [rowC_set] at this
 ·rw [World.cell?_of_block (Below.heap_setCell W ⟨w.heap.size+1,j,none⟩ _ (w.heap.size+2) (by show w.heap.size+2≠w.heap.size+1;omega))];exact h.all
 ·simpa [World.setCell] using h.size
end
theorem own_gw {β:Type} {w:World} {k B:Nat} {f:β->List Int} (hB:w.heap.size<=B):OwnFrom B (fun(s:β) W=>GW w W k (f s)):=fun s W W' row hs hg hr=>by
 have hrow:∀ r,row=some r->∃ o:Obj,W.heap[r]?=some o/\o.isCells=false:=fun r e=>(hr r e).2;refine⟨cell_kept hs.put hg hrow,?_,cell_kept hs.all hg hrow,Nat.le_trans hs.size hg.size,hs.below.grown hg hs.below.size (fun j e=>Nat.le_trans hB (hr j e).1)⟩;refine(hg.block _ (lt_of_block hs.row) (fun e=>?_)).trans hs.row;obtain ⟨o,ho,hc⟩:=hrow _ e.symm;rw [hs.row] at ho
 cases ho
 cases hc
theorem own_cell {β:Type} {B:Nat} {p:Addr} {v:Value}:OwnFrom B (fun(_:β) W=>W.cell? p=some v):=fun _ _ _ _ hs hg hr=>cell_kept hs hg (fun r e=>(hr r e).2)
theorem args_any (p:Option Addr) (i:Int) (w:World):Calls Tryz.prog 73 #[.pointer p,.int .i64 i] w fun e w'=>e=.returned (.func (.func 116) #[] #[.pointer (some ⟨w.heap.size,0,none⟩),.pointer (some ⟨w.heap.size+1,0,none⟩)])/\w'=(w.alloc (.cells #[.pointer p] 64)).alloc (.cells #[.int .i64 i] 3):=by
 go_enter Tryz.func73,Tryz.ntmps73
 go_wp2_with fail
 go_ret;exact⟨rfl,rfl⟩
theorem gathered_any {w:World} {A:Option Addr} {t:List Node} {c tb k:Nat} (ht:Lies 8 NodeR w A t) (hn:t.length<=1000000) (ha:Ahead t) (hk:k < t.length) (htb:w.heap[tb]?=some (.cells #[.slice A t.length c] 29 (0,0))) :
  Calls Tryz.prog 38 #[.pointer (some ⟨tb,0,none⟩),.int .i64 k,.func (.func 39) #[] #[]] w fun e w'=>e=.returned (.int .i64 (treeN t k))/\Below w.heap.size w w':=by
 have HT:=kp ht;have HA:=kp ha;have HN:=kp hn;have HTb:=kp htb;have htl:=lt_of_block htb;obtain ⟨t0,tf⟩:=Bk.c1 htb;have hk2:(k:Int) < (t.length:Int):=by omega
 have hn2:(t.length:Int)<=1000000:=by omega
 have hmk:∀ W,(Instr.makeSlice 45 (.int .i64 ((k:Int)+1)) (.int .i64 ((k:Int)+1))).run Tryz.prog W=.ok (.slice (some ⟨W.heap.size,0,none⟩) (k+1) (k+1)) (W.alloc (.cells (madeCells #[.int .i64 0] (k+1)) 3)):=fun W=>by
  have h:=run_make_int (k+1) (by omega) W
  rwa [show(((k+1:Nat)):Int)=(k:Int)+1 by omega] at h
 clear ht ha htb;refine calls_marks Tryz.func38 rfl ?_;simp only [Tryz.ntmps38,List.size_toArray,List.length_cons,List.length_nil,Nat.reduceAdd,Nat.reduceSub,Array.replicate_succ,Array.replicate_zero,List.push_toArray,List.append_toArray,List.nil_append,List.cons_append];go_wp2_with fail
 rw [made_row]
 have HG0:=kp (show GW w (((w.alloc (.cells #[.func (.func 39) #[] #[]] 96)).alloc (.cells (rowC (List.replicate (k+1) 0)) 3)).alloc (.cells #[.slice (some ⟨w.heap.size+1,0,none⟩) (k+1) (k+1)] 45)) k (trees t 0 ++ List.replicate (k+1) 0) from by
  have h1:(trees t 0 ++ List.replicate (k+1) 0:List Int)=List.replicate (k+1) 0:=rfl;rw [h1];have hb:=(((brq w).alloc nlq (.cells #[.func (.func 39) #[] #[]] 96)).alloc (by simp) (.cells (rowC (List.replicate (k+1) 0)) 3)).alloc (by simp;omega) (.cells #[.slice (some ⟨w.heap.size+1,0,none⟩) (k+1) (k+1)] 45);have e1:(w.alloc (.cells #[.func (.func 39) #[] #[]] 96)).heap.size=w.heap.size+1:=by simp
  have e2:((w.alloc (.cells #[.func (.func 39) #[] #[]] 96)).alloc (.cells (rowC (List.replicate (k+1) 0)) 3)).heap.size=w.heap.size+2:=by simp
  refine⟨?_,?_,?_,by simp,hb⟩
  ·rw [cell_of_cells (Bk.keep (Bk.keep (Bk.new w _) _) _)];rfl
  ·have h2:=Bk.new (w.alloc (.cells #[.func (.func 39) #[] #[]] 96)) (.cells (rowC (List.replicate (k+1) 0)) 3);rw [e1] at h2;exact Bk.keep h2 _
  ·have h2:=Bk.new ((w.alloc (.cells #[.func (.func 39) #[] #[]] 96)).alloc (.cells (rowC (List.replicate (k+1) 0)) 3)) (.cells #[.slice (some ⟨w.heap.size+1,0,none⟩) (k+1) (k+1)] 45);rw [e2] at h2;rw [cell_of_cells h2];rfl)
 generalize ((w.alloc (.cells #[.func (.func 39) #[] #[]] 96)).alloc (.cells (rowC (List.replicate (k+1) 0)) 3)).alloc (.cells #[.slice (some ⟨w.heap.size+1,0,none⟩) (k+1) (k+1)] 45)=w3 at *;refine wp_loop (fun(a':Act) (wr:World)=>∃ (i:Nat) (ds:List Deferred) (x3 x4 x8 x9 x10 x11 x12 x13 x14 x15 x16 x17 x18 x19 x20 x21 x22 x23 x24 x27 x28 x29 x30 x31 x32 x33 x34 x35 x36 x37 x38 x39 x40 x41 x42 x43 x44 x45 x46 x47 x48 x49 x50 x51 x52 x53 x54 x55 x56 x57 x58 x59:Value),(i<=k+1/\GW w wr k (trees t i ++ List.replicate (k+1 - i) 0)/\Marks w.heap.size wr ds)/\a'={ tmps:=#[.pointer (some ⟨tb,0,none⟩),.int .i64 k,.func (.func 39) #[] #[],x3,x4,.pointer (some ⟨w.heap.size,0,none⟩),.int .i64 0,.pointer (some ⟨w.heap.size+1+1,0,none⟩),x8,x9,x10,x11,x12,x13,x14,x15,x16,x17,x18,x19,x20,x21,x22,x23,x24,.int .i64 ((k:Int)+1),.int .i64 i,x27,x28,x29,x30,x31,x32,x33,x34,x35,x36,x37,x38,x39,x40,x41,x42,x43,x44,x45,x46,x47,x48,x49,x50,x51,x52,x53,x54,x55,x56,x57,x58,x59],defers:=ds }) (fun a' wr=>(k+1) - (intOf (a'.tmps.getD 26 undef)).toNat) ?atStart ?round
 case atStart =>
  refine⟨0,[],?_⟩
  (repeat apply Exists.intro)
  exact⟨⟨Nat.zero_le _,HG0.out,Marks.nil _ _⟩,rfl⟩
 case round =>
  rintro a' wr ⟨i,ds,x3,x4,x8,x9,x10,x11,x12,x13,x14,x15,x16,x17,x18,x19,x20,x21,x22,x23,x24,x27,x28,x29,x30,x31,x32,x33,x34,x35,x36,x37,x38,x39,x40,x41,x42,x43,x44,x45,x46,x47,x48,x49,x50,x51,x52,x53,x54,x55,x56,x57,x58,x59,hrel,rfl⟩;obtain ⟨hi,hg,hmk2⟩:=hrel;have HG:=kp hg;have HM:=kp hmk2;clear hg hmk2
  by_cases hik:i < k+1
  ·have hik2:(i:Int) < (k:Int)+1:=by omega
   have hbw:=HG.out.below;have HTr:=kp (HT.out.on NodeR.lasts hbw);obtain ⟨n,hnk⟩:∃ n,t[i]?=some n:=⟨_,gqe (by omega)⟩;obtain ⟨nb,no,hAt,hna,hni⟩:=node_get HT.out hnk;have HNa:=kp (NodeAt.on hna hbw);have HNi:=kp hni;have HNl:=kp hna.1;have HAh:=kp (fun a hm=>HA.out i n hnk a hm);have HSt:=kp (show trees t (i+1)=trees t i ++ [min (argSum (trees t i) (argsOf n)+1) 1073741824] by rw [trees_succ,nodeAt_get hnk];rfl);have HTw:=kp (Bk.on HTb.out hbw);have hgz:=HG.out.size;subst hAt;clear hna hni hnk hbw t0 tf;go_upto_region 7 with fail
   have BA:=kp ((brq wr).alloc nlq (.cells #[.int .i64 (i:Int)] 3));have IA:=kp (Bk.new wr (.cells #[.int .i64 (i:Int)] 3));have hza:(wr.alloc (.cells #[.int .i64 (i:Int)] 3)).heap.size=wr.heap.size+1:=by simp
   generalize wr.alloc (.cells #[.int .i64 (i:Int)] 3)=wa at *;obtain ⟨i0,if0⟩:=Bk.c1 IA.out;go_wp2_with fail
   refine(args_any (some ⟨tb,0,none⟩) (i:Int) wa).mono ?_;rintro e w8 ⟨rfl,hw8⟩;have B8:=kp (show Below wa.heap.size wa w8 from by rw [hw8];exact((brq wa).alloc nlq _).alloc (by simp) _);have hz8:w8.heap.size=wa.heap.size+2:=by rw [hw8];simp
   have C1:=kp (show w8.cell? ⟨wa.heap.size,0,none⟩=some (.pointer (some ⟨tb,0,none⟩)) from by rw [hw8,cell_of_cells (Bk.keep (Bk.new wa _) _)];rfl)
   have C2:=kp (show w8.cell? ⟨wa.heap.size+1,0,none⟩=some (.int .i64 (i:Int)) from by
    have h2:=Bk.new (wa.alloc (.cells #[.pointer (some ⟨tb,0,none⟩)] 64)) (.cells #[.int .i64 (i:Int)] 3);rw [show(wa.alloc (.cells #[.pointer (some ⟨tb,0,none⟩)] 64)).heap.size=wa.heap.size+1 by simp] at h2;rw [hw8,cell_of_cells h2]
    rfl)
   have G8:=kp ((HG.out.on BA.out).on B8.out);have BW:=kp (BA.out.trans (B8.out.mono BA.out.size));have M8:=kp (HM.out.below BW.out);have I8:=kp (Bk.on IA.out B8.out)
   have HIn:=kp (show ArgsIn w8.heap.size (w.heap.size+1) w8 wa.heap.size (wa.heap.size+1) tb nb no c t.length i n from by
    refine⟨⟨by omega,by omega,by omega,by have:=HNl.out;omega⟩,⟨by omega,by omega,by omega,by have:=HNl.out;omega⟩,C1.out,C2.out,(Bk.c1 (Bk.on HTw.out BW.out)).1,NodeAt.on HNa.out BW.out,nlq⟩)
   clear hw8 i0 if0 B8 BA IA C1 C2;rw [hza] at HIn;go_wp2_with fail
   have HAl:=kp (fun ys=>argSum_le t i ys);have HLi:=kp (trees_len t i)
   have hrow0:trees t i ++ List.replicate (k+1 - i) 0=trees t i ++ argSum (trees t i) (([]:List (ArgAt i)).map ArgAt.val) :: List.replicate (k - i) 0:=by
    rw [show k+1 - i=(k - i)+1 by omega,List.replicate_succ]
    rfl
   rw [hrow0] at G8
   refine wp_range (α:=ArgAt i) (gf:=116) (lb:=#[.pointer (some ⟨wr.heap.size+1,0,none⟩),.pointer (some ⟨wr.heap.size+1+1,0,none⟩)]) rfl (enters_of Tryz.func116 (by kernel_rfl) rfl)
    (args_stops HIn.out nlq HNi.out (by omega) hn HAh.out) (fun h k=>KeptTo.trans h k) (KeptTo.put nlq) (fun _=>rfl)
    (fun pre W=>(GW w W k (trees t i ++ argSum (trees t i) (pre.map ArgAt.val) :: List.replicate (k - i) 0)/\W.cell? ⟨wr.heap.size,0,none⟩=some (.int .i64 (i:Int)))/\KeepsFrom 0 w8 W) (fun _ _ _=>False)
    (OwnFrom.and (OwnFrom.and (own_gw (by have:=G8.out.size;omega)) own_cell) (ownFrom_keepsFrom nlq)) (fun _ _ _ _ _ hs _ _=>hs) ⟨⟨G8.out,(Bk.c1 I8.out).1⟩,KeepsFrom.refl _ _⟩
    (fun x=>{ tmps:=#[.pointer (some ⟨tb,0,none⟩),.int .i64 k,.func (.func 39) #[] #[],x3,x4,.pointer (some ⟨w.heap.size,0,none⟩),.int .i64 0,.pointer (some ⟨w.heap.size+1+1,0,none⟩),.pointer (some ⟨wr.heap.size,0,none⟩),.int .i64 x.val,x10,x11,x12,x13,x14,x15,x16,x17,x18,x19,x20,x21,x22,x23,x24,.int .i64 ((k:Int)+1),.int .i64 i,.bool true,.int .i64 i,.pointer (some ⟨tb,0,none⟩),.int .i64 i,.func (.func 116) #[] #[.pointer (some ⟨wr.heap.size+1,0,none⟩),.pointer (some ⟨wr.heap.size+1+1,0,none⟩)],.int .i64 x.val,x33,x34,x35,x36,x37,x38,x39,x40,x41,x42,x43,x44,x45,x46,x47,x48,x49,x50,x51,x52,x53,x54,x55,x56,x57,x58,x59],defers:=[] }) ?assign ?body ?done ?stop
   case assign =>
    intro l x W K hK;unfold encA
    gi_wp2
    exact hK
   case body =>
    rintro l pre x W ⟨⟨hg,hib⟩,hkf⟩ hlen;obtain ⟨a,ha1,ha2⟩:∃ a:Nat,x.val=(a:Int)/\a < i:=⟨x.val.toNat,by have:=x.ok;omega,by have:=x.ok;omega⟩;obtain ⟨y,hy⟩:∃ y,(trees t i)[a]?=some y:=⟨_,gqe (by rw [trees_len];exact ha2)⟩;have hyb:=trees_le t i y (mgq hy);have hsb:=HAl.out (pre.map ArgAt.val);have hpl:(pre.map ArgAt.val).length < 3:=by rw [List.length_map];have:=argsOf_len n;omega
    have HNx:=kp (show argSum (trees t i) ((pre ++ [x]).map ArgAt.val)=argSum (trees t i) (pre.map ArgAt.val)+y by
     rw [List.map_append];show argSum _ (_ ++ [x.val])=_;rw [argSum_snoc,ha1,show((a:Int)).toNat=a from rfl,List.getD_eq_getElem?_getD,hy]
     rfl)
    have hra:=hg.at' (show(trees t i ++ argSum (trees t i) (pre.map ArgAt.val) :: List.replicate (k - i) 0)[a]?=some y by rw [List.getElem?_append_left (by rw [trees_len];exact ha2)];exact hy);have hri:=hg.at' (show(trees t i ++ argSum (trees t i) (pre.map ArgAt.val) :: List.replicate (k - i) 0)[i]?=some (argSum (trees t i) (pre.map ArgAt.val)) by have:=get_mid (trees t i) (List.replicate (k - i) 0) (argSum (trees t i) (pre.map ArgAt.val));rwa [trees_len] at this);have hpu:=hg.put;have hal:=hg.all;have hgs:=hg.store i (argSum (trees t i) (pre.map ArgAt.val)+y);have hfr:=hg.free
    have HGs:=kp (show GW w (W.setCell ⟨w.heap.size+1,i,none⟩ (.int .i64 (argSum (trees t i) (pre.map ArgAt.val)+y))) k (trees t i ++ (argSum (trees t i) (pre.map ArgAt.val)+y) :: List.replicate (k - i) 0) from by
     have h:=hgs;have h2:=set_mid (trees t i) (List.replicate (k - i) 0) (argSum (trees t i) (pre.map ArgAt.val)) (argSum (trees t i) (pre.map ArgAt.val)+y);rw [trees_len] at h2
     rwa [h2] at h)
    have HPut:=kp (fun V=>sumup_any (argSum (trees t i) (pre.map ArgAt.val)) y hsb.1 (by omega) hyb.1 (by omega) V);have hik3:(i:Int) < (k:Int)+1:=hik2;have hak:(a:Int) < (k:Int)+1:=by omega
    have hcf:∀ args V,(callFunc 39 args).run Tryz.prog V=.ok (.enter 39 args) V:=enters_of Tryz.func39 (by kernel_rfl) rfl;rw [ha1];generalize argSum (trees t i) (pre.map ArgAt.val)=s at *;refine wpIn_block ?_;refine wpIn_region_hd (S:=fun V=>V=W.drew) (by kernel_rfl) (by repeat' first | exact letsG | refine lets_then ?_ | refine lets_block ?_) (by kernel_rfl) 13 (rfl) (fun hHeld=>?_);refine hl1 [0,1,2,3,4,5,6,7,8,9,10] ?_;iterate 11 (refine hwt (v:=?_) ?_ ?_;rotate_left;(focus (intro w hSw;(subst hSw;go_simp;try with_reducible rfl)));try simp only [pt])
    refine hl0 ?_;refine wpHd_step (i:=11) (o:=Oper.mk _ _ _ _ _ _) (by kernel_rfl) rfl (fun K hK=>?_);go_simp
    go_wp2_with (go_at_call 39;refine(HPut.out _).mono ?_;rintro e w5 ⟨rfl,rfl⟩)
    refine hK.out _ _ (rfl) (fun hHeld=>?_);clear hK K;try simp only [pt]
    refine hl1 [12] ?_;iterate 1 (refine hwt (v:=?_) ?_ ?_;rotate_left;(focus (intro w hSw;(subst hSw;go_simp;try with_reducible rfl)));try simp only [pt])
    refine hl0 ?_;refine wpHd_last (i:=13) (o:=Oper.mk _ _ _ _ _ _) (by kernel_rfl) rfl (by kernel_rfl) (fun K hK=>?_);go_simp;refine hK.out _ _ ?_;clear hK K;try simp only [pt]
    refine wpHd_done (by kernel_rfl) ?_ _;have hlt1:W.heap.size<=(W.setCell ⟨w.heap.size+1,i,none⟩ (.int .i64 (s+y))).heap.size:=by simp [World.setCell]
    have hko:=(KeepsOthers.setCell W ⟨w.heap.size+1,i,none⟩ (.int .i64 (s+y))).trans (KeepsOthers.drew _);refine⟨hko.from _,⟨hlt1,fun b _ h2=>Below.heap_setCell W ⟨w.heap.size+1,i,none⟩ (.int .i64 (s+y)) b h2⟩,⟨?_,?_⟩,hkf.trans (hko.from 0)⟩
    ·rw [HNx.out];exact GW.on HGs.out ((Below.refl _ _).drew)
    ·refine(World.cell?_of_block (Below.heap_setCell W ⟨w.heap.size+1,i,none⟩ (.int .i64 (s+y)) wr.heap.size ?_)).trans hib;show wr.heap.size≠w.heap.size+1
     omega
   case done =>
    rintro D xs W hD hS ⟨⟨hg,hib⟩,hkf⟩ hK;rw [hS] at hg;have hsb:=HAl.out (argsOf n);have hl3:=argsOf_len n;have MD:=kp (Marks.cons M8.out ⟨hkf.size,fun k o h1 h2=>hkf.same k o (Nat.zero_le _) h1 h2⟩ (by have:=G8.out.size;omega) hK hD);have hri:=hg.at' (show(trees t i ++ argSum (trees t i) (argsOf n) :: List.replicate (k - i) 0)[i]?=some (argSum (trees t i) (argsOf n)) by have:=get_mid (trees t i) (List.replicate (k - i) 0) (argSum (trees t i) (argsOf n));rwa [trees_len] at this);have hal:=hg.all;have hfr:=hg.free
    have HSet:=kp (fun u=>(show GW w (W.setCell ⟨w.heap.size+1,i,none⟩ (.int .i64 u)) k (trees t i ++ u :: List.replicate (k - i) 0) from by
     have h:=hg.store i u;have h2:=set_mid (trees t i) (List.replicate (k - i) 0) (argSum (trees t i) (argsOf n)) u;rw [trees_len] at h2
     rwa [h2] at h))
    have hs0:=hsb.1;have hs3:argSum (trees t i) (argsOf n)<=3221225472:=by omega
    obtain ⟨u,hu⟩:∃ u,min (argSum (trees t i) (argsOf n)+1) 1073741824=u:=⟨_,rfl⟩;have hu2:(argSum (trees t i) (argsOf n)+1<=1073741824/\u=argSum (trees t i) (argsOf n)+1)\/(¬ argSum (trees t i) (argsOf n)+1<=1073741824/\u=1073741824):=by omega
    rw [hu] at HSt;have HMin:=kp hu
    have HSet2:=kp (show GW w (W.setCell ⟨w.heap.size+1,i,none⟩ (.int .i64 u)) k (trees t (i+1) ++ List.replicate (k+1 - (i+1)) 0) from by
     rw [HSt.out,List.append_assoc,show k+1 - (i+1)=k - i by omega];exact HSet.out u)
    clear hS hg hsb hl3 hu;generalize argSum (trees t i) (argsOf n)=s at *;rcases hu2 with⟨hu3,hu4⟩ | ⟨hu3,hu4⟩
    all_goals
     subst hu4;go_wp2_with fail
     refine wp_region_hd (S:=fun V=>V=W.drew) (by kernel_rfl) 9 (rfl) (fun hHeld=>?_);refine hl1 [0,1,2,3,4,5,6,7,8] ?_;iterate 9 (refine hwt (v:=?_) ?_ ?_;rotate_left;(focus (intro w hSw;(subst hSw;go_simp;try with_reducible rfl)));try simp only [pt])
     refine hl0 ?_;refine wpHd_last (i:=9) (o:=Oper.mk _ _ _ _ _ _) (by kernel_rfl) rfl (by kernel_rfl) (fun K hK=>?_);go_simp;refine hK.out _ _ ?_;clear hK K;try simp only [pt]
     refine wpHd_done (by kernel_rfl) ?_ _;go_wp2_with fail
     try rw [HMin.out]
     exact⟨⟨i+1,⟨by omega,HSet2.out.on ((Below.refl _ _).drew),MD.out.keep ((KeepsOthers.setCell W _ _).trans (KeepsOthers.drew _))⟩,by omega⟩,by simp [intOf];omega⟩
   case stop =>
    rintro D c' pre W _ _ h _;exact h.elim
  ·obtain rfl:i=k+1:=by omega
   have hrk:=HG.out.at' (show(trees t (k+1) ++ List.replicate (k+1 - (k+1)) 0)[k]?=some (treeN t k) by
    rw [List.getElem?_append_left (by rw [trees_len];omega),trees_get t (Nat.lt_succ_self k)];have:=treeN_at hk
    rwa [trees_get t hk] at this)
   have hal:=HG.out.all;have HB:=kp HG.out.below;clear t0 tf;go_wp2_with fail
   refine HM.out.leaves (fun w' _ hb=>⟨_,results_tmp rfl _ _ _,rfl,HB.out.trans hb⟩)
theorem tree_any:∀ (w:World) (A:Option Addr) (t:List Node) (c:Nat),Lies 8 NodeR w A t->t.length<=1000000->t.length<=c->c<=maxLen->Ahead t->∀ k:Nat,k < t.length ->
  Calls Tryz.prog 20 #[.agg #[.slice A t.length c],.int .i64 k] w fun e w'=>e=.returned (.int .i64 (treeN t k))/\Below w.heap.size w w':=by
 intro w A t c ht hn _ _ ha k hk;have B1:=kp ((brq w).alloc nlq (.cells #[.slice A t.length c] 29));have HG:=kp (gathered_any (ht.on NodeR.lasts B1.out) hn ha hk (Bk.new w (.cells #[.slice A t.length c] 29)));clear ht ha;generalize treeN t k=r at *
 go_enter Tryz.func20,Tryz.ntmps20
 go_upto_region 1 with fail
 generalize w.alloc (.cells #[.slice A t.length c] 29)=w1 at *;go_wp2_with fail
 refine HG.out.mono ?_;rintro e w2 ⟨rfl,hb⟩;have B2:=kp (B1.out.trans (hb.mono B1.out.size));clear hb;go_wp2_with fail
 go_ret;exact⟨rfl,B2.out⟩
end El
end Go.Proofs.YtpmdcckapddchaaGreatDoor

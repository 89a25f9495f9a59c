import Derived.Test.YtmcbolkpbklfeaaGreatDoorShort
import Derived.Test.YtmcbolkpbklfeaaGreatDoorMn
import Derived.Test.YtmcbolkpbklfeaaGreatDoorMq
/- merged by wip/merge.py from: CmdWritten -/
set_option maxRecDepth 100000
set_option maxHeartbeats 51200000
namespace Go.Proofs.YtmcbolkpbklfeaaGreatDoor
namespace Cm
open Go.RowKit Dt Go.Maps
def progL (c:Cmd):List Sexp:=if 0<=c.kind/\c.kind<=12 then writeL c else [symX noS]
structure CmdSmall (c:Cmd):Prop where
 l:c.l.length<=1000
 args:c.args.length<=1000
 params:c.params.length<=1000
 terms:c.terms.length<=1000
def agC (A1:Option Addr) (c1:Nat) (A2:Option Addr) (c2:Nat) (A3:Option Addr) (c3:Nat) (A4:Option Addr) (c4:Nat) (c:Cmd):Value :=
 .agg #[.int .i8 c.kind,.string c.name,.int .i64 c.n,.slice A1 c.l.length c1,.slice A2 c.args.length c2,.slice A3 c.params.length c3,.string c.res,.slice A4 c.terms.length c4]
def WrittenPost (lo:Nat) (w:World) (c:Cmd) (e:Ending) (w':World):Prop :=
 ∃ A' c',e=.returned (.agg #[.int .i8 3,.string { data:=#[] },.slice A' (progL c).length c'])/\(∀ W',Stays lo w.heap.size w' W'->SexpR W' [.int .i8 3,.string noS,.slice A' (progL c).length c'] (listX (progL c)))/\Below w.heap.size w w'
theorem written_fin {lo:Nat} {w W:World} {c:Cmd} {nr c':Nat} {A:Option Addr} {xs:List Sexp} (hx:progL c=xs) (hb:Below w.heap.size w W) (hn:w.heap.size<=nr)
  (hl:∀ W',Keeps (fun k=>k=nr\/(lo<=k/\k < w.heap.size)) W W'->Lies 3 SexpR W' A xs) (h1:xs.length<=c') (h2:c'<=maxLen) (h3:xs.length * 48<=140737488351232) :
  WrittenPost lo w c (.returned (.agg #[.int .i8 3,.string { data:=#[] },.slice A xs.length c'])) (set3 W nr (.int .i8 3) (.string { data:=#[] }) (.slice A xs.length c')):=by
 subst hx;exact⟨A,c',rfl,fun W' hW'=>list_r (hl _ ((set3_keeps (S:=fun k=>k=nr\/(lo<=k/\k < w.heap.size)) (Keeps.refl _ _) (.inl (.inl rfl)) _ _ _).trans_same (hW'.mono (fun _ h=>.inr h)))) h1 h2 h3,(set3_keeps (S:=fun _=>False) (Keeps.of_below hb _) (.inr hn) _ _ _).none_below⟩
theorem progL_of {c:Cmd} {k:Int} (hk:c.kind=k) (h:0<=k/\k<=12):progL c=writeL c:=by
 unfold progL;rw [hk,if_pos h]
theorem lit_keep {W W':World} {S:Nat->Prop} {nb:Nat} {t:TypeId} {ys:List Bit} {cs:Array Value} (hL:W.heap[nb]?=some (.cells cs t (0,0))) (hk:Keeps S W W') (hne:¬ S nb) (hc:cs.toList=cells3 ys) (hr:∀ y ∈ ys,BitR W' y):Lies 3 SexpR W' (some ⟨nb,0,none⟩) (ys.map Prod.fst) :=
 lit_lies ((hk.block _ (lt_of_block hL) hne).trans hL) hc hr
theorem lit_owns (w:World) (cs:Array Value) (t:TypeId) (n base:Nat) (hc:cs.size=n * 3) (hb:base<=w.heap.size) (hn:n<=maxLen):(w.alloc (.cells cs t)).ownsRow base t 3 (.slice (some ⟨w.heap.size,0,none⟩) n n) n cs.toList :=
 ⟨by simpa using hc,.inr ⟨w.heap.size,n,cs,rfl,hb,blk_new _ _,nlq,hn,hc,by rw [List.take_of_length_le];simp;omega⟩⟩
theorem bits_two {W:World} {a b:Bit} (h1:BitR W a) (h2:BitR W b):∀ y ∈ [a,b],BitR W y:=by
 intro y hy;simp at hy;rcases hy with rfl | rfl <;> assumption
theorem bits_one {W:World} {a:Bit} (h1:BitR W a):∀ y ∈ [a],BitR W y:=by
 intro y hy;simp at hy;subst hy;assumption
theorem bits_three {W:World} {a b c:Bit} (h1:BitR W a) (h2:BitR W b) (h3:BitR W c):∀ y ∈ [a,b,c],BitR W y:=by
 intro y hy;simp at hy;rcases hy with rfl | rfl | rfl <;> assumption
theorem bits_four {W:World} {a b c d:Bit} (h1:BitR W a) (h2:BitR W b) (h3:BitR W c) (h4:BitR W d):∀ y ∈ [a,b,c,d],BitR W y:=by
 intro y hy;simp at hy;rcases hy with rfl | rfl | rfl | rfl <;> assumption
theorem sym_r (W:World) (s:ByteArray) (hs:(s.size:Int)<=140737488351232):BitR W (symX s,none,0):=leaf_r W 0 s hs (by decide)
theorem num_r (W:World) (n:Int) (hn:I64 n):BitR W (numX n,none,0):=leaf_r W 1 _ (size_textL n hn) (by decide)
theorem key_r (W:World) (s:ByteArray) (hs:(s.size:Int)<=140737488351232):BitR W (.mk 2 s [],none,0):=leaf_r W 2 s hs (by decide)
def NumR (_:World) (vs:List Value) (n:Int):Prop:=vs=[.int .i8 1,.string ⟨(textL n).toArray⟩,.slice none 0 0]/\I64 n
theorem numR_flat:Flat NumR:=fun _ _ _ _ h=>h
theorem nums_lies {w:World} {A:Option Addr} {l:List Int} (h:Lies 3 NumR w A l):Lies 3 SexpR w A (l.map numX) :=
 h.imp (by simp) fun i s x vs hs hx hr=>by
  rw [List.getElem?_map,hs] at hx;simp at hx;subst hx;obtain ⟨rfl,h⟩:=hr;exact num_r w s h
theorem pair_size {w:World} {A:Option Addr} {l:List (ByteArray × ByteArray)} (h:Lies 2 PairR w A l) {k:Nat} (hk:k < l.length):(((l.getD k (noS,noS)).1.size:Nat):Int)<=140737488351232/\(((l.getD k (noS,noS)).2.size:Nat):Int)<=140737488351232:=by
 obtain ⟨b,o,vs,hA,_,_,hc,hr⟩:=h.at' (gqe hk);rw [List.getD_eq_getElem?_getD,gqe hk];exact hr.2
theorem int_get {w:World} {A:Option Addr} {l:List Int} (h:Lies 1 (IntR .i64) w A l) {k:Nat} (hk:k < l.length):∃ b o,A=some ⟨b,o,none⟩/\w.cell? ⟨b,o+k,none⟩=some (.int .i64 (l.getD k 0))/\I64 (l.getD k 0):=by
 obtain ⟨b,o,vs,hA,_,_,hc,hr⟩:=h.at' (gqe hk);obtain ⟨rfl,hw⟩:=hr;refine⟨b,o,hA,?_,?_⟩
 ·have:=hc 0 _ rfl;rw [Nat.mul_one,Nat.add_zero] at this;rw [this,List.getD_eq_getElem?_getD,gqe hk]
  rfl
 ·rw [List.getD_eq_getElem?_getD,gqe hk];exact(show IntR .i64 w _ _ from⟨rfl,hw⟩).i64.2
abbrev Trip:=(ByteArray × ByteArray) × Option Addr × Nat
def TripR (_:World) (vs:List Value) (t:Trip):Prop:=vs=[.int .i8 3,.string { data:=#[] },.slice t.2.1 2 t.2.2]
theorem tripR_flat:Flat TripR:=fun _ _ _ _ h=>h
structure PairOk (bs:Nat) (w:World) (row:Option Nat) (t:Trip):Prop where
 c1:2<=t.2.2
 c2:t.2.2<=maxLen
 at':∃ b o,t.2.1=some ⟨b,o,none⟩/\bs<=b/\b < w.heap.size/\row≠some b/\RowAt 3 SymR w b o [t.1.1,t.1.2]
theorem rowAt_keep {w w':World} {b o:Nat} {l:List ByteArray} (h:RowAt 3 SymR w b o l) (hk:w'.heap[b]?=w.heap[b]?):RowAt 3 SymR w' b o l:=fun i x hx=>by
 obtain ⟨vs,h1,h2,h3⟩:=h i x hx;exact⟨vs,h1,fun j u hu=>(World.cell?_of_block hk).trans (h2 j u hu),h3⟩
theorem PairOk.keep {bs:Nat} {w w':World} {row:Option Nat} {t:Trip} {S:Nat->Prop} (h:PairOk bs w row t) (hk:Keeps S w w') (hS:∀ b,bs<=b->row≠some b->¬ S b):PairOk bs w' row t:=by
 obtain ⟨b,o,h1,h2,h3,h4,h5⟩:=h.at';exact⟨h.c1,h.c2,b,o,h1,h2,Nat.lt_of_lt_of_le h3 hk.size,h4,rowAt_keep h5 (hk.block b h3 (hS b h2 h4))⟩
theorem PairOk.grown {bs:Nat} {w w':World} {row row':Option Nat} {t:Trip} (h:PairOk bs w row t) (hg:w.grownBy w' row) (hr:row'=row\/row'=some w.heap.size):PairOk bs w' row' t:=by
 obtain ⟨b,o,h1,h2,h3,h4,h5⟩:=h.at';refine⟨h.c1,h.c2,b,o,h1,h2,Nat.lt_of_lt_of_le h3 hg.size,?_,rowAt_keep h5 (hg.block b h3 (fun e=>h4 e.symm))⟩;rcases hr with rfl | rfl
 ·exact h4
 ·intro e;have:=Option.some.inj e;omega
theorem pairOk_new {bs B:Nat} {w:World} {row:Option Nat} {A:Option Addr} {c:Nat} {p:ByteArray × ByteArray} (h:NewLies 3 SymR B w A [p.1,p.2]) (h1:2<=c) (h2:c<=maxLen) (hB:bs<=B) (hr:∀ b,row=some b->b < B):PairOk bs w row (p,A,c):=by
 rcases h with h | ⟨b,o,e1,e2,e3,e4⟩
 ·cases h
 ·exact⟨h1,h2,b,o,e1,by omega,e3,fun e=>by have:=hr b e;omega,e4⟩
theorem trips_lies {w0 w:World} {bs c:Nat} {t:TypeId} {A:Option Addr} {ts:List Trip} (hg:Grows 3 TripR t w0 bs w (.slice A ts.length c) ts) (ho:∀ t ∈ ts,PairOk bs w (Value.slice A ts.length c).ownBlock t):Lies 3 SexpR w A (ts.map fun t=>pairX t.1):=by
 have hl:=(grows_new (n:=3) (t:=t) (w0:=w0) (c:=c) tripR_flat hg).lies;refine hl.imp (by simp) fun i a x vs ha hx hr=>?_;rw [List.getElem?_map,ha] at hx;simp at hx;subst hx;have:vs=_:=hr;subst this;obtain ⟨b,o,h1,h2,h3,_,h5⟩:=(ho a (mgq ha)).at';have:=list_r (w:=w) (A:=a.2.1) (l:=[symX a.1.1,symX a.1.2]) (c:=a.2.2) (syms_lies (l:=[a.1.1,a.1.2]) (.inr ⟨b,o,h1,h3,h5⟩)) (ho a (mgq ha)).c1 (ho a (mgq ha)).c2 (by simp);exact this
def headW (k:Int):ByteArray:=if k=8 then sCheck else if k=9 then sModel else if k=11 then sProof else if k=12 then sExit else noS
theorem i8_inj (x y:Int) (h:Value.int .i8 x=.int .i8 y):x=y:=by injection h
theorem i8_key:Keyed Tryz.prog 22:=int_keyed Tryz.underlying22
theorem keyOf_i8 {a:Int} (h:(Lit.int .i8 a).wf=true):keyOf Tryz.prog 22 (.int .i8 a)=some (.int .i8 a):=keyOf_int_mk Tryz.underlying22 h
theorem head_wsize (k:Int):(((headW k).size:Nat):Int)<=140737488351232:=by
 unfold headW
 repeat' split
 all_goals decide
theorem prog_head (c:Cmd) (h0:¬ c.kind=0) (h1:¬ c.kind=1) (h2:¬ c.kind=2) (h3:¬ c.kind=3) (h4:¬ c.kind=4) (h5:¬ c.kind=5) (h6:¬ c.kind=6) (h7:¬ c.kind=7) (h10:¬ c.kind=10):progL c=[symX (headW c.kind)]:=by
 unfold progL writeL headW;rw [if_neg h0,if_neg h1,if_neg h2,if_neg h3,if_neg h4,if_neg h5,if_neg h6,if_neg h7,if_neg h10]
 by_cases e8:c.kind=8
 ·rw [e8];rfl
 by_cases e9:c.kind=9
 ·rw [e9];rfl
 by_cases e11:c.kind=11
 ·rw [e11];rfl
 by_cases e12:c.kind=12
 ·rw [e12];rfl
 rw [if_neg (by omega),if_neg e8,if_neg e9,if_neg e11,if_neg e12]
theorem zero_str (w:World):(zeroValue 9).run Tryz.prog w=.ok (.string noS) w:=by kernel_rfl
theorem written_any {W0 w:World} {A1 A2 A3 A4:Option Addr} {c1 c2 c3 c4:Nat} {c:Cmd} (h:CmdAt W0 A1 c1 A2 c2 A3 c3 A4 c4 c) (hb0:Below W0.heap.size W0 w) (hs:CmdSmall c) (ht:TabOk w) :
  Calls Tryz.prog 127 #[agC A1 c1 A2 c2 A3 c3 A4 c4 c] w (WrittenPost W0.heap.size w c):=by
 unfold agC;have H0:=kp h;have HB0:=kp hb0;have HB0s:=kp hb0.size;have H:=kp (h.on hb0);have HSm:=kp hs;have HTb:=kp ht;clear h hb0 hs ht
 go_enter Tryz.func127,Tryz.ntmps127
 go_upto_region 2 with fail
 have BW:=kp ((((brq w).alloc nlq (.cells #[.int .i8 c.kind,.string c.name,.int .i64 c.n,.slice A1 c.l.length c1,.slice A2 c.args.length c2,.slice A3 c.params.length c3,.string c.res,.slice A4 c.terms.length c4] 110)).alloc (by simp) (.cells #[.int .i8 0,.string { data:=#[] },.slice none 0 0] 81)).alloc (by simp;omega) (.cells #[.int .i8 2,.string c.name,.slice none 0 0] 81));have NB:=kp (show(((w.alloc (.cells #[.int .i8 c.kind,.string c.name,.int .i64 c.n,.slice A1 c.l.length c1,.slice A2 c.args.length c2,.slice A3 c.params.length c3,.string c.res,.slice A4 c.terms.length c4] 110)).alloc (.cells #[.int .i8 0,.string { data:=#[] },.slice none 0 0] 81)).alloc (.cells #[.int .i8 2,.string c.name,.slice none 0 0] 81)).heap[w.heap.size]?=some (.cells #[.int .i8 c.kind,.string c.name,.int .i64 c.n,.slice A1 c.l.length c1,.slice A2 c.args.length c2,.slice A3 c.params.length c3,.string c.res,.slice A4 c.terms.length c4] 110 (0,0)) from(Below.heap_alloc _ _ _ (by simp;omega)).trans ((Below.heap_alloc _ _ _ (by simp)).trans (blk_new _ _)))
 have RB:=kp (show(((w.alloc (.cells #[.int .i8 c.kind,.string c.name,.int .i64 c.n,.slice A1 c.l.length c1,.slice A2 c.args.length c2,.slice A3 c.params.length c3,.string c.res,.slice A4 c.terms.length c4] 110)).alloc (.cells #[.int .i8 0,.string { data:=#[] },.slice none 0 0] 81)).alloc (.cells #[.int .i8 2,.string c.name,.slice none 0 0] 81)).heap[w.heap.size+1]?=some (.cells #[.int .i8 0,.string { data:=#[] },.slice none 0 0] 81 (0,0)) from by
  have hh:=blk_new (w.alloc (.cells #[.int .i8 c.kind,.string c.name,.int .i64 c.n,.slice A1 c.l.length c1,.slice A2 c.args.length c2,.slice A3 c.params.length c3,.string c.res,.slice A4 c.terms.length c4] 110)) (.cells #[.int .i8 0,.string { data:=#[] },.slice none 0 0] 81);have e:(w.alloc (.cells #[.int .i8 c.kind,.string c.name,.int .i64 c.n,.slice A1 c.l.length c1,.slice A2 c.args.length c2,.slice A3 c.params.length c3,.string c.res,.slice A4 c.terms.length c4] 110)).heap.size=w.heap.size+1:=by simp
  rw [e] at hh;exact(Below.heap_alloc _ _ _ (by simp)).trans hh)
 have KB:=kp (show(((w.alloc (.cells #[.int .i8 c.kind,.string c.name,.int .i64 c.n,.slice A1 c.l.length c1,.slice A2 c.args.length c2,.slice A3 c.params.length c3,.string c.res,.slice A4 c.terms.length c4] 110)).alloc (.cells #[.int .i8 0,.string { data:=#[] },.slice none 0 0] 81)).alloc (.cells #[.int .i8 2,.string c.name,.slice none 0 0] 81)).heap[w.heap.size+1+1]?=some (.cells #[.int .i8 2,.string c.name,.slice none 0 0] 81 (0,0)) from by
  have hh:=blk_new ((w.alloc (.cells #[.int .i8 c.kind,.string c.name,.int .i64 c.n,.slice A1 c.l.length c1,.slice A2 c.args.length c2,.slice A3 c.params.length c3,.string c.res,.slice A4 c.terms.length c4] 110)).alloc (.cells #[.int .i8 0,.string { data:=#[] },.slice none 0 0] 81)) (.cells #[.int .i8 2,.string c.name,.slice none 0 0] 81);have e:((w.alloc (.cells #[.int .i8 c.kind,.string c.name,.int .i64 c.n,.slice A1 c.l.length c1,.slice A2 c.args.length c2,.slice A3 c.params.length c3,.string c.res,.slice A4 c.terms.length c4] 110)).alloc (.cells #[.int .i8 0,.string { data:=#[] },.slice none 0 0] 81)).heap.size=w.heap.size+1+1:=by simp
  rw [e] at hh;exact hh)
 have HWk:=kp (show w.heap.size+1+1 < (((w.alloc (.cells #[.int .i8 c.kind,.string c.name,.int .i64 c.n,.slice A1 c.l.length c1,.slice A2 c.args.length c2,.slice A3 c.params.length c3,.string c.res,.slice A4 c.terms.length c4] 110)).alloc (.cells #[.int .i8 0,.string { data:=#[] },.slice none 0 0] 81)).alloc (.cells #[.int .i8 2,.string c.name,.slice none 0 0] 81)).heap.size by simp);generalize (((w.alloc (.cells #[.int .i8 c.kind,.string c.name,.int .i64 c.n,.slice A1 c.l.length c1,.slice A2 c.args.length c2,.slice A3 c.params.length c3,.string c.res,.slice A4 c.terms.length c4] 110)).alloc (.cells #[.int .i8 0,.string { data:=#[] },.slice none 0 0] 81)).alloc (.cells #[.int .i8 2,.string c.name,.slice none 0 0] 81))=wk at *;obtain ⟨n0,n1,n2,n3,n4,n5,n6,n7,nf⟩:=eight_cells NB.out;obtain ⟨k0,k1,k2,kf⟩:=three_cells KB.out;have HName:=kp H.out.name;have HRes:=kp H.out.res;have HI:=kp H.out.n;have HLn:=kp (show w.heap.size < wk.heap.size by have:=HWk.out;omega);have HLk:=kp (show w.heap.size+1+1 < wk.heap.size from HWk.out);have HTk:=kp (fun W (hb:Below wk.heap.size wk W)=>HTb.out.on (BW.out.trans (hb.mono BW.out.size)))
 by_cases h0:c.kind=0
 ·have hk:=kp h0;have q0:(c.kind == 0)=true:=by simp [h0]
  clear h0;have LL:=kp (strs_two wk { data:=#[115,101,116,45,108,111,103,105,99] } c.name (by decide) HName.out 9);have BL:=kp ((brq wk).alloc nlq (.cells #[.string { data:=#[115,101,116,45,108,111,103,105,99] },.string c.name] 9));go_wp2_with fail
  refine(syms_any [{ data:=#[115,101,116,45,108,111,103,105,99] },c.name] (some ⟨wk.heap.size,0,none⟩) 2 _ LL.out (by simp)).mono ?_;rintro e W1 ⟨As,cs,⟨rfl,s1,s2⟩,s3,hb⟩;have B1:=kp (BL.out.trans (hb.mono BL.out.size));have SY:=kp (And.intro s1 (And.intro s2 (s3.mono BL.out.size)));clear hb s1 s2 s3;have ZR:=kp ((B1.out.block _ (lt_of_block RB.out)).trans RB.out);obtain ⟨z0,z1,z2,zf⟩:=three_cells ZR.out;go_wp2_with fail
  exact sexp_ret (w:=set3 W1 (w.heap.size+1) (.int .i8 3) (.string { data:=#[] }) (.slice As 2 cs)) Tryz.results127 (three_set ZR.out _ _ _) rfl rfl
   (written_fin (c:=c) (xs:=[symX sLogic,symX c.name]) (by rw [progL_of hk.out (by decide)];unfold writeL;rw [hk.out];rfl) (BW.out.trans (B1.out.mono BW.out.size)) (by omega) (fun W' hW=>syms_lies (l:=[{ data:=#[115,101,116,45,108,111,103,105,99] },c.name]) (SY.out.2.2.keep symR_flat hW (fun j hj=>by have:=HWk.out;omega)).lies) SY.out.1 SY.out.2.1 (by simp))
 have q0:(c.kind == 0)=false:=beq_eq_false_iff_ne.2 h0
 by_cases h1:c.kind=1
 ·have hk:=kp h1;have q1:(c.kind == 1)=true:=by simp [h1]
  clear h1
  by_cases hB:c.name=sBudget
  ·have hB':(c.name.toList == [98,117,100,103,101,116])=true:=tl_true hB;have hbud:=kp hB;clear hB;have HSx:=kp (fun W (h:Below wk.heap.size wk W)=>show W.cell? ⟨w.heap.size,2,none⟩=some (.int .i64 c.n)/\W.cell? ⟨(w.heap.size+1+1),0,none⟩=some (.int .i8 2)/\W.cell? ⟨(w.heap.size+1+1),1,none⟩=some (.string c.name)/\W.cell? ⟨(w.heap.size+1+1),2,none⟩=some (.slice none 0 0) from⟨(h.cell (p:=⟨w.heap.size,2,none⟩) HLn.out).trans n2,(h.cell (p:=⟨(w.heap.size+1+1),0,none⟩) HLk.out).trans k0,(h.cell (p:=⟨(w.heap.size+1+1),1,none⟩) HLk.out).trans k1,(h.cell (p:=⟨(w.heap.size+1+1),2,none⟩) HLk.out).trans k2⟩);have B0:=kp (brq wk).drew;go_wp2_with fail
   refine wp_region_to (by kernel_rfl) (fun W=>W.cell? ⟨w.heap.size,2,none⟩=some (.int .i64 c.n)/\W.cell? ⟨(w.heap.size+1+1),0,none⟩=some (.int .i8 2)/\W.cell? ⟨(w.heap.size+1+1),1,none⟩=some (.string c.name)/\W.cell? ⟨(w.heap.size+1+1),2,none⟩=some (.slice none 0 0)) 7 (HSx.out _ B0.out) (fun hHeld=>?_);refine wpTo_take (i:=1) (oi:=Oper.mk _ _ _ _ _ _) (v:=?_) rfl (by kernel_rfl) (by kernel_rfl) (by kernel_rfl) (by kernel_rfl) (fun _ _ _ h=>h) (Or.inl ⟨by rfl,?_⟩) (by assumption) ?_;rotate_left
   ·(intro w hSw;go_simp;try with_reducible rfl)
   try simp only [pt]
   refine wpTo_take (i:=2) (oi:=Oper.mk _ _ _ _ _ _) (v:=?_) rfl (by kernel_rfl) (by kernel_rfl) (by kernel_rfl) (by kernel_rfl) (fun _ _ _ h=>h) (Or.inl ⟨by rfl,?_⟩) (by assumption) ?_;rotate_left
   ·(intro w hSw;go_simp;try with_reducible rfl)
   try simp only [pt]
   refine wpTo_take (i:=3) (oi:=Oper.mk _ _ _ _ _ _) (v:=?_) rfl (by kernel_rfl) (by kernel_rfl) (by kernel_rfl) (by kernel_rfl) (fun _ _ _ h=>h) (Or.inl ⟨by rfl,?_⟩) (by assumption) ?_;rotate_left
   ·(intro w hSw;go_simp;try with_reducible rfl)
   try simp only [pt]
   refine wpTo_step (i:=0) (o:=Oper.mk _ _ _ _ _ _) (by kernel_rfl) rfl (fun K hK=>?_);go_simp
   go_wp2_with (go_at_call 178;refine(sym_any { data:=#[115,101,116,45,111,112,116,105,111,110] } _).mono ?_;rintro e W1 ⟨rfl,hb⟩;have B1:=kp (B0.out.trans (hb.mono B0.out.size));clear hb)
   refine hK.out _ _ (HSx.out _ B1.out) (fun hHeld=>?_);clear hK K;try simp only [pt]
   refine wpTo_step (i:=4) (o:=Oper.mk _ _ _ _ _ _) (by kernel_rfl) rfl (fun K hK=>?_);go_simp
   go_wp2_with (go_at_call 179;refine(numeral_any c.n HI.out _ (HTk.out _ B1.out)).mono ?_;rintro e W2 ⟨rfl,hb⟩;have B2:=kp (B1.out.trans (hb.mono B1.out.size));clear hb)
   refine hK.out _ _ (HSx.out _ B2.out) (fun hHeld=>?_);clear hK K;try simp only [pt]
   have L3:=kp (blk_new W2 (.cells #[.int .i8 0,.string { data:=#[115,101,116,45,111,112,116,105,111,110] },.slice none 0 0,.int .i8 2,.string c.name,.slice none 0 0,.int .i8 1,.string ⟨(textL c.n).toArray⟩,.slice none 0 0] 81));have B3:=kp (B2.out.alloc B2.out.size (.cells #[.int .i8 0,.string { data:=#[115,101,116,45,111,112,116,105,111,110] },.slice none 0 0,.int .i8 2,.string c.name,.slice none 0 0,.int .i8 1,.string ⟨(textL c.n).toArray⟩,.slice none 0 0] 81));refine wpTo_step (i:=5) (o:=Oper.mk _ _ _ _ _ _) (by kernel_rfl) rfl (fun K hK=>?_);go_simp;refine hK.out _ _ (HSx.out _ B3.out) (fun hHeld=>?_);clear hK K;try simp only [pt]
   refine wpTo_step (i:=6) (o:=Oper.mk _ _ _ _ _ _) (by kernel_rfl) rfl (fun K hK=>?_);go_simp
   go_wp2_with (go_at_call 177;refine(clist_any (some ⟨W2.heap.size,0,none⟩) 3 3 _).mono ?_;rintro e W4 ⟨rfl,hb⟩;have B4:=kp (B3.out.trans (hb.mono B3.out.size));have hbl3:=kp hb;clear hb)
   refine hK.out _ _ (HSx.out _ B4.out) (fun hHeld=>?_);clear hK K;try simp only [pt]
   have ZR:=kp ((B4.out.block _ (lt_of_block RB.out)).trans RB.out);obtain ⟨z0,z1,z2,zf⟩:=three_cells ZR.out;refine wpTo_last (o:=Oper.mk _ _ _ _ _ _) (by kernel_rfl) rfl (fun K hK=>?_);go_simp;refine hK.out _ _ ?_;clear hK K;try simp only [pt]
   refine wpTo_done (by kernel_rfl) ?_ _;clear hHeld z0 z1 z2 zf;go_wp2_with fail
   have LK:=kp ((hbl3.out.block _ (lt_of_block L3.out)).trans L3.out)
   exact sexp_ret (w:=set3 W4 (w.heap.size+1) (.int .i8 3) (.string { data:=#[] }) (.slice (some ⟨W2.heap.size,0,none⟩) 3 3)) Tryz.results127 (three_set ZR.out _ _ _) rfl rfl
    (written_fin (c:=c) (xs:=[symX sOption,.mk 2 c.name [],numX c.n]) (by rw [progL_of hk.out (by decide)];unfold writeL;rw [hk.out,hbud.out];rfl) (BW.out.trans (B4.out.mono BW.out.size)) (by omega) (fun W' hW=>lit_keep (ys:=[(symX sOption,none,0),(.mk 2 c.name [],none,0),(numX c.n,none,0)]) LK.out hW (by have:=B2.out.size;have:=HWk.out;omega) rfl (bits_three (sym_r W' sOption (by decide)) (key_r W' c.name HName.out) (num_r W' c.n HI.out))) nlq (by decide) (by simp))
  ·have hB':(c.name.toList == [98,117,100,103,101,116])=false:=tl_false hB;have hbud:=kp hB;clear hB;go_wp2_with fail
   refine(clist_any none 0 0 _).mono ?_;rintro e w1 ⟨rfl,hb1⟩;have B1:=kp hb1;have M0:=kp (blk_new w1 (.cells #[.int .i8 3,.string { data:=#[] },.slice none 0 0] 81));have B2:=kp (B1.out.alloc B1.out.size (.cells #[.int .i8 3,.string { data:=#[] },.slice none 0 0] 81));have N2:=kp ((B2.out.block _ (lt_of_block NB.out)).trans NB.out);have HNm:=kp B1.out.size;clear hb1 n0 n1 n2 n3 n4 n5 n6 n7 nf k0 k1 k2 kf;go_upto_region 9 with fail
   have HBs0:=kp (show w1.heap.size+1=(w1.alloc (.cells #[.int .i8 3,.string { data:=#[] },.slice none 0 0] 81)).heap.size by simp);generalize (w1.alloc (.cells #[.int .i8 3,.string { data:=#[] },.slice none 0 0] 81))=w2 at *;generalize hm:w1.heap.size=m at *;clear hm;generalize hbs:m+1=bs at *;have HMb:=kp (show m < bs by omega);clear hbs;obtain ⟨n0,n1,n2,n3,n4,n5,n6,n7,nf⟩:=eight_cells N2.out;go_wp2_with fail
   obtain ⟨i0,hi0,z0,z1,z2⟩:=info_parts info_sexp;have I0:=kp hi0;have I1:=kp z0;have I2:=kp z1;have I3:=kp z2;clear hi0 z0 z1 z2
   go_loopw [38] (fun i' wr=>∃ k:Nat,k<=c.l.length/\i'=.int .i64 k/\∃ v':Value,Grows 3 NumR 81 w bs wr v' (c.l.take k)/\wr.heap[m]?=some (.cells #[.int .i8 3,.string { data:=#[] },v'] 81 (0,0))/\Keeps (fun j=>j=m\/bs<=j) w2 wr) (fun i' _=>c.l.length - (intOf i').toNat)
   case atStart=>exact⟨0,Nat.zero_le _,rfl,.slice none 0 0,Grows.nil _,M0.out,Keeps.refl _ _⟩
   case round =>
    obtain ⟨k,hk',rfl,v',hg,hm,hkp⟩:=hrel;have HG:=kp hg;have HM:=kp hm;have HKp:=kp hkp;obtain ⟨vals,ho,hrr⟩:=hg.row;have hlk:(c.l.take k).length=k:=by simp;omega
    have hvl:vals.length=(c.l.take k).length * 3:=ho.1;rw [hlk] at ho;obtain ⟨Ao,co,rfl⟩:=shape_of_owns ho;have HOw:=kp ho;have HRr:=kp hrr;have HLk':=kp hlk;have HVl:=kp hvl;have HBr:=kp (show Below w.heap.size w wr from(BW.out.trans (B2.out.mono BW.out.size)).trans (hkp.below (fun j hj=>by have:=HNm.out;have:=HMb.out;have:=HWk.out;omega) (Nat.le_trans BW.out.size B2.out.size)));have HBs:=kp (show bs<=wr.heap.size by have:=HBs0.out;have:=hkp.size;omega);clear hg hm ho hrr hlk hvl hkp
    by_cases hlt:k < c.l.length
    ·have hlt2:(k:Int) < (c.l.length:Int):=by omega
     have hk48:k < 1000000:=by have:=HSm.out.l;omega
     obtain ⟨b,o,hA1,p0,hi64⟩:=int_get (H.out.l.on (IntR.lasts _) HBr.out) hlt;subst hA1;have HZi:=kp hi64;have HTk':=kp (take_snoc (d:=(0:Int)) hlt);generalize c.l.getD k 0=z at *;clear hi64;go_wp2_with fail
     clear p0;have PBx:=kp (brq wr).drew;have hMl:=kp (lt_of_block HM.out);obtain ⟨q0,q1,q2,_⟩:=three_cells HM.out;refine wp_region_to (by kernel_rfl) (fun W=>W.cell? ⟨m,2,none⟩=some (.slice Ao k co)) 7 (q2) (fun hHeld=>?_);clear q0 q1 q2;refine wpTo_take (i:=0) (oi:=Oper.mk _ _ _ _ _ _) (v:=?_) rfl (by kernel_rfl) (by kernel_rfl) (by kernel_rfl) (by kernel_rfl) (fun _ _ _ h=>h) (Or.inl ⟨by rfl,?_⟩) (by assumption) ?_;rotate_left
     ·(intro w hSw;go_simp;try with_reducible rfl)
     try simp only [pt]
     refine wpTo_take (i:=1) (oi:=Oper.mk _ _ _ _ _ _) (v:=?_) rfl (by kernel_rfl) (by kernel_rfl) (by kernel_rfl) (by kernel_rfl) (fun _ _ _ h=>h) (Or.inl ⟨by rfl,?_⟩) (by assumption) ?_;rotate_left
     ·(intro w hSw;go_simp;try with_reducible rfl)
     try simp only [pt]
     refine wpTo_take (i:=2) (oi:=Oper.mk _ _ _ _ _ _) (v:=?_) rfl (by kernel_rfl) (by kernel_rfl) (by kernel_rfl) (by kernel_rfl) (fun _ _ _ h=>h) (Or.inl ⟨by rfl,?_⟩) (by assumption) ?_;rotate_left
     ·(intro w hSw;go_simp;try with_reducible rfl)
     try simp only [pt]
     refine wpTo_step (i:=3) (o:=Oper.mk _ _ _ _ _ _) (by kernel_rfl) rfl (fun K hK=>?_);go_simp
     go_wp2_with (go_at_call 179;refine(numeral_any z HZi.out _ (HTb.out.on (HBr.out.trans (PBx.out.mono HBr.out.size)))).mono ?_;rintro e w8 ⟨rfl,hb8⟩;have B8:=kp (PBx.out.trans hb8);have M8:=kp ((B8.out.block _ hMl.out).trans HM.out);obtain ⟨q0,q1,q2,_⟩:=three_cells M8.out)
     refine hK.out _ _ (q2) (fun hHeld=>?_);clear hK K;try simp only [pt]
     have O8:=kp (owns_keep HOw.out (Keeps.of_below B8.out (fun _=>False)) (fun _ h=>h.elim));have OA:=kp (show World.ownsRow (w8.alloc (.cells #[.int .i8 1,.string ⟨(textL z).toArray⟩,.slice none 0 0] 81)) bs 81 3 (.slice Ao k co) k vals from O8.out.alloc _);have BA:=kp (B8.out.alloc B8.out.size (.cells #[.int .i8 1,.string ⟨(textL z).toArray⟩,.slice none 0 0] 81));have MA:=kp ((BA.out.block _ hMl.out).trans HM.out);have CA:=kp (Cells.new w8 [.int .i8 1,.string ⟨(textL z).toArray⟩,.slice none 0 0] 81 (0,0));obtain ⟨r0,r1,r2,_⟩:=three_cells MA.out;clear hb8 q0 q1 q2;refine wpTo_step (i:=4) (o:=Oper.mk _ _ _ _ _ _) (by kernel_rfl) rfl (fun K hK=>?_);go_simp;refine hK.out _ _ (r2) (fun hHeld=>?_);clear hK K;try simp only [pt]
     clear r0 r1 r2;refine wpTo_step (i:=5) (o:=Oper.mk _ _ _ _ _ _) (by kernel_rfl) rfl (fun K hK=>?_)
     (refine step_append_at (by rfl) _ _ _ (by rfl) bs 81 i0 (.agg #[.int .i8 0,.string { data:=#[] },.slice none 0 0]) 3 48 Tryz.underlying63 I0.out I1.out I2.out I3.out rfl (by decide) (.slice Ao k co) k vals (by rfl) OA.out (some ⟨w8.heap.size,0,none⟩) 1 1 [.int .i8 1,.string ⟨(textL z).toArray⟩,.slice none 0 0] (by rfl) rfl CA.out (by simp [Value.oneCell']) (by unfold maxLen;omega) (by omega) (by have:=HBs.out;have:=BA.out.size;omega) ?_;intro v' w9 hown hgr hat;obtain ⟨A9,c9,rfl⟩:=shape_of_owns hown;have M9:=kp ((hgr.block m (Nat.lt_of_lt_of_le hMl.out BA.out.size) (fun e=>by have h1:=(OA.out.lt m e.symm).1;have h2:=HMb.out;omega)).trans MA.out);obtain ⟨r0,r1,r2,rf⟩:=three_cells M9.out)
     refine hK.out _ _ (r2) (fun hHeld=>?_);clear hK K;try simp only [pt]
     have K9:=kp (show Keeps (fun j=>bs<=j) wr w9 from(Keeps.of_below BA.out _).grown hgr (fun j hj=>.inl (OA.out.lt j hj).1));refine wpTo_step (i:=6) (o:=Oper.mk _ _ _ _ _ _) (by kernel_rfl) rfl (fun K hK=>?_);go_simp;refine hK.out _ _ ((by assumption)) (fun hHeld=>?_);clear hK K;try simp only [pt]
     clear r0 r1 r2 rf;obtain ⟨r0,r1,r2,rf⟩:=three_cells M9.out;refine wpTo_last (o:=Oper.mk _ _ _ _ _ _) (by kernel_rfl) rfl (fun K hK=>?_);go_simp;refine hK.out _ _ ?_;clear hK K;try simp only [pt]
     refine wpTo_done (by kernel_rfl) ?_ _;clear hHeld r0 r1 r2 rf;have M10:=kp (show(w9.setCell ⟨m,2,none⟩ (.slice A9 (k+1) c9)).heap[m]?=some (.cells #[.int .i8 3,.string { data:=#[] },.slice A9 (k+1) c9] 81 (0,0)) from by simp [World.setCell,Array.getElem?_modify,M9.out]);have K10:=kp (show Keeps (fun j=>j=m\/bs<=j) wr (w9.setCell ⟨m,2,none⟩ (.slice A9 (k+1) c9)) from(K9.out.mono (fun j hj=>.inr hj)).setCell (p:=⟨m,2,none⟩) (.inl (.inl rfl)) _)
     have HG10:=kp (show Grows 3 NumR 81 w bs w9 (.slice A9 (k+1) c9) (c.l.take (k+1)) from by
      rw [HTk'.out];exact Grows.push (vs:=[.int .i8 1,.string ⟨(textL z).toArray⟩,.slice none 0 0]) HVl.out HRr.out (by rw [HLk'.out];exact hown) ⟨rfl,HZi.out⟩ rfl)
     have HG11:=kp (HG10.out.setCell (p:=⟨m,2,none⟩) (.slice A9 (k+1) c9) HMb.out);clear hown hgr hat;go_wp2_with fail
     go_roundw
     case rel=>exact⟨k+1,by omega,by go_num,.slice A9 (k+1) c9,HG11.out,M10.out,HKp.out.trans_same K10.out⟩
     case measure=>simp [intOf];omega
    ·obtain rfl:k=c.l.length:=by omega
     have HNL:=kp (show NewLies 3 NumR bs wr Ao c.l from grows_new (n:=3) (t:=81) (w0:=w) (c:=co) numR_flat (by have h:=HG.out;rw [List.take_length] at h;exact h));have HSh:=kp (owns_shape HOw.out);have BW:=kp HBr.out;have NB:=kp ((HKp.out.block _ (lt_of_block N2.out) (by have:=HMb.out;have:=HNm.out;have:=HWk.out;omega)).trans N2.out);have RB:=kp ((HKp.out.block _ (Nat.lt_of_lt_of_le (lt_of_block RB.out) B2.out.size) (by have:=HMb.out;have:=HNm.out;have:=HWk.out;omega)).trans ((B2.out.block _ (lt_of_block RB.out)).trans RB.out));have KB:=kp ((HKp.out.block _ (Nat.lt_of_lt_of_le (lt_of_block KB.out) B2.out.size) (by have:=HMb.out;have:=HNm.out;have:=HWk.out;omega)).trans ((B2.out.block _ (lt_of_block KB.out)).trans KB.out));have HMw:=kp (show w.heap.size+1+1 < m by have:=HNm.out;have:=HWk.out;omega);have HLm:=kp (lt_of_block HM.out);have HWk:=kp (show w.heap.size+1+1 < wr.heap.size by have:=HLm.out;have:=HMw.out;omega);have HLn:=kp (show w.heap.size < wr.heap.size by have:=HWk.out;omega);have HLk:=kp (show w.heap.size+1+1 < wr.heap.size from HWk.out);clear n0 n1 n2 n3 n4 n5 n6 n7 nf;obtain ⟨n0,n1,n2,n3,n4,n5,n6,n7,nf⟩:=eight_cells NB.out;obtain ⟨k0,k1,k2,kf⟩:=three_cells KB.out;obtain ⟨m0,m1,m2,mf⟩:=three_cells HM.out;have HSx:=kp (fun W (h:Below wr.heap.size wr W)=>show W.cell? ⟨(w.heap.size+1+1),0,none⟩=some (.int .i8 2)/\W.cell? ⟨(w.heap.size+1+1),1,none⟩=some (.string c.name)/\W.cell? ⟨(w.heap.size+1+1),2,none⟩=some (.slice none 0 0)/\W.cell? ⟨m,0,none⟩=some (.int .i8 3)/\W.cell? ⟨m,1,none⟩=some (.string { data:=#[] })/\W.cell? ⟨m,2,none⟩=some (.slice Ao c.l.length co) from⟨(h.cell (p:=⟨(w.heap.size+1+1),0,none⟩) HLk.out).trans k0,(h.cell (p:=⟨(w.heap.size+1+1),1,none⟩) HLk.out).trans k1,(h.cell (p:=⟨(w.heap.size+1+1),2,none⟩) HLk.out).trans k2,(h.cell (p:=⟨m,0,none⟩) HLm.out).trans m0,(h.cell (p:=⟨m,1,none⟩) HLm.out).trans m1,(h.cell (p:=⟨m,2,none⟩) HLm.out).trans m2⟩)
     have B0:=kp (brq wr).drew;go_wp2_with fail
     refine wp_region_to (by kernel_rfl) (fun W=>W.cell? ⟨(w.heap.size+1+1),0,none⟩=some (.int .i8 2)/\W.cell? ⟨(w.heap.size+1+1),1,none⟩=some (.string c.name)/\W.cell? ⟨(w.heap.size+1+1),2,none⟩=some (.slice none 0 0)/\W.cell? ⟨m,0,none⟩=some (.int .i8 3)/\W.cell? ⟨m,1,none⟩=some (.string { data:=#[] })/\W.cell? ⟨m,2,none⟩=some (.slice Ao c.l.length co)) 5 (HSx.out _ B0.out) (fun hHeld=>?_);refine wpTo_take (i:=1) (oi:=Oper.mk _ _ _ _ _ _) (v:=?_) rfl (by kernel_rfl) (by kernel_rfl) (by kernel_rfl) (by kernel_rfl) (fun _ _ _ h=>h) (Or.inl ⟨by rfl,?_⟩) (by assumption) ?_;rotate_left
     ·(intro w hSw;go_simp;try with_reducible rfl)
     try simp only [pt]
     refine wpTo_take (i:=2) (oi:=Oper.mk _ _ _ _ _ _) (v:=?_) rfl (by kernel_rfl) (by kernel_rfl) (by kernel_rfl) (by kernel_rfl) (fun _ _ _ h=>h) (Or.inl ⟨by rfl,?_⟩) (by assumption) ?_;rotate_left
     ·(intro w hSw;go_simp;try with_reducible rfl)
     try simp only [pt]
     refine wpTo_step (i:=0) (o:=Oper.mk _ _ _ _ _ _) (by kernel_rfl) rfl (fun K hK=>?_);go_simp
     go_wp2_with (go_at_call 178;refine(sym_any { data:=#[115,101,116,45,111,112,116,105,111,110] } _).mono ?_;rintro e W1 ⟨rfl,hb⟩;have B1:=kp (B0.out.trans (hb.mono B0.out.size));clear hb)
     refine hK.out _ _ (HSx.out _ B1.out) (fun hHeld=>?_);clear hK K;try simp only [pt]
     have L2:=kp (blk_new W1 (.cells #[.int .i8 0,.string { data:=#[115,101,116,45,111,112,116,105,111,110] },.slice none 0 0,.int .i8 2,.string c.name,.slice none 0 0,.int .i8 3,.string { data:=#[] },.slice Ao c.l.length co] 81));have B2:=kp (B1.out.alloc B1.out.size (.cells #[.int .i8 0,.string { data:=#[115,101,116,45,111,112,116,105,111,110] },.slice none 0 0,.int .i8 2,.string c.name,.slice none 0 0,.int .i8 3,.string { data:=#[] },.slice Ao c.l.length co] 81));refine wpTo_step (i:=3) (o:=Oper.mk _ _ _ _ _ _) (by kernel_rfl) rfl (fun K hK=>?_);go_simp;refine hK.out _ _ (HSx.out _ B2.out) (fun hHeld=>?_);clear hK K;try simp only [pt]
     refine wpTo_step (i:=4) (o:=Oper.mk _ _ _ _ _ _) (by kernel_rfl) rfl (fun K hK=>?_);go_simp
     go_wp2_with (go_at_call 177;refine(clist_any (some ⟨W1.heap.size,0,none⟩) 3 3 _).mono ?_;rintro e W3 ⟨rfl,hb⟩;have B3:=kp (B2.out.trans (hb.mono B2.out.size));have hbl2:=kp hb;clear hb)
     refine hK.out _ _ (HSx.out _ B3.out) (fun hHeld=>?_);clear hK K;try simp only [pt]
     have ZR:=kp ((B3.out.block _ (lt_of_block RB.out)).trans RB.out);obtain ⟨z0,z1,z2,zf⟩:=three_cells ZR.out;refine wpTo_last (o:=Oper.mk _ _ _ _ _ _) (by kernel_rfl) rfl (fun K hK=>?_);go_simp;refine hK.out _ _ ?_;clear hK K;try simp only [pt]
     refine wpTo_done (by kernel_rfl) ?_ _;clear hHeld z0 z1 z2 zf;go_wp2_with fail
     have LK:=kp ((hbl2.out.block _ (lt_of_block L2.out)).trans L2.out)
     exact sexp_ret (w:=set3 W3 (w.heap.size+1) (.int .i8 3) (.string { data:=#[] }) (.slice (some ⟨W1.heap.size,0,none⟩) 3 3)) Tryz.results127 (three_set ZR.out _ _ _) rfl rfl
      (written_fin (c:=c) (xs:=[symX sOption,.mk 2 c.name [],listX (c.l.map numX)]) (by rw [progL_of hk.out (by decide)];unfold writeL;rw [hk.out,if_neg (by decide),if_pos rfl,if_neg hbud.out]) (BW.out.trans (B3.out.mono BW.out.size)) (by omega) (fun W' hW=>lit_keep (ys:=[(symX sOption,none,0),(.mk 2 c.name [],none,0),(listX (c.l.map numX),Ao,co)]) LK.out hW (by have:=B1.out.size;have:=HWk.out;omega) (by simp only [cells3];rw [show(listX (c.l.map numX)).l.length=c.l.length from List.length_map _];rfl) (bits_three (sym_r W' sOption (by decide)) (key_r W' c.name HName.out) (list_r (nums_lies ((HNL.out.keep numR_flat (Keeps.of_below B3.out (fun _=>False)) (fun _ h=>h.elim)).keep numR_flat hW (fun j hj=>by have:=HMb.out;have:=HMw.out;omega)).lies) (by rw [List.length_map];exact HSh.out.1) HSh.out.2 (by rw [List.length_map];have:=HSm.out.l;omega)))) nlq (by decide) (by simp))
 have q1:(c.kind == 1)=false:=beq_eq_false_iff_ne.2 h1
 by_cases h2:c.kind=2
 ·have hk:=kp h2;have q2:(c.kind == 2)=true:=by simp [h2]
  clear h2;have HSx:=kp (fun W (h:Below wk.heap.size wk W)=>show W.cell? ⟨w.heap.size,1,none⟩=some (.string c.name) from(h.cell (p:=⟨w.heap.size,1,none⟩) HLn.out).trans n1);have B0:=kp (brq wk).drew;go_wp2_with fail
  refine wp_region_to (by kernel_rfl) (fun W=>W.cell? ⟨w.heap.size,1,none⟩=some (.string c.name)) 7 (HSx.out _ B0.out) (fun hHeld=>?_);refine wpTo_take (i:=1) (oi:=Oper.mk _ _ _ _ _ _) (v:=?_) rfl (by kernel_rfl) (by kernel_rfl) (by kernel_rfl) (by kernel_rfl) (fun _ _ _ h=>h) (Or.inl ⟨by rfl,?_⟩) (by assumption) ?_;rotate_left
  ·(intro w hSw;go_simp;try with_reducible rfl)
  try simp only [pt]
  refine wpTo_take (i:=2) (oi:=Oper.mk _ _ _ _ _ _) (v:=?_) rfl (by kernel_rfl) (by kernel_rfl) (by kernel_rfl) (by kernel_rfl) (fun _ _ _ h=>h) (Or.inl ⟨by rfl,?_⟩) (by assumption) ?_;rotate_left
  ·(intro w hSw;go_simp;try with_reducible rfl)
  try simp only [pt]
  refine wpTo_step (i:=0) (o:=Oper.mk _ _ _ _ _ _) (by kernel_rfl) rfl (fun K hK=>?_);go_simp
  go_wp2_with (go_at_call 178;refine(sym_any { data:=#[100,101,99,108,97,114,101,45,115,111,114,116] } _).mono ?_;rintro e W1 ⟨rfl,hb⟩;have B1:=kp (B0.out.trans (hb.mono B0.out.size));clear hb)
  refine hK.out _ _ (HSx.out _ B1.out) (fun hHeld=>?_);clear hK K;try simp only [pt]
  refine wpTo_step (i:=3) (o:=Oper.mk _ _ _ _ _ _) (by kernel_rfl) rfl (fun K hK=>?_);go_simp
  go_wp2_with (go_at_call 178;refine(sym_any c.name _).mono ?_;rintro e W2 ⟨rfl,hb⟩;have B2:=kp (B1.out.trans (hb.mono B1.out.size));clear hb)
  refine hK.out _ _ (HSx.out _ B2.out) (fun hHeld=>?_);clear hK K;try simp only [pt]
  refine wpTo_step (i:=4) (o:=Oper.mk _ _ _ _ _ _) (by kernel_rfl) rfl (fun K hK=>?_);go_simp
  go_wp2_with (go_at_call 179;refine(numeral_any 0 (show I64 0 from⟨by decide,by decide⟩) _ (HTk.out _ B2.out)).mono ?_;rintro e W3 ⟨rfl,hb⟩;have B3:=kp (B2.out.trans (hb.mono B2.out.size));clear hb)
  refine hK.out _ _ (HSx.out _ B3.out) (fun hHeld=>?_);clear hK K;try simp only [pt]
  have L4:=kp (blk_new W3 (.cells #[.int .i8 0,.string { data:=#[100,101,99,108,97,114,101,45,115,111,114,116] },.slice none 0 0,.int .i8 0,.string c.name,.slice none 0 0,.int .i8 1,.string ⟨(textL 0).toArray⟩,.slice none 0 0] 81));have B4:=kp (B3.out.alloc B3.out.size (.cells #[.int .i8 0,.string { data:=#[100,101,99,108,97,114,101,45,115,111,114,116] },.slice none 0 0,.int .i8 0,.string c.name,.slice none 0 0,.int .i8 1,.string ⟨(textL 0).toArray⟩,.slice none 0 0] 81));refine wpTo_step (i:=5) (o:=Oper.mk _ _ _ _ _ _) (by kernel_rfl) rfl (fun K hK=>?_);go_simp;refine hK.out _ _ (HSx.out _ B4.out) (fun hHeld=>?_);clear hK K;try simp only [pt]
  refine wpTo_step (i:=6) (o:=Oper.mk _ _ _ _ _ _) (by kernel_rfl) rfl (fun K hK=>?_);go_simp
  go_wp2_with (go_at_call 177;refine(clist_any (some ⟨W3.heap.size,0,none⟩) 3 3 _).mono ?_;rintro e W5 ⟨rfl,hb⟩;have B5:=kp (B4.out.trans (hb.mono B4.out.size));have hbl4:=kp hb;clear hb)
  refine hK.out _ _ (HSx.out _ B5.out) (fun hHeld=>?_);clear hK K;try simp only [pt]
  have ZR:=kp ((B5.out.block _ (lt_of_block RB.out)).trans RB.out);obtain ⟨z0,z1,z2,zf⟩:=three_cells ZR.out;refine wpTo_last (o:=Oper.mk _ _ _ _ _ _) (by kernel_rfl) rfl (fun K hK=>?_);go_simp;refine hK.out _ _ ?_;clear hK K;try simp only [pt]
  refine wpTo_done (by kernel_rfl) ?_ _;clear hHeld z0 z1 z2 zf;go_wp2_with fail
  have LK:=kp ((hbl4.out.block _ (lt_of_block L4.out)).trans L4.out)
  exact sexp_ret (w:=set3 W5 (w.heap.size+1) (.int .i8 3) (.string { data:=#[] }) (.slice (some ⟨W3.heap.size,0,none⟩) 3 3)) Tryz.results127 (three_set ZR.out _ _ _) rfl rfl
   (written_fin (c:=c) (xs:=[symX sSort,symX c.name,numX 0]) (by rw [progL_of hk.out (by decide)];unfold writeL;rw [hk.out];rfl) (BW.out.trans (B5.out.mono BW.out.size)) (by omega) (fun W' hW=>lit_keep (ys:=[(symX sSort,none,0),(symX c.name,none,0),(numX 0,none,0)]) LK.out hW (by have:=B3.out.size;have:=HWk.out;omega) rfl (bits_three (sym_r W' sSort (by decide)) (sym_r W' c.name HName.out) (num_r W' 0 (show I64 0 from⟨by decide,by decide⟩)))) nlq (by decide) (by simp))
 have q2:(c.kind == 2)=false:=beq_eq_false_iff_ne.2 h2
 by_cases h3:c.kind=3
 ·have hk:=kp h3;have q3:(c.kind == 3)=true:=by simp [h3]
  clear h3;have HSx:=kp (fun W (h:Below wk.heap.size wk W)=>show W.cell? ⟨w.heap.size,1,none⟩=some (.string c.name)/\W.cell? ⟨w.heap.size,4,none⟩=some (.slice A2 c.args.length c2)/\W.cell? ⟨w.heap.size,6,none⟩=some (.string c.res) from⟨(h.cell (p:=⟨w.heap.size,1,none⟩) HLn.out).trans n1,(h.cell (p:=⟨w.heap.size,4,none⟩) HLn.out).trans n4,(h.cell (p:=⟨w.heap.size,6,none⟩) HLn.out).trans n6⟩);have B0:=kp (brq wk).drew;go_wp2_with fail
  refine wp_region_to (by kernel_rfl) (fun W=>W.cell? ⟨w.heap.size,1,none⟩=some (.string c.name)/\W.cell? ⟨w.heap.size,4,none⟩=some (.slice A2 c.args.length c2)/\W.cell? ⟨w.heap.size,6,none⟩=some (.string c.res)) 12 (HSx.out _ B0.out) (fun hHeld=>?_);refine wpTo_take (i:=1) (oi:=Oper.mk _ _ _ _ _ _) (v:=?_) rfl (by kernel_rfl) (by kernel_rfl) (by kernel_rfl) (by kernel_rfl) (fun _ _ _ h=>h) (Or.inl ⟨by rfl,?_⟩) (by assumption) ?_;rotate_left
  ·(intro w hSw;go_simp;try with_reducible rfl)
  try simp only [pt]
  refine wpTo_take (i:=2) (oi:=Oper.mk _ _ _ _ _ _) (v:=?_) rfl (by kernel_rfl) (by kernel_rfl) (by kernel_rfl) (by kernel_rfl) (fun _ _ _ h=>h) (Or.inl ⟨by rfl,?_⟩) (by assumption) ?_;rotate_left
  ·(intro w hSw;go_simp;try with_reducible rfl)
  try simp only [pt]
  refine wpTo_take (i:=4) (oi:=Oper.mk _ _ _ _ _ _) (v:=?_) rfl (by kernel_rfl) (by kernel_rfl) (by kernel_rfl) (by kernel_rfl) (fun _ _ _ h=>h) (Or.inl ⟨by rfl,?_⟩) (by assumption) ?_;rotate_left
  ·(intro w hSw;go_simp;try with_reducible rfl)
  try simp only [pt]
  refine wpTo_take (i:=5) (oi:=Oper.mk _ _ _ _ _ _) (v:=?_) rfl (by kernel_rfl) (by kernel_rfl) (by kernel_rfl) (by kernel_rfl) (fun _ _ _ h=>h) (Or.inl ⟨by rfl,?_⟩) (by assumption) ?_;rotate_left
  ·(intro w hSw;go_simp;try with_reducible rfl)
  try simp only [pt]
  refine wpTo_take (i:=7) (oi:=Oper.mk _ _ _ _ _ _) (v:=?_) rfl (by kernel_rfl) (by kernel_rfl) (by kernel_rfl) (by kernel_rfl) (fun _ _ _ h=>h) (Or.inl ⟨by rfl,?_⟩) (by assumption) ?_;rotate_left
  ·(intro w hSw;go_simp;try with_reducible rfl)
  try simp only [pt]
  refine wpTo_take (i:=8) (oi:=Oper.mk _ _ _ _ _ _) (v:=?_) rfl (by kernel_rfl) (by kernel_rfl) (by kernel_rfl) (by kernel_rfl) (fun _ _ _ h=>h) (Or.inl ⟨by rfl,?_⟩) (by assumption) ?_;rotate_left
  ·(intro w hSw;go_simp;try with_reducible rfl)
  try simp only [pt]
  refine wpTo_step (i:=0) (o:=Oper.mk _ _ _ _ _ _) (by kernel_rfl) rfl (fun K hK=>?_);go_simp
  go_wp2_with (go_at_call 178;refine(sym_any { data:=#[100,101,99,108,97,114,101,45,102,117,110] } _).mono ?_;rintro e W1 ⟨rfl,hb⟩;have B1:=kp (B0.out.trans (hb.mono B0.out.size));clear hb)
  refine hK.out _ _ (HSx.out _ B1.out) (fun hHeld=>?_);clear hK K;try simp only [pt]
  refine wpTo_step (i:=3) (o:=Oper.mk _ _ _ _ _ _) (by kernel_rfl) rfl (fun K hK=>?_);go_simp
  go_wp2_with (go_at_call 178;refine(sym_any c.name _).mono ?_;rintro e W2 ⟨rfl,hb⟩;have B2:=kp (B1.out.trans (hb.mono B1.out.size));clear hb)
  refine hK.out _ _ (HSx.out _ B2.out) (fun hHeld=>?_);clear hK K;try simp only [pt]
  refine wpTo_step (i:=6) (o:=Oper.mk _ _ _ _ _ _) (by kernel_rfl) rfl (fun K hK=>?_);go_simp
  go_wp2_with (go_at_call 176;refine(syms_any c.args A2 c2 _ (H.out.args.on StrR.lasts (BW.out.trans (B2.out.mono BW.out.size))) (by have:=HSm.out.args;omega)).mono ?_;rintro e W3 ⟨As,cs,⟨rfl,s1,s2⟩,s3,hb⟩;have B3:=kp (B2.out.trans (hb.mono B2.out.size));have SY:=kp (And.intro s1 (And.intro s2 (s3.mono B2.out.size)));clear hb s1 s2 s3)
  refine hK.out _ _ (HSx.out _ B3.out) (fun hHeld=>?_);clear hK K;try simp only [pt]
  refine wpTo_step (i:=9) (o:=Oper.mk _ _ _ _ _ _) (by kernel_rfl) rfl (fun K hK=>?_);go_simp
  go_wp2_with (go_at_call 178;refine(sym_any c.res _).mono ?_;rintro e W4 ⟨rfl,hb⟩;have B4:=kp (B3.out.trans (hb.mono B3.out.size));have SB1:=kp hb;clear hb)
  refine hK.out _ _ (HSx.out _ B4.out) (fun hHeld=>?_);clear hK K;try simp only [pt]
  have L5:=kp (blk_new W4 (.cells #[.int .i8 0,.string { data:=#[100,101,99,108,97,114,101,45,102,117,110] },.slice none 0 0,.int .i8 0,.string c.name,.slice none 0 0,.int .i8 3,.string { data:=#[] },.slice As c.args.length cs,.int .i8 0,.string c.res,.slice none 0 0] 81));have B5:=kp (B4.out.alloc B4.out.size (.cells #[.int .i8 0,.string { data:=#[100,101,99,108,97,114,101,45,102,117,110] },.slice none 0 0,.int .i8 0,.string c.name,.slice none 0 0,.int .i8 3,.string { data:=#[] },.slice As c.args.length cs,.int .i8 0,.string c.res,.slice none 0 0] 81));refine wpTo_step (i:=10) (o:=Oper.mk _ _ _ _ _ _) (by kernel_rfl) rfl (fun K hK=>?_);go_simp;refine hK.out _ _ (HSx.out _ B5.out) (fun hHeld=>?_);clear hK K;try simp only [pt]
  refine wpTo_step (i:=11) (o:=Oper.mk _ _ _ _ _ _) (by kernel_rfl) rfl (fun K hK=>?_);go_simp
  go_wp2_with (go_at_call 177;refine(clist_any (some ⟨W4.heap.size,0,none⟩) 4 4 _).mono ?_;rintro e W6 ⟨rfl,hb⟩;have B6:=kp (B5.out.trans (hb.mono B5.out.size));have hbl5:=kp hb;clear hb)
  refine hK.out _ _ (HSx.out _ B6.out) (fun hHeld=>?_);clear hK K;try simp only [pt]
  have ZR:=kp ((B6.out.block _ (lt_of_block RB.out)).trans RB.out);obtain ⟨z0,z1,z2,zf⟩:=three_cells ZR.out;refine wpTo_last (o:=Oper.mk _ _ _ _ _ _) (by kernel_rfl) rfl (fun K hK=>?_);go_simp;refine hK.out _ _ ?_;clear hK K;try simp only [pt]
  refine wpTo_done (by kernel_rfl) ?_ _;clear hHeld z0 z1 z2 zf;go_wp2_with fail
  have LK:=kp ((hbl5.out.block _ (lt_of_block L5.out)).trans L5.out)
  exact sexp_ret (w:=set3 W6 (w.heap.size+1) (.int .i8 3) (.string { data:=#[] }) (.slice (some ⟨W4.heap.size,0,none⟩) 4 4)) Tryz.results127 (three_set ZR.out _ _ _) rfl rfl
   (written_fin (c:=c) (xs:=[symX sFun,symX c.name,listX (c.args.map symX),symX c.res]) (by rw [progL_of hk.out (by decide)];unfold writeL;rw [hk.out];rfl) (BW.out.trans (B6.out.mono BW.out.size)) (by omega) (fun W' hW=>lit_keep (ys:=[(symX sFun,none,0),(symX c.name,none,0),(listX (c.args.map symX),As,cs),(symX c.res,none,0)]) LK.out hW (by have:=B4.out.size;have:=HWk.out;omega) (by simp only [cells3];rw [show(listX (c.args.map symX)).l.length=c.args.length from List.length_map _];rfl) (bits_four (sym_r W' sFun (by decide)) (sym_r W' c.name HName.out) (list_r (syms_lies ((((SY.out.2.2.keep symR_flat (Keeps.of_below SB1.out (fun _=>False)) (fun _ h=>h.elim)).keep symR_flat ((Keeps.refl (fun _=>False) W4).alloc _) (fun _ h=>h.elim)).keep symR_flat (Keeps.of_below hbl5.out (fun _=>False)) (fun _ h=>h.elim)).keep symR_flat hW (fun j hj=>by have:=HWk.out;omega)).lies) (by rw [List.length_map];exact SY.out.1) SY.out.2.1 (by rw [List.length_map];have:=HSm.out.args;omega)) (sym_r W' c.res HRes.out))) nlq (by decide) (by simp))
 have q3:(c.kind == 3)=false:=beq_eq_false_iff_ne.2 h3
 by_cases h4:c.kind=4
 ·have hk:=kp h4;have q4:(c.kind == 4)=true:=by simp [h4]
  clear h4;obtain ⟨valsT,t1,t2,t3,t4⟩:=lies_flat (fun W vs x h=>one_sexp W vs x h) H0.out.terms;have T1:=kp t1;have T2:=kp t2;have T3:=kp t3;have T4:=kp t4;clear t1 t2 t3 t4;go_wp2_with fail
  refine(clist_any none 0 0 _).mono ?_;rintro e w1 ⟨rfl,hb1⟩;have B1:=kp hb1;have M0:=kp (blk_new w1 (.cells #[.int .i8 3,.string { data:=#[] },.slice none 0 0] 81));have B2:=kp (B1.out.alloc B1.out.size (.cells #[.int .i8 3,.string { data:=#[] },.slice none 0 0] 81));have N2:=kp ((B2.out.block _ (lt_of_block NB.out)).trans NB.out);have HNm:=kp B1.out.size;clear hb1 n0 n1 n2 n3 n4 n5 n6 n7 nf k0 k1 k2 kf;go_upto_region 21 with fail
  have HBs0:=kp (show w1.heap.size+1=(w1.alloc (.cells #[.int .i8 3,.string { data:=#[] },.slice none 0 0] 81)).heap.size by simp);generalize (w1.alloc (.cells #[.int .i8 3,.string { data:=#[] },.slice none 0 0] 81))=w2 at *;generalize hm:w1.heap.size=m at *;clear hm;generalize hbs:m+1=bs at *;have HMb:=kp (show m < bs by omega);clear hbs;obtain ⟨n0,n1,n2,n3,n4,n5,n6,n7,nf⟩:=eight_cells N2.out;go_wp2_with fail
  obtain ⟨i0,hi0,z0,z1,z2⟩:=info_parts info_sexp;have I0:=kp hi0;have I1:=kp z0;have I2:=kp z1;have I3:=kp z2;clear hi0 z0 z1 z2
  go_loopw [84] (fun i' wr=>∃ k:Nat,k<=c.params.length/\i'=.int .i64 k/\∃ (ts:List Trip) (v':Value),ts.map (fun t=>t.1)=c.params.take k/\Grows 3 TripR 81 w bs wr v' ts/\(∀ t ∈ ts,PairOk bs wr v'.ownBlock t)/\wr.heap[m]?=some (.cells #[.int .i8 3,.string { data:=#[] },v'] 81 (0,0))/\Keeps (fun j=>j=m\/bs<=j) w2 wr) (fun i' _=>c.params.length - (intOf i').toNat)
  case atStart=>exact⟨0,Nat.zero_le _,rfl,[],.slice none 0 0,rfl,Grows.nil _,fun t ht=>by simp at ht,M0.out,Keeps.refl _ _⟩
  case round =>
   obtain ⟨k,hk',rfl,ts,v',hts,hg,hok,hm,hkp⟩:=hrel;have HG:=kp hg;have HM:=kp hm;have HKp:=kp hkp;have HTs:=kp hts;have HOk:=kp hok;obtain ⟨vals,ho,hrr⟩:=hg.row;have hlk:ts.length=k:=by have:=congrArg List.length hts;simp at this;omega
   have hvl:vals.length=ts.length * 3:=ho.1;rw [hlk] at ho;obtain ⟨Ao,co,rfl⟩:=shape_of_owns ho;have HOw:=kp ho;have HRr:=kp hrr;have HLk':=kp hlk;have HVl:=kp hvl;have HBr:=kp (show Below w.heap.size w wr from(BW.out.trans (B2.out.mono BW.out.size)).trans (hkp.below (fun j hj=>by have:=HNm.out;have:=HMb.out;have:=HWk.out;omega) (Nat.le_trans BW.out.size B2.out.size)));have HBs:=kp (show bs<=wr.heap.size by have:=HBs0.out;have:=hkp.size;omega);clear hg hm ho hrr hlk hvl hkp hts hok
   by_cases hlt:k < c.params.length
   ·have hlt2:(k:Int) < (c.params.length:Int):=by omega
    have hk48:k < 1000000:=by have:=HSm.out.params;omega
    obtain ⟨b,o,hA3,p0,p1⟩:=pair_get (H.out.params.on PairR.lasts HBr.out) hlt;subst hA3;have HPz:=kp (pair_size H.out.params hlt);have HTk':=kp (take_snoc (d:=(noS,noS)) hlt);generalize c.params.getD k (noS,noS)=p at *;have HBx:=kp ((brq wr).alloc nlq (.cells #[.string p.1,.string p.2] 173));have HLp:=kp (strs_two wr p.1 p.2 HPz.out.1 HPz.out.2 173);have HMp:=kp ((HBx.out.block _ (lt_of_block HM.out)).trans HM.out);have HOwp:=kp (show World.ownsRow (wr.alloc (.cells #[.string p.1,.string p.2] 173)) bs 81 3 (.slice Ao k co) k vals from HOw.out.alloc _);have HBrp:=kp (HBr.out.trans (HBx.out.mono HBr.out.size));have HBsp:=kp (Nat.le_trans HBs.out HBx.out.size);have HOkp:=kp (fun t ht=>(HOk.out t ht).keep (Keeps.of_below HBx.out (fun _=>False)) (fun _ _ _ h=>h));have HKpp:=kp (HKp.out.trans_same (Keeps.of_below HBx.out (fun j=>j=m\/bs<=j)));go_upto_region 24 with fail
    clear p0 p1;generalize wr.alloc (.cells #[.string p.1,.string p.2] 173)=wp at *;generalize wr.heap.size=pbn at *;clear HM HOw HBr HBs HOk HKp HBx;have HM:=HMp;have HOw:=HOwp;have HBr:=HBrp;have HBs:=HBsp;clear HMp HOwp HBrp HBsp;have PBx:=kp (brq wp).drew;have hMl:=kp (lt_of_block HM.out);obtain ⟨q0,q1,q2,_⟩:=three_cells HM.out;refine wp_region_to (by kernel_rfl) (fun W=>W.cell? ⟨m,2,none⟩=some (.slice Ao k co)) 7 (q2) (fun hHeld=>?_);clear q0 q1 q2;refine wpTo_take (i:=0) (oi:=Oper.mk _ _ _ _ _ _) (v:=?_) rfl (by kernel_rfl) (by kernel_rfl) (by kernel_rfl) (by kernel_rfl) (fun _ _ _ h=>h) (Or.inl ⟨by rfl,?_⟩) (by assumption) ?_;rotate_left
    ·(intro w hSw;go_simp;try with_reducible rfl)
    try simp only [pt]
    refine wpTo_take (i:=1) (oi:=Oper.mk _ _ _ _ _ _) (v:=?_) rfl (by kernel_rfl) (by kernel_rfl) (by kernel_rfl) (by kernel_rfl) (fun _ _ _ h=>h) (Or.inl ⟨by rfl,?_⟩) (by assumption) ?_;rotate_left
    ·(intro w hSw;go_simp;try with_reducible rfl)
    try simp only [pt]
    refine wpTo_take (i:=2) (oi:=Oper.mk _ _ _ _ _ _) (v:=?_) rfl (by kernel_rfl) (by kernel_rfl) (by kernel_rfl) (by kernel_rfl) (fun _ _ _ h=>h) (Or.inl ⟨by rfl,?_⟩) (by assumption) ?_;rotate_left
    ·(intro w hSw;go_simp;try with_reducible rfl)
    try simp only [pt]
    refine wpTo_step (i:=3) (o:=Oper.mk _ _ _ _ _ _) (by kernel_rfl) rfl (fun K hK=>?_);go_simp
    go_wp2_with (go_at_call 176;refine(syms_any [p.1,p.2] (some ⟨pbn,0,none⟩) 2 _ (HLp.out.on StrR.lasts ((Below.refl _ _).drew)) (by simp)).mono ?_;rintro e w8 ⟨As,cs,⟨rfl,s1,s2⟩,s3,hb8⟩;have B8:=kp (PBx.out.trans hb8);have M8:=kp ((B8.out.block _ hMl.out).trans HM.out);obtain ⟨q0,q1,q2,_⟩:=three_cells M8.out)
    refine hK.out _ _ (q2) (fun hHeld=>?_);clear hK K;try simp only [pt]
    have O8:=kp (owns_keep HOw.out (Keeps.of_below B8.out (fun _=>False)) (fun _ h=>h.elim));have OA:=kp (show World.ownsRow (w8.alloc (.cells #[.int .i8 3,.string { data:=#[] },.slice As 2 cs] 81)) bs 81 3 (.slice Ao k co) k vals from O8.out.alloc _);have BA:=kp (B8.out.alloc B8.out.size (.cells #[.int .i8 3,.string { data:=#[] },.slice As 2 cs] 81));have MA:=kp ((BA.out.block _ hMl.out).trans HM.out);have CA:=kp (Cells.new w8 [.int .i8 3,.string { data:=#[] },.slice As 2 cs] 81 (0,0));obtain ⟨r0,r1,r2,_⟩:=three_cells MA.out;clear hb8 q0 q1 q2;refine wpTo_step (i:=4) (o:=Oper.mk _ _ _ _ _ _) (by kernel_rfl) rfl (fun K hK=>?_);go_simp;refine hK.out _ _ (r2) (fun hHeld=>?_);clear hK K;try simp only [pt]
    clear r0 r1 r2;refine wpTo_step (i:=5) (o:=Oper.mk _ _ _ _ _ _) (by kernel_rfl) rfl (fun K hK=>?_)
    (refine step_append_at (by rfl) _ _ _ (by rfl) bs 81 i0 (.agg #[.int .i8 0,.string { data:=#[] },.slice none 0 0]) 3 48 Tryz.underlying63 I0.out I1.out I2.out I3.out rfl (by decide) (.slice Ao k co) k vals (by rfl) OA.out (some ⟨w8.heap.size,0,none⟩) 1 1 [.int .i8 3,.string { data:=#[] },.slice As 2 cs] (by rfl) rfl CA.out (by simp [Value.oneCell']) (by unfold maxLen;omega) (by omega) (by have:=HBs.out;have:=BA.out.size;omega) ?_;intro v' w9 hown hgr hat;obtain ⟨A9,c9,rfl⟩:=shape_of_owns hown;have M9:=kp ((hgr.block m (Nat.lt_of_lt_of_le hMl.out BA.out.size) (fun e=>by have h1:=(OA.out.lt m e.symm).1;have h2:=HMb.out;omega)).trans MA.out);obtain ⟨r0,r1,r2,rf⟩:=three_cells M9.out)
    refine hK.out _ _ (r2) (fun hHeld=>?_);clear hK K;try simp only [pt]
    have K9:=kp (show Keeps (fun j=>bs<=j) wp w9 from(Keeps.of_below BA.out _).grown hgr (fun j hj=>.inl (OA.out.lt j hj).1));refine wpTo_step (i:=6) (o:=Oper.mk _ _ _ _ _ _) (by kernel_rfl) rfl (fun K hK=>?_);go_simp;refine hK.out _ _ ((by assumption)) (fun hHeld=>?_);clear hK K;try simp only [pt]
    clear r0 r1 r2 rf;obtain ⟨r0,r1,r2,rf⟩:=three_cells M9.out;refine wpTo_last (o:=Oper.mk _ _ _ _ _ _) (by kernel_rfl) rfl (fun K hK=>?_);go_simp;refine hK.out _ _ ?_;clear hK K;try simp only [pt]
    refine wpTo_done (by kernel_rfl) ?_ _;clear hHeld r0 r1 r2 rf;have M10:=kp (show(w9.setCell ⟨m,2,none⟩ (.slice A9 (k+1) c9)).heap[m]?=some (.cells #[.int .i8 3,.string { data:=#[] },.slice A9 (k+1) c9] 81 (0,0)) from by simp [World.setCell,Array.getElem?_modify,M9.out]);have K10:=kp (show Keeps (fun j=>j=m\/bs<=j) wp (w9.setCell ⟨m,2,none⟩ (.slice A9 (k+1) c9)) from(K9.out.mono (fun j hj=>.inr hj)).setCell (p:=⟨m,2,none⟩) (.inl (.inl rfl)) _)
    have HG10:=kp (show Grows 3 TripR 81 w bs w9 (.slice A9 (k+1) c9) (ts ++ [(p,As,cs)]) from
     Grows.push (vs:=[.int .i8 3,.string { data:=#[] },.slice As 2 cs]) HVl.out HRr.out (by rw [HLk'.out];exact hown) rfl rfl)
    have HG11:=kp (HG10.out.setCell (p:=⟨m,2,none⟩) (.slice A9 (k+1) c9) HMb.out);have HNew:=kp (show PairOk bs w8 (Value.slice Ao k co).ownBlock (p,As,cs) from pairOk_new s3 s1 s2 HBs.out (fun b hb=>(HOw.out.lt b hb).2))
    have HAll:=kp (show ∀ t ∈ ts ++ [(p,As,cs)],PairOk bs (w9.setCell ⟨m,2,none⟩ (.slice A9 (k+1) c9)) (Value.slice A9 (k+1) c9).ownBlock t from fun t ht=>by
     have h8:PairOk bs w8 (Value.slice Ao k co).ownBlock t:=by
      rcases List.mem_append.1 ht with h | h
      ·exact(HOkp.out t h).keep (Keeps.of_below B8.out (fun _=>False)) (fun _ _ _ h=>h)
      ·simp at h;subst h;exact HNew.out
     have hA:=h8.keep (w':=w8.alloc (.cells #[.int .i8 3,.string { data:=#[] },.slice As 2 cs] 81)) ((Keeps.refl (fun _=>False) w8).alloc _) (fun _ _ _ h=>h);exact(hA.grown hgr hat).keep (S:=fun j=>j=m) ((Keeps.refl (fun j=>j=m) w9).setCell (p:=⟨m,2,none⟩) (.inl rfl) _) (fun b h1 _ h2=>by have:=HMb.out;omega))
    have HTs':=kp (show(ts ++ [((p,As,cs):Trip)]).map (fun t=>t.1)=c.params.take (k+1) by rw [List.map_append,HTs.out,HTk'.out];rfl);clear hown hgr hat s1 s2 s3;go_wp2_with fail
    go_roundw
    case rel=>exact⟨k+1,by omega,by go_num,ts ++ [(p,As,cs)],.slice A9 (k+1) c9,HTs'.out,HG11.out,HAll.out,M10.out,HKpp.out.trans_same K10.out⟩
    case measure=>simp [intOf];omega
   ·obtain rfl:k=c.params.length:=by omega
    have HTe:=kp (show ts.map (fun t=>t.1)=c.params by have h:=HTs.out;rw [List.take_length] at h;exact h);have HSh:=kp (owns_shape HOw.out);have BW:=kp HBr.out;have NB:=kp ((HKp.out.block _ (lt_of_block N2.out) (by have:=HMb.out;have:=HNm.out;have:=HWk.out;omega)).trans N2.out);have RB:=kp ((HKp.out.block _ (Nat.lt_of_lt_of_le (lt_of_block RB.out) B2.out.size) (by have:=HMb.out;have:=HNm.out;have:=HWk.out;omega)).trans ((B2.out.block _ (lt_of_block RB.out)).trans RB.out));have KB:=kp ((HKp.out.block _ (Nat.lt_of_lt_of_le (lt_of_block KB.out) B2.out.size) (by have:=HMb.out;have:=HNm.out;have:=HWk.out;omega)).trans ((B2.out.block _ (lt_of_block KB.out)).trans KB.out));have HMw:=kp (show w.heap.size+1+1 < m by have:=HNm.out;have:=HWk.out;omega);have HLm:=kp (lt_of_block HM.out);have HWk:=kp (show w.heap.size+1+1 < wr.heap.size by have:=HLm.out;have:=HMw.out;omega);have HLn:=kp (show w.heap.size < wr.heap.size by have:=HWk.out;omega);have HLk:=kp (show w.heap.size+1+1 < wr.heap.size from HWk.out);clear n0 n1 n2 n3 n4 n5 n6 n7 nf;obtain ⟨n0,n1,n2,n3,n4,n5,n6,n7,nf⟩:=eight_cells NB.out;obtain ⟨k0,k1,k2,kf⟩:=three_cells KB.out;obtain ⟨m0,m1,m2,mf⟩:=three_cells HM.out;have HTk:=kp (fun W (hb:Below wr.heap.size wr W)=>HTb.out.on (BW.out.trans (hb.mono BW.out.size)));have HSx:=kp (fun W (h:Below wr.heap.size wr W)=>show W.cell? ⟨w.heap.size,1,none⟩=some (.string c.name)/\W.cell? ⟨m,0,none⟩=some (.int .i8 3)/\W.cell? ⟨m,1,none⟩=some (.string { data:=#[] })/\W.cell? ⟨m,2,none⟩=some (.slice Ao c.params.length co)/\W.cell? ⟨w.heap.size,6,none⟩=some (.string c.res)/\W.cell? ⟨w.heap.size,7,none⟩=some (.slice A4 c.terms.length c4) from⟨(h.cell (p:=⟨w.heap.size,1,none⟩) HLn.out).trans n1,(h.cell (p:=⟨m,0,none⟩) HLm.out).trans m0,(h.cell (p:=⟨m,1,none⟩) HLm.out).trans m1,(h.cell (p:=⟨m,2,none⟩) HLm.out).trans m2,(h.cell (p:=⟨w.heap.size,6,none⟩) HLn.out).trans n6,(h.cell (p:=⟨w.heap.size,7,none⟩) HLn.out).trans n7⟩)
    have B0:=kp (brq wr).drew;go_wp2_with fail
    refine wp_region_to (by kernel_rfl) (fun W=>W.cell? ⟨w.heap.size,1,none⟩=some (.string c.name)/\W.cell? ⟨m,0,none⟩=some (.int .i8 3)/\W.cell? ⟨m,1,none⟩=some (.string { data:=#[] })/\W.cell? ⟨m,2,none⟩=some (.slice Ao c.params.length co)/\W.cell? ⟨w.heap.size,6,none⟩=some (.string c.res)/\W.cell? ⟨w.heap.size,7,none⟩=some (.slice A4 c.terms.length c4)) 13 (HSx.out _ B0.out) (fun hHeld=>?_);refine wpTo_take (i:=1) (oi:=Oper.mk _ _ _ _ _ _) (v:=?_) rfl (by kernel_rfl) (by kernel_rfl) (by kernel_rfl) (by kernel_rfl) (fun _ _ _ h=>h) (Or.inl ⟨by rfl,?_⟩) (by assumption) ?_;rotate_left
    ·(intro w hSw;go_simp;try with_reducible rfl)
    try simp only [pt]
    refine wpTo_take (i:=2) (oi:=Oper.mk _ _ _ _ _ _) (v:=?_) rfl (by kernel_rfl) (by kernel_rfl) (by kernel_rfl) (by kernel_rfl) (fun _ _ _ h=>h) (Or.inl ⟨by rfl,?_⟩) (by assumption) ?_;rotate_left
    ·(intro w hSw;go_simp;try with_reducible rfl)
    try simp only [pt]
    refine wpTo_take (i:=4) (oi:=Oper.mk _ _ _ _ _ _) (v:=?_) rfl (by kernel_rfl) (by kernel_rfl) (by kernel_rfl) (by kernel_rfl) (fun _ _ _ h=>h) (Or.inl ⟨by rfl,?_⟩) (by assumption) ?_;rotate_left
    ·(intro w hSw;go_simp;try with_reducible rfl)
    try simp only [pt]
    refine wpTo_take (i:=5) (oi:=Oper.mk _ _ _ _ _ _) (v:=?_) rfl (by kernel_rfl) (by kernel_rfl) (by kernel_rfl) (by kernel_rfl) (fun _ _ _ h=>h) (Or.inl ⟨by rfl,?_⟩) (by assumption) ?_;rotate_left
    ·(intro w hSw;go_simp;try with_reducible rfl)
    try simp only [pt]
    refine wpTo_take (i:=6) (oi:=Oper.mk _ _ _ _ _ _) (v:=?_) rfl (by kernel_rfl) (by kernel_rfl) (by kernel_rfl) (by kernel_rfl) (fun _ _ _ h=>h) (Or.inl ⟨by rfl,?_⟩) (by assumption) ?_;rotate_left
    ·(intro w hSw;go_simp;try with_reducible rfl)
    try simp only [pt]
    refine wpTo_take (i:=9) (oi:=Oper.mk _ _ _ _ _ _) (v:=?_) rfl (by kernel_rfl) (by kernel_rfl) (by kernel_rfl) (by kernel_rfl) (fun _ _ _ h=>h) (Or.inl ⟨by rfl,?_⟩) (by assumption) ?_;rotate_left
    ·(intro w hSw;go_simp;try with_reducible rfl)
    try simp only [pt]
    refine wpTo_take (i:=10) (oi:=Oper.mk _ _ _ _ _ _) (v:=?_) rfl (by kernel_rfl) (by kernel_rfl) (by kernel_rfl) (by kernel_rfl) (fun _ _ _ h=>h) (Or.inl ⟨by rfl,?_⟩) (by assumption) ?_;rotate_left
    ·(intro w hSw;go_simp;try with_reducible rfl)
    try simp only [pt]
    refine wpTo_step (i:=0) (o:=Oper.mk _ _ _ _ _ _) (by kernel_rfl) rfl (fun K hK=>?_);go_simp
    go_wp2_with (go_at_call 178;refine(sym_any { data:=#[100,101,102,105,110,101,45,102,117,110] } _).mono ?_;rintro e W1 ⟨rfl,hb⟩;have B1:=kp (B0.out.trans (hb.mono B0.out.size));clear hb)
    refine hK.out _ _ (HSx.out _ B1.out) (fun hHeld=>?_);clear hK K;try simp only [pt]
    refine wpTo_step (i:=3) (o:=Oper.mk _ _ _ _ _ _) (by kernel_rfl) rfl (fun K hK=>?_);go_simp
    go_wp2_with (go_at_call 178;refine(sym_any c.name _).mono ?_;rintro e W2 ⟨rfl,hb⟩;have B2:=kp (B1.out.trans (hb.mono B1.out.size));clear hb)
    refine hK.out _ _ (HSx.out _ B2.out) (fun hHeld=>?_);clear hK K;try simp only [pt]
    refine wpTo_step (i:=7) (o:=Oper.mk _ _ _ _ _ _) (by kernel_rfl) rfl (fun K hK=>?_);go_simp
    go_wp2_with (go_at_call 178;refine(sym_any c.res _).mono ?_;rintro e W3 ⟨rfl,hb⟩;have B3:=kp (B2.out.trans (hb.mono B2.out.size));clear hb)
    refine hK.out _ _ (HSx.out _ B3.out) (fun hHeld=>?_);clear hK K;try simp only [pt]
    have L4:=kp (blk_new W3 (.cells #[.int .i8 0,.string { data:=#[100,101,102,105,110,101,45,102,117,110] },.slice none 0 0,.int .i8 0,.string c.name,.slice none 0 0,.int .i8 3,.string { data:=#[] },.slice Ao c.params.length co,.int .i8 0,.string c.res,.slice none 0 0] 81));have B4:=kp (B3.out.alloc B3.out.size (.cells #[.int .i8 0,.string { data:=#[100,101,102,105,110,101,45,102,117,110] },.slice none 0 0,.int .i8 0,.string c.name,.slice none 0 0,.int .i8 3,.string { data:=#[] },.slice Ao c.params.length co,.int .i8 0,.string c.res,.slice none 0 0] 81));refine wpTo_step (i:=8) (o:=Oper.mk _ _ _ _ _ _) (by kernel_rfl) rfl (fun K hK=>?_);go_simp;refine hK.out _ _ (HSx.out _ B4.out) (fun hHeld=>?_);clear hK K;try simp only [pt]
    have OL:=kp (lit_owns W3 #[.int .i8 0,.string { data:=#[100,101,102,105,110,101,45,102,117,110] },.slice none 0 0,.int .i8 0,.string c.name,.slice none 0 0,.int .i8 3,.string { data:=#[] },.slice Ao c.params.length co,.int .i8 0,.string c.res,.slice none 0 0] 81 4 wr.heap.size rfl B3.out.size (by decide));refine wpTo_step (i:=11) (o:=Oper.mk _ _ _ _ _ _) (by kernel_rfl) rfl (fun K hK=>?_)
    (refine step_append_at (by rfl) _ _ _ (by rfl) wr.heap.size 81 i0 (.agg #[.int .i8 0,.string { data:=#[] },.slice none 0 0]) 3 48 Tryz.underlying63 I0.out I1.out I2.out I3.out rfl (by decide) (.slice (some ⟨W3.heap.size,0,none⟩) 4 4) 4 (#[.int .i8 0,.string { data:=#[100,101,102,105,110,101,45,102,117,110] },.slice none 0 0,.int .i8 0,.string c.name,.slice none 0 0,.int .i8 3,.string { data:=#[] },.slice Ao c.params.length co,.int .i8 0,.string c.res,.slice none 0 0].toList) (by rfl) OL.out A4 c.terms.length c4 valsT (by rfl) T1.out (T2.out.on (HB0.out.trans ((BW.out.trans (B4.out.mono BW.out.size)).mono HB0.out.size))) T3.out (by have:=HSm.out.terms;unfold maxLen;omega) (by have:=HSm.out.terms;omega) B4.out.size ?_;intro v' W5 hown hgr hat;obtain ⟨A9,c9,rfl⟩:=shape_of_owns hown;have B5:=kp (B4.out.grown hgr B4.out.size (fun q hq=>(OL.out.lt q hq).1));have OW:=kp hown;clear hown hgr hat)
    refine hK.out _ _ (HSx.out _ B5.out) (fun hHeld=>?_);clear hK K;try simp only [pt]
    refine wpTo_step (i:=12) (o:=Oper.mk _ _ _ _ _ _) (by kernel_rfl) rfl (fun K hK=>?_);go_simp
    go_wp2_with (go_at_call 177;refine(clist_any A9 (4+c.terms.length) c9 _).mono ?_;rintro e W6 ⟨rfl,hb⟩;have B6:=kp (B5.out.trans (hb.mono B5.out.size));have HL9:=kp hb;clear hb)
    refine hK.out _ _ (HSx.out _ B6.out) (fun hHeld=>?_);clear hK K;try simp only [pt]
    have ZR:=kp ((B6.out.block _ (lt_of_block RB.out)).trans RB.out);obtain ⟨z0,z1,z2,zf⟩:=three_cells ZR.out;refine wpTo_last (o:=Oper.mk _ _ _ _ _ _) (by kernel_rfl) rfl (fun K hK=>?_);go_simp;refine hK.out _ _ ?_;clear hK K;try simp only [pt]
    refine wpTo_done (by kernel_rfl) ?_ _;clear hHeld z0 z1 z2 zf;have HGw:=kp (show Grows 3 TripR 81 w bs wr (.slice Ao ts.length co) ts by rw [HLk'.out];exact HG.out);have HOkw:=kp (show ∀ t ∈ ts,PairOk bs wr (Value.slice Ao ts.length co).ownBlock t from by rw [HLk'.out];exact HOk.out);have HMp:=kp (show ts.map (fun t=>pairX t.1)=c.params.map pairX by rw [← HTe.out,List.map_map];rfl);have HPl:=kp (fun W' (hW:Keeps (fun j=>j=w.heap.size+1\/(W0.heap.size<=j/\j < w.heap.size)) W6 W')=>show Lies 3 SexpR W' Ao (c.params.map pairX) by rw [← HMp.out];exact trips_lies (w0:=w) (t:=81) (grows_keep HGw.out ((Keeps.of_below B6.out (fun j=>j=w.heap.size+1\/(W0.heap.size<=j/\j < w.heap.size))).trans_same hW) (fun j hj=>by have:=HMb.out;have:=HMw.out;omega)) (fun t ht=>(HOkw.out t ht).keep ((Keeps.of_below B6.out (fun j=>j=w.heap.size+1\/(W0.heap.size<=j/\j < w.heap.size))).trans_same hW) (fun b h1 _ h2=>by have:=HMb.out;have:=HMw.out;omega)));go_wp2_with fail
    have OW:=kp (show World.ownsRow W5 wr.heap.size 81 3 (.slice A9 (4+c.terms.length) c9) (4+c.terms.length) (cells3 [(symX sDefine,none,0),(symX c.name,none,0),(listX (c.params.map pairX),Ao,co),(symX c.res,none,0)] ++ valsT) by rw [show cells3 [(symX sDefine,none,0),(symX c.name,none,0),(listX (c.params.map pairX),Ao,co),(symX c.res,none,0)]=#[.int .i8 0,.string { data:=#[100,101,102,105,110,101,45,102,117,110] },.slice none 0 0,.int .i8 0,.string c.name,.slice none 0 0,.int .i8 3,.string { data:=#[] },.slice Ao c.params.length co,.int .i8 0,.string c.res,.slice none 0 0].toList by simp only [cells3];rw [show(listX (c.params.map pairX)).l.length=c.params.length from List.length_map _];rfl];exact OW.out);have HSh9:=kp (owns_shape OW.out);have HXl:=kp (show([symX sDefine,symX c.name,listX (c.params.map pairX),symX c.res] ++ c.terms).length=4+c.terms.length by simp;omega);have HF:=written_fin (lo:=W0.heap.size) (w:=w) (W:=W6) (nr:=w.heap.size+1) (c':=c9) (A:=A9) (c:=c) (xs:=[symX sDefine,symX c.name,listX (c.params.map pairX),symX c.res] ++ c.terms) (by rw [progL_of hk.out (by decide)];unfold writeL;rw [hk.out];rfl) (BW.out.trans (B6.out.mono BW.out.size)) (by omega) (fun W' hW=>owns_lies (owns_keep (owns_keep OW.out (Keeps.of_below HL9.out (fun _=>False)) (fun _ h=>h.elim)) hW (fun j hj=>by have:=HWk.out;omega)) HXl.out (lit_more (ys:=[(symX sDefine,none,0),(symX c.name,none,0),(listX (c.params.map pairX),Ao,co),(symX c.res,none,0)]) ((HB0.out.trans ((BW.out.trans (B6.out.mono BW.out.size)).mono HB0.out.size)).trans (hW.below (B:=W0.heap.size) (fun j hj=>by have:=HB0s.out;omega) (Nat.le_trans HB0.out.size (Nat.le_trans BW.out.size B6.out.size)))) (bits_four (sym_r W' sDefine (by decide)) (sym_r W' c.name HName.out) (list_r (HPl.out W' hW) (by rw [List.length_map];exact HSh.out.1) HSh.out.2 (by rw [List.length_map];have:=HSm.out.params;omega)) (sym_r W' c.res HRes.out)) T4.out)) (by rw [HXl.out];exact HSh9.out.1) HSh9.out.2 (by rw [HXl.out];have:=HSm.out.terms;omega)
    rw [HXl.out] at HF;exact sexp_ret (w:=set3 W6 (w.heap.size+1) (.int .i8 3) (.string { data:=#[] }) (.slice A9 (4+c.terms.length) c9)) Tryz.results127 (three_set ZR.out _ _ _) rfl rfl HF
 have q4:(c.kind == 4)=false:=beq_eq_false_iff_ne.2 h4
 by_cases h5:c.kind=5
 ·have hk:=kp h5;have q5:(c.kind == 5)=true:=by simp [h5]
  clear h5;obtain ⟨valsT,t1,t2,t3,t4⟩:=lies_flat (fun W vs x h=>one_sexp W vs x h) H0.out.terms;have T1:=kp t1;have T2:=kp t2;have T3:=kp t3;have T4:=kp t4;clear t1 t2 t3 t4;obtain ⟨i0,hi0,z0,z1,z2⟩:=info_parts info_sexp;have I0:=kp hi0;have I1:=kp z0;have I2:=kp z1;have I3:=kp z2;clear hi0 z0 z1 z2;have HSx:=kp (fun W (h:Below wk.heap.size wk W)=>show W.cell? ⟨w.heap.size,7,none⟩=some (.slice A4 c.terms.length c4) from(h.cell (p:=⟨w.heap.size,7,none⟩) HLn.out).trans n7);have B0:=kp (brq wk).drew;go_wp2_with fail
  refine wp_region_to (by kernel_rfl) (fun W=>W.cell? ⟨w.heap.size,7,none⟩=some (.slice A4 c.terms.length c4)) 6 (HSx.out _ B0.out) (fun hHeld=>?_);refine wpTo_take (i:=2) (oi:=Oper.mk _ _ _ _ _ _) (v:=?_) rfl (by kernel_rfl) (by kernel_rfl) (by kernel_rfl) (by kernel_rfl) (fun _ _ _ h=>h) (Or.inl ⟨by rfl,?_⟩) (by assumption) ?_;rotate_left
  ·(intro w hSw;go_simp;try with_reducible rfl)
  try simp only [pt]
  refine wpTo_take (i:=3) (oi:=Oper.mk _ _ _ _ _ _) (v:=?_) rfl (by kernel_rfl) (by kernel_rfl) (by kernel_rfl) (by kernel_rfl) (fun _ _ _ h=>h) (Or.inl ⟨by rfl,?_⟩) (by assumption) ?_;rotate_left
  ·(intro w hSw;go_simp;try with_reducible rfl)
  try simp only [pt]
  refine wpTo_step (i:=0) (o:=Oper.mk _ _ _ _ _ _) (by kernel_rfl) rfl (fun K hK=>?_);go_simp
  go_wp2_with (go_at_call 178;refine(sym_any { data:=#[97,115,115,101,114,116] } _).mono ?_;rintro e W1 ⟨rfl,hb⟩;have B1:=kp (B0.out.trans (hb.mono B0.out.size));clear hb)
  refine hK.out _ _ (HSx.out _ B1.out) (fun hHeld=>?_);clear hK K;try simp only [pt]
  have L2:=kp (blk_new W1 (.cells #[.int .i8 0,.string { data:=#[97,115,115,101,114,116] },.slice none 0 0] 81));have B2:=kp (B1.out.alloc B1.out.size (.cells #[.int .i8 0,.string { data:=#[97,115,115,101,114,116] },.slice none 0 0] 81));refine wpTo_step (i:=1) (o:=Oper.mk _ _ _ _ _ _) (by kernel_rfl) rfl (fun K hK=>?_);go_simp;refine hK.out _ _ (HSx.out _ B2.out) (fun hHeld=>?_);clear hK K;try simp only [pt]
  have OL:=kp (lit_owns W1 #[.int .i8 0,.string { data:=#[97,115,115,101,114,116] },.slice none 0 0] 81 1 wk.heap.size rfl B1.out.size (by decide));refine wpTo_step (i:=4) (o:=Oper.mk _ _ _ _ _ _) (by kernel_rfl) rfl (fun K hK=>?_)
  (refine step_append_at (by rfl) _ _ _ (by rfl) wk.heap.size 81 i0 (.agg #[.int .i8 0,.string { data:=#[] },.slice none 0 0]) 3 48 Tryz.underlying63 I0.out I1.out I2.out I3.out rfl (by decide) (.slice (some ⟨W1.heap.size,0,none⟩) 1 1) 1 (#[.int .i8 0,.string { data:=#[97,115,115,101,114,116] },.slice none 0 0].toList) (by rfl) OL.out A4 c.terms.length c4 valsT (by rfl) T1.out (T2.out.on (HB0.out.trans ((BW.out.trans (B2.out.mono BW.out.size)).mono HB0.out.size))) T3.out (by have:=HSm.out.terms;unfold maxLen;omega) (by have:=HSm.out.terms;omega) B2.out.size ?_;intro v' W3 hown hgr hat;obtain ⟨A9,c9,rfl⟩:=shape_of_owns hown;have B3:=kp (B2.out.grown hgr B2.out.size (fun q hq=>(OL.out.lt q hq).1));have OW:=kp hown;clear hown hgr hat)
  refine hK.out _ _ (HSx.out _ B3.out) (fun hHeld=>?_);clear hK K;try simp only [pt]
  refine wpTo_step (i:=5) (o:=Oper.mk _ _ _ _ _ _) (by kernel_rfl) rfl (fun K hK=>?_);go_simp
  go_wp2_with (go_at_call 177;refine(clist_any A9 (1+c.terms.length) c9 _).mono ?_;rintro e W4 ⟨rfl,hb⟩;have B4:=kp (B3.out.trans (hb.mono B3.out.size));have HL9:=kp hb;clear hb)
  refine hK.out _ _ (HSx.out _ B4.out) (fun hHeld=>?_);clear hK K;try simp only [pt]
  have ZR:=kp ((B4.out.block _ (lt_of_block RB.out)).trans RB.out);obtain ⟨z0,z1,z2,zf⟩:=three_cells ZR.out;refine wpTo_last (o:=Oper.mk _ _ _ _ _ _) (by kernel_rfl) rfl (fun K hK=>?_);go_simp;refine hK.out _ _ ?_;clear hK K;try simp only [pt]
  refine wpTo_done (by kernel_rfl) ?_ _;clear hHeld z0 z1 z2 zf;go_wp2_with fail
  have HSh9:=kp (owns_shape OW.out);have HXl:=kp (show(symX sAssert :: c.terms).length=1+c.terms.length by simp;omega);have HF:=written_fin (lo:=W0.heap.size) (w:=w) (W:=W4) (nr:=w.heap.size+1) (c':=c9) (A:=A9) (c:=c) (xs:=symX sAssert :: c.terms) (by rw [progL_of hk.out (by decide)];unfold writeL;rw [hk.out];rfl) (BW.out.trans (B4.out.mono BW.out.size)) (by omega) (fun W' hW=>owns_lies (owns_keep (owns_keep OW.out (Keeps.of_below HL9.out (fun _=>False)) (fun _ h=>h.elim)) hW (fun j hj=>by have:=HWk.out;omega)) HXl.out (lit_more (ys:=[(symX sAssert,none,0)]) ((HB0.out.trans ((BW.out.trans (B4.out.mono BW.out.size)).mono HB0.out.size)).trans (hW.below (B:=W0.heap.size) (fun j hj=>by have:=HB0s.out;omega) (Nat.le_trans HB0.out.size (Nat.le_trans BW.out.size B4.out.size)))) (bits_one (sym_r W' sAssert (by decide))) T4.out)) (by rw [HXl.out];exact HSh9.out.1) HSh9.out.2 (by rw [HXl.out];have:=HSm.out.terms;omega);rw [HXl.out] at HF;exact sexp_ret (w:=set3 W4 (w.heap.size+1) (.int .i8 3) (.string { data:=#[] }) (.slice A9 (1+c.terms.length) c9)) Tryz.results127 (three_set ZR.out _ _ _) rfl rfl HF
 have q5:(c.kind == 5)=false:=beq_eq_false_iff_ne.2 h5
 by_cases h6:c.kind=6
 ·have hk:=kp h6;have q6:(c.kind == 6)=true:=by simp [h6]
  clear h6;have HSx:=kp (fun W (h:Below wk.heap.size wk W)=>show W.cell? ⟨w.heap.size,2,none⟩=some (.int .i64 c.n) from(h.cell (p:=⟨w.heap.size,2,none⟩) HLn.out).trans n2);have B0:=kp (brq wk).drew;go_wp2_with fail
  refine wp_region_to (by kernel_rfl) (fun W=>W.cell? ⟨w.heap.size,2,none⟩=some (.int .i64 c.n)) 6 (HSx.out _ B0.out) (fun hHeld=>?_);refine wpTo_take (i:=1) (oi:=Oper.mk _ _ _ _ _ _) (v:=?_) rfl (by kernel_rfl) (by kernel_rfl) (by kernel_rfl) (by kernel_rfl) (fun _ _ _ h=>h) (Or.inl ⟨by rfl,?_⟩) (by assumption) ?_;rotate_left
  ·(intro w hSw;go_simp;try with_reducible rfl)
  try simp only [pt]
  refine wpTo_take (i:=2) (oi:=Oper.mk _ _ _ _ _ _) (v:=?_) rfl (by kernel_rfl) (by kernel_rfl) (by kernel_rfl) (by kernel_rfl) (fun _ _ _ h=>h) (Or.inl ⟨by rfl,?_⟩) (by assumption) ?_;rotate_left
  ·(intro w hSw;go_simp;try with_reducible rfl)
  try simp only [pt]
  refine wpTo_step (i:=0) (o:=Oper.mk _ _ _ _ _ _) (by kernel_rfl) rfl (fun K hK=>?_);go_simp
  go_wp2_with (go_at_call 178;refine(sym_any { data:=#[112,117,115,104] } _).mono ?_;rintro e W1 ⟨rfl,hb⟩;have B1:=kp (B0.out.trans (hb.mono B0.out.size));clear hb)
  refine hK.out _ _ (HSx.out _ B1.out) (fun hHeld=>?_);clear hK K;try simp only [pt]
  refine wpTo_step (i:=3) (o:=Oper.mk _ _ _ _ _ _) (by kernel_rfl) rfl (fun K hK=>?_);go_simp
  go_wp2_with (go_at_call 179;refine(numeral_any c.n HI.out _ (HTk.out _ B1.out)).mono ?_;rintro e W2 ⟨rfl,hb⟩;have B2:=kp (B1.out.trans (hb.mono B1.out.size));clear hb)
  refine hK.out _ _ (HSx.out _ B2.out) (fun hHeld=>?_);clear hK K;try simp only [pt]
  have L3:=kp (blk_new W2 (.cells #[.int .i8 0,.string { data:=#[112,117,115,104] },.slice none 0 0,.int .i8 1,.string ⟨(textL c.n).toArray⟩,.slice none 0 0] 81));have B3:=kp (B2.out.alloc B2.out.size (.cells #[.int .i8 0,.string { data:=#[112,117,115,104] },.slice none 0 0,.int .i8 1,.string ⟨(textL c.n).toArray⟩,.slice none 0 0] 81));refine wpTo_step (i:=4) (o:=Oper.mk _ _ _ _ _ _) (by kernel_rfl) rfl (fun K hK=>?_);go_simp;refine hK.out _ _ (HSx.out _ B3.out) (fun hHeld=>?_);clear hK K;try simp only [pt]
  refine wpTo_step (i:=5) (o:=Oper.mk _ _ _ _ _ _) (by kernel_rfl) rfl (fun K hK=>?_);go_simp
  go_wp2_with (go_at_call 177;refine(clist_any (some ⟨W2.heap.size,0,none⟩) 2 2 _).mono ?_;rintro e W4 ⟨rfl,hb⟩;have B4:=kp (B3.out.trans (hb.mono B3.out.size));have hbl3:=kp hb;clear hb)
  refine hK.out _ _ (HSx.out _ B4.out) (fun hHeld=>?_);clear hK K;try simp only [pt]
  have ZR:=kp ((B4.out.block _ (lt_of_block RB.out)).trans RB.out);obtain ⟨z0,z1,z2,zf⟩:=three_cells ZR.out;refine wpTo_last (o:=Oper.mk _ _ _ _ _ _) (by kernel_rfl) rfl (fun K hK=>?_);go_simp;refine hK.out _ _ ?_;clear hK K;try simp only [pt]
  refine wpTo_done (by kernel_rfl) ?_ _;clear hHeld z0 z1 z2 zf;go_wp2_with fail
  have LK:=kp ((hbl3.out.block _ (lt_of_block L3.out)).trans L3.out)
  exact sexp_ret (w:=set3 W4 (w.heap.size+1) (.int .i8 3) (.string { data:=#[] }) (.slice (some ⟨W2.heap.size,0,none⟩) 2 2)) Tryz.results127 (three_set ZR.out _ _ _) rfl rfl
   (written_fin (c:=c) (xs:=[symX sPush,numX c.n]) (by rw [progL_of hk.out (by decide)];unfold writeL;rw [hk.out];rfl) (BW.out.trans (B4.out.mono BW.out.size)) (by omega) (fun W' hW=>lit_keep (ys:=[(symX sPush,none,0),(numX c.n,none,0)]) LK.out hW (by have:=B2.out.size;have:=HWk.out;omega) rfl (bits_two (sym_r W' sPush (by decide)) (num_r W' c.n HI.out))) nlq (by decide) (by simp))
 have q6:(c.kind == 6)=false:=beq_eq_false_iff_ne.2 h6
 by_cases h7:c.kind=7
 ·have hk:=kp h7;have q7:(c.kind == 7)=true:=by simp [h7]
  clear h7;have HSx:=kp (fun W (h:Below wk.heap.size wk W)=>show W.cell? ⟨w.heap.size,2,none⟩=some (.int .i64 c.n) from(h.cell (p:=⟨w.heap.size,2,none⟩) HLn.out).trans n2);have B0:=kp (brq wk).drew;go_wp2_with fail
  refine wp_region_to (by kernel_rfl) (fun W=>W.cell? ⟨w.heap.size,2,none⟩=some (.int .i64 c.n)) 6 (HSx.out _ B0.out) (fun hHeld=>?_);refine wpTo_take (i:=1) (oi:=Oper.mk _ _ _ _ _ _) (v:=?_) rfl (by kernel_rfl) (by kernel_rfl) (by kernel_rfl) (by kernel_rfl) (fun _ _ _ h=>h) (Or.inl ⟨by rfl,?_⟩) (by assumption) ?_;rotate_left
  ·(intro w hSw;go_simp;try with_reducible rfl)
  try simp only [pt]
  refine wpTo_take (i:=2) (oi:=Oper.mk _ _ _ _ _ _) (v:=?_) rfl (by kernel_rfl) (by kernel_rfl) (by kernel_rfl) (by kernel_rfl) (fun _ _ _ h=>h) (Or.inl ⟨by rfl,?_⟩) (by assumption) ?_;rotate_left
  ·(intro w hSw;go_simp;try with_reducible rfl)
  try simp only [pt]
  refine wpTo_step (i:=0) (o:=Oper.mk _ _ _ _ _ _) (by kernel_rfl) rfl (fun K hK=>?_);go_simp
  go_wp2_with (go_at_call 178;refine(sym_any { data:=#[112,111,112] } _).mono ?_;rintro e W1 ⟨rfl,hb⟩;have B1:=kp (B0.out.trans (hb.mono B0.out.size));clear hb)
  refine hK.out _ _ (HSx.out _ B1.out) (fun hHeld=>?_);clear hK K;try simp only [pt]
  refine wpTo_step (i:=3) (o:=Oper.mk _ _ _ _ _ _) (by kernel_rfl) rfl (fun K hK=>?_);go_simp
  go_wp2_with (go_at_call 179;refine(numeral_any c.n HI.out _ (HTk.out _ B1.out)).mono ?_;rintro e W2 ⟨rfl,hb⟩;have B2:=kp (B1.out.trans (hb.mono B1.out.size));clear hb)
  refine hK.out _ _ (HSx.out _ B2.out) (fun hHeld=>?_);clear hK K;try simp only [pt]
  have L3:=kp (blk_new W2 (.cells #[.int .i8 0,.string { data:=#[112,111,112] },.slice none 0 0,.int .i8 1,.string ⟨(textL c.n).toArray⟩,.slice none 0 0] 81));have B3:=kp (B2.out.alloc B2.out.size (.cells #[.int .i8 0,.string { data:=#[112,111,112] },.slice none 0 0,.int .i8 1,.string ⟨(textL c.n).toArray⟩,.slice none 0 0] 81));refine wpTo_step (i:=4) (o:=Oper.mk _ _ _ _ _ _) (by kernel_rfl) rfl (fun K hK=>?_);go_simp;refine hK.out _ _ (HSx.out _ B3.out) (fun hHeld=>?_);clear hK K;try simp only [pt]
  refine wpTo_step (i:=5) (o:=Oper.mk _ _ _ _ _ _) (by kernel_rfl) rfl (fun K hK=>?_);go_simp
  go_wp2_with (go_at_call 177;refine(clist_any (some ⟨W2.heap.size,0,none⟩) 2 2 _).mono ?_;rintro e W4 ⟨rfl,hb⟩;have B4:=kp (B3.out.trans (hb.mono B3.out.size));have hbl3:=kp hb;clear hb)
  refine hK.out _ _ (HSx.out _ B4.out) (fun hHeld=>?_);clear hK K;try simp only [pt]
  have ZR:=kp ((B4.out.block _ (lt_of_block RB.out)).trans RB.out);obtain ⟨z0,z1,z2,zf⟩:=three_cells ZR.out;refine wpTo_last (o:=Oper.mk _ _ _ _ _ _) (by kernel_rfl) rfl (fun K hK=>?_);go_simp;refine hK.out _ _ ?_;clear hK K;try simp only [pt]
  refine wpTo_done (by kernel_rfl) ?_ _;clear hHeld z0 z1 z2 zf;go_wp2_with fail
  have LK:=kp ((hbl3.out.block _ (lt_of_block L3.out)).trans L3.out)
  exact sexp_ret (w:=set3 W4 (w.heap.size+1) (.int .i8 3) (.string { data:=#[] }) (.slice (some ⟨W2.heap.size,0,none⟩) 2 2)) Tryz.results127 (three_set ZR.out _ _ _) rfl rfl
   (written_fin (c:=c) (xs:=[symX sPop,numX c.n]) (by rw [progL_of hk.out (by decide)];unfold writeL;rw [hk.out];rfl) (BW.out.trans (B4.out.mono BW.out.size)) (by omega) (fun W' hW=>lit_keep (ys:=[(symX sPop,none,0),(numX c.n,none,0)]) LK.out hW (by have:=B2.out.size;have:=HWk.out;omega) rfl (bits_two (sym_r W' sPop (by decide)) (num_r W' c.n HI.out))) nlq (by decide) (by simp))
 have q7:(c.kind == 7)=false:=beq_eq_false_iff_ne.2 h7
 by_cases h10:c.kind=10
 ·have hk:=kp h10;have q10:(c.kind == 10)=true:=by simp [h10]
  clear h10;have HSx:=kp (fun W (h:Below wk.heap.size wk W)=>show W.cell? ⟨w.heap.size,7,none⟩=some (.slice A4 c.terms.length c4) from(h.cell (p:=⟨w.heap.size,7,none⟩) HLn.out).trans n7);have B0:=kp (brq wk).drew;go_wp2_with fail
  refine wp_region_to (by kernel_rfl) (fun W=>W.cell? ⟨w.heap.size,7,none⟩=some (.slice A4 c.terms.length c4)) 6 (HSx.out _ B0.out) (fun hHeld=>?_);refine wpTo_take (i:=1) (oi:=Oper.mk _ _ _ _ _ _) (v:=?_) rfl (by kernel_rfl) (by kernel_rfl) (by kernel_rfl) (by kernel_rfl) (fun _ _ _ h=>h) (Or.inl ⟨by rfl,?_⟩) (by assumption) ?_;rotate_left
  ·(intro w hSw;go_simp;try with_reducible rfl)
  try simp only [pt]
  refine wpTo_take (i:=2) (oi:=Oper.mk _ _ _ _ _ _) (v:=?_) rfl (by kernel_rfl) (by kernel_rfl) (by kernel_rfl) (by kernel_rfl) (fun _ _ _ h=>h) (Or.inl ⟨by rfl,?_⟩) (by assumption) ?_;rotate_left
  ·(intro w hSw;go_simp;try with_reducible rfl)
  try simp only [pt]
  refine wpTo_step (i:=0) (o:=Oper.mk _ _ _ _ _ _) (by kernel_rfl) rfl (fun K hK=>?_);go_simp
  go_wp2_with (go_at_call 178;refine(sym_any { data:=#[103,101,116,45,118,97,108,117,101] } _).mono ?_;rintro e W1 ⟨rfl,hb⟩;have B1:=kp (B0.out.trans (hb.mono B0.out.size));clear hb)
  refine hK.out _ _ (HSx.out _ B1.out) (fun hHeld=>?_);clear hK K;try simp only [pt]
  refine wpTo_step (i:=3) (o:=Oper.mk _ _ _ _ _ _) (by kernel_rfl) rfl (fun K hK=>?_);go_simp
  go_wp2_with (go_at_call 177;refine(clist_any A4 c.terms.length c4 _).mono ?_;rintro e W2 ⟨rfl,hb⟩;have B2:=kp (B1.out.trans (hb.mono B1.out.size));clear hb)
  refine hK.out _ _ (HSx.out _ B2.out) (fun hHeld=>?_);clear hK K;try simp only [pt]
  have L3:=kp (blk_new W2 (.cells #[.int .i8 0,.string { data:=#[103,101,116,45,118,97,108,117,101] },.slice none 0 0,.int .i8 3,.string { data:=#[] },.slice A4 c.terms.length c4] 81));have B3:=kp (B2.out.alloc B2.out.size (.cells #[.int .i8 0,.string { data:=#[103,101,116,45,118,97,108,117,101] },.slice none 0 0,.int .i8 3,.string { data:=#[] },.slice A4 c.terms.length c4] 81));refine wpTo_step (i:=4) (o:=Oper.mk _ _ _ _ _ _) (by kernel_rfl) rfl (fun K hK=>?_);go_simp;refine hK.out _ _ (HSx.out _ B3.out) (fun hHeld=>?_);clear hK K;try simp only [pt]
  refine wpTo_step (i:=5) (o:=Oper.mk _ _ _ _ _ _) (by kernel_rfl) rfl (fun K hK=>?_);go_simp
  go_wp2_with (go_at_call 177;refine(clist_any (some ⟨W2.heap.size,0,none⟩) 2 2 _).mono ?_;rintro e W4 ⟨rfl,hb⟩;have B4:=kp (B3.out.trans (hb.mono B3.out.size));have hbl3:=kp hb;clear hb)
  refine hK.out _ _ (HSx.out _ B4.out) (fun hHeld=>?_);clear hK K;try simp only [pt]
  have ZR:=kp ((B4.out.block _ (lt_of_block RB.out)).trans RB.out);obtain ⟨z0,z1,z2,zf⟩:=three_cells ZR.out;refine wpTo_last (o:=Oper.mk _ _ _ _ _ _) (by kernel_rfl) rfl (fun K hK=>?_);go_simp;refine hK.out _ _ ?_;clear hK K;try simp only [pt]
  refine wpTo_done (by kernel_rfl) ?_ _;clear hHeld z0 z1 z2 zf;go_wp2_with fail
  have LK:=kp ((hbl3.out.block _ (lt_of_block L3.out)).trans L3.out)
  exact sexp_ret (w:=set3 W4 (w.heap.size+1) (.int .i8 3) (.string { data:=#[] }) (.slice (some ⟨W2.heap.size,0,none⟩) 2 2)) Tryz.results127 (three_set ZR.out _ _ _) rfl rfl
   (written_fin (c:=c) (xs:=[symX sValue,listX c.terms]) (by rw [progL_of hk.out (by decide)];unfold writeL;rw [hk.out];rfl) (BW.out.trans (B4.out.mono BW.out.size)) (by omega) (fun W' hW=>lit_keep (ys:=[(symX sValue,none,0),(listX c.terms,A4,c4)]) LK.out hW (by have:=B2.out.size;have:=HWk.out;omega) rfl (bits_two (sym_r W' sValue (by decide)) (list_r (H0.out.terms.on SexpR.lasts ((HB0.out.trans ((BW.out.trans (B4.out.mono BW.out.size)).mono HB0.out.size)).trans (hW.below (B:=W0.heap.size) (fun j hj=>by have:=HB0s.out;omega) (Nat.le_trans HB0.out.size (Nat.le_trans BW.out.size B4.out.size))))) H.out.l4 H.out.m4 H.out.b4))) nlq (by decide) (by simp))
 have q10:(c.kind == 10)=false:=beq_eq_false_iff_ne.2 h10;have hmm:=@run_makeMap Tryz.prog;have M0:=kp (KeyMap.made (kt:=22) (key:=Value.int .i8) wk);have K0:=kp (show Keeps (fun k=>k=wk.heap.size) wk (wk.alloc (.map #[] 0)) from(Keeps.refl _ _).alloc _);generalize hv0:wk.alloc (.map #[] 0)=v0 at *;obtain ⟨v1,u1,mm1,g1⟩:=KeyMap.store (a:=8) (t:=250) (e:=9) M0.out i8_key i8_inj Tryz.underlying250 (by decide) (keyOf_i8 (by decide)) (.string { data:=#[99,104,101,99,107,45,115,97,116] });replace u1:(Instr.mapUpdate 250 (.map (some wk.heap.size)) (.int .i8 8) (.string { data:=#[99,104,101,99,107,45,115,97,116] })).run Tryz.prog v0=.ok () v1:=u1;have M1:=kp mm1;have K1:=kp (K0.out.grown g1 (fun k hk=>.inl (Option.some.inj hk).symm));clear mm1 g1;obtain ⟨v2,u2,mm2,g2⟩:=KeyMap.store (a:=9) (t:=250) (e:=9) M1.out i8_key i8_inj Tryz.underlying250 (by decide) (keyOf_i8 (by decide)) (.string { data:=#[103,101,116,45,109,111,100,101,108] });replace u2:(Instr.mapUpdate 250 (.map (some wk.heap.size)) (.int .i8 9) (.string { data:=#[103,101,116,45,109,111,100,101,108] })).run Tryz.prog v1=.ok () v2:=u2;have M2:=kp mm2;have K2:=kp (K1.out.grown g2 (fun k hk=>.inl (Option.some.inj hk).symm));clear mm2 g2;obtain ⟨v3,u3,mm3,g3⟩:=KeyMap.store (a:=11) (t:=250) (e:=9) M2.out i8_key i8_inj Tryz.underlying250 (by decide) (keyOf_i8 (by decide)) (.string { data:=#[103,101,116,45,112,114,111,111,102] })
 replace u3:(Instr.mapUpdate 250 (.map (some wk.heap.size)) (.int .i8 11) (.string { data:=#[103,101,116,45,112,114,111,111,102] })).run Tryz.prog v2=.ok () v3:=u3;have M3:=kp mm3;have K3:=kp (K2.out.grown g3 (fun k hk=>.inl (Option.some.inj hk).symm));clear mm3 g3;obtain ⟨v4,u4,mm4,g4⟩:=KeyMap.store (a:=12) (t:=250) (e:=9) M3.out i8_key i8_inj Tryz.underlying250 (by decide) (keyOf_i8 (by decide)) (.string { data:=#[101,120,105,116] });replace u4:(Instr.mapUpdate 250 (.map (some wk.heap.size)) (.int .i8 12) (.string { data:=#[101,120,105,116] })).run Tryz.prog v3=.ok () v4:=u4;have M4:=kp mm4;have K4:=kp (K3.out.grown g4 (fun k hk=>.inl (Option.some.inj hk).symm));clear mm4 g4;subst hv0;have B4:=kp (K4.out.below (B:=wk.heap.size) (fun k e=>by subst e;exact nlq) nlq);have NB4:=kp ((B4.out.block _ (lt_of_block NB.out)).trans NB.out);have hlk:=M4.out.get (a:=c.kind) i8_key Tryz.underlying250 (zero_str v4) (keyOf_i8 H.out.kind)
 replace hlk:(Instr.lookup 250 (.map (some wk.heap.size)) (.int .i8 c.kind) false).run Tryz.prog v4=.ok (.string (headW c.kind)) v4:=by
  rw [hlk];unfold headW
  by_cases e12:c.kind=12
  ·rw [e12];rfl
  by_cases e11:c.kind=11
  ·rw [e11];rfl
  by_cases e9:c.kind=9
  ·rw [e9];rfl
  by_cases e8:c.kind=8
  ·rw [e8];rfl
  rw [if_neg e12,if_neg e11,if_neg e9,if_neg e8,if_neg e8,if_neg e9,if_neg e11,if_neg e12]
  rfl
 have HPg:=kp (show progL c=[symX (headW c.kind)] from prog_head c h0 h1 h2 h3 h4 h5 h6 h7 h10);have HHz:=kp (head_wsize c.kind);obtain ⟨y0,y1,y2,y3,y4,y5,y6,y7,yf⟩:=eight_cells NB4.out;generalize hhw:headW c.kind=hw at *;have LL:=kp (strs_one v4 hw HHz.out);have BL:=kp (B4.out.alloc B4.out.size (.cells #[.string hw] 9));clear h0 h1 h2 h3 h4 h5 h6 h7 h10 hhw;go_wp2_with fail
 refine(syms_any [hw] (some ⟨v4.heap.size,0,none⟩) 1 _ LL.out (by simp)).mono ?_;rintro e W1 ⟨As,cs,⟨rfl,s1,s2⟩,s3,hb⟩;have BM:=kp (BL.out.trans (hb.mono BL.out.size));have SY:=kp (And.intro s1 (And.intro s2 (s3.mono BL.out.size)));clear hb s1 s2 s3 hlk;have ZR:=kp ((BM.out.block _ (lt_of_block RB.out)).trans RB.out);obtain ⟨z0,z1,z2,zf⟩:=three_cells ZR.out;go_wp2_with fail
 exact sexp_ret (w:=set3 W1 (w.heap.size+1) (.int .i8 3) (.string { data:=#[] }) (.slice As 1 cs)) Tryz.results127 (three_set ZR.out _ _ _) rfl rfl
  (written_fin (c:=c) (xs:=[symX hw]) HPg.out (BW.out.trans (BM.out.mono BW.out.size)) (by omega) (fun W' hW=>syms_lies (l:=[hw]) (SY.out.2.2.keep symR_flat hW (fun j hj=>by have:=HWk.out;omega)).lies) SY.out.1 SY.out.2.1 (by simp))
end Cm
end Go.Proofs.YtmcbolkpbklfeaaGreatDoor

import Derived.Test.YtpmdcckapddchaaGreatDoorShort
import Derived.Test.YtpmdcckapddchaaGreatDoorMt
/- merged by wip/merge.py from: ElWri2 -/
set_option maxRecDepth 100000
set_option maxHeartbeats 51200000
namespace Go.Proofs.YtpmdcckapddchaaGreatDoor
namespace El
open Go.RowKit Dt
theorem wrX_text {n:Int} (hm:mayB n=true):(numX n).textL=Go.Proofs.YtpmdcckapddchaaGreatDoor.textL n/\Go.Proofs.YtpmdcckapddchaaGreatDoor.textE n=0:=by
 rw [num_text]
 by_cases h:n < 0
 ·have:=Go.Proofs.YtpmdcckapddchaaGreatDoor.text_neg hm h;exact⟨by rw [if_pos h,this.1],this.2⟩
 ·have:=Go.Proofs.YtpmdcckapddchaaGreatDoor.text_pos hm h;exact⟨by rw [if_neg h,this.1],this.2⟩
def Box1 (w:World) (k:Nat) (v:Value) (t:TypeId):Prop:=w.heap[k]?=some (.cells #[v] t (0,0))
theorem Box1.cell {w:World} {k:Nat} {v:Value} {t:TypeId} (h:Box1 w k v t):w.cell? ⟨k,0,none⟩=some v:=by rw [cell_of_cells h];rfl
theorem wrnum1_any {B b bn bw:Nat} {x y:Value} {w:World} {l:List UInt8} {n:Int} (hm:mayB n=true) (hn:I64 n) (ht:TabOk w) (h1:Box1 w bn (.int .i64 n) 3) (h2:Box1 w bw (.pointer (some ⟨b,0,none⟩)) 62) (hw:EW B b x y l w) (hlen:l.length+(numX n).textL.length<=140737488355328) :
  Calls Tryz.prog 75 #[.pointer (some ⟨bn,0,none⟩),.pointer (some ⟨bw,0,none⟩)] w (PutE B b x y (l ++ (numX n).textL) w):=by
 obtain ⟨e1,e2⟩:=wrX_text hm;rw [e1] at hlen ⊢;have HT:=kp (text_any n hn w ht);rw [e2] at HT;generalize hL:Go.Proofs.YtpmdcckapddchaaGreatDoor.textL n=L at *;have c1:=h1.cell;have HX2:=kp h2;have HS:=kp (fun u (hu:Below w.heap.size w u)=>e_wstr_any (x:=x) (y:=y) B b l ⟨L.toArray⟩ u (hw.below hu) (by rw [← Lx.bs_length,Lx.bs_mk];exact hlen) (by have:=hw.lt;have:=hu.size;omega));rw [Lx.bs_mk] at HS;have HB1:=kp (show B<=w.heap.size by have:=hw.lt;omega);clear hm hn ht hw hlen hL e1 e2 h1 h2
 go_enter Tryz.func75,Tryz.ntmps75
 go_wp2_with fail
 refine HT.out.mono ?_;rintro e w1 ⟨rfl,hb1⟩;have HQ:=kp (HS.out w1 hb1);have c2:w1.cell? ⟨bw,0,none⟩=some (.pointer (some ⟨b,0,none⟩)):=(hb1.cell (p:=⟨bw,0,none⟩) (lt_of_block HX2.out)).trans HX2.out.cell;have HBb:=kp hb1;clear hb1 c1;go_wp2_with fail
 refine HQ.out.mono ?_;rintro e w2 ⟨rfl,h3,hb2⟩;have HE:=kp (show EW B b x y (l ++ L) w2/\Wr B b w w2 from⟨h3,((Wr.refl B b w).of HBb.out HB1.out).trans hb2⟩);clear h3 hb2;go_wp2_with fail
 go_end0
 exact⟨rfl,HE.out⟩
theorem wrnum_any {b:Nat} {w:World} (n:Int) :
  Calls Tryz.prog 42 #[.pointer (some ⟨b,0,none⟩),.int .i64 n] w fun e w'=>e=.returned (.func (.func 75) #[] #[.pointer (some ⟨w.heap.size+1,0,none⟩),.pointer (some ⟨w.heap.size,0,none⟩)])/\w'=(w.alloc (.cells #[.pointer (some ⟨b,0,none⟩)] 62)).alloc (.cells #[.int .i64 n] 3):=by
 have hmf:∀ (fn:Fn) (first cap:Array Value) (w:World),(Instr.makeFunc fn first cap).run Tryz.prog w=.ok (.func fn first cap) w:=fun _ _ _ _=>rfl
 go_enter Tryz.func42,Tryz.ntmps42
 go_wp2_with fail
 go_ret;exact⟨rfl,rfl⟩
theorem wr_writes {B b:Nat} {x y:Value} {w:World} {n:Int} (hm:mayB n=true) (hn:I64 n) (ht:∀ u,Below B w u->TabOk u) (hB:B<=b) (hb:b < w.heap.size) :
  Writes B b x y (.func (.func 75) #[] #[.pointer (some ⟨w.heap.size+1,0,none⟩),.pointer (some ⟨w.heap.size,0,none⟩)]) (numX n).textL ((w.alloc (.cells #[.pointer (some ⟨b,0,none⟩)] 62)).alloc (.cells #[.int .i64 n] 3)):=by
 refine⟨_,_,_,.inr (.inr rfl),rfl,fun l u hu hw hlen=>?_⟩
 have k1:((w.alloc (.cells #[.pointer (some ⟨b,0,none⟩)] 62)).alloc (.cells #[.int .i64 n] 3)).heap[w.heap.size+1]?=some (.cells #[.int .i64 n] 3 (0,0)):=by
  have:=heap_alloc_new (w.alloc (.cells #[.pointer (some ⟨b,0,none⟩)] 62)) (.cells #[.int .i64 n] 3)
  rwa [show(w.alloc (.cells #[.pointer (some ⟨b,0,none⟩)] 62)).heap.size=w.heap.size+1 by simp] at this
 have k2:((w.alloc (.cells #[.pointer (some ⟨b,0,none⟩)] 62)).alloc (.cells #[.int .i64 n] 3)).heap[w.heap.size]?=some (.cells #[.pointer (some ⟨b,0,none⟩)] 62 (0,0)):=by
  rw [Lib.alloc_old _ _ _ (by simp)];exact heap_alloc_new w _
 have bb:Below B w ((w.alloc (.cells #[.pointer (some ⟨b,0,none⟩)] 62)).alloc (.cells #[.int .i64 n] 3)):=((Below.refl B w).alloc (by omega) _).alloc (by simp;omega) _;exact wrnum1_any hm hn (ht _ (bb.trans hu.below)) (hu.keep _ _ _ _ (by omega) k1 (by decide)) (hu.keep _ _ _ _ (by omega) k2 (by decide)) hw hlen
theorem wrnum_full {B b:Nat} {x y:Value} {w:World} {n:Int} (hm:mayB n=true) (hn:I64 n) (ht:∀ u,Below B w u->TabOk u) (hB:B<=b) (hb:b < w.heap.size) :
  Calls Tryz.prog 42 #[.pointer (some ⟨b,0,none⟩),.int .i64 n] w fun e w'=>∃ c1 c2,e=.returned (.func (.func 75) #[] #[c1,c2])/\Below w.heap.size w w'/\∀ l u,Wr B b w' u->EW B b x y l u->l.length+(numX n).textL.length<=140737488355328->Calls Tryz.prog 75 #[c1,c2] u (PutE B b x y (l ++ (numX n).textL) u):=by
 refine(wrnum_any n).mono ?_;rintro e w' ⟨rfl,rfl⟩;obtain ⟨k,c1,c2,hk,hv,hr⟩:=wr_writes (x:=x) (y:=y) hm hn ht hB hb;simp only [Value.func.injEq,Fn.func.injEq,true_and] at hv;obtain ⟨rfl,hc⟩:=hv;simp only [Array.mk.injEq,List.cons.injEq,and_true] at hc;obtain ⟨rfl,rfl⟩:=hc;exact⟨_,_,rfl,((brq w).alloc nlq _).alloc (by simp) _,hr⟩
theorem wrput1_any {B b ba bw:Nat} {x y:Value} {w:World} {l T:List UInt8} {a:Int} (h1:Box1 w ba (.int .i64 a) 3) (h2:Box1 w bw (.pointer (some ⟨b,0,none⟩)) 62)
  (hp:Calls Tryz.prog 21 #[.pointer (some ⟨b,0,none⟩),.int .i64 a] w (PutE B b x y (l ++ T) w)) :
  Calls Tryz.prog 40 #[.pointer (some ⟨bw,0,none⟩),.pointer (some ⟨ba,0,none⟩)] w (PutE B b x y (l ++ T) w):=by
 have HP:=kp hp;have c1:=h1.cell;have c2:=h2.cell;clear hp h1 h2
 go_enter Tryz.func40,Tryz.ntmps40
 go_wp2_with fail
 refine HP.out.mono ?_;rintro e w2 ⟨rfl,h3⟩;have HE:=kp h3;clear h3;go_wp2_with fail
 go_end0
 exact⟨rfl,HE.out⟩
theorem wrput2_any {B b ba bw n c:Nat} {x y:Value} {w:World} {l T:List UInt8} {A:Option Addr} (h1:Box1 w ba (.slice A n c) 98) (h2:Box1 w bw (.pointer (some ⟨b,0,none⟩)) 62)
  (hp:Calls Tryz.prog 43 #[.pointer (some ⟨b,0,none⟩),.string { data:=#[45] },.slice A n c] w (PutE B b x y (l ++ T) w)) :
  Calls Tryz.prog 44 #[.pointer (some ⟨bw,0,none⟩),.pointer (some ⟨ba,0,none⟩)] w (PutE B b x y (l ++ T) w):=by
 have HP:=kp hp;have c1:=h1.cell;have c2:=h2.cell;clear hp h1 h2
 go_enter Tryz.func44,Tryz.ntmps44
 go_wp2_with fail
 refine HP.out.mono ?_;rintro e w2 ⟨rfl,h3⟩;have HE:=kp h3;clear h3;go_wp2_with fail
 go_end0
 exact⟨rfl,HE.out⟩
structure AL (s0 b:Nat) (w:World) (al:List Int) (wr:World) (rv:Value) (vs:List Value):Prop where
 below:Below s0 w wr
 big:s0+1 < wr.heap.size
 wb:Box1 wr s0 (.pointer (some ⟨b,0,none⟩)) 62
 ab:Box1 wr (s0+1) rv 98
 own:wr.ownsRow s0 1 1 rv vs.length vs
 fs:∀ k (h:k < vs.length),∃ bi,vs[k]=.func (.func 40) #[] #[.pointer (some ⟨s0,0,none⟩),.pointer (some ⟨bi,0,none⟩)]/\Box1 wr bi (.int .i64 (al.getD k 0)) 3
theorem AL.push {s0 b:Nat} {w wr w2 w3:World} {al:List Int} {rv rv':Value} {vs:List Value} (h:AL s0 b w al wr rv vs) {a:Int} (ha:al.getD vs.length 0=a) (hb:Below wr.heap.size wr w2) (hn:Box1 w2 wr.heap.size (.int .i64 a) 3)
  (ho:w3.ownsRow s0 1 1 rv' (vs.length+1) (vs ++ [.func (.func 40) #[] #[.pointer (some ⟨s0,0,none⟩),.pointer (some ⟨wr.heap.size,0,none⟩)]])) (hg:w2.grownBy w3 rv.ownBlock) :
  AL s0 b w al (w3.setCell ⟨s0+1,0,none⟩ rv') rv' (vs ++ [.func (.func 40) #[] #[.pointer (some ⟨s0,0,none⟩),.pointer (some ⟨wr.heap.size,0,none⟩)]]):=by
 have hno:∀ (k:Nat) (cs:Array Value) (t:TypeId) (z:Nat × Nat),wr.heap[k]?=some (.cells cs t z)->t≠1->rv.ownBlock≠some k:=by
  intro k cs t z hk ht e;have hO:=h.own.2;rcases hO with⟨hv,_⟩ | ⟨g,cap,cur,hv,_,hbk,_⟩
  ·rw [hv] at e;cases e
  ·rw [hv] at e;obtain rfl:g=k:=by simpa [Value.ownBlock] using e
   rw [hbk] at hk
   cases hk
   exact ht rfl
 have hkeep:∀ (k:Nat) (cs:Array Value) (t:TypeId) (z:Nat × Nat),wr.heap[k]?=some (.cells cs t z)->t≠1->w3.heap[k]?=some (.cells cs t z):=by
  intro k cs t z hk ht;have hl:=lt_of_block hk;have hl2:k < w2.heap.size:=Nat.lt_of_lt_of_le hl hb.size;rw [hg.block k hl2 (fun e=>hno k cs t z hk ht e.symm),hb.block k hl];exact hk
 have hsz:rv.ownBlock≠some wr.heap.size:=fun e=>by have:=(h.own.lt _ e).2;omega
 have hnew:w3.heap[wr.heap.size]?=some (.cells #[.int .i64 a] 3 (0,0)):=by
  rw [hg.block _ (lt_of_block hn) (fun e=>hsz e.symm)];exact hn
 have hab:=hkeep _ _ _ _ h.ab (by decide);have hwb:=hkeep _ _ _ _ h.wb (by decide)
 have hset:∀ (k:Nat) (cs:Array Value) (t:TypeId) (z:Nat × Nat),k≠s0+1->w3.heap[k]?=some (.cells cs t z)->(w3.setCell ⟨s0+1,0,none⟩ rv').heap[k]?=some (.cells cs t z):=fun k cs t z hk hc=>by
  rw [Below.heap_setCell _ _ _ _ (fun e=>hk e)];exact hc
 have hne:rv'.ownBlock≠some (s0+1):=Lib.ownBlock_ne ho hab (by decide);have hbw3:Below s0 w w3:=(h.below.trans (hb.mono (by have:=h.big;omega))).grown hg (by have:=h.big;have:=hb.size;omega) (fun k hk=>(h.own.lt k hk).1);refine⟨hbw3.setCell (p:=⟨s0+1,0,none⟩) (by show s0<=s0+1;omega) _,by have:=lt_of_block hab;simpa [World.setCell] using this,hset _ _ _ _ (by omega) hwb,Bk.set_at hab 0 rv',?_,?_⟩
 ·rw [List.length_append];exact ho.kept (row:=some (s0+1)) ⟨rfl,rfl,rfl,by simp [World.setCell],fun k _ hk=>Below.heap_setCell _ _ _ _ (fun e=>hk (by simp [e]))⟩ (Or.inr hne)
 ·intro k hk;rw [List.length_append,List.length_cons,List.length_nil] at hk
  by_cases hlt:k < vs.length
  ·obtain ⟨bi,e1,e2⟩:=h.fs k hlt;refine⟨bi,by rw [List.getElem_append_left hlt];exact e1,hset _ _ _ _ (fun e=>?_) (hkeep _ _ _ _ e2 (by decide))⟩;have h1:=h.ab;unfold Box1 at e2 h1;rw [e,h1] at e2;simp at e2
  ·obtain rfl:k=vs.length:=by omega
   refine⟨wr.heap.size,by simp,hset _ _ _ _ (by have:=h.big;omega) ?_⟩;rw [ha];exact hnew
theorem AL.row {s0 b:Nat} {w wr:World} {al:List Int} {rv:Value} {vs:List Value} (h:AL s0 b w al wr rv vs) (hb:b < s0):∃ A c,rv=.slice A vs.length c/\PartsR b wr A vs:=by
 rcases h.own.2 with⟨hv,h0⟩ | ⟨g,cap,cur,hv,hg,hbk,_,_,_,ht⟩
 ·have:vs=[]:=List.eq_nil_of_length_eq_zero h0;exact⟨none,0,by rw [hv,h0],.inl this⟩
 ·exact⟨_,cap,hv,.inr ⟨g,cur,_,rfl,by omega,hbk,by simpa using ht⟩⟩
end El
end Go.Proofs.YtpmdcckapddchaaGreatDoor

import Derived.Test.YtpmdcckapddchaaGreatDoorShort
import Derived.Test.YtpmdcckapddchaaGreatDoorMh
import Derived.Test.YtpmdcckapddchaaGreatDoorMb
import Derived.Deep.RegionWith
import Derived.Deep.DeepCutAuto
import Derived.Deep.DeepMust
/- merged by wip/merge.py from: SigFresh SigSeen SigChkP -/
set_option maxRecDepth 100000
set_option maxHeartbeats 51200000
namespace Go.Proofs.YtpmdcckapddchaaGreatDoor
namespace Sg
open Go.RowKit Dt
def keyN (s:ByteArray) (sort:Bool):Value:=.agg #[.string s,.bool sort]
def FreshPost (s:ByteArray) (sort:Bool) (bm k:Nat) (S:Value->Prop) (w:World) (e:Ending) (w':World):Prop :=
 ∃ c:Bool,(c=true ↔ S (keyN s sort))/\e=.returned (.bool (usableB (Lx.bs s) && !c && (sort || !coreB (Lx.bs s))))/\BoolMap Tryz.prog 132 4 w' bm (k+1) (fun x=>x=keyN s sort\/S x)/\Keeps (·=bm) w w'
theorem fresh_any (s:ByteArray) (hs:(s.size:Int)<=140737488351232) (sort:Bool) (w:World) (bx bm k:Nat) (S:Value->Prop) (hbx:w.cell? ⟨bx,0,none⟩=some (.map (some bm))) (hlt:bx < w.heap.size) (hm:BoolMap Tryz.prog 132 4 w bm k S) (hk:k < maxLen) :
  Calls Tryz.prog 64 #[.string s,.bool sort,.pointer (some ⟨bx,0,none⟩)] w (FreshPost s sort bm k S w):=by
 have HU:=kp (fun W=>usable_any s W hs);have HCo:=kp (fun W=>core_any s W);have HM1:=kp (hm.alloc (.cells #[.string s,.bool sort] 132));have BA:=kp ((brq w).alloc nlq (.cells #[.string s,.bool sort] 132));obtain ⟨kl,hkl⟩:=keyOf_name hs sort;obtain ⟨c,hlk,hcS⟩:=HM1.out.look name_key Tryz.underlying133 Tryz.underlying4 zero_bool hkl;obtain ⟨w2,hup,hm2,hg2⟩:=HM1.out.store name_key Tryz.underlying133 Tryz.underlying4 hk hkl;have HP:=kp (fun(e:Ending) (h:e=.returned (.bool (usableB (Lx.bs s) && !c && (sort || !coreB (Lx.bs s)))))=>(show FreshPost s sort bm k S w e w2 from⟨c,hcS,h,hm2,(Keeps.of_below BA.out _).grown hg2 (fun j hj=>by left;simpa using hj.symm)⟩));have q0:(w.alloc (.cells #[.string s,.bool sort] 132)).cell? ⟨w.heap.size,0,none⟩=some (.string s):=by rw [World.cell?_alloc_mark];rfl
 have q1:(w.alloc (.cells #[.string s,.bool sort] 132)).cell? ⟨w.heap.size,1,none⟩=some (.bool sort):=by rw [World.cell?_alloc_mark];rfl
 have q2:=((bcell BA.out).1 bx 0 hlt).trans hbx;clear hcS hm2 hg2 hm hbx hkl HM1;generalize usableB (Lx.bs s)=bu at *;generalize coreB (Lx.bs s)=bc at *
 go_enter Tryz.func64,Tryz.ntmps64
 go_wp2_with fail
 generalize w.alloc (.cells #[.string s,.bool sort] 132)=w1 at *;refine(HU.out w1).mono ?_;rintro e w' ⟨rfl,rfl⟩
 cases bu with
 | false =>
  go_wp2_with fail
  go_ret;exact HP.out _ rfl
 | true =>
  cases c with
  | true =>
   go_wp2_with fail
   go_ret;exact HP.out _ rfl
  | false =>
   cases sort with
   | true =>
    go_wp2_with fail
    go_ret;exact HP.out _ rfl
   | false =>
    go_wp2_with fail
    refine(HCo.out w1).mono ?_;rintro e w' ⟨rfl,rfl⟩
    cases bc with
    | true =>
     go_wp2_with fail
     go_ret;exact HP.out _ rfl
    | false =>
     go_wp2_with fail
     go_ret;exact HP.out _ rfl
section
variable {P:Program} {k e t:TypeId}
theorem upon_store {o:Oper} {a:Act} {K:Act->World->Prop} {Q:Exit->Act->World->Prop} {W:World} {b n:Nat} {S:Value->Prop} (h:BoolMap P k e W b n S) (KK:Maps.Keyed P k) (ht:P.underlying t=some (.map k e)) (he:P.underlying e=some .bool) (hn:n < maxLen) {key:Value} {kl:Lit} (hkey:keyOf P k key=some kl)
  (hK:∀ w',BoolMap P k e w' b (n+1) (fun x=>x=key\/S x)->W.grownBy w' (some b)->K (a.put o.dst undef) w') :
  o.upon P a K Q ((Sem.run P (Instr.mapUpdate t (.map (some b)) key (.bool true)) W).andThen fun _ w'=>Result.ok Next.skip w'):=by
 obtain ⟨w',hrun,h1,h2⟩:=h.store KK ht he hn hkey;rw [hrun];exact hK w' h1 h2
end
structure St (w:World) (u0 u1 u2:Value) (W:World) (mb:Option Nat) (xb:Option (Nat × Value)) (n:Nat) (S:Value->Prop):Prop where
 keep:Below w.heap.size w W
 g0:W.cell? ⟨w.heap.size,0,none⟩=some u0
 g1:W.cell? ⟨w.heap.size,1,none⟩=some u1
 g2:W.cell? ⟨w.heap.size,2,none⟩=some u2
 lt:w.heap.size < W.heap.size
 mp:∀ b,mb=some b->BoolMap Tryz.prog 132 4 W b n S/\w.heap.size < b
 bx:∀ x v,xb=some (x,v)->W.heap[x]?=some (.cells #[v] 133 (0,0))/\w.heap.size < x
 ne:∀ b x v,mb=some b->xb=some (x,v)->b≠x
section
variable {w W W':World} {u0 u1 u2 v:Value} {mb:Option Nat} {xb:Option (Nat × Value)} {n b x:Nat} {S S':Value->Prop}
theorem St.below (h:St w u0 u1 u2 W mb xb n S) (hb:Below W.heap.size W W'):St w u0 u1 u2 W' mb xb n S:=by
 have e:=fun o=>(bcell hb).1 w.heap.size o h.lt;refine⟨h.keep.trans (hb.mono h.keep.size),(e 0).trans h.g0,(e 1).trans h.g1,(e 2).trans h.g2,Nat.lt_of_lt_of_le h.lt hb.size,fun b hm=>?_,fun x v hx=>?_,h.ne⟩
 ·obtain ⟨h1,h2⟩:=h.mp b hm;exact⟨h1.below hb,h2⟩
 ·obtain ⟨h1,h2⟩:=h.bx x v hx;exact⟨(hb.block _ (lt_of_block h1)).trans h1,h2⟩
theorem St.drew (h:St w u0 u1 u2 W mb xb n S):St w u0 u1 u2 W.drew mb xb n S:=h.below (Below.refl _ _).drew
theorem St.map (h:St w u0 u1 u2 W none xb n S) (hB:W.heap.size=b):St w u0 u1 u2 (W.alloc (.map #[] 0)) (some b) xb 0 (fun _=>False):=by
 have h':=h.below (W':=W.alloc (.map #[] 0)) ((Below.refl _ _).alloc nlq _);refine⟨h'.keep,h'.g0,h'.g1,h'.g2,h'.lt,fun b' hb=>?_,h'.bx,fun b' x v hb hx=>?_⟩
 ·cases hb
  rw [← hB];exact⟨BoolMap.made W _ _ _,h.lt⟩
 ·cases hb
  have:=lt_of_block (h.bx x v hx).1
  omega
theorem St.box (h:St w u0 u1 u2 W mb none n S) (hB:W.heap.size=x) (v:Value):St w u0 u1 u2 (W.alloc (.cells #[v] 133)) mb (some (x,v)) n S:=by
 have h':=h.below (W':=W.alloc (.cells #[v] 133)) ((Below.refl _ _).alloc nlq _);refine⟨h'.keep,h'.g0,h'.g1,h'.g2,h'.lt,h'.mp,fun x' v' hx=>?_,fun b' x' v' hb hx=>?_⟩
 ·cases hx
  rw [← hB];exact⟨Array.getElem?_push_size,h.lt⟩
 ·cases hx
  have:=(h.mp b' hb).1.lt
  omega
theorem St.ins (h:St w u0 u1 u2 W (some b) xb n S) (hm:BoolMap Tryz.prog 132 4 W' b (n+1) S') (hg:W.grownBy W' (some b)):St w u0 u1 u2 W' (some b) xb (n+1) S':=by
 obtain ⟨h1,h2⟩:=h.mp b rfl;have hk:Keeps (·=b) W W':=(Keeps.refl _ _).grown hg (fun j hj=>by left;simpa using hj.symm);have e:=fun o=>hk.cell (b:=w.heap.size) (o:=o) h.lt (by show ¬ (w.heap.size=b);omega);refine⟨h.keep.trans (hk.below (fun j hj=>by omega) h.keep.size),(e 0).trans h.g0,(e 1).trans h.g1,(e 2).trans h.g2,Nat.lt_of_lt_of_le h.lt hg.size,fun b' hb=>?_,fun x v hx=>?_,h.ne⟩
 ·cases hb;exact⟨hm,h2⟩
 ·obtain ⟨q1,q2⟩:=h.bx x v hx;exact⟨(hk.block x (lt_of_block q1) (fun e=>h.ne b x v rfl hx e.symm)).trans q1,q2⟩
theorem St.put (h:St w u0 u1 u2 W mb (some (x,v)) n S) (v':Value):St w u0 u1 u2 (W.setCell ⟨x,0,none⟩ v') mb (some (x,v')) n S:=by
 obtain ⟨q1,q2⟩:=h.bx x v rfl;have e:∀ j,j≠x->(W.setCell ⟨x,0,none⟩ v').heap[j]?=W.heap[j]?:=fun j hj=>Below.heap_setCell _ _ _ _ hj;have ec:∀ o,(W.setCell ⟨x,0,none⟩ v').cell? ⟨w.heap.size,o,none⟩=W.cell? ⟨w.heap.size,o,none⟩:=fun o=>World.cell?_of_block (w:=W) (e _ (by show w.heap.size≠x;omega));refine⟨h.keep.setCell (by simp;omega) _,(ec 0).trans h.g0,(ec 1).trans h.g1,(ec 2).trans h.g2,by simpa [World.setCell] using h.lt,fun b' hb=>?_,fun x' v'' hx=>?_,fun b' x' v'' hb hx=>?_⟩
 ·obtain ⟨⟨D,h1,h2⟩,h3⟩:=h.mp b' hb;exact⟨⟨D,h1.setCell (h.ne b' x v hb rfl) _,h2⟩,h3⟩
 ·cases hx
  exact⟨by simp [World.setCell,Array.getElem?_modify,q1],q2⟩
 ·cases hx
  exact h.ne b' _ v hb rfl
theorem St.imp (h:St w u0 u1 u2 W mb xb n S) (hS:∀ x,S x ↔ S' x):St w u0 u1 u2 W mb xb n S' :=
 ⟨h.keep,h.g0,h.g1,h.g2,h.lt,fun b hb=>⟨(h.mp b hb).1.imp hS,(h.mp b hb).2⟩,h.bx,h.ne⟩
theorem St.start (w:World) (u0 u1 u2:Value) (t:TypeId) (S:Value->Prop):St w u0 u1 u2 (w.alloc (.cells #[u0,u1,u2] t)) none none 0 S:=by
 obtain ⟨g0,g1,g2⟩:=sig_cells w u0 u1 u2 t;exact⟨(brq w).alloc nlq _,g0,g1,g2,by simp,(fun b hb=>by cases hb),(fun x v hx=>by cases hx),(fun b x v hb=>by cases hb)⟩
theorem St.fresh {s:ByteArray} {sort:Bool} {e:Ending} (h:St w u0 u1 u2 W (some b) xb n S) (hp:FreshPost s sort b n S W e W') :
  ∃ c:Bool,(c=true ↔ S (keyN s sort))/\e=.returned (.bool (usableB (Lx.bs s) && !c && (sort || !coreB (Lx.bs s))))/\St w u0 u1 u2 W' (some b) xb (n+1) (fun x=>x=keyN s sort\/S x):=by
 obtain ⟨c,h1,h2,h3,hk⟩:=hp;obtain ⟨m1,m2⟩:=h.mp b rfl;have e:=fun o=>hk.cell (b:=w.heap.size) (o:=o) h.lt (by show ¬ (w.heap.size=b);omega);refine⟨c,h1,h2,h.keep.trans (hk.below (fun j hj=>by omega) h.keep.size),(e 0).trans h.g0,(e 1).trans h.g1,(e 2).trans h.g2,Nat.lt_of_lt_of_le h.lt hk.size,fun b' hb=>?_,fun x v hx=>?_,h.ne⟩
 ·cases hb;exact⟨h3,m2⟩
 ·obtain ⟨q1,q2⟩:=h.bx x v hx;exact⟨(hk.block x (lt_of_block q1) (fun e=>h.ne b x v rfl hx e.symm)).trans q1,q2⟩
end
section
variable {w W:World} {u0 u1 u2 v:Value} {mb:Option Nat} {xb:Option (Nat × Value)} {n b x:Nat} {S:Value->Prop}
theorem St.bxc (h:St w u0 u1 u2 W mb (some (x,v)) n S):W.cell? ⟨x,0,none⟩=some v/\W.frozen? ⟨x,0,none⟩=false:=by
 obtain ⟨q1,_⟩:=h.bx x v rfl;exact⟨by rw [cell_of_cells q1];rfl,frozen_of_cells q1 0⟩
theorem upon_ins {o:Oper} {a:Act} {K:Act->World->Prop} {Q:Exit->Act->World->Prop} (h:St w u0 u1 u2 W (some b) xb n S) (hn:n < maxLen) {key:Value} {kl:Lit} (hkey:keyOf Tryz.prog 132 key=some kl)
  (hK:∀ w',St w u0 u1 u2 w' (some b) xb (n+1) (fun x=>x=key\/S x)->K (a.put o.dst undef) w') :
  o.upon Tryz.prog a K Q ((Sem.run Tryz.prog (Instr.mapUpdate 133 (.map (some b)) key (.bool true)) W).andThen fun _ w'=>Result.ok Next.skip w') :=
 upon_store (P:=Tryz.prog) (k:=132) (e:=4) (t:=133) (b:=b) (n:=n) (S:=S) (h.mp b rfl).1 name_key Tryz.underlying133 Tryz.underlying4 hn hkey fun w' h1 h2=>hK w' (h.ins h1 h2)
end
def SeenIn (a b:List ByteArray) (x:Value):Prop:=(∃ s,s ∈ a/\x=keyN s true)\/∃ s,s ∈ b/\x=keyN s false
theorem keyN_inj {s s':ByteArray} {q q':Bool} (h:keyN s q=keyN s' q'):s=s'/\q=q':=by
 unfold keyN at h
 simpa using h
theorem seen_sort {a b:List ByteArray} {s:ByteArray}:SeenIn a b (keyN s true) ↔ hasB a s=true:=by
 rw [hasB_iff];unfold SeenIn
 constructor
 ·rintro (⟨s',h,e⟩ | ⟨s',h,e⟩)
  ·rw [(keyN_inj e).1];exact h
  ·cases (keyN_inj e).2
 ·intro h;exact .inl ⟨s,h,rfl⟩
theorem seen_name {a b:List ByteArray} {s:ByteArray}:SeenIn a b (keyN s false) ↔ hasB b s=true:=by
 rw [hasB_iff];unfold SeenIn
 constructor
 ·rintro (⟨s',h,e⟩ | ⟨s',h,e⟩)
  ·cases (keyN_inj e).2
  ·rw [(keyN_inj e).1];exact h
 ·intro h;exact .inr ⟨s,h,rfl⟩
theorem seen_more_sort {a a' b:List ByteArray} {s:ByteArray} (h:∀ x,x ∈ a' ↔ x=s\/x ∈ a) (v:Value):(v=keyN s true\/SeenIn a b v) ↔ SeenIn a' b v:=by
 unfold SeenIn
 constructor
 ·rintro (rfl | ⟨x,hx,rfl⟩ | h2)
  ·exact .inl ⟨s,(h s).2 (.inl rfl),rfl⟩
  ·exact .inl ⟨x,(h x).2 (.inr hx),rfl⟩
  ·exact .inr h2
 ·rintro (⟨x,hx,rfl⟩ | h2)
  ·rcases (h x).1 hx with rfl | hx
   ·exact .inl rfl
   ·exact .inr (.inl ⟨x,hx,rfl⟩)
  ·exact .inr (.inr h2)
theorem seen_more_name {a b b':List ByteArray} {s:ByteArray} (h:∀ x,x ∈ b' ↔ x=s\/x ∈ b) (v:Value):(v=keyN s false\/SeenIn a b v) ↔ SeenIn a b' v:=by
 unfold SeenIn
 constructor
 ·rintro (rfl | h2 | ⟨x,hx,rfl⟩)
  ·exact .inr ⟨s,(h s).2 (.inl rfl),rfl⟩
  ·exact .inl h2
  ·exact .inr ⟨x,(h x).2 (.inr hx),rfl⟩
 ·rintro (h2 | ⟨x,hx,rfl⟩)
  ·exact .inr (.inl h2)
  ·rcases (h x).1 hx with rfl | hx
   ·exact .inl rfl
   ·exact .inr (.inr ⟨x,hx,rfl⟩)
theorem mem_take_succ {l:List ByteArray} {k:Nat} {s:ByteArray} (h:l[k]?=some s) (x:ByteArray):x ∈ l.take (k+1) ↔ x=s\/x ∈ l.take k:=by
 rw [List.take_add_one,h,List.mem_append]
 constructor
 ·rintro (h1 | h1)
  ·exact .inr h1
  ·simp at h1;exact .inl h1
 ·rintro (h1 | h1)
  ·exact .inr (by simp [h1])
  ·exact .inl h1
def boolS':ByteArray:={ data:=#[66,111,111,108] }
def intS':ByteArray:={ data:=#[73,110,116] }
theorem seen_start1 (v:Value):(v=keyN intS' true\/(v=keyN boolS' true\/False)) ↔ SeenIn (allSorts []) [] v:=by
 rw [← seen_more_sort (a:=[boolS']) (s:=intS') (by intro x;simp [allSorts,boolS',intS'];exact Or.comm)];refine or_congr Iff.rfl ?_;rw [← seen_more_sort (a:=[]) (s:=boolS') (by intro x;simp)];simp [SeenIn]
theorem seen_start2 (v:Value):(v=keyN boolS' true\/(v=keyN intS' true\/False)) ↔ SeenIn (allSorts []) [] v:=by
 rw [← seen_start1]
 constructor
 ·rintro (h | h | h)
  ·exact .inr (.inl h)
  ·exact .inl h
  ·exact h.elim
 ·rintro (h | h | h)
  ·exact .inr (.inl h)
  ·exact .inl h
  ·exact h.elim
end Sg
namespace Sg
open Go.RowKit Dt
theorem cells6 {w W:World} {b o:Nat} {a0 a1 a2 a3 a4 a5:Value} (hbl:b < w.heap.size) (h:∀ j u,[a0,a1,a2,a3,a4,a5][j]?=some u->w.cell? ⟨b,o+j,none⟩=some u) (hW:Below w.heap.size w W) :
  W.cell? ⟨b,o,none⟩=some a0/\W.cell? ⟨b,o+1,none⟩=some a1/\W.cell? ⟨b,o+2,none⟩=some a2/\W.cell? ⟨b,o+3,none⟩=some a3/\W.cell? ⟨b,o+4,none⟩=some a4/\W.cell? ⟨b,o+5,none⟩=some a5 :=
 ⟨((bcell hW).1 b _ hbl).trans (h 0 _ rfl),((bcell hW).1 b _ hbl).trans (h 1 _ rfl),((bcell hW).1 b _ hbl).trans (h 2 _ rfl),((bcell hW).1 b _ hbl).trans (h 3 _ rfl),((bcell hW).1 b _ hbl).trans (h 4 _ rfl),((bcell hW).1 b _ hbl).trans (h 5 _ rfl)⟩
theorem FreshPost.keep {s:ByteArray} {sort:Bool} {bm k:Nat} {S:Value->Prop} {w w':World} {e:Ending} (h:FreshPost s sort bm k S w e w'):Keeps (·=bm) w w':=by
 obtain ⟨_,_,_,_,hk⟩:=h;exact hk
def Box6 (w:World) (b:Nat) (a0 a1 a2 a3 a4 a5:Value):Prop :=
 w.cell? ⟨b,0,none⟩=some a0/\w.cell? ⟨b,1,none⟩=some a1/\w.cell? ⟨b,2,none⟩=some a2/\w.cell? ⟨b,3,none⟩=some a3/\w.cell? ⟨b,4,none⟩=some a4/\w.cell? ⟨b,5,none⟩=some a5/\b < w.heap.size
theorem Box6.keeps {w w':World} {b:Nat} {a0 a1 a2 a3 a4 a5:Value} {S:Nat->Prop} (h:Box6 w b a0 a1 a2 a3 a4 a5) (hk:Keeps S w w') (hlt:b < w.heap.size) (hS:¬ S b):Box6 w' b a0 a1 a2 a3 a4 a5:=by
 obtain ⟨h0,h1,h2,h3,h4,h5,h6⟩:=h;have e:=fun o=>hk.cell (b:=b) (o:=o) hlt hS;exact⟨(e 0).trans h0,(e 1).trans h1,(e 2).trans h2,(e 3).trans h3,(e 4).trans h4,(e 5).trans h5,Nat.lt_of_lt_of_le hlt hk.size⟩
theorem box6_cells (w:World) (a0 a1 a2 a3 a4 a5:Value) (t:TypeId):Box6 (w.alloc (.cells #[a0,a1,a2,a3,a4,a5] t)) w.heap.size a0 a1 a2 a3 a4 a5:=by
 refine⟨?_,?_,?_,?_,?_,?_,by simp⟩ <;> rw [World.cell?_alloc_mark] <;> rfl
theorem check_any {w:World} {A1 A2 A3:Option Addr} {c1 c2 c3:Nat} {g:Sig} (h:SigAt w A1 c1 A2 c2 A3 c3 g) (hl1:g.sorts.length<=140737488351232) (hl2:g.funs.length<=140737488351232) (hl3:g.macros.length<=140737488351232) :
  Calls Tryz.prog 35 #[.agg #[.slice A1 g.sorts.length c1,.slice A2 g.funs.length c2,.slice A3 g.macros.length c3]] w fun e w'=>e=.returned (.int .i64 (checkE g))/\Below w.heap.size w w':=by
 have HW:=kp h;have HE:=kp (show checkB g=((decide (g.sorts.length<=4) && decide (g.funs.length<=12) && decide (g.macros.length<=12)) && (allTo (sortOk g.sorts) g.sorts.length && allTo (funOk g) g.funs.length && allTo (macOk g) g.macros.length)) from rfl);have HT:=kp (checkE_true (g:=g));have HF:=kp (checkE_false (g:=g));generalize checkB g=cb at *;generalize checkE g=ce at *;clear h;generalize hn1:g.sorts.length=n1 at *;generalize hn2:g.funs.length=n2 at *;generalize hn3:g.macros.length=n3 at *;have HS0:=kp (St.start w (.slice A1 n1 c1) (.slice A2 n2 c2) (.slice A3 n3 c3) 26 (fun _=>False));obtain ⟨kb,hkb⟩:=keyOf_name (s:={ data:=#[66,111,111,108] }) (by decide) true;obtain ⟨ki,hki⟩:=keyOf_name (s:={ data:=#[73,110,116] }) (by decide) true;have HKb:=kp hkb;have HKi:=kp hki;clear hkb hki;have hmm:=@run_makeMap Tryz.prog
 go_enter Tryz.func35,Tryz.ntmps35
 go_upto_region 1 with fail
 generalize w.alloc (.cells #[.slice A1 n1 c1,.slice A2 n2 c2,.slice A3 n3 c3] 26)=w1 at *;have HS:=HS0;clear HS0;have HL:=kp (show 0 < maxLen/\0+1 < maxLen by unfold maxLen;omega)
 go_cut [3] from 12 to 15 (fun v W=>∃ bx bm,v=.pointer (some ⟨bx,0,none⟩)/\St w (.slice A1 n1 c1) (.slice A2 n2 c2) (.slice A3 n3 c3) W (some bm) (some (bx,.map (some bm))) 2 (SeenIn (allSorts []) []))
 case first =>
  go_region_with ((first
   | with_reducible refine upon_ins (HS.out.map rfl).drew HL.out.1 HKb.out ?_
   | with_reducible refine upon_ins (HS.out.map rfl).drew HL.out.1 HKi.out ?_
   | with_reducible refine upon_ins ((HS.out.map rfl).box (x:=w1.heap.size+1) (by simp) _).drew HL.out.1 HKb.out ?_
   | with_reducible refine upon_ins ((HS.out.map rfl).box (x:=w1.heap.size+1) (by simp) _).drew HL.out.1 HKi.out ?_
   | with_reducible refine upon_ins ((HS.out.box (x:=w1.heap.size) rfl (.map none)).map (by simp)).drew HL.out.1 HKb.out ?_
   | with_reducible refine upon_ins ((HS.out.box (x:=w1.heap.size) rfl (.map none)).map (by simp)).drew HL.out.1 HKi.out ?_
   | with_reducible refine upon_ins HS.out HL.out.2 HKb.out ?_
   | with_reducible refine upon_ins HS.out HL.out.2 HKi.out ?_
   | with_reducible refine upon_ins (HS.out.box rfl _) HL.out.2 HKb.out ?_
   | with_reducible refine upon_ins (HS.out.box rfl _) HL.out.2 HKi.out ?_
   | with_reducible refine upon_ins (HS.out.put _) HL.out.2 HKb.out ?_
   | with_reducible refine upon_ins (HS.out.put _) HL.out.2 HKi.out ?_);intro w9 hs9;have HS:=kp hs9;clear hs9;try (obtain ⟨_,_⟩:=St.bxc HS.out))
  all_goals
   go_wp2_with fail
   go_meet
   first
    | exact⟨_,_,rfl,(HS.out.box rfl _).imp seen_start1⟩
    | exact⟨_,_,rfl,(HS.out.box rfl _).imp seen_start2⟩
    | exact⟨_,_,rfl,(HS.out.put _).imp seen_start1⟩
    | exact⟨_,_,rfl,(HS.out.put _).imp seen_start2⟩
    | exact⟨_,_,rfl,HS.out.imp seen_start1⟩
    | exact⟨_,_,rfl,HS.out.imp seen_start2⟩
 case rest =>
  obtain ⟨bx,bm,rfl,hS⟩:=hcut;have HS2:=kp hS;clear hS hmm HKb HKi HS HL;have q0:=HS2.out.g0;have q1:=HS2.out.g1;have q2:=HS2.out.g2;go_upto_region 3 with fail
  go_cut [5] from 17 to 32 (fun v W=>v=.bool (decide (n1<=4) && decide (n2<=12) && decide (n3<=12))/\wc=W)
  case first =>
   by_cases h1:(n1:Int)<=4
   ·have h1':=decide_eq_true h1;have H1:=kp (decide_eq_true (show n1<=4 by omega))
    by_cases h2:(n2:Int)<=12
    ·have h2':=decide_eq_true h2;have H2:=kp (decide_eq_true (show n2<=12 by omega))
     by_cases h3:(n3:Int)<=12
     ·have h3':=decide_eq_true h3;have H3:=kp (decide_eq_true (show n3<=12 by omega));go_wp2_with fail
      go_meet;exact⟨by rw [H1.out,H2.out,H3.out];rfl,rfl⟩
     ·have h3':=dfq h3;have H3:=kp (dfq (show ¬ n3<=12 by omega));go_wp2_with fail
      go_meet;exact⟨by rw [H1.out,H2.out,H3.out];rfl,rfl⟩
    ·have h2':=dfq h2;have H2:=kp (dfq (show ¬ n2<=12 by omega));go_wp2_with fail
     go_meet;exact⟨by rw [H1.out,H2.out];rfl,rfl⟩
   ·have h1':=dfq h1;have H1:=kp (dfq (show ¬ n1<=4 by omega));go_wp2_with fail
    go_meet;exact⟨by rw [H1.out];rfl,rfl⟩
  case rest =>
   obtain ⟨rfl,rfl⟩:=hcut;have HE1:=HE;clear HE;generalize (decide (n1<=4) && decide (n2<=12) && decide (n3<=12))=b0 at *;go_wp2_with fail
   clear q0 q1 q2
   go_loopw [5,36] (fun ok i wr=>∃ (k:Nat) (b5:Bool),k<=n1/\i=.int .i64 k/\ok=.bool b5/\b5=(b0 && allTo (sortOk g.sorts) k)/\St w (.slice A1 n1 c1) (.slice A2 n2 c2) (.slice A3 n3 c3) wr (some bm) (some (bx,.map (some bm))) (2+k) (SeenIn (allSorts (g.sorts.take k)) [])) (fun _ i _=>n1 - (intOf i).toNat)
   case atStart=>exact⟨0,b0,by omega,rfl,rfl,by simp [allTo_zero],HS2.out⟩
   case round =>
    obtain ⟨k,b5,hk,rfl,rfl,hb5,hS⟩:=hrel;have HB:=kp hb5;have HS:=kp hS;clear hb5 hS HS2
    by_cases hlt:k < n1
    ·have hlt2:(k:Int) < (n1:Int):=by omega
     obtain ⟨s,hs⟩:∃ s,g.sorts[k]?=some s:=⟨_,gqe (show k < g.sorts.length by omega)⟩;obtain ⟨b,o,vs,rfl,hbl,_,hcell,hr⟩:=(HW.out.sorts.on StrR.lasts HS.out.keep).at' hs;obtain ⟨rfl,hsz⟩:=hr;have c0:=hcell 0 _ rfl;rw [Nat.mul_one,Nat.add_zero] at c0;have HN:=kp (allTo_succ (sortOk g.sorts) k);have HQ:=kp (show sortOk g.sorts k=(usableB (Lx.bs s) && !hasB (allSorts (g.sorts.take k)) s) by unfold sortOk;rw [hs]);have HM:=kp (seen_more_sort (a:=allSorts (g.sorts.take k)) (a':=allSorts (g.sorts.take (k+1))) (b:=[]) (s:=s) (by intro x;simp only [allSorts,List.mem_cons,mem_take_succ hs x];constructor <;> (rintro (h | h | h | h) <;> simp [h])))
     have HC:=kp (fresh_any s hsz true wr bx bm (2+k) _ HS.out.bxc.1 (lt_of_block (HS.out.bx _ _ rfl).1) (HS.out.mp _ rfl).1 (by unfold maxLen;omega));clear hcell hs;go_wp2_with fail
     refine HC.out.mono ?_;rintro e w3 hp;obtain ⟨c,hcS,rfl,hS3⟩:=HS.out.fresh hp;have HS3:=kp (hS3.imp HM.out)
     have HQ2:=kp (show sortOk g.sorts k=(usableB (Lx.bs s) && !c && (true || !coreB (Lx.bs s))) by
      rw [HQ.out];have:c=hasB (allSorts (g.sorts.take k)) s:=by rw [Bool.eq_iff_iff,hcS,seen_sort]
      rw [this];simp)
     clear hp hcS hS3 HC HM HQ HS;generalize (usableB (Lx.bs s) && !c && (true || !coreB (Lx.bs s)))=q at *
     cases q with
     | true =>
      have HN2:=kp (show b5=(b0 && allTo (sortOk g.sorts) (k+1)) by rw [HN.out,HQ2.out,HB.out];simp);go_wp2_with fail
      go_roundw
      case rel=>exact⟨k+1,b5,by omega,by go_num,rfl,HN2.out,HS3.out⟩
      case measure=>simp [intOf];omega
     | false =>
      have HN2:=kp (show false=(b0 && allTo (sortOk g.sorts) (k+1)) by rw [HN.out,HQ2.out];simp);go_wp2_with fail
      go_roundw
      case rel=>exact⟨k+1,false,by omega,by go_num,rfl,HN2.out,HS3.out⟩
      case measure=>simp [intOf];omega
    ·obtain rfl:n1=k:=by omega
     have hts:g.sorts.take n1=g.sorts:=List.take_of_length_le (by omega);rw [hts] at HS;have q0:=HS.out.g0;have q1:=HS.out.g1;have q2:=HS.out.g2;go_wp2_with fail
     clear q0 q1 q2 hk hlt;have HS2:=HS;have HB2:=HB;clear HS HB
     go_loopw [5,50] (fun ok i wr=>∃ (k:Nat) (b6:Bool),k<=n2/\i=.int .i64 k/\ok=.bool b6/\b6=(b5 && allTo (funOk g) k)/\St w (.slice A1 n1 c1) (.slice A2 n2 c2) (.slice A3 n3 c3) wr (some bm) (some (bx,.map (some bm))) (2+n1+k) (SeenIn (allSorts g.sorts) ((g.funs.map Fun4.name).take k))) (fun _ i _=>n2 - (intOf i).toNat)
     case atStart=>exact⟨0,b5,by omega,rfl,rfl,by simp [allTo_zero],HS2.out⟩
     case round =>
      obtain ⟨k,b6,hk,rfl,rfl,hb6,hS⟩:=hrel;have HB:=kp hb6;have HS:=kp hS;clear hb6 hS HS2
      by_cases hlt:k < n2
      ·have hlt2:(k:Int) < (n2:Int):=by omega
       obtain ⟨f,hf⟩:∃ f,g.funs[k]?=some f:=⟨_,gqe (show k < g.funs.length by omega)⟩;obtain ⟨b,o,vs,rfl,hbl,_,hcell,hr⟩:=(HW.out.funs.on FunR.lasts HS.out.keep).at' hf;obtain ⟨rfl,hsz,hi⟩:=hr;obtain ⟨d0,d1,d2,d3,d4,d5⟩:=cells6 hbl hcell (Below.refl _ _);have HN:=kp (allTo_succ (funOk g) k);have hnm:=map_at (nm:=Fun4.name) hf;have HQ:=kp (show funOk g k=(usableB (Lx.bs f.name) && !(hasB ((g.funs.map Fun4.name).take k) f.name || coreB (Lx.bs f.name)) && funB n1 f) by unfold funOk;rw [hf,hn1]);have HM:=kp (seen_more_name (a:=allSorts g.sorts) (b:=(g.funs.map Fun4.name).take k) (b':=(g.funs.map Fun4.name).take (k+1)) (s:=f.name) (mem_take_succ hnm));have HG:=kp (fun W=>fun_any A1 (some ⟨b,o,none⟩) A3 n1 c1 n2 c2 n3 c3 f W (by omega));have HS6:=kp (HS.out.below ((brq wr).alloc nlq (.cells #[.string f.name,.int .i64 f.len,.int .i64 f.a0,.int .i64 f.a1,.int .i64 f.a2,.int .i64 f.res] 108)));have HBC:=kp (box6_cells wr (.string f.name) (.int .i64 f.len) (.int .i64 f.a0) (.int .i64 f.a1) (.int .i64 f.a2) (.int .i64 f.res) 108);have HZ:=kp (show wr.heap.size < (wr.alloc (.cells #[.string f.name,.int .i64 f.len,.int .i64 f.a0,.int .i64 f.a1,.int .i64 f.a2,.int .i64 f.res] 108)).heap.size/\¬ wr.heap.size=bm by have:=(HS.out.mp _ rfl).1.lt;simp;omega);have HC:=kp (fresh_any f.name hsz false _ bx bm (2+n1+k) _ HS6.out.bxc.1 (lt_of_block (HS6.out.bx _ _ rfl).1) (HS6.out.mp _ rfl).1 (by unfold maxLen;omega))
       clear hcell hf hnm HS;go_wp2_with fail
       generalize wr.alloc (.cells #[.string f.name,.int .i64 f.len,.int .i64 f.a0,.int .i64 f.a1,.int .i64 f.a2,.int .i64 f.res] 108)=w6 at *;clear d0 d1 d2 d3 d4 d5;refine HC.out.mono ?_;rintro e w3 hp;have HB3:=kp (HBC.out.keeps hp.keep HZ.out.1 HZ.out.2);obtain ⟨c,hcS,rfl,hS3⟩:=HS6.out.fresh hp;have HS3:=kp (hS3.imp HM.out)
       have HQ2:=kp (show funOk g k=((usableB (Lx.bs f.name) && !c && (false || !coreB (Lx.bs f.name))) && funB n1 f) by
        rw [HQ.out];have:c=hasB ((g.funs.map Fun4.name).take k) f.name:=by rw [Bool.eq_iff_iff,hcS,seen_name]
        rw [this];generalize usableB (Lx.bs f.name)=x1;generalize coreB (Lx.bs f.name)=x2;generalize hasB ((g.funs.map Fun4.name).take k) f.name=x3;generalize funB n1 f=x4
        cases x1 <;> cases x2 <;> cases x3 <;> cases x4 <;> rfl)
       clear hp hcS hS3 HC HM HQ HS6 HBC;generalize (usableB (Lx.bs f.name) && !c && (false || !coreB (Lx.bs f.name)))=q at *
       cases q with
       | false =>
        have HN2:=kp (show false=(b5 && allTo (funOk g) (k+1)) by rw [HN.out,HQ2.out];simp);go_wp2_with fail
        go_roundw
        case rel=>exact⟨k+1,false,by omega,by go_num,rfl,HN2.out,HS3.out⟩
        case measure=>simp [intOf];omega
       | true =>
        obtain ⟨e0,e1,e2,e3,e4,e5,hz3⟩:=HB3.out;have p0:=HS3.out.g0;have p1:=HS3.out.g1;have p2:=HS3.out.g2;have hcall:=HG.out w3;go_wp2_with fail
        generalize hfb:funB n1 f=fb at hcall HQ2;clear hfb;refine hcall.mono ?_;rintro e w4 ⟨rfl,hb⟩;have HS4:=kp (HS3.out.below hb);clear hb e0 e1 e2 e3 e4 e5 p0 p1 p2 hcall HB3 HS3
        cases fb with
        | false =>
         have HN2:=kp (show false=(b5 && allTo (funOk g) (k+1)) by rw [HN.out,HQ2.out];simp);go_wp2_with fail
         go_roundw
         case rel=>exact⟨k+1,false,by omega,by go_num,rfl,HN2.out,HS4.out⟩
         case measure=>simp [intOf];omega
        | true =>
         have HN2:=kp (show b6=(b5 && allTo (funOk g) (k+1)) by rw [HN.out,HQ2.out,HB.out];simp);go_wp2_with fail
         go_roundw
         case rel=>exact⟨k+1,b6,by omega,by go_num,rfl,HN2.out,HS4.out⟩
         case measure=>simp [intOf];omega
      ·obtain rfl:n2=k:=by omega
       have hts2:(g.funs.map Fun4.name).take n2=g.funs.map Fun4.name:=List.take_of_length_le (by simp;omega);rw [hts2] at HS;have q0:=HS.out.g0;have q1:=HS.out.g1;have q2:=HS.out.g2;go_wp2_with fail
       clear q0 q1 q2 hk hlt hts hts2;have HS2:=HS;have HB3:=HB;clear HS HB
       go_loopw [5,70] (fun ok i wr=>∃ (k:Nat) (b7:Bool),k<=n3/\i=.int .i64 k/\ok=.bool b7/\b7=(b6 && allTo (macOk g) k)/\St w (.slice A1 n1 c1) (.slice A2 n2 c2) (.slice A3 n3 c3) wr (some bm) (some (bx,.map (some bm))) (2+n1+n2+k) (SeenIn (allSorts g.sorts) (g.funs.map Fun4.name ++ (g.macros.map Macro.name).take k))) (fun _ i _=>n3 - (intOf i).toNat)
       case atStart=>exact⟨0,b6,by omega,rfl,rfl,by simp [allTo_zero],by simpa using HS2.out⟩
       case round =>
        obtain ⟨k,b7,hk,rfl,rfl,hb7,hS⟩:=hrel;have HB:=kp hb7;have HS:=kp hS;clear hb7 hS HS2
        by_cases hlt:k < n3
        ·have hlt2:(k:Int) < (n3:Int):=by omega
         obtain ⟨m,hm⟩:∃ m,g.macros[k]?=some m:=⟨_,gqe (show k < g.macros.length by omega)⟩;obtain ⟨b,o,vs,rfl,hbl,_,hcell,hr⟩:=HW.out.macros.at' hm;obtain ⟨Ap,cp,bv,rfl,hsx,hps,hpc,hcm,hsz,hres⟩:=hr;obtain ⟨Ab,cb',rfl,_⟩:=hsx.open';have HSx:=kp hsx;have HPs:=kp hps;have HPm:=kp (show m.params.length<=maxLen by omega);obtain ⟨d0,d1,d2,d3,d4,d5⟩:=cells6 hbl hcell HS.out.keep;have HN:=kp (allTo_succ (macOk g) k);have hnm:=map_at (nm:=Macro.name) hm;have HQ:=kp (show macOk g k=(usableB (Lx.bs m.name) && !(hasB (g.funs.map Fun4.name) m.name || hasB ((g.macros.map Macro.name).take k) m.name || coreB (Lx.bs m.name)) && macroB n1 m) by unfold macOk;rw [hm,hn1]);have HM:=kp (seen_more_name (a:=allSorts g.sorts) (b:=g.funs.map Fun4.name ++ (g.macros.map Macro.name).take k) (b':=g.funs.map Fun4.name ++ (g.macros.map Macro.name).take (k+1)) (s:=m.name) (by intro x;rw [List.mem_append,List.mem_append,mem_take_succ hnm x];constructor <;> (rintro (h | h | h) <;> simp [h])))
         have HS6:=kp (HS.out.below ((brq wr).alloc nlq (.cells #[.string m.name,.slice Ap m.params.length cp,.int .i64 m.res,.int .i8 m.body.kind,.string m.body.text,.slice Ab m.body.l.length cb'] 58)));have HBC:=kp (box6_cells wr (.string m.name) (.slice Ap m.params.length cp) (.int .i64 m.res) (.int .i8 m.body.kind) (.string m.body.text) (.slice Ab m.body.l.length cb') 58);have HZ:=kp (show wr.heap.size < (wr.alloc (.cells #[.string m.name,.slice Ap m.params.length cp,.int .i64 m.res,.int .i8 m.body.kind,.string m.body.text,.slice Ab m.body.l.length cb'] 58)).heap.size/\¬ wr.heap.size=bm by have:=(HS.out.mp _ rfl).1.lt;simp;omega);have HC:=kp (fresh_any m.name hsz false _ bx bm (2+n1+n2+k) _ HS6.out.bxc.1 (lt_of_block (HS6.out.bx _ _ rfl).1) (HS6.out.mp _ rfl).1 (by unfold maxLen;omega));have HG:=kp (fun W hp hx=>macro_any (w:=W) (A1:=A1) (A2:=A2) (A3:=some ⟨b,o,none⟩) (n1:=n1) (c1:=c1) (n2:=n2) (c2:=c2) (n3:=n3) (c3:=c3) (Ap:=Ap) (Ab:=Ab) (cp:=cp) (cb:=cb') (by omega) m hp HPm.out hx);generalize m.params.length=np at *;generalize m.body.l.length=nb at *;clear hcell hm hnm HS hps hsx hpc hcm;go_wp2_with fail
         generalize wr.alloc (.cells #[.string m.name,.slice Ap np cp,.int .i64 m.res,.int .i8 m.body.kind,.string m.body.text,.slice Ab nb cb'] 58)=w6 at *;clear d0 d1 d2 d3 d4 d5;refine HC.out.mono ?_;rintro e w3 hp;have HB3:=kp (HBC.out.keeps hp.keep HZ.out.1 HZ.out.2);obtain ⟨c,hcS,rfl,hS3⟩:=HS6.out.fresh hp;have HS3:=kp (hS3.imp HM.out)
         have HQ2:=kp (show macOk g k=((usableB (Lx.bs m.name) && !c && (false || !coreB (Lx.bs m.name))) && macroB n1 m) by
          rw [HQ.out]
          have:c=(hasB (g.funs.map Fun4.name) m.name || hasB ((g.macros.map Macro.name).take k) m.name):=by
           rw [Bool.eq_iff_iff,hcS,seen_name,Bool.or_eq_true,hasB_iff,hasB_iff,hasB_iff,List.mem_append]
          rw [this];generalize usableB (Lx.bs m.name)=x1;generalize coreB (Lx.bs m.name)=x2;generalize hasB ((g.macros.map Macro.name).take k) m.name=x3;generalize hasB (g.funs.map Fun4.name) m.name=x5;generalize macroB n1 m=x4
          cases x1 <;> cases x2 <;> cases x3 <;> cases x4 <;> cases x5 <;> rfl)
         clear hp hcS hS3 HC HM HQ HS6 HBC;generalize (usableB (Lx.bs m.name) && !c && (false || !coreB (Lx.bs m.name)))=q at *
         cases q with
         | false =>
          have HN2:=kp (show false=(b6 && allTo (macOk g) (k+1)) by rw [HN.out,HQ2.out];simp);go_wp2_with fail
          go_roundw
          case rel=>exact⟨k+1,false,by omega,by go_num,rfl,HN2.out,HS3.out⟩
          case measure=>simp [intOf];omega
         | true =>
          obtain ⟨e0,e1,e2,e3,e4,e5,hz3⟩:=HB3.out;have p0:=HS3.out.g0;have p1:=HS3.out.g1;have p2:=HS3.out.g2;have hcall:=HG.out w3 (HPs.out.on ParamR.lasts HS3.out.keep) (SexpR.lasts _ _ _ _ HS3.out.keep HSx.out);go_wp2_with fail
          generalize hfb:macroB n1 m=fb at hcall HQ2;clear hfb;refine hcall.mono ?_;rintro e w4 ⟨rfl,hb⟩;have HS4:=kp (HS3.out.below hb);clear hb e0 e1 e2 e3 e4 e5 p0 p1 p2 hcall HB3 HS3
          cases fb with
          | false =>
           have HN2:=kp (show false=(b6 && allTo (macOk g) (k+1)) by rw [HN.out,HQ2.out];simp);go_wp2_with fail
           go_roundw
           case rel=>exact⟨k+1,false,by omega,by go_num,rfl,HN2.out,HS4.out⟩
           case measure=>simp [intOf];omega
          | true =>
           have HN2:=kp (show b7=(b6 && allTo (macOk g) (k+1)) by rw [HN.out,HQ2.out,HB.out];simp);go_wp2_with fail
           go_roundw
           case rel=>exact⟨k+1,b7,by omega,by go_num,rfl,HN2.out,HS4.out⟩
           case measure=>simp [intOf];omega
        ·obtain rfl:n3=k:=by omega
         have HF2:=kp HS.out.keep;have HR:=kp (show cb=b7 by rw [HE1.out,HB.out,HB3.out,HB2.out];simp only [Bool.and_assoc]);clear HS HB HB3 HB2
         cases b7 with
         | true =>
          replace HR:=kp (HT.out HR.out);go_wp2_with fail
          go_ret;exact⟨ret_int HR.out.symm,HF2.out⟩
         | false =>
          replace HR:=kp (HF.out HR.out);go_wp2_with fail
          go_ret;exact⟨ret_int HR.out.symm,HF2.out⟩
end Sg
end Go.Proofs.YtpmdcckapddchaaGreatDoor

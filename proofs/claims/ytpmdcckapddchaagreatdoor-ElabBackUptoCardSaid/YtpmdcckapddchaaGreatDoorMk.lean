import Derived.Test.YtpmdcckapddchaaGreatDoorShort
import Derived.Test.YtpmdcckapddchaaGreatDoorMd
import Derived.Test.YtpmdcckapddchaaGreatDoorMj
import Derived.Test.YtpmdcckapddchaaGreatDoorMb
import Derived.Laws.OwnMore
/- merged by wip/merge.py from: RTmTree RTmReach -/
set_option maxRecDepth 100000
set_option maxHeartbeats 51200000
namespace Go.Proofs.YtpmdcckapddchaaGreatDoor
namespace El
open Go.RowKit Dt Sg
theorem node_arg {w:World} {b o:Nat} {n:Node} (h:NodeAt w b o n) {m:Nat} (hm:m < 3):w.cell? ⟨b,o+2+m,none⟩=some (.int .i64 (n.arg m)):=by
 obtain ⟨_,_,_,a0,a1,a2,_⟩:=h;have hc:m=0\/m=1\/m=2:=by omega
 rcases hc with rfl | rfl | rfl
 ·exact a0
 ·exact a1
 ·exact a2
def boolC (l:List Bool):Array Value:=(l.map Value.bool).toArray
theorem info_boolr:(Tryz.prog.info? 4).map (fun i=>(i.zero,i.size,i.bytes))=some (some (.bool false),1,1):=by kernel_rfl
theorem run_make_boolr (n:Nat) (hn:n<=1000000) (W:World):(Instr.makeSlice 84 (.int .i64 n) (.int .i64 n)).run Tryz.prog W=.ok (.slice (some ⟨W.heap.size,0,none⟩) n n) (W.alloc (.cells (boolC (List.replicate n false)) 4)):=by
 obtain ⟨i0,hi,hz0,hz1,hz2⟩:=info_parts info_boolr;have h:=run_make (P:=Tryz.prog) W 84 4 i0 (.bool false) Tryz.underlying84 hi hz0 .i64 .i64 n n (by omega) (by omega) (by rw [hz2];omega) (by omega);simp only [Int.toNat_natCast,hz1,Nat.mul_one] at h;have h2:=toList_madeCells_one (.bool false) n;unfold boolC;rw [List.map_replicate,← h2,Array.toArray_toList];exact h
theorem boolC_get {l:List Bool} {j:Nat} {x:Bool} (h:l[j]?=some x):(boolC l)[j]?=some (.bool x):=by
 unfold boolC;rw [List.getElem?_toArray,List.getElem?_map,h]
 rfl
theorem boolC_set (l:List Bool) (j:Nat) (x:Bool):(boolC l).setIfInBounds j (.bool x)=boolC (l.set j x):=by
 unfold boolC;rw [List.setIfInBounds_toArray,List.map_set]
structure InRow (B rb:Nat) (w W:World) (bs:List Bool):Prop where
 row:W.heap[rb]?=some (.cells (boolC bs) 4 (0,0))
 le:B<=rb
 below:Below B w W
theorem InRow.at' {B rb:Nat} {w W:World} {bs:List Bool} (h:InRow B rb w W bs) {j:Nat} {x:Bool} (hx:bs[j]?=some x):W.cell? ⟨rb,j,none⟩=some (.bool x):=by
 rw [cell_of_cells h.row];exact boolC_get hx
theorem InRow.free {B rb:Nat} {w W:World} {bs:List Bool} (h:InRow B rb w W bs) (j:Nat):W.frozen? ⟨rb,j,none⟩=false:=frozen_of_cells h.row j
theorem InRow.store {B rb:Nat} {w W:World} {bs:List Bool} (h:InRow B rb w W bs) (j:Nat) (x:Bool):InRow B rb w (W.setCell ⟨rb,j,none⟩ (.bool x)) (bs.set j x):=by
 have h2:=Bk.set_at h.row j (.bool x);rw [boolC_set] at h2;exact⟨h2,h.le,h.below.setCell (p:=⟨rb,j,none⟩) h.le _⟩
def Grow (bs cs:List Bool):Prop:=bs.length=cs.length/\∀ m:Nat,bs[m]?=some true->cs[m]?=some true
theorem Grow.refl (bs:List Bool):Grow bs bs:=⟨rfl,fun _ h=>h⟩
theorem Grow.set {bs cs:List Bool} (h:Grow bs cs) (a:Nat):Grow bs (cs.set a true):=⟨by rw [List.length_set];exact h.1,fun m hm=>by
 have:=h.2 m hm;have hl:=(gqs this).1;rw [List.getElem?_set]
 split
 ·rename_i e
  subst e;rw [if_pos hl]
 ·exact this⟩
theorem Grow.trans {a b c:List Bool} (h:Grow a b) (k:Grow b c):Grow a c:=⟨h.1.trans k.1,fun m hm=>k.2 m (h.2 m hm)⟩
theorem set_true {bs:List Bool} {a:Nat} (h:a < bs.length):(bs.set a true)[a]?=some true:=by
 rw [List.getElem?_set_self h]
theorem set_other {bs:List Bool} {a m:Nat} (h:a≠m) (x:Bool):(bs.set a x)[m]?=bs[m]?:=List.getElem?_set_ne h
def Closed (t:List Node) (m:Nat) (bs:List Bool):Prop:=∀ (i:Nat) n,m<=i->t[i]?=some n->bs[i]?=some true->∀ a ∈ argsOf n,bs[a.toNat]?=some true
def RootsIn (n:Nat) (zs:List Int) (bs:List Bool):Prop:=∀ z ∈ zs,0<=z->z < n->bs[z.toNat]?=some true
theorem NodeAt.apart {W:World} {b o:Nat} {n:Node} (h:NodeAt W b o n) {p:Addr} (hp:b≠p.block) (u:Value):NodeAt (W.setCell p u) b o n:=by
 obtain ⟨hl,h0,h1,h2,h3,h4,h5,h6,h7⟩:=h;have k:∀ j,(W.setCell p u).cell? ⟨b,j,none⟩=W.cell? ⟨b,j,none⟩:=fun j=>World.cell?_of_block (Below.heap_setCell W p u b hp);exact⟨by simpa [World.setCell] using hl,(k _).trans h0,(k _).trans h1,(k _).trans h2,(k _).trans h3,(k _).trans h4,(k _).trans h5,(k _).trans h6,(k _).trans h7⟩
def SameFrom (j:Nat) (bs cs:List Bool):Prop:=∀ i:Nat,j<=i->cs[i]?=bs[i]?
theorem closed_next {t:List Node} {j:Nat} {n:Node} {bs cs:List Bool} (hn:t[j]?=some n) (h:Closed t (j+1) bs) (g:Grow bs cs) (s:SameFrom j bs cs) (ha:cs[j]?=some true->∀ a ∈ argsOf n,cs[a.toNat]?=some true):Closed t j cs:=fun i m hi hm hb a hma=>by
 by_cases e:i=j
 ·subst e;rw [hn] at hm
  cases hm
  exact ha hb a hma
 ·exact g.2 _ (h i m (by omega) hm (by rw [← s i hi];exact hb) a hma)
theorem RootsIn.grow {n:Nat} {zs:List Int} {bs cs:List Bool} (h:RootsIn n zs bs) (g:Grow bs cs):RootsIn n zs cs:=fun z h1 h2 h3=>g.2 _ (h z h1 h2 h3)
theorem cells_on {w W:World} {A:Option Addr} {xs:List Int} (h:Cells w A (xs.map (Value.int .i64))) (hb:Below w.heap.size w W) {k:Nat} {z:Int} (hz:xs[k]?=some z):∃ b o,A=some ⟨b,o,none⟩/\W.cell? ⟨b,o+k,none⟩=some (.int .i64 z):=by
 rcases h with h | ⟨b,o,hA,hb2,hc⟩
 ·rw [List.map_eq_nil_iff] at h;subst h
  cases hz
 ·exact⟨b,o,hA,((bcell hb).1 b _ hb2).trans (hc k _ (by rw [List.getElem?_map,hz];rfl))⟩
def ReachPost (w:World) (t:List Node) (zs:List Int) (e:Ending) (w':World):Prop :=
 ∃ L cl,∃ ks:List Nat,e=.returned (.slice L ks.length cl)/\IRow w.heap.size w' (.slice L ks.length cl) (ks.map Int.ofNat)/\(∀ k ∈ ks,k < t.length)/\(∀ k ∈ ks,∀ n,t[k]?=some n->∀ a ∈ argsOf n,a.toNat ∈ ks)/\(∀ z ∈ zs,0<=z->z < (t.length:Int)->z.toNat ∈ ks)/\ks.length<=t.length/\Below w.heap.size w w'
theorem reach_any {w:World} {A Az:Option Addr} {t:List Node} {c cz:Nat} {zs:List Int} (ht:Lies 8 NodeR w A t) (hn:t.length<=1000000) (ha:Ahead t) (hz:Cells w Az (zs.map (Value.int .i64))) (hzl:zs.length<=1000000) :
  Calls Tryz.prog 13 #[.agg #[.slice A t.length c],.slice Az zs.length cz] w (ReachPost w t zs):=by
 have HT:=kp ht;have HA:=kp ha;have HZ:=kp hz;have T0:=kp (Bk.keep (Bk.new w (.cells #[.slice A t.length c] 29)) (.cells (boolC (List.replicate t.length false)) 4));have B0:=kp (((brq w).alloc nlq (.cells #[.slice A t.length c] 29)).alloc (by simp) (.cells (boolC (List.replicate t.length false)) 4))
 have R0:=kp (show InRow (w.heap.size+1) (w.heap.size+1) ((w.alloc (.cells #[.slice A t.length c] 29)).alloc (.cells (boolC (List.replicate t.length false)) 4)) ((w.alloc (.cells #[.slice A t.length c] 29)).alloc (.cells (boolC (List.replicate t.length false)) 4)) (List.replicate t.length false) from by
  have h2:=Bk.new (w.alloc (.cells #[.slice A t.length c] 29)) (.cells (boolC (List.replicate t.length false)) 4);rw [show(w.alloc (.cells #[.slice A t.length c] 29)).heap.size=w.heap.size+1 by simp] at h2;exact⟨h2,nlq,Below.refl _ _⟩)
 have hmk:=run_make_boolr t.length hn;have hn2:(t.length:Int)<=1000000:=by omega
 have hzl2:(zs.length:Int)<=1000000:=by omega
 clear ht ha hz
 go_enter Tryz.func13,Tryz.ntmps13
 go_wp2_with fail
 have hzw:w.heap.size+2<=((w.alloc (.cells #[.slice A t.length c] 29)).alloc (.cells (boolC (List.replicate t.length false)) 4)).heap.size:=by simp
 generalize (w.alloc (.cells #[.slice A t.length c] 29)).alloc (.cells (boolC (List.replicate t.length false)) 4)=w0 at *
 go_loopw [6] (fun i wr=>∃ (k:Nat) (bs:List Bool),k<=zs.length/\i=.int .i64 k/\InRow (w.heap.size+1) (w.heap.size+1) w0 wr bs/\bs.length=t.length/\RootsIn t.length (zs.take k) bs) (fun i _=>zs.length - (intOf i).toNat)
 case atStart=>exact⟨0,_,Nat.zero_le _,rfl,R0.out,List.length_replicate,fun z hz=>by simp at hz⟩
 case round =>
  obtain ⟨k,bs,hk,rfl,hin,hbl,hri⟩:=hrel;have HI:=kp hin;have HRi:=kp hri;have HBl:=kp hbl;have hb1:=hin.below;have hbw:=B0.out.trans (hb1.mono (by omega));clear hin hri hbl
  by_cases hlt:k < zs.length
  ·have hlt2:(k:Int) < (zs.length:Int):=by omega
   obtain ⟨z,hz⟩:∃ z,zs[k]?=some z:=⟨_,gqe hlt⟩;obtain ⟨zb,zo,rfl,hzc⟩:=cells_on HZ.out hbw hz;have HTk:=kp (show zs.take (k+1)=zs.take k ++ [z] by rw [List.take_add_one,hz];rfl);clear hb1 hbw hz
   by_cases hin2:0<=z/\z < (t.length:Int)
   ·obtain ⟨a,rfl⟩:∃ a:Nat,z=(a:Int):=⟨z.toNat,by omega⟩;have hal:(a:Int) < (t.length:Int):=hin2.2;have hax:bs[a]?=some (bs[a]'(by have:=HBl.out;omega)):=gqe _;have hcell:=HI.out.at' hax;have hfr:=HI.out.free;have HI2:=kp (HI.out.store a true)
    have HR2:=kp (show RootsIn t.length (zs.take (k+1)) (bs.set a true) by
     rw [HTk.out];intro y hy h1 h2;rcases List.mem_append.1 hy with hy | hy
     ·exact(HRi.out.grow ((Grow.refl bs).set a)) y hy h1 h2
     ·obtain rfl:y=(a:Int):=by simpa using hy
      exact set_true (by have:=HBl.out;omega))
    generalize bs[a]'_=bx at *;clear hin2 hax HRi;go_wp2_with fail
    go_roundw
    case rel=>exact⟨k+1,_,by omega,by go_num,HI2.out,by rw [List.length_set];exact HBl.out,HR2.out⟩
    case measure=>first | (simp [intOf];done) | (simp [intOf];omega)
   ·have hq:z < 0\/(¬ z < 0/\¬ z < (t.length:Int)):=by omega
    have HR2:=kp (show RootsIn t.length (zs.take (k+1)) bs by
     rw [HTk.out];intro y hy h1 h2;rcases List.mem_append.1 hy with hy | hy
     ·exact HRi.out y hy h1 h2
     ·obtain rfl:y=z:=by simpa using hy
      exact absurd ⟨h1,h2⟩ hin2)
    clear HRi hin2;rcases hq with hq | ⟨hq,hq2⟩
    all_goals
     go_wp2_with fail
     go_roundw
     case rel=>exact⟨k+1,bs,by omega,by go_num,HI.out,HBl.out,HR2.out⟩
     case measure=>first | (simp [intOf];done) | (simp [intOf];omega)
  ·obtain rfl:k=zs.length:=by omega
   rw [List.take_length] at HRi;clear hb1 hbw;go_wp2_with fail
   generalize wr=w1 at *
   go_loopw [7] (fun i wr=>∃ (j:Nat) (bs:List Bool),j<=t.length/\i=.int .i64 ((j:Int) - 1)/\InRow (w.heap.size+1) (w.heap.size+1) w0 wr bs/\bs.length=t.length/\Closed t j bs/\RootsIn t.length zs bs) (fun i _=>(intOf i+1).toNat)
   case atStart=>exact⟨t.length,bs,nlq,rfl,HI.out,HBl.out,(by intro i n hi hn2;rw [List.getElem?_eq_none hi] at hn2;cases hn2),HRi.out⟩
   case round =>
    clear HI HBl HRi hlt bs;obtain ⟨j,bs,hj,rfl,hin,hbl,hcl,hri⟩:=hrel;have HI:=kp hin;have HRi:=kp hri;have HBl:=kp hbl;have HCl:=kp hcl;have hb1:=hin.below;have hbw:=B0.out.trans (hb1.mono (by omega));clear hin hri hbl hcl
    cases j with
    | zero =>
     clear hb1;rw [show(((0:Nat)):Int) - 1=-1 from rfl];go_wp2_with fail
     generalize wr=w2 at *;have HB2:=kp hbw
     go_loopw [10,11] (fun v i wr=>∃ (k:Nat) (ks:List Nat),k<=t.length/\i=.int .i64 k/\IRow w2.heap.size wr v (ks.map Int.ofNat)/\InRow (w.heap.size+1) (w.heap.size+1) w0 wr bs/\(∀ m:Nat,m ∈ ks ↔ m < k/\bs[m]?=some true)/\ks.length<=k/\Below w.heap.size w wr/\w2.heap.size<=wr.heap.size) (fun _ i _=>t.length - (intOf i).toNat)
     case atStart=>exact⟨0,[],Nat.zero_le _,rfl,IRow.nil _ _,HI.out,fun m=>⟨fun h=>(by cases h),fun h=>(by omega)⟩,nlq,HB2.out,nlq⟩
     case round =>
      obtain ⟨k,ks,hk,rfl,hrow,hin,hks,hkl,hbw,hzz⟩:=hrel;obtain ⟨Ao,co,hv,_,_⟩:=hrow.shape;rw [List.length_map] at hv;subst hv;have HRow:=kp hrow;have HIn:=kp hin;have HKs:=kp hks;have HBw:=kp hbw;clear hks hbw
      by_cases hlt:k < t.length
      ·have hlt2:(k:Int) < (t.length:Int):=by omega
       obtain ⟨b,hbk⟩:∃ b,bs[k]?=some b:=⟨_,gqe (by have:=HBl.out;omega)⟩;have hcell:=hin.at' hbk;have hrb:=lt_of_block HI.out.row;have hzb:=HBw.out.size;clear hrow hin
       cases b with
       | false =>
        have HK2:=kp (show ∀ m:Nat,m ∈ ks ↔ m < k+1/\bs[m]?=some true from fun m=>by
         rw [HKs.out m]
         constructor
         ·rintro ⟨h1,h2⟩;exact⟨by omega,h2⟩
         ·rintro ⟨h1,h2⟩;refine⟨?_,h2⟩;have:m≠k:=fun e=>by subst e;rw [hbk] at h2;cases h2
          omega)
        go_wp2_with fail
        go_roundw
        case rel=>exact⟨k+1,ks,by omega,by go_num,HRow.out,HIn.out,HK2.out,by omega,HBw.out,hzz⟩
        case measure=>first | (simp [intOf];done) | (simp [intOf];omega)
       | true =>
        have HK2:=kp (show ∀ m:Nat,m ∈ ks ++ [k] ↔ m < k+1/\bs[m]?=some true from fun m=>by
         rw [List.mem_append,HKs.out m]
         constructor
         ·rintro (⟨h1,h2⟩ | h)
          ·exact⟨by omega,h2⟩
          ·obtain rfl:m=k:=by simpa using h
           exact⟨by omega,hbk⟩
         ·rintro ⟨h1,h2⟩
          by_cases e:m=k
          ·exact .inr (by simp [e])
          ·exact .inl ⟨by omega,h2⟩)
        go_wp2_with (at_builtin;refine push_int rfl (.tmp 98) (.tmp 100) rfl (List.length_map _) rfl (HRow.out.below ((Below.refl _ wr).alloc nlq _)) rfl (Bk.new wr _) (by omega) (by simp;omega) ?_)
        intro A9 c9 w9 h9 g9;have HR9:=kp (show IRow w2.heap.size w9 (.slice A9 (ks.length+1) c9) ((ks ++ [k]).map Int.ofNat) from by rw [List.map_append];exact h9)
        have HI9:=kp (show InRow (w.heap.size+1) (w.heap.size+1) w0 w9 bs from by
         refine⟨(g9.block _ (by simp;omega) (fun e=>by have:=(HRow.out.lt _ e.symm).1;omega)).trans (Bk.keep HIn.out.row _),HIn.out.le,?_⟩;exact(HIn.out.below.alloc (by omega) _).grown g9 (by simp;omega) (fun j hj=>by have:=(HRow.out.lt j hj).1;omega))
        have HB9:=kp ((HBw.out.alloc hzb (.cells #[.int .i64 _] 3)).grown g9 (by simp;omega) (fun j hj=>by have:=(HRow.out.lt j hj).1;have:=HB2.out.size;omega));have hz9:w2.heap.size<=w9.heap.size:=by have:=g9.size;simp at this;omega
        clear h9 g9;go_wp2_with fail
        go_roundw
        case rel=>exact⟨k+1,ks ++ [k],by omega,by go_num,HR9.out,HI9.out,HK2.out,by rw [List.length_append];simp;omega,HB9.out,hz9⟩
        case measure=>first | (simp [intOf];done) | (simp [intOf];omega)
      ·obtain rfl:k=t.length:=by omega
       clear hrow hin;go_wp2_with fail
       go_ret;refine⟨Ao,co,ks,rfl,HRow.out.mono HB2.out.size,fun k hk=>((HKs.out k).1 hk).1,fun k hk n hn a hma=>?_,fun z hz h0 h1=>?_,hkl,HBw.out⟩
       ·have h2:=HA.out k n hn a hma;have h3:=(HKs.out k).1 hk;exact(HKs.out _).2 ⟨by omega,HCl.out k n (Nat.zero_le _) hn h3.2 a hma⟩
       ·exact(HKs.out _).2 ⟨by omega,HRi.out z hz h0 h1⟩
    | succ j =>
     have hj1:(((j+1:Nat)):Int) - 1=(j:Int):=by omega
     rw [hj1];have hjl:(j:Int) < (t.length:Int):=by omega
     obtain ⟨n,hnk⟩:∃ n,t[j]?=some n:=⟨_,gqe (by omega)⟩;obtain ⟨nb,no,hAt,hna,hni⟩:=node_get HT.out hnk;have HNk:=kp hnk;have HNa:=kp (NodeAt.on hna hbw);have HNl:=kp hna.1;have HAh:=kp (fun a hm=>HA.out j n hnk a hm);have HL3:=kp (argsOf_len n);have q1:=hni.len.lo;have q2:=hni.len.hi;have HTw:=kp (Bk.on' T0.out hb1 (Nat.lt_succ_self _));obtain ⟨bj,hbj⟩:∃ b,bs[j]?=some b:=⟨_,gqe (by have:=HBl.out;omega)⟩;subst hAt;clear hna hni hnk hb1 hbw;go_wp2_with fail
     generalize wr=wo at *;obtain ⟨t0,tf⟩:=Bk.c1 HTw.out
     go_loopw [8] (fun i wr=>∃ (m:Nat) (cs:List Bool),m<=(argsOf n).length/\i=.int .i64 m/\InRow (w.heap.size+1) (w.heap.size+1) w0 wr cs/\NodeAt wr nb (no+j * 8) n/\wr.heap[w.heap.size]?=some (.cells #[.slice (some ⟨nb,no,none⟩) t.length c] 29 (0,0))/\Grow bs cs/\SameFrom j bs cs/\∀ (p:Nat) a,p < m->(argsOf n)[p]?=some a->cs[a.toNat]?=some true) (fun i _=>(argsOf n).length - (intOf i).toNat)
     case atStart=>exact⟨0,bs,Nat.zero_le _,rfl,HI.out,HNa.out,HTw.out,Grow.refl _,fun _ _=>rfl,fun p a h=>by omega⟩
     case round =>
      obtain ⟨m,cs,hm,rfl,hin,hna,htw,hgr,hsf,hcl⟩:=hrel;have HI2:=kp hin;have HNa2:=kp hna;have HTw2:=kp htw;have HGr:=kp hgr;have HSf:=kp hsf;have HCa:=kp hcl;have hcj:cs[j]?=some bj:=(hsf j nlq).trans hbj;have hcell:=hin.at' hcj;obtain ⟨_,_,o1,_⟩:=hna;clear t0 tf hin htw hgr hsf hcl;obtain ⟨t0,tf⟩:=Bk.c1 HTw2.out;have hl3:=HL3.out
      cases bj with
      | false =>
       have HEnd:=kp (closed_next HNk.out HCl.out HGr.out HSf.out (fun he=>by rw [hcj] at he;cases he));clear hl3;go_wp2_with fail
       go_roundw
       case rel=>exact⟨j,cs,by omega,by go_num,HI2.out,by rw [← HGr.out.1];exact HBl.out,HEnd.out,HRi.out.grow HGr.out⟩
       case measure=>first | (simp [intOf];done) | (simp [intOf];omega)
      | true =>
       by_cases hml:m < (argsOf n).length
       ·have hm3:(m:Int) < 3:=by omega
        have hmn:(m:Int) < n.len:=by omega
        have hga:=argsOf_get hml;have hah:=HAh.out _ (mgq hga);obtain ⟨a,haj⟩:∃ a:Nat,n.arg m=(a:Int):=⟨(n.arg m).toNat,by omega⟩;have hac:=node_arg HNa2.out (m:=m) (by omega);rw [haj] at hac hga hah;have hal:a < cs.length:=by have h1:=HGr.out.1;have h2:=HBl.out;omega
        have hax:cs[a]?=some (cs[a]'hal):=gqe _;have hcell2:=HI2.out.at' hax;have hfr:=HI2.out.free;have HI3:=kp (HI2.out.store a true);have hat:(a:Int) < (t.length:Int):=by have h1:=HGr.out.1;have h2:=HBl.out;omega
        have haj2:(a:Int) < (j:Int):=hah.2;have HNa3:=kp (show NodeAt (wr.setCell ⟨w.heap.size+1,a,none⟩ (.bool true)) nb (no+j * 8) n from NodeAt.apart HNa2.out (by show nb≠w.heap.size+1;have:=HNl.out;omega) _);have HTw3:=kp (Bk.apart HTw2.out (p:=⟨w.heap.size+1,a,none⟩) (by show w.heap.size≠w.heap.size+1;omega) (.bool true))
        have HCa3:=kp (show ∀ (p:Nat) b,p < m+1->(argsOf n)[p]?=some b->(cs.set a true)[b.toNat]?=some true from fun p b hp hb=>by
         by_cases e:p=m
         ·subst e;rw [hga] at hb
          cases hb
          exact set_true hal
         ·exact((Grow.refl cs).set a).2 _ (HCa.out p b (by omega) hb))
        have HSf3:=kp (show SameFrom j bs (cs.set a true) from fun i hi=>by rw [set_other (by omega)];exact HSf.out i hi);generalize cs[a]'hal=bx at *;clear hga hah hax haj hl3 hcj;go_wp2_with fail
        go_roundw
        case rel=>exact⟨m+1,cs.set a true,by omega,by go_num,HI3.out,HNa3.out,HTw3.out,HGr.out.set a,HSf3.out,HCa3.out⟩
        case measure=>first | (simp [intOf];done) | (simp [intOf];omega)
       ·have hmn:(m:Int) < n.len/\¬ (m:Int) < 3\/¬ (m:Int) < n.len:=by omega
        have HEnd:=kp (closed_next HNk.out HCl.out HGr.out HSf.out (fun _ a hma=>by
         obtain ⟨p,hp,rfl⟩:=List.getElem_of_mem hma;exact HCa.out p _ (by omega) (gqe hp)))
        clear hl3;rcases hmn with⟨hq1,hq2⟩ | hq1
        all_goals
         go_wp2_with fail
         go_roundw
         case rel=>exact⟨j,cs,by omega,by go_num,HI2.out,by rw [← HGr.out.1];exact HBl.out,HEnd.out,HRi.out.grow HGr.out⟩
         case measure=>first | (simp [intOf];done) | (simp [intOf];omega)
end El
end Go.Proofs.YtpmdcckapddchaaGreatDoor

import Derived.Test.YtpmdcckapddchaaGreatDoorShort
import Derived.Test.YtpmdcckapddchaaGreatDoorMd
/- merged by wip/merge.py from: ElCut -/
set_option maxRecDepth 100000
set_option maxHeartbeats 51200000
namespace Go.Proofs.YtpmdcckapddchaaGreatDoor
namespace El
open Go.RowKit Dt Sg
def cutG (g:Sig) (k:Nat):Sig:=⟨g.sorts,g.funs,g.macros.take k⟩
section
variable {g h:Sig} {mo:Int} {b:Bool}
theorem putM_g:putM ⟨h,mo,b⟩=putM ⟨g,mo,b⟩:=rfl
theorem opM_g:opM ⟨h,mo,b⟩=opM ⟨g,mo,b⟩:=rfl
theorem numberM_g:numberM ⟨h,mo,b⟩=numberM ⟨g,mo,b⟩:=rfl
theorem leftM_g (k:Int):∀ (l:List V) (v:V) (st:St),leftM ⟨h,mo,b⟩ k v l st=leftM ⟨g,mo,b⟩ k v l st
 | [],_,_=>rfl
 | x :: l,v,st=>by
  unfold leftM;rw [opM_g (g:=g) (h:=h)];exact leftM_g k l _ _
theorem impM_g:∀ (l:List V) (v:V) (st:St),impM ⟨h,mo,b⟩ v l st=impM ⟨g,mo,b⟩ v l st
 | [],_,_=>rfl
 | x :: l,v,st=>by
  unfold impM;rw [opM_g (g:=g) (h:=h)];exact impM_g l _ _
theorem eqsM_g:∀ (l:List V) (v:V) (st:St),eqsM ⟨h,mo,b⟩ v l st=eqsM ⟨g,mo,b⟩ v l st
 | [],_,_=>rfl
 | x :: l,v,st=>by
  unfold eqsM;rw [opM_g (g:=g) (h:=h)];simp only [eqsM_g l]
theorem neqsM_g (v:V):∀ (l:List V) (st:St),neqsM ⟨h,mo,b⟩ v l st=neqsM ⟨g,mo,b⟩ v l st
 | [],_=>rfl
 | x :: l,st=>by
  unfold neqsM;rw [opM_g (g:=g) (h:=h)];simp only [neqsM_g v l]
theorem distinctL_g:∀ (l:List V) (st:St),distinctL ⟨h,mo,b⟩ l st=distinctL ⟨g,mo,b⟩ l st
 | [],_=>rfl
 | x :: l,st=>by
  unfold distinctL;simp only [distinctL_g l,neqsM_g (g:=g) (h:=h)]
theorem makeM_g (way:Nat) (l:List V) (st:St):makeM ⟨h,mo,b⟩ way l st=makeM ⟨g,mo,b⟩ way l st:=by
 unfold makeM equalM distinctM headM;simp only [opM_g (g:=g) (h:=h),leftM_g (g:=g) (h:=h),impM_g (g:=g) (h:=h),eqsM_g (g:=g) (h:=h),distinctL_g (g:=g) (h:=h)]
end
theorem find_cut (L:List ByteArray) (k:Nat) (s:ByteArray) (j:Nat) (hj:j<=k) :
  ((hasB (L.take k) s=true/\findAt (L.take k) s < j) ↔ (hasB L s=true/\findAt L s < j))/\(hasB (L.take k) s=true->findAt (L.take k) s=findAt L s):=by
 by_cases hm:s ∈ L.take k
 ·have h1:hasB (L.take k) s=true:=hasB_iff.2 hm;have h2:hasB L s=true:=hasB_iff.2 (List.mem_of_mem_take hm)
  have e:findAt (L.take k) s=findAt L s:=by
   unfold findAt;rw [h1,h2,if_pos rfl,if_pos rfl]
   conv=>rhs;rw [← List.take_append_drop k L]
   rw [List.findIdx_append,if_pos];exact List.findIdx_lt_length_of_exists ⟨s,hm,by simp⟩
  exact⟨⟨fun h=>⟨h2,by rw [← e];exact h.2⟩,fun h=>⟨h1,by rw [e];exact h.2⟩⟩,fun _=>e⟩
 ·have h1:hasB (L.take k) s=false:=hasB_not.2 hm;refine⟨⟨fun h=>by rw [h1] at h;exact absurd h.1 (by decide),fun h=>?_⟩,fun h=>by rw [h1] at h;cases h⟩
  exfalso
  obtain ⟨h2,h3⟩:=h;unfold findAt at h3;rw [h2,if_pos rfl] at h3;have hx:∃ x ∈ L,decide (x=s)=true:=⟨s,hasB_iff.1 h2,by simp⟩;have hlt:=List.findIdx_lt_length_of_exists hx;have hg:=List.findIdx_getElem (p:=fun x=>decide (x=s)) (xs:=L) (w:=hlt);refine hm ?_;rw [List.mem_take_iff_getElem];exact⟨_,by omega,of_decide_eq_true hg⟩
section
variable {g:Sig} {k:Nat} {mo:Int} {b:Bool} {r1 r2:Rec} {known:Nat} {x:Sexp} {env:Env} {st:St}
theorem cut_call {l:List Sexp} {name:ByteArray} (hk:known<=k) (hr:∀ y ∈ l,∀ e s,r1 known y e s=r2 known y e s) (hb:∀ j m,g.macros[j]?=some m->j < known->∀ e s,r1 j m.body e s=r2 j m.body e s) :
  callM ⟨cutG g k,mo,b⟩ r1 known name l env st=callM ⟨g,mo,b⟩ r2 known name l env st:=by
 have hall:∀ st,allM (fun x=>r1 known x env) l st=allM (fun x=>r2 known x env) l st:=fun st=>allM_congr fun y hy st=>hr y hy _ _;obtain ⟨hiff,heq⟩:=find_cut (g.macros.map Macro.name) k name known hk;unfold callM;simp only [show(cutG g k).macros=g.macros.take k from rfl,show(cutG g k).funs=g.funs from rfl,List.map_take]
 split
 ·cases g.funs[findAt (g.funs.map Fun4.name) name]? with
  | none=>rfl
  | some f =>
   simp only;unfold applyM;simp only [hall,putM_g (g:=g) (h:=cutG g k)]
 ·by_cases hc:hasB (g.macros.map Macro.name) name=true/\findAt (g.macros.map Macro.name) name < known
  ·rw [if_pos (hiff.2 hc),if_pos hc,heq (hiff.2 hc).1,List.getElem?_take,if_pos (by omega)]
   cases hm:g.macros[findAt (g.macros.map Macro.name) name]? with
   | none=>rfl
   | some m =>
    simp only
    split
    ·rfl
    ·unfold macroM;simp only [hall,hb _ m hm hc.2]
  ·rw [if_neg (fun h=>hc (hiff.1 h)),if_neg hc]
theorem cut_list (hx:x.l≠[]) (hk:known<=k) (hr:∀ y,y.full < x.full->∀ e s,r1 known y e s=r2 known y e s) (hb:∀ j m,g.macros[j]?=some m->j < known->∀ e s,r1 j m.body e s=r2 j m.body e s) :
  listM ⟨cutG g k,mo,b⟩ r1 known x env st=listM ⟨g,mo,b⟩ r2 known x env st:=by
 have hall:∀ st,allM (fun y=>r1 known y env) x.l.tail st=allM (fun y=>r2 known y env) x.l.tail st:=fun st=>allM_congr fun y hy st=>hr y (tail_full hy) _ _;have h1:∀ i e s,r1 known (nthX x i) e s=r2 known (nthX x i) e s:=fun i=>hr _ (full_nth hx i);have h2:∀ i j e s,r1 known (nthX (nthX x i) j) e s=r2 known (nthX (nthX x i) j) e s:=fun i j=>hr _ (Nat.lt_of_le_of_lt (full_nth_le j) (full_nth hx i));unfold listM
 split
 ·unfold letM
  split
  ·rfl
  ·have ha:∀ st,allM (fun y=>r1 known y env) ((nthX x 1).l.map secondX) st=allM (fun y=>r2 known y env) ((nthX x 1).l.map secondX) st:=fun st=>allM_congr fun y hy st=>by
    obtain ⟨b,hb,rfl⟩:=List.mem_map.1 hy;refine hr _ ?_ _ _;have h3:=full_mem hb;have h4:=full_nth hx 1;have h5:(secondX b).full<=b.full:=full_nth_le (x:=b) 1
    omega
   simp only [ha,h1]
 split
 ·rfl
 split
 ·unfold sumM;simp only [h1,hall,opM_g (g:=g) (h:=cutG g k),numberM_g (g:=g) (h:=cutG g k)]
 split
 ·split
  ·rfl
  ·exact cut_call hk (fun y hy=>hr y (tail_full hy)) hb
 split
 ·rfl
 split
 ·unfold diffLM;simp only [h2]
  rfl
 split
 ·unfold diffRM;simp only [h2]
  rfl
 ·simp only [hall,makeM_g (g:=g) (h:=cutG g k)]
theorem cut_step (hk:known<=k) (hr:∀ y,y.full < x.full->∀ e s,r1 known y e s=r2 known y e s) (hb:∀ j m,g.macros[j]?=some m->j < known->∀ e s,r1 j m.body e s=r2 j m.body e s) :
  termStep ⟨cutG g k,mo,b⟩ r1 known x env st=termStep ⟨g,mo,b⟩ r2 known x env st:=by
 unfold termStep
 split
 ·rfl
 split
 ·rfl
 split
 ·rename_i hl
  exact cut_list (isList_ne hl) hk hr hb
 split
 ·rfl
 split
 ·rfl
 split
 ·rfl
 split
 ·rfl
 split
 ·rfl
 ·exact cut_call hk (fun y hy=>by cases hy) hb
end
theorem term_cut (g:Sig) (k:Nat) (mo:Int) (b:Bool):∀ (n known:Nat) (x:Sexp),need g known x < n->known<=k->∀ env st,termP ⟨cutG g k,mo,b⟩ known x env st=termP ⟨g,mo,b⟩ known x env st:=by
 intro n
 induction n with
 | zero=>intro known x h;omega
 | succ n ih =>
  intro known x h hk env st;rw [termP_eq,termP_eq];refine cut_step hk (fun y hy e s=>ih known y (by unfold need at *;omega) hk e s) (fun j m hm hj e s=>?_);have:=sumB_lt hm hj;exact ih j m.body (by unfold need at *;omega) (by omega) e s
end El
end Go.Proofs.YtpmdcckapddchaaGreatDoor

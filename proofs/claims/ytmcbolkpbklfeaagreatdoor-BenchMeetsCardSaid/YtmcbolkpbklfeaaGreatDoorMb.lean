import Derived.Test.YtmcbolkpbklfeaaGreatDoorShort
import Derived.Test.YtmcbolkpbklfeaaGreatDoorBase
import Derived.Deep.RegionHeld3
/- merged by wip/merge.py from: HeldM -/
set_option maxRecDepth 100000
set_option maxHeartbeats 51200000
namespace Go.Proofs.YtmcbolkpbklfeaaGreatDoor
section
open Go.RowKit
section
variable {P:Program} {ops:Array Oper} {Q:Exit->Act->World->Prop} {md:Region.Mode} {S:World->Prop} {m:Nat}
def wpTo (P:Program) (md:Region.Mode) (ops:Array Oper) (Q:Exit->Act->World->Prop) (S:World->Prop) (m:Nat):Nat->Array Bool->Act->World->Prop
 | 0,listed,a,w=>Region.ready md ops listed=[]/\Q .normal a w
 | fuel+1,listed,a,w=>(Region.ready md ops listed=[]->Q .normal a w) /\
   ∀ i ∈ Region.ready md ops listed,wpOp P ops Q i (fun a' w'=>(i≠m->S w')/\wpTo P md ops Q S m fuel (listed.setIfInBounds i true) a' w') a w
theorem wpAny_of_to:∀ (fuel:Nat) (listed:Array Bool) (a:Act) (w:World),wpTo P md ops Q S m fuel listed a w->wpAny P md ops Q fuel listed a w
 | 0,_,_,_,h=>h
 | fuel+1,_,_,_,h=>⟨h.1,fun i hi=>wpOp_mono (fun a' w' h'=>wpAny_of_to fuel _ a' w' h'.2) (h.2 i hi)⟩
theorem wpTo_first {i:Nat} {oi om:Oper} {v:Value} (hi:ops[i]?=some oi) (hom:ops[m]?=some om) (hwait:∃ e ∈ om.after,Region.binds md e=true/\e.on=i)
  (hsel:∀ (j:Nat) (o:Oper) cs b,ops[j]?=some o->o.op≠.select cs b) (hQ:∀ c a w,Q (.panic c) (a.put oi.dst v) w->Q (.panic c) a w) :
  ∀ (fuel:Nat) (listed:Array Bool) (a:Act) (w:World),
   (∀ j oj,ops[j]?=some oj->j≠i->listed.getD j true=false->(∀ e ∈ oj.after,Region.binds md e=true->e.on≠i)->oi.apart ops oj=true) ->
   i ∈ Region.ready md ops listed->YieldsIf P ops S oi v a->S w->i≠m ->
   wpTo P md ops Q S m fuel (listed.setIfInBounds i true) (a.put oi.dst v) w->wpTo P md ops Q S m (fuel+1) listed a w:=by
 intro fuel
 induction fuel with
 | zero =>
  intro listed a w _ hr hy hS him H;refine⟨fun h=>(by rw [h] at hr;cases hr),fun j hj=>?_⟩
  by_cases hji:j=i
  ·subst hji;exact hy.wpOp hi hS ⟨fun _=>hS,H⟩
  ·have:=ready_mono hj hji;rw [H.1] at this
   cases this
 | succ fuel ih =>
  intro listed a w hfree hr hy hS him H;refine⟨fun h=>(by rw [h] at hr;cases hr),fun j hj=>?_⟩
  by_cases hji:j=i
  ·subst hji;exact hy.wpOp hi hS ⟨fun _=>hS,H⟩
  ·have h1:=H.2 j (ready_mono hj hji);obtain ⟨hjun,oj,hoj,hall⟩:=mem_ready.1 hj
   have hnot:∀ e ∈ oj.after,Region.binds md e=true->e.on≠i:=fun e he hb heq=>by
    have h1:=hall e he hb;have h0:=(mem_ready.1 hr).1;rw [heq] at h1;rcases Nat.lt_or_ge i listed.size with h' | h'
    ·simp [h'] at h0 h1;rw [h0] at h1;cases h1
    ·simp [Array.getElem?_eq_none h'] at h1
   have hjm:j≠m:=by
    rintro rfl;rw [hoj] at hom;obtain rfl:=Option.some.inj hom;obtain ⟨e,he,hb,hon⟩:=hwait;exact hnot e he hb hon
   have h2:=wpOp_putIf hoj (hfree j oj hoj hji hjun hnot) (fun cs b=>hsel i oi cs b hi) (fun cs b=>hsel j oj cs b hoj) hQ hy h1
   have hfree':∀ k ok,ops[k]?=some ok->k≠i->(listed.setIfInBounds j true).getD k true=false ->
     (∀ e ∈ ok.after,Region.binds md e=true->e.on≠i)->oi.apart ops ok=true:=fun k ok hk hki hun hno=>by
    refine hfree k ok hk hki ?_ hno
    by_cases hjk:j=k
    ·subst hjk;exact hjun
    ·rw [getD_set_ne true hjk] at hun;exact hun
   refine wpOp_mono (fun a' w' h3=>⟨h3.2.1,ih (listed.setIfInBounds j true) a' w' hfree' (ready_mono hr (Ne.symm hji)) h3.1 (h3.2.1 hjm) him ?_⟩) h2;rw [Array.setIfInBounds_comm _ _ hji];exact h3.2.2
def waitsFor (md:Region.Mode) (ops:Array Oper) (m i:Nat):Bool:=(ops[m]?.map fun o=>o.after.any fun e=>Region.binds md e && e.on == i) == some true && i != m
theorem wpTo_take {i:Nat} {oi:Oper} {v:Value} {fuel:Nat} {listed:Array Bool} {a:Act} {w:World} (hi:ops[i]?=some oi)
  (hs:Region.noSelect ops=true) (hf:Region.free md ops listed i=true) (hr:(Region.ready md ops listed).contains i=true) (hw:waitsFor md ops m i=true)
  (hQ:∀ c a w,Q (.panic c) (a.put oi.dst v) w->Q (.panic c) a w) (hy:YieldsIf P ops S oi v a) (hS:S w)
  (h:wpTo P md ops Q S m fuel (listed.setIfInBounds i true) (a.put oi.dst v) w):wpTo P md ops Q S m (fuel+1) listed a w:=by
 unfold waitsFor at hw;rw [Bool.and_eq_true] at hw;obtain ⟨hw1,hw2⟩:=hw
 cases hom:ops[m]? with
 | none=>rw [hom] at hw1;cases hw1
 | some om =>
  rw [hom] at hw1;have hw3:(om.after.any fun e=>Region.binds md e && e.on == i)=true:=by simpa using hw1
  obtain ⟨k,hk,hq⟩:=Array.any_eq_true.1 hw3;rw [Bool.and_eq_true] at hq;exact wpTo_first hi hom ⟨om.after[k],Array.getElem_mem hk,hq.1,by simpa using hq.2⟩ (Region.noSelect_spec hs) hQ fuel listed a w (Region.free_spec hi hf) (by simpa using hr) hy hS (by simpa using hw2) h
theorem wpTo_step {i:Nat} {o:Oper} {fuel:Nat} {listed:Array Bool} {a:Act} {w:World} (hr:Region.ready md ops listed=[i]) (ho:ops[i]?=some o)
  (h:∀ K':Act->World->Prop,Shut (∀ a w,S w->(S w->wpTo P md ops Q S m fuel (listed.setIfInBounds i true) a w)->K' a w)->if Region.wanted o (yielded ops a.tmps)=true then Oper.wp P o a w K' Q else K' (a.put o.dst undef) w) :
  wpTo P md ops Q S m (fuel+1) listed a w:=by
 refine⟨fun h0=>(by rw [hr] at h0;cases h0),fun j hj=>?_⟩;rw [hr] at hj;obtain rfl:j=i:=by simpa using hj
 exact wpOp_step ho (fun K' hK=>h K' (fun a w hS hW=>hK a w ⟨fun _=>hS,hW hS⟩))
theorem wpTo_last {o:Oper} {fuel:Nat} {listed:Array Bool} {a:Act} {w:World} (hr:Region.ready md ops listed=[m]) (ho:ops[m]?=some o)
  (h:∀ K':Act->World->Prop,Shut (∀ a w,wpTo P md ops Q S m fuel (listed.setIfInBounds m true) a w->K' a w)->if Region.wanted o (yielded ops a.tmps)=true then Oper.wp P o a w K' Q else K' (a.put o.dst undef) w) :
  wpTo P md ops Q S m (fuel+1) listed a w:=by
 refine⟨fun h0=>(by rw [hr] at h0;cases h0),fun j hj=>?_⟩;rw [hr] at hj;obtain rfl:j=m:=by simpa using hj
 exact wpOp_step ho (fun K' hK=>h K' (fun a w hW=>hK a w ⟨fun hn=>absurd rfl hn,hW⟩))
theorem wpTo_done {listed:Array Bool} {a:Act} {w:World} (hr:Region.ready md ops listed=[]) (h:Q .normal a w):∀ fuel,wpTo P md ops Q S m fuel listed a w
 | 0=>⟨hr,h⟩
 | _+1=>⟨fun _=>h,by rw [hr];simp⟩
theorem wp_region_to {id:Nat} {a:Act} {w:World} (hm:P.follows .mixedOrders=true) (S:World->Prop) (m:Nat) (hS:S w.drew)
  (h:S w.drew->wpTo P .any ops Q S m ops.size (Array.replicate ops.size false) a w.drew):(Code.region id ops true).wp P Q a w :=
 wp_region_any hm (wpAny_of_to _ _ _ _ (h hS))
end
end
end Go.Proofs.YtmcbolkpbklfeaaGreatDoor

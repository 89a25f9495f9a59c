import Derived.Test.YtmcbolkpbklfeaaGreatDoorShort
import Derived.Test.YtmcbolkpbklfeaaGreatDoorMo
import Derived.Test.YtmcbolkpbklfeaaGreatDoorMj
import Derived.Test.YtmcbolkpbklfeaaGreatDoorMd
import Derived.Test.YtmcbolkpbklfeaaGreatDoorMf
import Derived.Test.YtmcbolkpbklfeaaGreatDoorMh
/- merged by wip/merge.py from: CmdParse -/
set_option maxRecDepth 100000
set_option maxHeartbeats 51200000
namespace Go.Proofs.YtmcbolkpbklfeaaGreatDoor
namespace Cm
open Go.RowKit Dt
theorem zero_func (w:World):(zeroValue 1).run Tryz.prog w=.ok .nilFunc w:=by kernel_rfl
theorem str_inj (x y:ByteArray) (h:Value.string x=.string y):x=y:=by injection h
def formsF (pb n8 n9 n11 n12:Nat):ByteArray->Option Value:=fun x=>if x=sExit then some (bareV n12) else if x=sProof then some (bareV n11) else if x=sModel then some (bareV n9) else if x=sCheck then some (bareV n8) else if x=sValue then some (.func (.func 78) #[ptrP pb] #[]) else if x=sPop then some (.func (.func 77) #[ptrP pb] #[]) else if x=sPush then some (.func (.func 76) #[ptrP pb] #[]) else if x=sAssert then some (.func (.func 75) #[ptrP pb] #[]) else if x=sDefine then some (.func (.func 74) #[ptrP pb] #[]) else if x=sFun then some (.func (.func 73) #[ptrP pb] #[]) else if x=sSort then some (.func (.func 72) #[ptrP pb] #[]) else if x=sOption then some (.func (.func 71) #[ptrP pb] #[]) else if x=sLogic then some (.func (.func 70) #[ptrP pb] #[]) else none
def BareAt (w:World) (pb n:Nat) (k:Int):Prop:=w.heap[n]?=some (.cells #[ptrP pb] 127 (0,0))/\w.heap[n+1]?=some (.cells #[.int .i8 k] 22 (0,0))
theorem BareAt.made (w:World) (pb:Nat) (k:Int):BareAt (bareW w pb k) pb w.heap.size k:=by
 unfold BareAt bareW;refine⟨(Below.heap_alloc _ _ _ (by simp)).trans (blk_new w _),?_⟩;have h:=blk_new (w.alloc (.cells #[ptrP pb] 127)) (.cells #[.int .i8 k] 22);have e:(w.alloc (.cells #[ptrP pb] 127)).heap.size=w.heap.size+1:=by simp
 rw [e] at h;exact h
theorem BareAt.keep {w w':World} {pb n:Nat} {k:Int} {S:Nat->Prop} (h:BareAt w pb n k) (hk:Keeps S w w') (h1:¬ S n) (h2:¬ S (n+1)):BareAt w' pb n k :=
 ⟨(hk.block _ (lt_of_block h.1) h1).trans h.1,(hk.block _ (lt_of_block h.2) h2).trans h.2⟩
theorem parseO_eq (x:Sexp):parseO x=formO (headS x) x.l.tail:=by
 unfold parseO headS
 cases x.l with
 | nil=>rfl
 | cons y r =>
  show(if x.kind=3/\y.kind=0 then formO y.text r else none)=formO (if x.kind=3/\y.kind=0 then y.text else { data:=#[] }) r
  split <;> rfl
theorem head_size {w:World} {A:Option Addr} {c:Nat} {x:Sexp} (h:SexpR w [.int .i8 x.kind,.string x.text,.slice A x.l.length c] x):((headS x).size:Int)<=140737488351232:=by
 obtain ⟨_,_,e,hl,_⟩:=h.open';simp only [List.cons.injEq,Value.slice.injEq,and_true,true_and] at e;obtain ⟨rfl,rfl⟩:=e;have h0:=partS_size hl 0;unfold headS;unfold partS at h0
 cases hx:x.l with
 | nil=>exact(by decide:(((⟨#[]⟩:ByteArray).size:Nat):Int)<=140737488351232)
 | cons y r =>
  rw [hx] at h0;show(((if x.kind=3/\y.kind=0 then y.text else { data:=#[] }:ByteArray).size:Nat):Int)<=140737488351232
  split
  ·exact h0
  ·exact(by decide:(((⟨#[]⟩:ByteArray).size:Nat):Int)<=140737488351232)
def FormsCall (W0 w:World) (pb:Nat) (A:Option Addr) (c:Nat) (xs:List Sexp) (h:ByteArray) (v:Value):Prop :=
 ∃ k f cp,v=.func (.func k) f cp/\(∀ args W,(callFunc k args).run Tryz.prog W=.ok (Next.enter k args) W)/\∀ W,Keeps (fun _=>False) w W->ParB W pb (.slice A xs.length c) zeroV false->Below W0.heap.size W0 W->Calls Tryz.prog k (f ++ #[] ++ cp) W (FormPost W0.heap.size W pb (.slice A xs.length c) (formO h xs.tail))
theorem forms_none {pb n8 n9 n11 n12:Nat} {h:ByteArray} (hf:formsF pb n8 n9 n11 n12 h=none) (r:List Sexp):formO h r=none:=by
 unfold formsF at hf
 by_cases e0:h=sExit
 ·rw [if_pos e0] at hf;cases hf
 rw [if_neg e0] at hf
 by_cases e1:h=sProof
 ·rw [if_pos e1] at hf;cases hf
 rw [if_neg e1] at hf
 by_cases e2:h=sModel
 ·rw [if_pos e2] at hf;cases hf
 rw [if_neg e2] at hf
 by_cases e3:h=sCheck
 ·rw [if_pos e3] at hf;cases hf
 rw [if_neg e3] at hf
 by_cases e4:h=sValue
 ·rw [if_pos e4] at hf;cases hf
 rw [if_neg e4] at hf
 by_cases e5:h=sPop
 ·rw [if_pos e5] at hf;cases hf
 rw [if_neg e5] at hf
 by_cases e6:h=sPush
 ·rw [if_pos e6] at hf;cases hf
 rw [if_neg e6] at hf
 by_cases e7:h=sAssert
 ·rw [if_pos e7] at hf;cases hf
 rw [if_neg e7] at hf
 by_cases e8:h=sDefine
 ·rw [if_pos e8] at hf;cases hf
 rw [if_neg e8] at hf
 by_cases e9:h=sFun
 ·rw [if_pos e9] at hf;cases hf
 rw [if_neg e9] at hf
 by_cases e10:h=sSort
 ·rw [if_pos e10] at hf;cases hf
 rw [if_neg e10] at hf
 by_cases e11:h=sOption
 ·rw [if_pos e11] at hf;cases hf
 rw [if_neg e11] at hf
 by_cases e12:h=sLogic
 ·rw [if_pos e12] at hf;cases hf
 rw [if_neg e12] at hf;unfold formO;rw [if_neg (by assumption:¬ h=sCheck)];rw [if_neg (by assumption:¬ h=sModel)];rw [if_neg (by assumption:¬ h=sProof)];rw [if_neg (by assumption:¬ h=sExit)];rw [if_neg (by assumption:¬ h=sLogic)];rw [if_neg (by assumption:¬ h=sOption)];rw [if_neg (by assumption:¬ h=sSort)];rw [if_neg (by assumption:¬ h=sFun)];rw [if_neg (by assumption:¬ h=sDefine)];rw [if_neg (by assumption:¬ h=sAssert)];rw [if_neg (by assumption:¬ h=sPush)];rw [if_neg (by assumption:¬ h=sPop)];rw [if_neg (by assumption:¬ h=sValue)]
theorem forms_some {W0 w:World} {pb n8 n9 n11 n12:Nat} {A:Option Addr} {c:Nat} {xs:List Sexp} {h:ByteArray} {v:Value} (hf:formsF pb n8 n9 n11 n12 h=some v) (hx:Lies 3 SexpR W0 A xs) (hp:W0.heap.size<=pb) (h0:0 < xs.length)
  (q8:BareAt w pb n8 8) (q9:BareAt w pb n9 9) (q11:BareAt w pb n11 11) (q12:BareAt w pb n12 12):FormsCall W0 w pb A c xs h v:=by
 have hbare:∀ (n:Nat) (k:Int),(Lit.int .i8 k).wf=true->BareAt w pb n k->bareO xs.tail k=formO h xs.tail->FormsCall W0 w pb A c xs h (bareV n):=fun n k hk hq e=>by
  refine⟨_,_,_,rfl,Tryz.call118,fun W hW hP hB=>?_⟩;have q:=hq.keep hW id id;have:=bare1_any (lo:=W0.heap.size) (q1:=n) (q2:=n+1) hP k hk ((cell_of_cells q.1 0).trans rfl) ((cell_of_cells q.2 0).trans rfl) h0;rw [e] at this;exact this
 unfold formsF at hf
 by_cases e0:h=sExit
 ·rw [if_pos e0] at hf;obtain rfl:=Option.some.inj hf;subst e0;exact hbare _ _ (by decide) q12 rfl
 rw [if_neg e0] at hf
 by_cases e1:h=sProof
 ·rw [if_pos e1] at hf;obtain rfl:=Option.some.inj hf;subst e1;exact hbare _ _ (by decide) q11 rfl
 rw [if_neg e1] at hf
 by_cases e2:h=sModel
 ·rw [if_pos e2] at hf;obtain rfl:=Option.some.inj hf;subst e2;exact hbare _ _ (by decide) q9 rfl
 rw [if_neg e2] at hf
 by_cases e3:h=sCheck
 ·rw [if_pos e3] at hf;obtain rfl:=Option.some.inj hf;subst e3;exact hbare _ _ (by decide) q8 rfl
 rw [if_neg e3] at hf
 by_cases e4:h=sValue
 ·rw [if_pos e4] at hf;obtain rfl:=Option.some.inj hf;subst e4;exact⟨_,_,_,rfl,Tryz.call78,fun W hW hP hB=>value_any hP hx hB hp⟩
 rw [if_neg e4] at hf
 by_cases e5:h=sPop
 ·rw [if_pos e5] at hf;obtain rfl:=Option.some.inj hf;subst e5;exact⟨_,_,_,rfl,Tryz.call77,fun W hW hP hB=>pop_any hP hx hB hp⟩
 rw [if_neg e5] at hf
 by_cases e6:h=sPush
 ·rw [if_pos e6] at hf;obtain rfl:=Option.some.inj hf;subst e6;exact⟨_,_,_,rfl,Tryz.call76,fun W hW hP hB=>push_any hP hx hB hp⟩
 rw [if_neg e6] at hf
 by_cases e7:h=sAssert
 ·rw [if_pos e7] at hf;obtain rfl:=Option.some.inj hf;subst e7;exact⟨_,_,_,rfl,Tryz.call75,fun W hW hP hB=>assert_any hP hx hB hp⟩
 rw [if_neg e7] at hf
 by_cases e8:h=sDefine
 ·rw [if_pos e8] at hf;obtain rfl:=Option.some.inj hf;subst e8;exact⟨_,_,_,rfl,Tryz.call74,fun W hW hP hB=>define_any hP hx hB hp⟩
 rw [if_neg e8] at hf
 by_cases e9:h=sFun
 ·rw [if_pos e9] at hf;obtain rfl:=Option.some.inj hf;subst e9;exact⟨_,_,_,rfl,Tryz.call73,fun W hW hP hB=>fun_any hP hx hB hp⟩
 rw [if_neg e9] at hf
 by_cases e10:h=sSort
 ·rw [if_pos e10] at hf;obtain rfl:=Option.some.inj hf;subst e10;exact⟨_,_,_,rfl,Tryz.call72,fun W hW hP hB=>sort_any hP hx hB hp⟩
 rw [if_neg e10] at hf
 by_cases e11:h=sOption
 ·rw [if_pos e11] at hf;obtain rfl:=Option.some.inj hf;subst e11;exact⟨_,_,_,rfl,Tryz.call71,fun W hW hP hB=>option_any hP hx hB hp⟩
 rw [if_neg e11] at hf
 by_cases e12:h=sLogic
 ·rw [if_pos e12] at hf;obtain rfl:=Option.some.inj hf;subst e12;exact⟨_,_,_,rfl,Tryz.call70,fun W hW hP hB=>logic_any hP hx hB hp⟩
 rw [if_neg e12] at hf
 cases hf
theorem parse_ret {w:World} {b:Nat} {vs:Array Value} {act:Act} {t:TypeId} {R:Ending->World->Prop} {E:Int} (hb:w.heap[b]?=some (.cells vs t (0,0))) (hv:vs.size=8) (h2:act.tmps[2]?=some (.pointer (some ⟨b,0,none⟩))) (h3:act.tmps[3]?=some (.int .i64 E)) (hd:act.defers=[]) (hR:R (.returned (.tuple #[.agg vs,.int .i64 E])) w) :
  bodyPost Tryz.prog Tryz.f54 R .ret act w:=by
 obtain ⟨v0,v1,v2,v3,v4,v5,v6,v7,e⟩:=list8 (l:=vs.toList) (by simpa using hv);obtain rfl:vs=#[v0,v1,v2,v3,v4,v5,v6,v7]:=Array.toList_inj.1 e;have y0:=cell_of_cells hb 0;have y1:=cell_of_cells hb 1;have y2:=cell_of_cells hb 2;have y3:=cell_of_cells hb 3;have y4:=cell_of_cells hb 4;have y5:=cell_of_cells hb 5;have y6:=cell_of_cells hb 6;have y7:=cell_of_cells hb 7;refine bodyPost_ret (v:=.tuple #[.agg #[v0,v1,v2,v3,v4,v5,v6,v7],.int .i64 E]) ?_ hd hR;simp at y0 y1 y2 y3 y4 y5 y6 y7;simp [results,Tryz.results54,go_sem,y0,y1,y2,y3,y4,y5,y6,y7,h2,h3]
def set8 (w:World) (b:Nat) (v0 v1 v2 v3 v4 v5 v6 v7:Value):World:=(((((((w.setCell ⟨b,0,none⟩ v0).setCell ⟨b,1,none⟩ v1).setCell ⟨b,2,none⟩ v2).setCell ⟨b,3,none⟩ v3).setCell ⟨b,4,none⟩ v4).setCell ⟨b,5,none⟩ v5).setCell ⟨b,6,none⟩ v6).setCell ⟨b,7,none⟩ v7
theorem eight_set {w:World} {b:Nat} {a0 a1 a2 a3 a4 a5 a6 a7:Value} {t:TypeId} (h:w.heap[b]?=some (.cells #[a0,a1,a2,a3,a4,a5,a6,a7] t (0,0))) (v0 v1 v2 v3 v4 v5 v6 v7:Value):(set8 w b v0 v1 v2 v3 v4 v5 v6 v7).heap[b]?=some (.cells #[v0,v1,v2,v3,v4,v5,v6,v7] t (0,0)):=by
 simp [set8,World.setCell,Array.getElem?_modify,h]
theorem eight_cells {w:World} {b:Nat} {a0 a1 a2 a3 a4 a5 a6 a7:Value} {t:TypeId} (h:w.heap[b]?=some (.cells #[a0,a1,a2,a3,a4,a5,a6,a7] t (0,0))):w.cell? ⟨b,0,none⟩=some a0/\w.cell? ⟨b,1,none⟩=some a1/\w.cell? ⟨b,2,none⟩=some a2/\w.cell? ⟨b,3,none⟩=some a3/\w.cell? ⟨b,4,none⟩=some a4/\w.cell? ⟨b,5,none⟩=some a5/\w.cell? ⟨b,6,none⟩=some a6/\w.cell? ⟨b,7,none⟩=some a7/\∀ j,w.frozen? ⟨b,j,none⟩=false :=
 ⟨by rw [cell_of_cells h];rfl,by rw [cell_of_cells h];rfl,by rw [cell_of_cells h];rfl,by rw [cell_of_cells h];rfl,by rw [cell_of_cells h];rfl,by rw [cell_of_cells h];rfl,by rw [cell_of_cells h];rfl,by rw [cell_of_cells h];rfl,fun j=>frozen_of_cells h j⟩
theorem set8_keeps {S:Nat->Prop} {w0 w:World} {b:Nat} (h:Keeps S w0 w) (hb:S b\/w0.heap.size<=b) (v0 v1 v2 v3 v4 v5 v6 v7:Value):Keeps S w0 (set8 w b v0 v1 v2 v3 v4 v5 v6 v7) :=
 (((((((h.setCell (p:=⟨b,0,none⟩) hb v0).setCell (p:=⟨b,1,none⟩) hb v1).setCell (p:=⟨b,2,none⟩) hb v2).setCell (p:=⟨b,3,none⟩) hb v3).setCell (p:=⟨b,4,none⟩) hb v4).setCell (p:=⟨b,5,none⟩) hb v5).setCell (p:=⟨b,6,none⟩) hb v6).setCell (p:=⟨b,7,none⟩) hb v7
def CmdRes (w:World) (o:Option Cmd) (bad:Int) (e:Ending) (w':World):Prop :=
 ∃ A1 c1 A2 c2 A3 c3 A4 c4,e=.returned (.tuple #[.agg (cmdCells A1 c1 A2 c2 A3 c3 A4 c4 (o.getD noCmd)).toArray,.int .i64 (if o.isSome then 0 else bad)])/\CmdAt w' A1 c1 A2 c2 A3 c3 A4 c4 (o.getD noCmd)/\Below w.heap.size w w'
theorem cmdAt_none (w:World):CmdAt w none 0 none 0 none 0 none 0 noCmd :=
 ⟨.inl rfl,.inl rfl,.inl rfl,.inl rfl,nlq,nlq,nlq,nlq,Nat.zero_le _,Nat.zero_le _,Nat.zero_le _,Nat.zero_le _,Nat.zero_le _,(by decide:(Lit.int .i8 0).wf=true),(show I64 0 from⟨by decide,by decide⟩),(by decide:((noS.size:Nat):Int)<=140737488351232),(by decide:((noS.size:Nat):Int)<=140737488351232)⟩
theorem cmdRes_none {w w':World} {o:Option Cmd} (h:o=none) (bad:Int) (hb:Below w.heap.size w w') :
  CmdRes w o bad (.returned (.tuple #[.agg #[.int .i8 0,.string { data:=#[] },.int .i64 0,.slice none 0 0,.slice none 0 0,.slice none 0 0,.string { data:=#[] },.slice none 0 0],.int .i64 bad])) w':=by
 subst h;exact⟨none,0,none,0,none,0,none,0,rfl,cmdAt_none _,hb⟩
theorem cmdRes_some {w w':World} {o:Option Cmd} {c:Cmd} (h:o=some c) (bad:Int) (hb:Below w.heap.size w w') {v0 v1 v2 v3 v4 v5 v6 v7:Value} (hc:CmdR w' [v0,v1,v2,v3,v4,v5,v6,v7] c) :
  CmdRes w o bad (.returned (.tuple #[.agg #[v0,v1,v2,v3,v4,v5,v6,v7],.int .i64 0])) w':=by
 subst h;obtain ⟨A1,c1,A2,c2,A3,c3,A4,c4,e,hat⟩:=hc;refine⟨A1,c1,A2,c2,A3,c3,A4,c4,?_,hat,hb⟩;have e2:=congrArg List.toArray e;show Ending.returned (.tuple #[.agg [v0,v1,v2,v3,v4,v5,v6,v7].toArray,.int .i64 0])=_;rw [e2]
 rfl
theorem parse_cmd_any {w:World} {A:Option Addr} {c:Nat} {x:Sexp} (h:SexpR w [.int .i8 x.kind,.string x.text,.slice A x.l.length c] x) :
  Calls Tryz.prog 54 #[agS x A c] w (CmdRes w (cmdO x) 30):=by
 have HR:=kp h;have hmf:∀ (fn:Fn) (first cap:Array Value) (w:World),(Instr.makeFunc fn first cap).run Tryz.prog w=.ok (.func fn first cap) w:=fun _ _ _ _=>rfl;clear h;unfold agS at *
 go_enter Tryz.func54,Tryz.ntmps54
 go_upto_region 2 with fail
 have PB:=kp (show ParB (((w.alloc (.cells #[.int .i8 x.kind,.string x.text,.slice A x.l.length c] 81)).alloc (.cells #[.int .i8 0,.string { data:=#[] },.int .i64 0,.slice none 0 0,.slice none 0 0,.slice none 0 0,.string { data:=#[] },.slice none 0 0] 110)).alloc (.cells #[.slice A x.l.length c,.int .i8 0,.string { data:=#[] },.int .i64 0,.slice none 0 0,.slice none 0 0,.slice none 0 0,.string { data:=#[] },.slice none 0 0,.bool false] 129)) (w.heap.size+1+1) (.slice A x.l.length c) zeroV false from by
  have hh:=blk_new ((w.alloc (.cells #[.int .i8 x.kind,.string x.text,.slice A x.l.length c] 81)).alloc (.cells #[.int .i8 0,.string { data:=#[] },.int .i64 0,.slice none 0 0,.slice none 0 0,.slice none 0 0,.string { data:=#[] },.slice none 0 0] 110)) (.cells #[.slice A x.l.length c,.int .i8 0,.string { data:=#[] },.int .i64 0,.slice none 0 0,.slice none 0 0,.slice none 0 0,.string { data:=#[] },.slice none 0 0,.bool false] 129);have e:((w.alloc (.cells #[.int .i8 x.kind,.string x.text,.slice A x.l.length c] 81)).alloc (.cells #[.int .i8 0,.string { data:=#[] },.int .i64 0,.slice none 0 0,.slice none 0 0,.slice none 0 0,.string { data:=#[] },.slice none 0 0] 110)).heap.size=w.heap.size+1+1:=by simp
  rw [e] at hh;refine⟨_,hh,rfl,rfl,fun i hi=>?_,rfl⟩
  match i,hi with
  | 0,_=>rfl
  | 1,_=>rfl
  | 2,_=>rfl
  | 3,_=>rfl
  | 4,_=>rfl
  | 5,_=>rfl
  | 6,_=>rfl
  | 7,_=>rfl)
 have BW:=kp ((((brq w).alloc nlq (.cells #[.int .i8 x.kind,.string x.text,.slice A x.l.length c] 81)).alloc (by simp) (.cells #[.int .i8 0,.string { data:=#[] },.int .i64 0,.slice none 0 0,.slice none 0 0,.slice none 0 0,.string { data:=#[] },.slice none 0 0] 110)).alloc (by simp;omega) (.cells #[.slice A x.l.length c,.int .i8 0,.string { data:=#[] },.int .i64 0,.slice none 0 0,.slice none 0 0,.slice none 0 0,.string { data:=#[] },.slice none 0 0,.bool false] 129))
 have XB:=kp (show(((w.alloc (.cells #[.int .i8 x.kind,.string x.text,.slice A x.l.length c] 81)).alloc (.cells #[.int .i8 0,.string { data:=#[] },.int .i64 0,.slice none 0 0,.slice none 0 0,.slice none 0 0,.string { data:=#[] },.slice none 0 0] 110)).alloc (.cells #[.slice A x.l.length c,.int .i8 0,.string { data:=#[] },.int .i64 0,.slice none 0 0,.slice none 0 0,.slice none 0 0,.string { data:=#[] },.slice none 0 0,.bool false] 129)).heap[w.heap.size]?=some (.cells #[.int .i8 x.kind,.string x.text,.slice A x.l.length c] 81 (0,0)) from
  (Below.heap_alloc _ _ _ (by simp;omega)).trans ((Below.heap_alloc _ _ _ (by simp)).trans (blk_new _ _)))
 have RB:=kp (show(((w.alloc (.cells #[.int .i8 x.kind,.string x.text,.slice A x.l.length c] 81)).alloc (.cells #[.int .i8 0,.string { data:=#[] },.int .i64 0,.slice none 0 0,.slice none 0 0,.slice none 0 0,.string { data:=#[] },.slice none 0 0] 110)).alloc (.cells #[.slice A x.l.length c,.int .i8 0,.string { data:=#[] },.int .i64 0,.slice none 0 0,.slice none 0 0,.slice none 0 0,.string { data:=#[] },.slice none 0 0,.bool false] 129)).heap[w.heap.size+1]?=some (.cells #[.int .i8 0,.string { data:=#[] },.int .i64 0,.slice none 0 0,.slice none 0 0,.slice none 0 0,.string { data:=#[] },.slice none 0 0] 110 (0,0)) from by
  have hh:=blk_new (w.alloc (.cells #[.int .i8 x.kind,.string x.text,.slice A x.l.length c] 81)) (.cells #[.int .i8 0,.string { data:=#[] },.int .i64 0,.slice none 0 0,.slice none 0 0,.slice none 0 0,.string { data:=#[] },.slice none 0 0] 110);have e:(w.alloc (.cells #[.int .i8 x.kind,.string x.text,.slice A x.l.length c] 81)).heap.size=w.heap.size+1:=by simp
  rw [e] at hh;exact(Below.heap_alloc _ _ _ (by simp)).trans hh)
 generalize (((w.alloc (.cells #[.int .i8 x.kind,.string x.text,.slice A x.l.length c] 81)).alloc (.cells #[.int .i8 0,.string { data:=#[] },.int .i64 0,.slice none 0 0,.slice none 0 0,.slice none 0 0,.string { data:=#[] },.slice none 0 0] 110)).alloc (.cells #[.slice A x.l.length c,.int .i8 0,.string { data:=#[] },.int .i64 0,.slice none 0 0,.slice none 0 0,.slice none 0 0,.string { data:=#[] },.slice none 0 0,.bool false] 129))=w3 at *;have HPb:=kp (show w.heap.size<=w.heap.size+1+1 by omega);have HPl:=kp PB.out.lt;have HRb:=kp (show w.heap.size+1 < w.heap.size+1+1 by omega);generalize hpb:w.heap.size+1+1=pb at *;have M0:=kp (KeyMap.made (kt:=9) (key:=Value.string) w3);have K0:=kp (show Keeps (fun k=>k=w3.heap.size) w3 (w3.alloc (.map #[] 0)) from(Keeps.refl _ _).alloc _);generalize hv0:w3.alloc (.map #[] 0)=v0 at *;obtain ⟨v1,u1,m1,g1⟩:=KeyMap.store (a:=sLogic) (t:=131) (e:=1) M0.out string_key str_inj Tryz.underlying131 (by decide) (keyOf_str (by decide)) (.func (.func 70) #[ptrP pb] #[]);replace u1:(Instr.mapUpdate 131 (.map (some w3.heap.size)) (.string { data:=#[115,101,116,45,108,111,103,105,99] }) (.func (.func 70) #[ptrP pb] #[])).run Tryz.prog v0=.ok () v1:=u1;have M1:=kp m1;have K1:=kp (K0.out.grown g1 (fun k hk=>.inl (Option.some.inj hk).symm));clear m1 g1;obtain ⟨v2,u2,m2,g2⟩:=KeyMap.store (a:=sOption) (t:=131) (e:=1) M1.out string_key str_inj Tryz.underlying131 (by decide) (keyOf_str (by decide)) (.func (.func 71) #[ptrP pb] #[])
 replace u2:(Instr.mapUpdate 131 (.map (some w3.heap.size)) (.string { data:=#[115,101,116,45,111,112,116,105,111,110] }) (.func (.func 71) #[ptrP pb] #[])).run Tryz.prog v1=.ok () v2:=u2;have M2:=kp m2;have K2:=kp (K1.out.grown g2 (fun k hk=>.inl (Option.some.inj hk).symm));clear m2 g2;obtain ⟨v3,u3,m3,g3⟩:=KeyMap.store (a:=sSort) (t:=131) (e:=1) M2.out string_key str_inj Tryz.underlying131 (by decide) (keyOf_str (by decide)) (.func (.func 72) #[ptrP pb] #[]);replace u3:(Instr.mapUpdate 131 (.map (some w3.heap.size)) (.string { data:=#[100,101,99,108,97,114,101,45,115,111,114,116] }) (.func (.func 72) #[ptrP pb] #[])).run Tryz.prog v2=.ok () v3:=u3;have M3:=kp m3;have K3:=kp (K2.out.grown g3 (fun k hk=>.inl (Option.some.inj hk).symm));clear m3 g3;obtain ⟨v4,u4,m4,g4⟩:=KeyMap.store (a:=sFun) (t:=131) (e:=1) M3.out string_key str_inj Tryz.underlying131 (by decide) (keyOf_str (by decide)) (.func (.func 73) #[ptrP pb] #[]);replace u4:(Instr.mapUpdate 131 (.map (some w3.heap.size)) (.string { data:=#[100,101,99,108,97,114,101,45,102,117,110] }) (.func (.func 73) #[ptrP pb] #[])).run Tryz.prog v3=.ok () v4:=u4;have M4:=kp m4;have K4:=kp (K3.out.grown g4 (fun k hk=>.inl (Option.some.inj hk).symm));clear m4 g4;obtain ⟨v5,u5,m5,g5⟩:=KeyMap.store (a:=sDefine) (t:=131) (e:=1) M4.out string_key str_inj Tryz.underlying131 (by decide) (keyOf_str (by decide)) (.func (.func 74) #[ptrP pb] #[])
 replace u5:(Instr.mapUpdate 131 (.map (some w3.heap.size)) (.string { data:=#[100,101,102,105,110,101,45,102,117,110] }) (.func (.func 74) #[ptrP pb] #[])).run Tryz.prog v4=.ok () v5:=u5;have M5:=kp m5;have K5:=kp (K4.out.grown g5 (fun k hk=>.inl (Option.some.inj hk).symm));clear m5 g5;obtain ⟨v6,u6,m6,g6⟩:=KeyMap.store (a:=sAssert) (t:=131) (e:=1) M5.out string_key str_inj Tryz.underlying131 (by decide) (keyOf_str (by decide)) (.func (.func 75) #[ptrP pb] #[]);replace u6:(Instr.mapUpdate 131 (.map (some w3.heap.size)) (.string { data:=#[97,115,115,101,114,116] }) (.func (.func 75) #[ptrP pb] #[])).run Tryz.prog v5=.ok () v6:=u6;have M6:=kp m6;have K6:=kp (K5.out.grown g6 (fun k hk=>.inl (Option.some.inj hk).symm));clear m6 g6;obtain ⟨v7,u7,m7,g7⟩:=KeyMap.store (a:=sPush) (t:=131) (e:=1) M6.out string_key str_inj Tryz.underlying131 (by decide) (keyOf_str (by decide)) (.func (.func 76) #[ptrP pb] #[]);replace u7:(Instr.mapUpdate 131 (.map (some w3.heap.size)) (.string { data:=#[112,117,115,104] }) (.func (.func 76) #[ptrP pb] #[])).run Tryz.prog v6=.ok () v7:=u7;have M7:=kp m7;have K7:=kp (K6.out.grown g7 (fun k hk=>.inl (Option.some.inj hk).symm));clear m7 g7;obtain ⟨v8,u8,m8,g8⟩:=KeyMap.store (a:=sPop) (t:=131) (e:=1) M7.out string_key str_inj Tryz.underlying131 (by decide) (keyOf_str (by decide)) (.func (.func 77) #[ptrP pb] #[]);replace u8:(Instr.mapUpdate 131 (.map (some w3.heap.size)) (.string { data:=#[112,111,112] }) (.func (.func 77) #[ptrP pb] #[])).run Tryz.prog v7=.ok () v8:=u8
 have M8:=kp m8;have K8:=kp (K7.out.grown g8 (fun k hk=>.inl (Option.some.inj hk).symm));clear m8 g8;obtain ⟨v9,u9,m9,g9⟩:=KeyMap.store (a:=sValue) (t:=131) (e:=1) M8.out string_key str_inj Tryz.underlying131 (by decide) (keyOf_str (by decide)) (.func (.func 78) #[ptrP pb] #[]);replace u9:(Instr.mapUpdate 131 (.map (some w3.heap.size)) (.string { data:=#[103,101,116,45,118,97,108,117,101] }) (.func (.func 78) #[ptrP pb] #[])).run Tryz.prog v8=.ok () v9:=u9;have M9:=kp m9;have K9:=kp (K8.out.grown g9 (fun k hk=>.inl (Option.some.inj hk).symm));clear m9 g9;have HB:=kp (fun W k=>bare_any W pb k);have hmm:=@run_makeMap Tryz.prog;unfold ptrP at *;subst hv0;go_wp2_with fail
 refine(HB.out v9 8).mono ?_;rintro e w' ⟨rfl,rfl⟩;have JB8:=kp (show Keeps (fun k=>k=w3.heap.size) v9 (bareW v9 pb 8) from((Keeps.refl _ _).alloc _).alloc _);have Kb8:=kp (K9.out.trans_same JB8.out);have Mb8:=kp (M9.out.below (w':=bareW v9 pb 8) (((Below.refl _ _).alloc nlq _).alloc (by simp) _));have Q8:=kp (BareAt.made v9 pb 8);have N8:=kp (show w3.heap.size < v9.heap.size from M9.out.lt);clear JB8;generalize bareW v9 pb 8=b8 at *;generalize v9.heap.size=n8 at *;obtain ⟨v10,u10,m10,g10⟩:=KeyMap.store (a:=sCheck) (t:=131) (e:=1) Mb8.out string_key str_inj Tryz.underlying131 (by decide) (keyOf_str (by decide)) (bareV n8);replace u10:(Instr.mapUpdate 131 (.map (some w3.heap.size)) (.string { data:=#[99,104,101,99,107,45,115,97,116] }) (bareV n8)).run Tryz.prog b8=.ok () v10:=u10;have M10:=kp m10;have K10:=kp (Kb8.out.grown g10 (fun k hk=>.inl (Option.some.inj hk).symm));have J10:=kp (show Keeps (fun k=>k=w3.heap.size) b8 v10 from(Keeps.refl _ _).grown g10 (fun k hk=>.inl (Option.some.inj hk).symm));replace Q8:=kp (Q8.out.keep J10.out (by have:=N8.out;omega) (by have:=N8.out;omega));clear m10 g10 Kb8 Mb8 J10;unfold bareV at *;go_wp2_with fail
 refine(HB.out v10 9).mono ?_;rintro e w' ⟨rfl,rfl⟩;have JB9:=kp (show Keeps (fun k=>k=w3.heap.size) v10 (bareW v10 pb 9) from((Keeps.refl _ _).alloc _).alloc _);have Kb9:=kp (K10.out.trans_same JB9.out);have Mb9:=kp (M10.out.below (w':=bareW v10 pb 9) (((Below.refl _ _).alloc nlq _).alloc (by simp) _));have Q9:=kp (BareAt.made v10 pb 9);have N9:=kp (show w3.heap.size < v10.heap.size from M10.out.lt);replace Q8:=kp (Q8.out.keep JB9.out (by have:=N8.out;omega) (by have:=N8.out;omega));clear JB9;generalize bareW v10 pb 9=b9 at *;generalize v10.heap.size=n9 at *;obtain ⟨v11,u11,m11,g11⟩:=KeyMap.store (a:=sModel) (t:=131) (e:=1) Mb9.out string_key str_inj Tryz.underlying131 (by decide) (keyOf_str (by decide)) (bareV n9);replace u11:(Instr.mapUpdate 131 (.map (some w3.heap.size)) (.string { data:=#[103,101,116,45,109,111,100,101,108] }) (bareV n9)).run Tryz.prog b9=.ok () v11:=u11;have M11:=kp m11;have K11:=kp (Kb9.out.grown g11 (fun k hk=>.inl (Option.some.inj hk).symm));have J11:=kp (show Keeps (fun k=>k=w3.heap.size) b9 v11 from(Keeps.refl _ _).grown g11 (fun k hk=>.inl (Option.some.inj hk).symm));replace Q8:=kp (Q8.out.keep J11.out (by have:=N8.out;omega) (by have:=N8.out;omega));replace Q9:=kp (Q9.out.keep J11.out (by have:=N9.out;omega) (by have:=N9.out;omega));clear m11 g11 Kb9 Mb9 J11 K10;unfold bareV at *;go_wp2_with fail
 refine(HB.out v11 11).mono ?_;rintro e w' ⟨rfl,rfl⟩;have JB11:=kp (show Keeps (fun k=>k=w3.heap.size) v11 (bareW v11 pb 11) from((Keeps.refl _ _).alloc _).alloc _);have Kb11:=kp (K11.out.trans_same JB11.out);have Mb11:=kp (M11.out.below (w':=bareW v11 pb 11) (((Below.refl _ _).alloc nlq _).alloc (by simp) _));have Q11:=kp (BareAt.made v11 pb 11);have N11:=kp (show w3.heap.size < v11.heap.size from M11.out.lt);replace Q8:=kp (Q8.out.keep JB11.out (by have:=N8.out;omega) (by have:=N8.out;omega));replace Q9:=kp (Q9.out.keep JB11.out (by have:=N9.out;omega) (by have:=N9.out;omega));clear JB11;generalize bareW v11 pb 11=b11 at *;generalize v11.heap.size=n11 at *;obtain ⟨v12,u12,m12,g12⟩:=KeyMap.store (a:=sProof) (t:=131) (e:=1) Mb11.out string_key str_inj Tryz.underlying131 (by decide) (keyOf_str (by decide)) (bareV n11);replace u12:(Instr.mapUpdate 131 (.map (some w3.heap.size)) (.string { data:=#[103,101,116,45,112,114,111,111,102] }) (bareV n11)).run Tryz.prog b11=.ok () v12:=u12;have M12:=kp m12;have K12:=kp (Kb11.out.grown g12 (fun k hk=>.inl (Option.some.inj hk).symm));have J12:=kp (show Keeps (fun k=>k=w3.heap.size) b11 v12 from(Keeps.refl _ _).grown g12 (fun k hk=>.inl (Option.some.inj hk).symm));replace Q8:=kp (Q8.out.keep J12.out (by have:=N8.out;omega) (by have:=N8.out;omega));replace Q9:=kp (Q9.out.keep J12.out (by have:=N9.out;omega) (by have:=N9.out;omega))
 replace Q11:=kp (Q11.out.keep J12.out (by have:=N11.out;omega) (by have:=N11.out;omega));clear m12 g12 Kb11 Mb11 J12 K11;unfold bareV at *;go_wp2_with fail
 refine(HB.out v12 12).mono ?_;rintro e w' ⟨rfl,rfl⟩;have JB12:=kp (show Keeps (fun k=>k=w3.heap.size) v12 (bareW v12 pb 12) from((Keeps.refl _ _).alloc _).alloc _);have Kb12:=kp (K12.out.trans_same JB12.out);have Mb12:=kp (M12.out.below (w':=bareW v12 pb 12) (((Below.refl _ _).alloc nlq _).alloc (by simp) _));have Q12:=kp (BareAt.made v12 pb 12);have N12:=kp (show w3.heap.size < v12.heap.size from M12.out.lt);replace Q8:=kp (Q8.out.keep JB12.out (by have:=N8.out;omega) (by have:=N8.out;omega));replace Q9:=kp (Q9.out.keep JB12.out (by have:=N9.out;omega) (by have:=N9.out;omega));replace Q11:=kp (Q11.out.keep JB12.out (by have:=N11.out;omega) (by have:=N11.out;omega));clear JB12;generalize bareW v12 pb 12=b12 at *;generalize v12.heap.size=n12 at *;obtain ⟨v13,u13,m13,g13⟩:=KeyMap.store (a:=sExit) (t:=131) (e:=1) Mb12.out string_key str_inj Tryz.underlying131 (by decide) (keyOf_str (by decide)) (bareV n12);replace u13:(Instr.mapUpdate 131 (.map (some w3.heap.size)) (.string { data:=#[101,120,105,116] }) (bareV n12)).run Tryz.prog b12=.ok () v13:=u13;have M13:=kp m13;have K13:=kp (Kb12.out.grown g13 (fun k hk=>.inl (Option.some.inj hk).symm));have J13:=kp (show Keeps (fun k=>k=w3.heap.size) b12 v13 from(Keeps.refl _ _).grown g13 (fun k hk=>.inl (Option.some.inj hk).symm));replace Q8:=kp (Q8.out.keep J13.out (by have:=N8.out;omega) (by have:=N8.out;omega));replace Q9:=kp (Q9.out.keep J13.out (by have:=N9.out;omega) (by have:=N9.out;omega))
 replace Q11:=kp (Q11.out.keep J13.out (by have:=N11.out;omega) (by have:=N11.out;omega));replace Q12:=kp (Q12.out.keep J13.out (by have:=N12.out;omega) (by have:=N12.out;omega));clear m13 g13 Kb12 Mb12 J13 K12;unfold bareV at *;have B13:=kp (K13.out.below (B:=w3.heap.size) (fun k e=>by subst e;exact nlq) nlq);have HM:=kp (show KeyMap 9 Value.string v13 w3.heap.size 13 (formsF pb n8 n9 n11 n12) from M13.out);have BW13:=kp (BW.out.trans (B13.out.mono BW.out.size));have P13:=kp (PB.out.below B13.out);have X13:=kp ((B13.out.block _ (lt_of_block XB.out)).trans XB.out);have R13:=kp ((B13.out.block _ (lt_of_block RB.out)).trans RB.out);have HH:=kp (head_any (SexpR.lasts _ _ _ _ BW13.out HR.out));have HSM:=kp (fun W (hW:Below v13.heap.size v13 W)=>sxmay_any (SexpR.lasts _ _ _ _ (BW13.out.trans (hW.mono BW13.out.size)) HR.out));have HHs:=kp (head_size HR.out);have HPo:=kp (parseO_eq x);have HCm:=kp (show cmdO x=if x.may then parseO x else none from rfl);obtain ⟨_,_,e4,hl4,_⟩:=HR.out.open';simp only [List.cons.injEq,Value.slice.injEq,and_true,true_and] at e4;obtain ⟨rfl,rfl⟩:=e4;have HLx:=kp hl4;clear hl4 M0 M1 M2 M3 M4 M5 M6 M7 M8 M9 M10 M11 M12 M13 K0 K1 K2 K3 K4 K5 K6 K7 K8 K9 K13 u1 u2 u3 u4 u5 u6 u7 u8 u9 u10 u11 u12 XB PB RB HB BW;obtain ⟨x0,x1,x2,_⟩:=three_cells X13.out;go_wp2_with fail
 refine HH.out.mono ?_;rintro e w4 ⟨rfl,hb4⟩;have B4:=kp hb4;have P4:=kp (P13.out.below hb4);have X4:=kp ((hb4.block _ (lt_of_block X13.out)).trans X13.out);have R4:=kp ((hb4.block _ (lt_of_block R13.out)).trans R13.out);have hlk:=(HM.out.below hb4).look (a:=headS x) string_key Tryz.underlying131 (zero_func w4) (keyOf_str HHs.out);clear hb4 P13 X13 R13 HM HH x0 x1 x2
 cases hF:formsF pb n8 n9 n11 n12 (headS x) with
 | none =>
  rw [hF] at hlk;replace hlk:(Instr.lookup 131 (.map (some w3.heap.size)) (.string (headS x)) true).run Tryz.prog w4=.ok (.tuple #[.nilFunc,.bool false]) w4:=hlk;have HO:=kp (show cmdO x=none by rw [HCm.out,HPo.out,forms_none hF];split <;> rfl)
  clear hF HSM;obtain ⟨z0,z1,z2,z3,z4,z5,z6,z7,zf⟩:=eight_cells R4.out;go_wp2_with fail
  exact parse_ret (w:=set8 w4 (w.heap.size+1) (.int .i8 0) (.string { data:=#[] }) (.int .i64 0) (.slice none 0 0) (.slice none 0 0) (.slice none 0 0) (.string { data:=#[] }) (.slice none 0 0)) (eight_set R4.out _ _ _ _ _ _ _ _) rfl rfl rfl rfl
   (cmdRes_none HO.out 30 (set8_keeps (S:=fun _=>False) (Keeps.of_below (BW13.out.trans (B4.out.mono BW13.out.size)) _) (.inr (by omega)) _ _ _ _ _ _ _ _).none_below)
 | some fv =>
  rw [hF] at hlk;have HFs:=kp (fun W (hW:Keeps (fun _=>False) v13 W) h0=>forms_some (W0:=w) (w:=W) (c:=c) (A:=A) (xs:=x.l) hF HLx.out HPb.out h0 (Q8.out.keep hW id id) (Q9.out.keep hW id id) (Q11.out.keep hW id id) (Q12.out.keep hW id id))
  have h0:0 < x.l.length:=by
   cases hx:x.l with
   | nil =>
    have e:headS x={ data:=#[] }:=by unfold headS;rw [hx]
    rw [e] at hF
    rw [show formsF pb n8 n9 n11 n12 { data:=#[] }=none by
     unfold formsF;simp only [show ¬ (⟨#[]⟩:ByteArray)=sExit by decide,show ¬ (⟨#[]⟩:ByteArray)=sProof by decide,show ¬ (⟨#[]⟩:ByteArray)=sModel by decide,show ¬ (⟨#[]⟩:ByteArray)=sCheck by decide,show ¬ (⟨#[]⟩:ByteArray)=sValue by decide,show ¬ (⟨#[]⟩:ByteArray)=sPop by decide,show ¬ (⟨#[]⟩:ByteArray)=sPush by decide,show ¬ (⟨#[]⟩:ByteArray)=sAssert by decide,show ¬ (⟨#[]⟩:ByteArray)=sDefine by decide,show ¬ (⟨#[]⟩:ByteArray)=sFun by decide,show ¬ (⟨#[]⟩:ByteArray)=sSort by decide,show ¬ (⟨#[]⟩:ByteArray)=sOption by decide,show ¬ (⟨#[]⟩:ByteArray)=sLogic by decide,if_false]] at hF
    cases hF
   | cons y r=>simp
  have HFc:=kp (fun W hW=>HFs.out W hW h0);clear hF HFs;generalize hhd:headS x=hd at *
  cases fv with
  | func fn f cp =>
   obtain ⟨kk,f',cp',e,hcf,_⟩:=HFc.out v13 (Keeps.refl _ _);simp only [Value.func.injEq] at e;obtain ⟨rfl,rfl,rfl⟩:=e
   have HFn:=kp (fun W (hW:Keeps (fun _=>False) v13 W) hP hB=>show Calls Tryz.prog kk (f ++ #[] ++ cp) W (FormPost w.heap.size W pb (.slice A x.l.length c) (formO hd x.l.tail)) by
    obtain ⟨kk',f',cp',e,_,hc⟩:=HFc.out W hW;simp only [Value.func.injEq,Fn.func.injEq] at e;obtain ⟨rfl,rfl,rfl⟩:=e;exact hc W (Keeps.refl _ _) hP hB)
   clear HFc;replace hlk:(Instr.lookup 131 (.map (some w3.heap.size)) (.string hd) true).run Tryz.prog w4=.ok (.tuple #[.func (.func kk) f cp,.bool true]) w4:=hlk;obtain ⟨x0,x1,x2,_⟩:=three_cells X4.out;go_wp2_with fail
   refine(HSM.out _ B4.out).mono ?_;rintro e w5 ⟨rfl,hb5⟩;have B5:=kp (B4.out.trans (hb5.mono B4.out.size));have P5:=kp (P4.out.below hb5);have R5:=kp ((hb5.block _ (lt_of_block R4.out)).trans R4.out);clear hb5 x0 x1 x2 hlk P4 R4 X4 HSM
   cases hmy:x.may with
   | false =>
    have HO:=kp (show cmdO x=none by rw [HCm.out,hmy];rfl);obtain ⟨z0,z1,z2,z3,z4,z5,z6,z7,zf⟩:=eight_cells R5.out;go_wp2_with fail
    exact parse_ret (w:=set8 w5 (w.heap.size+1) (.int .i8 0) (.string { data:=#[] }) (.int .i64 0) (.slice none 0 0) (.slice none 0 0) (.slice none 0 0) (.string { data:=#[] }) (.slice none 0 0)) (eight_set R5.out _ _ _ _ _ _ _ _) rfl rfl rfl rfl
     (cmdRes_none HO.out 30 (set8_keeps (S:=fun _=>False) (Keeps.of_below (BW13.out.trans (B5.out.mono BW13.out.size)) _) (.inr (by omega)) _ _ _ _ _ _ _ _).none_below)
   | true =>
    have HO:=kp (show cmdO x=formO hd x.l.tail by rw [HCm.out,hmy,if_pos rfl,HPo.out]);have HF5:=kp (HFn.out w5 (Keeps.of_below B5.out _) P5.out (BW13.out.trans (B5.out.mono BW13.out.size)));clear HFn;go_wp2_with fail
    rw [show f ++ cp=f ++ #[] ++ cp by simp];refine HF5.out.mono ?_;rintro e w6 ⟨cv,b,rfl,h6,k6,m6⟩;have P6:=kp h6;have R6:=kp ((k6.block _ (lt_of_block R5.out) (by have:=HRb.out;omega)).trans R5.out);have B6:=kp ((BW13.out.trans (B5.out.mono BW13.out.size)).trans (keepP_below k6 HPb.out (Nat.le_trans BW13.out.size B5.out.size)));have M6:=kp m6;have p9:=h6.badc;obtain ⟨z0,z1,z2,z3,z4,z5,z6,z7,zf⟩:=eight_cells R6.out;clear h6 k6 m6 HF5
    cases b with
    | true =>
     have HO2:=kp (show cmdO x=none by
      have:=M6.out w6 (Keeps.refl _ _);rw [HO.out]
      cases hq:formO hd x.l.tail with
      | none=>rfl
      | some cc=>rw [hq] at this;cases this.1)
     go_wp2_with fail
     exact parse_ret (w:=set8 w6 (w.heap.size+1) (.int .i8 0) (.string { data:=#[] }) (.int .i64 0) (.slice none 0 0) (.slice none 0 0) (.slice none 0 0) (.string { data:=#[] }) (.slice none 0 0)) (eight_set R6.out _ _ _ _ _ _ _ _) rfl rfl rfl rfl
      (cmdRes_none HO2.out 30 (set8_keeps (S:=fun _=>False) (Keeps.of_below B6.out _) (.inr (by omega)) _ _ _ _ _ _ _ _).none_below)
    | false =>
     obtain ⟨cc,hcc⟩:∃ cc,formO hd x.l.tail=some cc:=by
      have:=M6.out w6 (Keeps.refl _ _)
      cases hq:formO hd x.l.tail with
      | none=>rw [hq] at this;cases this
      | some cc=>exact⟨cc,rfl⟩
     have HO2:=kp (HO.out.trans hcc);have HMd:=kp (fun W' hW'=>show CmdR W' (cells8 cv) cc by have:=M6.out W' hW';rw [hcc] at this;exact this.2);obtain ⟨A1,d1,A2,d2,A3,d3,A4,d4,e8,_⟩:=HMd.out w6 (Keeps.refl _ _);replace HMd:=kp (fun W' hW'=>show CmdR W' [.int .i8 cc.kind,.string cc.name,.int .i64 cc.n,.slice A1 cc.l.length d1,.slice A2 cc.args.length d2,.slice A3 cc.params.length d3,.string cc.res,.slice A4 cc.terms.length d4] cc by have:=HMd.out W' hW';rw [e8] at this;exact this);unfold cells8 cmdCells at e8;simp only [List.cons.injEq,and_true] at e8;obtain ⟨y0,y1,y2,y3,y4,y5,y6,y7⟩:=e8;have c0:=P6.out.cell 0 (by omega);have c1:=P6.out.cell 1 (by omega);have c2:=P6.out.cell 2 (by omega);have c3:=P6.out.cell 3 (by omega);have c4:=P6.out.cell 4 (by omega);have c5:=P6.out.cell 5 (by omega);have c6:=P6.out.cell 6 (by omega);have c7:=P6.out.cell 7 (by omega);rw [y0] at c0;rw [y1] at c1;rw [y2] at c2;rw [y3] at c3;rw [y4] at c4;rw [y5] at c5;rw [y6] at c6;rw [y7] at c7;clear y0 y1 y2 y3 y4 y5 y6 y7;clear hcc M6;go_wp2_with fail
     exact parse_ret (w:=set8 w6 (w.heap.size+1) (.int .i8 cc.kind) (.string cc.name) (.int .i64 cc.n) (.slice A1 cc.l.length d1) (.slice A2 cc.args.length d2) (.slice A3 cc.params.length d3) (.string cc.res) (.slice A4 cc.terms.length d4)) (eight_set R6.out _ _ _ _ _ _ _ _) rfl rfl rfl rfl
      (cmdRes_some HO2.out 30 (set8_keeps (S:=fun _=>False) (Keeps.of_below B6.out _) (.inr (by omega)) _ _ _ _ _ _ _ _).none_below (HMd.out _ (set8_keeps (Keeps.refl _ _) (.inl ⟨by omega,HRb.out⟩) _ _ _ _ _ _ _ _)))
  | _=>obtain ⟨kk,f',cp',e,_⟩:=HFc.out v13 (Keeps.refl _ _);cases e
end Cm
end Go.Proofs.YtmcbolkpbklfeaaGreatDoor

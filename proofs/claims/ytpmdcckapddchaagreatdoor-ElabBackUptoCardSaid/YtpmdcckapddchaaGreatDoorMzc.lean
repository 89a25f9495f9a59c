import Derived.Test.YtpmdcckapddchaaGreatDoorShort
import Derived.Test.YtpmdcckapddchaaGreatDoorMy
import Derived.Test.YtpmdcckapddchaaGreatDoorMw
import Derived.Test.YtpmdcckapddchaaGreatDoorMb
import Derived.Test.YtpmdcckapddchaaGreatDoorMa
import Derived.Test.YtpmdcckapddchaaGreatDoorMd
import Derived.Test.YtpmdcckapddchaaGreatDoorShelf
import Derived.Deep.RegionHeld3
/- merged by wip/merge.py from: ElMid ElRow ElAll ElDiff ElHeld ElSum ElBound ElCore ElAlike ElEqual ElDist -/
set_option maxRecDepth 100000
set_option maxHeartbeats 51200000
namespace Go.Proofs.YtpmdcckapddchaaGreatDoor
namespace El
open Go.RowKit Go.Maps Dt Sg
theorem Far.call {W:World} {t t':List Node} {At At':Option Addr} {k:Nat} (h:Far k t At) (ht:TN W.heap.size t At t' At') (hk:k < W.heap.size):Far k t' At':=Far.of_tn h ht hk
structure Mid (F:Fix) (known:Int) (w:World) (t:List Node) (At:Option Addr) (rb:Nat) (W:World) (st':St) (A':Option Addr) (c':Nat):Prop where
 maker:Mk F W known st' A' c'
 keeps:Keeps (onMb F) w W
 tn:TN w.heap.size t At st'.t A'
 far:Far rb st'.t A'
 cell:W.heap[rb]?=some (.cells #[.int .i64 0,.int .i64 0] 82 (0,0))
 lt:F.mb < w.heap.size
 le:w.heap.size<=rb
section
variable {F:Fix} {known:Int} {w W W7:World} {st st' s7:St} {t:List Node} {At A' A7:Option Addr} {rb ct c' c7:Nat}
theorem Mid.new (hm:Mk F w known st At ct):Mid F known w st.t At w.heap.size (w.alloc (.cells #[.int .i64 0,.int .i64 0] 82)) st At ct :=
 ⟨hm.keep ((Below.refl _ _).alloc nlq _),Keeps.of_below ((Below.refl _ _).alloc nlq _) _,TN.refl _ _ _,hm.new_far nlq,Bk.new w _,hm.lt,nlq⟩
theorem Mid.newOn (hm:Mk F w known st At ct) (hb:Below w.heap.size w W):Mid F known w st.t At W.heap.size (W.alloc (.cells #[.int .i64 0,.int .i64 0] 82)) st At ct :=
 ⟨hm.keep (hb.alloc hb.size _),Keeps.of_below (hb.alloc hb.size _) _,TN.refl _ _ _,hm.new_far hb.size,Bk.new W _,hm.lt,hb.size⟩
theorem Mid.ne (h:Mid F known w t At rb W st' A' c') {k:Nat} (hk:w.heap.size<=k):¬ onMb F k:=by
 have:=h.lt;unfold onMb;omega
theorem Mid.size (h:Mid F known w t At rb W st' A' c'):rb < W.heap.size:=lt_of_block h.cell
theorem Mid.below (h:Mid F known w t At rb W st' A' c') (hb:Below W.heap.size W W7):Mid F known w t At rb W7 st' A' c' :=
 ⟨h.maker.keep hb,h.keeps.trans_same (Keeps.of_below hb _),h.tn,h.far,Bk.on h.cell hb,h.lt,h.le⟩
theorem Mid.alloc (h:Mid F known w t At rb W st' A' c') (o:Obj):Mid F known w t At rb (W.alloc o) st' A' c':=h.below ((Below.refl _ _).alloc nlq o)
theorem Mid.drew (h:Mid F known w t At rb W st' A' c'):Mid F known w t At rb W.drew st' A' c':=h.below (Below.refl _ _).drew
theorem Mid.call (h:Mid F known w t At rb W st' A' c') (hk:Keeps (onMb F) W W7) (hm:Mk F W7 known s7 A7 c7) (ht:TN W.heap.size st'.t A' s7.t A7):Mid F known w t At rb W7 s7 A7 c7 :=
 ⟨hm,h.keeps.trans_same hk,h.tn.trans ht h.keeps.size,Far.of_tn h.far ht h.size,(hk.block rb h.size (h.ne h.le)).trans h.cell,h.lt,h.le⟩
theorem Mid.other (hF:FixOk F) (h:Mid F known w t At rb W st' A' c') {k:Nat} (hk:w.heap.size<=k) (hn:k≠rb) (hf:Far k st'.t A') (j:Nat) (u:Value):Mid F known w t At rb (W.setCell ⟨k,j,none⟩ u) st' A' c' :=
 ⟨h.maker.other hF (by have:=h.lt;omega) hf j u,h.keeps.setCell (p:=⟨k,j,none⟩) (.inr hk) u,h.tn,h.far,Bk.apart h.cell (p:=⟨k,j,none⟩) (Ne.symm hn) u,h.lt,h.le⟩
theorem Mid.blk (h:Mid F known w t At rb W st' A' c') (hk:Keeps (onMb F) W W7) {k:Nat} {o:Obj} (hb:W.heap[k]?=some o) (hw:w.heap.size<=k):W7.heap[k]?=some o:=(hk.block k (lt_of_block hb) (h.ne hw)).trans hb
theorem Mid.fresh (h:Mid F known w t At rb W st' A' c') {k:Nat} (hk:W.heap.size<=k):Far k st'.t A':=h.maker.new_far hk
theorem Mid.ret (hF:FixOk F) (h:Mid F known w t At rb W st' A' c') {f:Func} {k:Nat} {v:V} {act:Act} (hf:f.results=#[.cell k 82]) (h2:act.tmps[k]?=some (.pointer (some ⟨rb,0,none⟩))) (hd:act.defers=[]) (hv:VI v) :
  bodyPost Tryz.prog f (MkPost F known w t At v st') .ret act ((W.setCell ⟨rb,0,none⟩ (.int .i64 v.1)).setCell ⟨rb,1,none⟩ (.int .i64 v.2)) :=
 mk_end hF hf h.maker h.lt h.keeps h.tn h.le h.far h.cell h2 hd hv
end
theorem ValsS.below {F:Fix} {w w':World} {L:Option Addr} {l:List V} (h:ValsS F w L l) (hb:Below w.heap.size w w'):ValsS F w' L l:=h.on (Keeps.of_below hb _)
theorem EnvS.below {F:Fix} {w w':World} {p:Option Addr} {env:Env} (h:EnvS F w p env) (hb:Below w.heap.size w w'):EnvS F w' p env:=h.on (Keeps.of_below hb _)
theorem EnvS.now {F:Fix} {w:World} {p:Option Addr} {env:Env} (h:EnvS F w p env):∃ ls:List Env,ls.flatten=env/\EnvR w p ls:=by
 obtain ⟨ls,h1,h2⟩:=h;exact⟨ls,h1,h2.now⟩
end El
namespace El
open Go.RowKit Go.Maps Dt Sg
def vv (v:V):List Value:=[.int .i64 v.1,.int .i64 v.2]
theorem info_val:(Tryz.prog.info? 82).map (fun i=>(i.zero,i.size,i.bytes))=some (some (.agg #[.int .i64 0,.int .i64 0]),2,16):=by kernel_rfl
structure VRow (base:Nat) (t:List Node) (At:Option Addr) (w:World) (v:Value) (vs:List V):Prop where
 own:w.ownsRow base 82 2 v vs.length (flatV vv vs)
 vi:∀ u ∈ vs,VI u
 far:∀ g,v.ownBlock=some g->Far g t At
section
variable {F:Fix} {base:Nat} {t t7:List Node} {At A7:Option Addr} {w w':World} {v:Value} {vs:List V}
theorem VRow.nil (base:Nat) (t:List Node) (At:Option Addr) (w:World):VRow base t At w (.slice none 0 0) []:=⟨⟨by simp [flatV],.inl ⟨rfl,rfl⟩⟩,fun u hu=>(by cases hu),fun g hg=>(by cases hg)⟩
theorem VRow.shape (h:VRow base t At w v vs):∃ A c,v=.slice A vs.length c/\vs.length<=c/\c<=maxLen:=by
 rcases h.own.2 with⟨h1,h2⟩ | ⟨g,cap,cur,h1,_,_,h2,h3,_⟩
 ·exact⟨none,0,by rw [h2];exact h1,by omega,by unfold maxLen;omega⟩
 ·exact⟨_,cap,h1,h2,h3⟩
theorem VRow.lies {A:Option Addr} {k c:Nat} (h:VRow base t At w (.slice A k c) vs):Lies 2 ValR w A vs:=by
 rcases h.own.2 with⟨h1,h2⟩ | ⟨g,cap,cur,h1,hg,hat,h2,h3,h4,h5⟩
 ·exact .inl (List.length_eq_zero_iff.1 h2)
 ·simp only [Value.slice.injEq] at h1;refine .inr ⟨g,0,h1.1,lt_of_block hat,fun i x hx=>?_⟩;refine⟨vv x,rfl,fun j u hu=>?_,rfl,h.vi x (mgq hx)⟩;rw [Nat.zero_add,cell_of_row w g (i * 2+j) cur 82 (0,0) hat];have:=flatV_at (n:=2) (val:=vv) (fun _=>rfl) vs i x hx j u hu;rw [← h5,List.getElem?_take] at this
  split at this
  ·simpa using this
  ·cases this
theorem VRow.keep (h:VRow base t At w v vs) (hk:Keeps (onMb F) w w') (hb:F.mb < base):VRow base t At w' v vs :=
 ⟨owns_keepE h.own hk (fun k hk=>by unfold onMb at hk;omega),h.vi,h.far⟩
theorem VRow.below (h:VRow base t At w v vs) (hb:Below w.heap.size w w'):VRow base t At w' v vs :=
 ⟨owns_keepE h.own (Keeps.of_below hb (fun _=>False)) (fun _ hk=>hk.elim),h.vi,h.far⟩
theorem VRow.call (h:VRow base t At w v vs) (hk:Keeps (onMb F) w w') (ht:TN w.heap.size t At t7 A7) (hb:F.mb < base):VRow base t7 A7 w' v vs :=
 ⟨(h.keep hk hb).own,h.vi,fun g hg=>Far.of_tn (h.far g hg) ht (h.own.lt g hg).2⟩
theorem VRow.valsS {A:Option Addr} {n c:Nat} (h:VRow base t At w (.slice A n c) vs) (hb:F.mb < base):ValsS F w A vs:=fun _ hW=>(h.keep hW hb).lies
theorem VRow.push {w9:World} {v':Value} {u:V} (h:VRow base t At w v vs) (ho:w9.ownsRow base 82 2 v' (vs.length+1) (flatV vv vs ++ vv u)) (hu:VI u) (hat:v'.ownBlock=v.ownBlock\/v'.ownBlock=some w.heap.size) (hn:Far w.heap.size t At):VRow base t At w9 v' (vs ++ [u]):=by
 refine⟨by rw [List.length_append,flatV_snoc];exact ho,fun x hx=>?_,fun g hg=>?_⟩
 ·rcases List.mem_append.1 hx with hx | hx
  ·exact h.vi x hx
  ·obtain rfl:x=u:=by simpa using hx
   exact hu
 ·rcases hat with e | e
  ·exact h.far g (e ▸ hg)
  ·rw [e] at hg;cases hg;exact hn
theorem Mid.grown {known:Int} {w0 W W9:World} {t0:List Node} {At0:Option Addr} {rb:Nat} {st':St} {A':Option Addr} {c':Nat} (hF:FixOk F) (h:Mid F known w0 t0 At0 rb W st' A' c') (hr:VRow base st'.t A' W v vs) (hg:W.grownBy W9 v.ownBlock) (hb:rb < base):Mid F known w0 t0 At0 rb W9 st' A' c':=by
 have hle:=h.le;have hlt:=h.lt;have hk:Keeps (fun k=>v.ownBlock=some k) W W9:=(Keeps.refl _ W).grown hg (fun j hj=>.inl hj);refine⟨h.maker.same hk (fun e=>by have:=(hr.own.lt _ e).1;omega) (fun hn b o e hb=>hr.far b hb hn b o e rfl) (fun k e=>by have:=(hr.own.lt k e).1;have:=hF.lt;omega),?_,h.tn,h.far,(hk.block rb h.size (fun e=>by have:=(hr.own.lt _ e).1;omega)).trans h.cell,h.lt,h.le⟩;exact h.keeps.grown hg (fun j hj=>.inr (by have:=(hr.own.lt j hj).1;omega))
theorem val_cells {W:World} {b:Nat} {u:V} (h:W.heap[b]?=some (.cells #[.int .i64 u.1,.int .i64 u.2] 82 (0,0))):Cells W (some ⟨b,0,none⟩) (vv u):=by
 obtain ⟨c0,c1,_⟩:=Bk.c2 h;refine .inr ⟨b,0,rfl,lt_of_block h,fun j x hx=>?_⟩
 match j,hx with
 | 0,hx=>cases hx;exact c0
 | 1,hx=>cases hx;exact c1
 | j+2,hx=>simp [vv] at hx
theorem push_val {ops:Array Oper} {rest:List Oper} {o:Oper} {a:Act} {Q:Exit->Act->World->Prop} (hgd:o.guard=none) (s x:Operand) (ho:o.op=.call { callee:=.builtin .append,args:=#[s,x],argTypes:=#[154,154] })
  {Ao:Option Addr} {co b:Nat} {u:V} (hs:a.eval s=.slice Ao vs.length co) (h:VRow base t At w (.slice Ao vs.length co) vs) (hx:a.eval x=.slice (some ⟨b,0,none⟩) 1 1) (hb:w.heap[b]?=some (.cells #[.int .i64 u.1,.int .i64 u.2] 82 (0,0))) (hu:VI u) (hlen:vs.length < 8000000000000) (hbase:base<=w.heap.size) (hn:Far w.heap.size t At)
  (hK:∀ A9 c9 w9,VRow base t At w9 (.slice A9 (vs.length+1) c9) (vs ++ [u])->w.grownBy w9 (Value.slice Ao vs.length co).ownBlock->(∀ g,(Value.slice A9 (vs.length+1) c9).ownBlock=some g->(Value.slice Ao vs.length co).ownBlock=some g\/g=w.heap.size)->wpList Tryz.prog ops Q rest (a.put o.dst (.slice A9 (vs.length+1) c9)) w9):wpList Tryz.prog ops Q (o :: rest) a w:=by
 obtain ⟨i0,hi0,z0,z1,z2⟩:=info_parts info_val;refine wpList_append_at hgd s x _ ho base 82 i0 (.agg #[.int .i64 0,.int .i64 0]) 2 16 Tryz.underlying154 hi0 z0 z1 z2 rfl (by decide) (.slice Ao vs.length co) vs.length (flatV vv vs) hs h.own (some ⟨b,0,none⟩) 1 1 (vv u) hx rfl (val_cells hb) (by simp [vv,Value.oneCell']) (by unfold maxLen;omega) (by omega) hbase ?_;intro v' w9 hown hgr hat;have hp:=h.push hown hu hat hn;obtain ⟨A9,c9,hv,_,_⟩:=hp.shape;rw [List.length_append] at hv;subst hv;refine hK A9 c9 w9 hp hgr (fun g hg=>?_);rcases (show(Value.slice A9 (vs.length+1) c9).ownBlock=(Value.slice Ao vs.length co).ownBlock\/(Value.slice A9 (vs.length+1) c9).ownBlock=some w.heap.size from hat) with e | e
 ·exact .inl (e ▸ hg)
 ·rw [e] at hg;cases hg;exact .inr rfl
theorem push_step {ops:Array Oper} {o:Oper} {a:Act} {K:Act->World->Prop} {Q:Exit->Act->World->Prop} {E:Prop} (hgd:o.guard=none) (s x:Operand) (ho:o.op=.call { callee:=.builtin .append,args:=#[s,x],argTypes:=#[154,154] })
  {Ao:Option Addr} {co b:Nat} {u:V} (hs:a.eval s=.slice Ao vs.length co) (h:VRow base t At w (.slice Ao vs.length co) vs) (hx:a.eval x=.slice (some ⟨b,0,none⟩) 1 1) (hb:w.heap[b]?=some (.cells #[.int .i64 u.1,.int .i64 u.2] 82 (0,0))) (hu:VI u) (hlen:vs.length < 8000000000000) (hbase:base<=w.heap.size) (hn:Far w.heap.size t At)
  (hK:∀ A9 c9 w9,VRow base t At w9 (.slice A9 (vs.length+1) c9) (vs ++ [u])->w.grownBy w9 (Value.slice Ao vs.length co).ownBlock->(∀ g,(Value.slice A9 (vs.length+1) c9).ownBlock=some g->(Value.slice Ao vs.length co).ownBlock=some g\/g=w.heap.size)->K (a.put o.dst (.slice A9 (vs.length+1) c9)) w9) :
  if Region.wanted o (yielded ops a.tmps)=true then Oper.wp Tryz.prog o a w K Q else E:=by
 obtain ⟨i0,hi0,z0,z1,z2⟩:=info_parts info_val;refine step_append_at hgd s x _ ho base 82 i0 (.agg #[.int .i64 0,.int .i64 0]) 2 16 Tryz.underlying154 hi0 z0 z1 z2 rfl (by decide) (.slice Ao vs.length co) vs.length (flatV vv vs) hs h.own (some ⟨b,0,none⟩) 1 1 (vv u) hx rfl (val_cells hb) (by simp [vv,Value.oneCell']) (by unfold maxLen;omega) (by omega) hbase ?_;intro v' w9 hown hgr hat;have hp:=h.push hown hu hat hn;obtain ⟨A9,c9,hv,_,_⟩:=hp.shape;rw [List.length_append] at hv;subst hv;refine hK A9 c9 w9 hp hgr (fun g hg=>?_);rcases (show(Value.slice A9 (vs.length+1) c9).ownBlock=(Value.slice Ao vs.length co).ownBlock\/(Value.slice A9 (vs.length+1) c9).ownBlock=some w.heap.size from hat) with e | e
 ·exact .inl (e ▸ hg)
 ·rw [e] at hg;cases hg;exact .inr rfl
def ValsN (base:Nat) (w:World) (L:Option Addr) (vs:List V):Prop:=∀ W,w.heap.size<=W.heap.size->SameIn base w.heap.size w W->Lies 2 ValR W L vs
theorem ValsN.now {L:Option Addr} (h:ValsN base w L vs):Lies 2 ValR w L vs:=h w nlq (SameIn.refl _ _ _)
theorem ValsN.on {L:Option Addr} (h:ValsN base w L vs) (hz:w.heap.size<=w'.heap.size) (hs:SameIn base w.heap.size w w'):ValsN base w' L vs:=fun W hW hS=>h W (Nat.le_trans hz hW) (hs.trans (hS.part nlq hz))
theorem ValsN.keep {L:Option Addr} (h:ValsN base w L vs) (hk:Keeps (onMb F) w w') (hb:F.mb < base):ValsN base w' L vs:=h.on hk.size (SameIn.keeps hk nlq (fun b a _ hs=>by unfold onMb at hs;omega))
theorem ValsN.below {L:Option Addr} (h:ValsN base w L vs) (hb:Below w.heap.size w w'):ValsN base w' L vs:=h.on hb.size (SameIn.of_below hb nlq)
theorem ValsN.set {L:Option Addr} (h:ValsN base w L vs) {p:Addr} (u:Value) (hp:p.block < base):ValsN base (w.setCell p u) L vs:=h.on (by simp [World.setCell]) (SameIn.setCell _ _ _ _ _ (.inl hp))
theorem ValsN.valsS {L:Option Addr} (h:ValsN base w L vs) (hb:F.mb < base):ValsS F w L vs:=fun _ hW=>(h.keep hW hb).now
theorem VRow.valsN {A:Option Addr} {n c:Nat} (h:VRow base t At w (.slice A n c) vs):ValsN base w A vs:=by
 intro W hz hS;refine VRow.lies (base:=base) (t:=t) (At:=At) (k:=n) (c:=c) ⟨?_,h.vi,h.far⟩;refine⟨h.own.1,?_⟩;rcases h.own.2 with h1 | ⟨g,cap,cur,h1,hg,hat,h2⟩
 ·exact .inl h1
 ·exact .inr ⟨g,cap,cur,h1,hg,(hS g hg (lt_of_block hat)).trans hat,h2⟩
end
end El
namespace El
open Go.RowKit Go.Maps Dt Sg
def TermC (F:Fix) (known:Nat) (x:Sexp):Prop:=∀ {w:World} {st:St} {At:Option Addr} {ct:Nat} {A:Option Addr} {c:Nat} {p:Option Addr} {env:Env},Mk F w known st At ct->XAt F.W0 A c x->EnvS F w p env ->
 Calls Tryz.prog 30 #[.pointer (some ⟨F.mb,0,none⟩),.agg #[.int .i8 x.kind,.string x.text,.slice A x.l.length c],.pointer p] w (MkPost F known w st.t At (termP F.c known x env st).1 (termP F.c known x env st).2)
def AllPost (F:Fix) (known:Int) (w:World) (t:List Node) (At:Option Addr) (vs:List V) (st':St) (e:Ending) (w':World):Prop :=
 ∃ L cl,e=.returned (.slice L vs.length cl)/\vs.length<=cl/\cl<=maxLen/\ValsN w.heap.size w' L vs/\Keeps (onMb F) w w'/\∃ A' c',Mk F w' known st' A' c'/\TN w.heap.size t At st'.t A'
theorem allM_len (r:Sexp->St->V × St):∀ (l:List Sexp) (st:St),(allM r l st).1.length=l.length
 | [],_=>rfl
 | x :: l,st=>by unfold allM;simp [allM_len r l]
theorem xs_get {W0:World} {A:Option Addr} {l:List Sexp} (h:Lies 3 SexpR W0 A l) {k:Nat} {y:Sexp} (hy:l[k]?=some y):∃ b o A' c',A=some ⟨b,o,none⟩/\XAt W0 A' c' y /\
  ∀ W,Below W0.heap.size W0 W->W.cell? ⟨b,o+k * 3,none⟩=some (.int .i8 y.kind)/\W.cell? ⟨b,o+k * 3+1,none⟩=some (.string y.text)/\W.cell? ⟨b,o+k * 3+2,none⟩=some (.slice A' y.l.length c'):=by
 obtain ⟨b,o,A',c',rfl,hbl,e0,e1,e2,hr⟩:=sexp_cells h hy;exact⟨b,o,A',c',rfl,hr,fun W hW=>⟨(hW.cell (p:=⟨b,_,none⟩) hbl).trans e0,(hW.cell (p:=⟨b,_,none⟩) hbl).trans e1,(hW.cell (p:=⟨b,_,none⟩) hbl).trans e2⟩⟩
theorem all_any {F:Fix} (hF:FixOk F) {known:Nat} {l:List Sexp} (hT:∀ y ∈ l,TermC F known y) {w:World} {st:St} {At:Option Addr} {ct:Nat} (hm:Mk F w known st At ct) {A:Option Addr} (c:Nat) (hl:Lies 3 SexpR F.W0 A l) (hll:l.length<=3000000) {p:Option Addr} {env:Env} (he:EnvS F w p env) :
  Calls Tryz.prog 96 #[.pointer (some ⟨F.mb,0,none⟩),.slice A l.length c,.pointer p] w (AllPost F known w st.t At (allM (fun y=>termP F.c known y env) l st).1 (allM (fun y=>termP F.c known y env) l st).2):=by
 have HT:=kp hT;have HL:=kp hl;have HE:=kp he;have hlt:=hm.lt;have HW0:=kp hm.below;generalize hr:(fun y=>termP F.c known y env)=r;have HRf:=kp (fun y s=>show termP F.c known y env s=r y s by rw [← hr]);clear hr hT hl he;have HS:=kp (show allM r l st=([] ++ (allM r (l.drop 0) st).1,(allM r (l.drop 0) st).2) by simp);have HLn:=kp (allM_len r l st);generalize hres:allM r l st=res at *;clear hres;have M0:=kp hm;clear hm
 go_enter Tryz.func96,Tryz.ntmps96
 go_wp2_with fail
 go_loopw [6,11] (fun v' i' wr=>∃ (k:Nat) (vs:List V) (st':St) (A':Option Addr) (c':Nat),k<=l.length/\i'=.int .i64 k/\vs.length=k/\res=(vs ++ (allM r (l.drop k) st').1,(allM r (l.drop k) st').2)/\VRow w.heap.size st'.t A' wr v' vs/\Mk F wr known st' A' c'/\Keeps (onMb F) w wr/\TN w.heap.size st.t At st'.t A') (fun _ i' _=>l.length - (intOf i').toNat)
 case atStart=>exact⟨0,[],st,At,ct,Nat.zero_le _,rfl,rfl,HS.out,VRow.nil _ _ _ _,M0.out,Keeps.refl _ _,TN.refl _ _ _⟩
 case round =>
  obtain ⟨k,vs,st',A',c',hk,rfl,hvl,hres,hrow,hmk,hkp,htn⟩:=hrel;have HRes:=kp hres;have HRow:=kp hrow;have MR:=kp hmk;have KR:=kp hkp;have TR:=kp htn;obtain ⟨Ao,co,rfl,_,_⟩:=hrow.shape;clear hres hrow hmk hkp htn
  by_cases hkl:k < l.length
  ·have hlt2:(k:Int) < (l.length:Int):=by omega
   obtain ⟨y,hy⟩:∃ y,l[k]?=some y:=⟨_,gqe hkl⟩
   have HDr:=kp (show l.drop k=y :: l.drop (k+1) by
    rw [List.drop_eq_getElem_cons hkl];rw [gqe hkl] at hy;simp at hy;rw [hy])
   rw [HDr.out] at HRes;replace HRes:=kp (show res=(vs ++ ((r y st').1 :: (allM r (l.drop (k+1)) (r y st').2).1),(allM r (l.drop (k+1)) (r y st').2).2) from HRes.out);obtain ⟨b,o,Ay,cy,rfl,hx,hcells⟩:=xs_get HL.out hy;obtain ⟨e0,e1,e2⟩:=hcells wr MR.out.below;have BA:=kp ((brq wr).alloc nlq (.cells #[.int .i8 y.kind,.string y.text,.slice Ay y.l.length cy] 40));have YA:=kp (Bk.new wr (.cells #[.int .i8 y.kind,.string y.text,.slice Ay y.l.length cy] 40));have HC:=kp (HT.out y (mgq hy) (MR.out.keep BA.out) hx (HE.out.on (KR.out.trans_same (Keeps.of_below BA.out _))));rw [HRf.out] at HC;generalize r y st'=pr at *;obtain ⟨pv,ps⟩:=pr;have RA:=kp (HRow.out.below BA.out);have KA:=kp (KR.out.trans_same (Keeps.of_below BA.out _));clear hx hcells hy HDr;go_upto_region 4 with fail
   generalize hwa:wr.alloc (.cells #[.int .i8 y.kind,.string y.text,.slice Ay y.l.length cy] 40)=wa at *;clear hwa e0 e1 e2;obtain ⟨y0,y1,y2,yf⟩:=Bk.c3 YA.out;go_wp2_with fail
   refine HC.out.mono ?_;rintro e w7 ⟨rfl,hv,hk7,A7,c7,hm7,ht7⟩;have R7:=kp (RA.out.call hk7 ht7 hlt);have M7:=kp hm7;have K7:=kp (KA.out.trans_same hk7);have T7:=kp (TR.out.trans ht7 KA.out.size);have HPv:=kp hv;unfold valV;clear hk7 hm7 ht7 hv y0 y1 y2 yf;have BB:=kp ((brq w7).alloc nlq (.cells #[.int .i64 pv.1,.int .i64 pv.2] 82));have R8:=kp (R7.out.below BB.out);have M8:=kp (M7.out.keep BB.out);have K8:=kp (K7.out.trans_same (Keeps.of_below BB.out _));have N8:=kp (Bk.new w7 (.cells #[.int .i64 pv.1,.int .i64 pv.2] 82));subst hvl
   go_wp2_with (at_builtin;refine push_val rfl (.tmp 15) (.tmp 20) rfl rfl R8.out rfl N8.out HPv.out (by omega) K8.out.size (M8.out.new_far nlq) ?_)
   intro A9 c9 w9 hp9 hg9 _;have hk9:Keeps (fun k=>(Value.slice Ao vs.length co).ownBlock=some k) _ w9:=(Keeps.refl _ _).grown hg9 (fun j hj=>.inl hj);have R9:=kp hp9;have M9:=kp (M8.out.same hk9 (fun e=>by have:=(R8.out.own.lt _ e).1;omega) (fun hn b o e hb=>R8.out.far b hb hn b o e rfl) (fun k e=>by have:=(R8.out.own.lt k e).1;have:=hF.lt;omega));have K9:=kp (K8.out.grown hg9 (fun j hj=>.inr (R8.out.own.lt j hj).1));clear hp9 hg9 hk9;go_wp2_with fail
   go_roundw
   case rel=>exact⟨vs.length+1,vs ++ [pv],ps,A7,c7,by omega,by go_num,by simp,by rw [HRes.out];simp,R9.out,M9.out,K9.out,T7.out⟩
   case measure=>simp [intOf];omega
  ·obtain rfl:k=l.length:=by omega
   replace HRes:=kp (show res=(vs,st') by rw [HRes.out,List.drop_length];simp [allM]);go_wp2_with fail
   go_ret;have hsh:=HRow.out.shape;exact⟨Ao,co,by rw [HRes.out];rfl,by rw [HRes.out];obtain ⟨A1,c1,e1,h1,h2⟩:=hsh;cases e1;exact h1,by obtain ⟨A1,c1,e1,h1,h2⟩:=hsh;cases e1;exact h2,by rw [HRes.out];exact HRow.out.valsN,KR.out,A',c',by rw [HRes.out];exact MR.out,by rw [HRes.out];exact TR.out⟩
theorem nth_get {x:Sexp} {i:Nat} (h:i < x.l.length):x.l[i]?=some (nthX x i):=by
 unfold nthX;rw [List.getD_eq_getElem?_getD,gqe h]
 rfl
theorem nth_cells {w:World} {A:Option Addr} {c:Nat} {x:Sexp} (h:XAt w A c x) {i:Nat} (hi:i < x.l.length):∃ b o A' c',A=some ⟨b,o,none⟩/\b < w.heap.size/\w.cell? ⟨b,o+i * 3,none⟩=some (.int .i8 (nthX x i).kind)/\w.cell? ⟨b,o+i * 3+1,none⟩=some (.string (nthX x i).text)/\w.cell? ⟨b,o+i * 3+2,none⟩=some (.slice A' (nthX x i).l.length c')/\XAt w A' c' (nthX x i) :=
 sexp_cells h.opens.1 (nth_get hi)
theorem minus_any {w:World} {A:Option Addr} {c:Nat} {x:Sexp} (h:XAt w A c x) :
  Calls Tryz.prog 154 #[.agg #[.int .i8 x.kind,.string x.text,.slice A x.l.length c]] w fun e w'=>e=.returned (.bool (minusB x))/\Below w.heap.size w w':=by
 have XB:=kp (Bk.new w (.cells #[.int .i8 x.kind,.string x.text,.slice A x.l.length c] 40));have B1:=kp ((brq w).alloc nlq (.cells #[.int .i8 x.kind,.string x.text,.slice A x.l.length c] 40));have HH:=kp (fun W (hW:Below w.heap.size w W)=>head_any (h.on hW));have HS:=kp (show minusB x=(decide (headS x=sMinus) && decide (x.l.length=3) && !isNumX (nthX x 2)) from rfl);have HX:=kp h;clear h;generalize minusB x=res at *
 go_enter Tryz.func154,Tryz.ntmps154
 go_upto_region 1 with fail
 generalize w.alloc (.cells #[.int .i8 x.kind,.string x.text,.slice A x.l.length c] 40)=w1 at *;obtain ⟨q0,q1,q2,qf⟩:=Bk.c3 XB.out;have HH1:=kp (HH.out w1 B1.out)
 by_cases h2:headS x=sMinus
 ·have h2':((headS x).toList == [45])=true:=tl_true h2
  by_cases h3:x.l.length=3
  ·have h3':((x.l.length:Int) == 3)=true:=by rw [h3];rfl
   have h3'':(2:Int) < (x.l.length:Int):=by omega
   replace HS:=kp (show res=!isNumX (nthX x 2) by rw [HS.out,decide_eq_true h2,decide_eq_true h3];rfl);have HN:=kp (fun W (hW:Below w.heap.size w W)=>nth_cells (HX.out.on hW) (i:=2) (by omega));clear h2 h3;generalize nthX x 2=y at *;go_wp2_with fail
   refine HH1.out.mono ?_;rintro e w2 ⟨rfl,hb⟩;have B2:=kp (B1.out.trans (hb.mono B1.out.size));have X2:=kp (Bk.on XB.out hb);clear hb q0 q1 q2 qf;obtain ⟨q0,q1,q2,qf⟩:=Bk.c3 X2.out;obtain ⟨b,o,A',c',rfl,hbl,e0,e1,e2,hr⟩:=HN.out w2 B2.out;have HNu:=kp (isnum_any hr);clear hr;go_wp2_with fail
   refine HNu.out.mono ?_;rintro e w3 ⟨rfl,hb⟩;have B3:=kp (B2.out.trans (hb.mono B2.out.size));clear hb;go_wp2_with fail
   go_ret;exact⟨by rw [HS.out];rfl,B3.out⟩
  ·have h3':((x.l.length:Int) == 3)=false:=by rw [beq_eq_false_iff_ne];omega
   replace HS:=kp (show res=false by rw [HS.out,dfq h3];simp);clear h2 h3;go_wp2_with fail
   refine HH1.out.mono ?_;rintro e w2 ⟨rfl,hb⟩;have B2:=kp (B1.out.trans (hb.mono B1.out.size));have X2:=kp (Bk.on XB.out hb);clear hb q0 q1 q2 qf;obtain ⟨q0,q1,q2,qf⟩:=Bk.c3 X2.out;go_wp2_with fail
   go_ret;exact⟨by rw [HS.out];rfl,B2.out⟩
 ·have h2':((headS x).toList == [45])=false:=tl_false h2;replace HS:=kp (show res=false by rw [HS.out,dfq h2];simp);clear h2;go_wp2_with fail
  refine HH1.out.mono ?_;rintro e w2 ⟨rfl,hb⟩;have B2:=kp (B1.out.trans (hb.mono B1.out.size));clear hb;go_wp2_with fail
  go_ret;exact⟨by rw [HS.out];rfl,B2.out⟩
theorem diff_any {F:Fix} (hF:FixOk F) {w:World} {known:Int} {st:St} {At:Option Addr} {ct:Nat} (hm:Mk F w known st At ct) (x y:V) (hx:VI x) (hy:VI y) (n:Int) (hn:I64 n) :
  Calls Tryz.prog 179 #[.pointer (some ⟨F.mb,0,none⟩),.agg #[.int .i64 x.1,.int .i64 x.2],.agg #[.int .i64 y.1,.int .i64 y.2],.int .i64 n] w (MkPost F known w st.t At (diffM F.c x y n st).1 (diffM F.c x y n st).2):=by
 have B2:=kp ((((brq w).alloc nlq (.cells #[.int .i64 x.1,.int .i64 x.2] 82)).alloc (by simp) (.cells #[.int .i64 y.1,.int .i64 y.2] 82)));have Z2:=kp (show((w.alloc (.cells #[.int .i64 x.1,.int .i64 x.2] 82)).alloc (.cells #[.int .i64 y.1,.int .i64 y.2] 82)).heap.size=w.heap.size+1+1 by simp);have D1:=kp (Mid.newOn hm B2.out);have X1:=kp (Bk.keep (Bk.keep (Bk.new w (.cells #[.int .i64 x.1,.int .i64 x.2] 82)) (.cells #[.int .i64 y.1,.int .i64 y.2] 82)) (.cells #[.int .i64 0,.int .i64 0] 82));have Y1:=kp (Bk.keep (show((w.alloc (.cells #[.int .i64 x.1,.int .i64 x.2] 82)).alloc (.cells #[.int .i64 y.1,.int .i64 y.2] 82)).heap[w.heap.size+1]?=some (.cells #[.int .i64 y.1,.int .i64 y.2] 82 (0,0)) by have h:=Bk.new (w.alloc (.cells #[.int .i64 x.1,.int .i64 x.2] 82)) (.cells #[.int .i64 y.1,.int .i64 y.2] 82);simpa using h) (.cells #[.int .i64 0,.int .i64 0] 82));rw [Z2.out] at D1;have HS:=kp (show diffM F.c x y n st=if F.c.build=true/\st.e=0/\mayB n=false then(v0,{ st with e:=10 }) else opM F.c 12 n [x,y] st from rfl);have HMy:=kp (fun W=>may_any n hn W);clear hm;generalize diffM F.c x y n st=res at *
 go_enter Tryz.func179,Tryz.ntmps179
 go_upto_region 1 with fail
 generalize ((w.alloc (.cells #[.int .i64 x.1,.int .i64 x.2] 82)).alloc (.cells #[.int .i64 y.1,.int .i64 y.2] 82)).alloc (.cells #[.int .i64 0,.int .i64 0] 82)=w1 at *;obtain ⟨m0,m1,m2,m3,m4,m5,m6,m7,m8,mf⟩:=Bk.c9 D1.out.maker.blk
 by_cases hbad:F.c.build=true/\st.e=0/\mayB n=false
 ·replace HS:=kp (HS.out.trans (if_pos hbad));obtain ⟨hb,he,hmy⟩:=hbad;have HFl:=kp (fail_any hF D1.out.maker 10 (by decide));rw [show failS 10 st={ st with e:=10 } by unfold failS;rw [if_pos he]] at HFl;rw [hb] at m5;have he1:(st.e == 0)=true:=by simp [he]
  rw [hmy] at HMy;clear hb he hmy;go_wp2_with fail
  refine(HMy.out w1).mono ?_;rintro e w2 ⟨rfl,rfl⟩;go_wp2_with fail
  refine HFl.out.mono ?_;rintro e w7 ⟨rfl,hv,hk7,A7,c7,hm7,ht7⟩;have D7:=kp (D1.out.call hk7 hm7 ht7);unfold valV v0;clear hk7 hm7 ht7 m0 m1 m2 m3 m4 m5 m6 m7 m8 mf;obtain ⟨r0,r1,rf⟩:=Bk.c2 D7.out.cell;go_wp2_with fail
  rw [HS.out];refine D7.out.ret (v:=v0) hF Tryz.results179 ?_ ?_ v0_VI <;> rfl
 ·replace HS:=kp (HS.out.trans (if_neg hbad));have DB:=kp (D1.out.alloc (.cells #[.int .i64 x.1,.int .i64 x.2,.int .i64 y.1,.int .i64 y.2] 82));have NB:=kp (Bk.new w1 (.cells #[.int .i64 x.1,.int .i64 x.2,.int .i64 y.1,.int .i64 y.2] 82));have HOp:=kp (op_any hF DB.out.maker 12 n (I8.of (by decide) (by decide)) hn 2 (lies_two NB.out hx hy) (Nat.le_succ 2));rw [← HS.out] at HOp;obtain ⟨x0,x1,xf⟩:=Bk.c2 X1.out;obtain ⟨y0,y1,yf⟩:=Bk.c2 Y1.out
  cases hb:F.c.build with
  | false =>
   rw [hb] at m5;clear hbad hb;go_wp2_with fail
   refine HOp.out.mono ?_;rintro e w7 ⟨rfl,hv,hk7,A7,c7,hm7,ht7⟩;have D7:=kp (DB.out.call hk7 hm7 ht7);unfold valV;clear hk7 hm7 ht7;obtain ⟨r0,r1,rf⟩:=Bk.c2 D7.out.cell;go_wp2_with fail
   refine D7.out.ret (v:=res.1) hF Tryz.results179 ?_ ?_ hv <;> rfl
  | true =>
   rw [hb] at m5
   by_cases he:st.e=0
   ·have he1:(st.e == 0)=true:=by simp [he]
    have hmy:mayB n=true:=by
     cases h:mayB n with
     | true=>rfl
     | false=>exact absurd ⟨hb,he,h⟩ hbad
    rw [hmy] at HMy;clear hbad hb he hmy;go_wp2_with fail
    refine(HMy.out w1).mono ?_;rintro e w2 ⟨rfl,rfl⟩;go_wp2_with fail
    refine HOp.out.mono ?_;rintro e w7 ⟨rfl,hv,hk7,A7,c7,hm7,ht7⟩;have D7:=kp (DB.out.call hk7 hm7 ht7);unfold valV;clear hk7 hm7 ht7;obtain ⟨r0,r1,rf⟩:=Bk.c2 D7.out.cell;go_wp2_with fail
    refine D7.out.ret (v:=res.1) hF Tryz.results179 ?_ ?_ hv <;> rfl
   ·have he1:(st.e == 0)=false:=by simp [he]
    clear hbad hb he;go_wp2_with fail
    refine HOp.out.mono ?_;rintro e w7 ⟨rfl,hv,hk7,A7,c7,hm7,ht7⟩;have D7:=kp (DB.out.call hk7 hm7 ht7);unfold valV;clear hk7 hm7 ht7;obtain ⟨r0,r1,rf⟩:=Bk.c2 D7.out.cell;go_wp2_with fail
    refine D7.out.ret (v:=res.1) hF Tryz.results179 ?_ ?_ hv <;> rfl
theorem held_any {F:Fix} (hF:FixOk F) {w:World} {known:Int} {st:St} {At:Option Addr} {ct:Nat} (hm:Mk F w known st At ct) (name:ByteArray) (x y:V) (hx:VI x) (hy:VI y) (n:Int) (hn:-4611686018427387904<=n/\n<=4611686018427387904) :
  Calls Tryz.prog 155 #[.pointer (some ⟨F.mb,0,none⟩),.string name,.agg #[.int .i64 x.1,.int .i64 x.2],.agg #[.int .i64 y.1,.int .i64 y.2],.int .i64 n] w (MkPost F known w st.t At (heldM F.c name x y n st).1 (heldM F.c name x y n st).2):=by
 have B2:=kp ((((brq w).alloc nlq (.cells #[.int .i64 x.1,.int .i64 x.2] 82)).alloc (by simp) (.cells #[.int .i64 y.1,.int .i64 y.2] 82)));have Z2:=kp (show((w.alloc (.cells #[.int .i64 x.1,.int .i64 x.2] 82)).alloc (.cells #[.int .i64 y.1,.int .i64 y.2] 82)).heap.size=w.heap.size+1+1 by simp);have D1:=kp (Mid.newOn hm B2.out);have X1:=kp (Bk.keep (Bk.keep (Bk.new w (.cells #[.int .i64 x.1,.int .i64 x.2] 82)) (.cells #[.int .i64 y.1,.int .i64 y.2] 82)) (.cells #[.int .i64 0,.int .i64 0] 82));have Y1:=kp (Bk.keep (show((w.alloc (.cells #[.int .i64 x.1,.int .i64 x.2] 82)).alloc (.cells #[.int .i64 y.1,.int .i64 y.2] 82)).heap[w.heap.size+1]?=some (.cells #[.int .i64 y.1,.int .i64 y.2] 82 (0,0)) by have h:=Bk.new (w.alloc (.cells #[.int .i64 x.1,.int .i64 x.2] 82)) (.cells #[.int .i64 y.1,.int .i64 y.2] 82);simpa using h) (.cells #[.int .i64 0,.int .i64 0] 82));rw [Z2.out] at D1
 have HS:=kp (show heldM F.c name x y n st=if name=sLe then diffM F.c x y n st
  else if name=sLt then diffM F.c x y (n - 1) st
  else if name=sGe then diffM F.c y x (-n) st
  else if name=sGt then diffM F.c y x (-n - 1) st
  else opM F.c 2 0 [(diffM F.c x y n st).1,(diffM F.c y x (-n) (diffM F.c x y n st).2).1] (diffM F.c y x (-n) (diffM F.c x y n st).2).2 from rfl)
 have hw1:IntKind.i64.wrap (n - 1)=n - 1:=IntWalk.i64_in _ (by omega);have hw2:IntKind.i64.wrap (-n)=-n:=IntWalk.i64_in _ (by omega);have hw3:IntKind.i64.wrap (-n - 1)=-n - 1:=IntWalk.i64_in _ (by omega);have hb0:I64 n:=⟨by omega,by omega⟩;have hb1:I64 (n - 1):=⟨by omega,by omega⟩;have hb2:I64 (-n):=⟨by omega,by omega⟩;have hb3:I64 (-n - 1):=⟨by omega,by omega⟩;have hlt:=hm.lt;clear hm;generalize heldM F.c name x y n st=res at *
 go_enter Tryz.func155,Tryz.ntmps155
 go_upto_region 1 with fail
 generalize ((w.alloc (.cells #[.int .i64 x.1,.int .i64 x.2] 82)).alloc (.cells #[.int .i64 y.1,.int .i64 y.2] 82)).alloc (.cells #[.int .i64 0,.int .i64 0] 82)=w1 at *;obtain ⟨x0,x1,xf⟩:=Bk.c2 X1.out;obtain ⟨y0,y1,yf⟩:=Bk.c2 Y1.out
 by_cases h1:name=sLe
 ·replace HS:=kp (HS.out.trans (if_pos h1));have g1:(name.toList == [60,61])=true:=tl_true h1;have HD:=kp (diff_any hF D1.out.maker x y hx hy n hb0);clear h1;rw [← HS.out] at HD;go_wp2_with fail
  refine HD.out.mono ?_;rintro e w7 ⟨rfl,hv,hk7,A7,c7,hm7,ht7⟩;have D7:=kp (D1.out.call hk7 hm7 ht7);unfold valV;clear hk7 hm7 ht7;obtain ⟨r0,r1,rf⟩:=Bk.c2 D7.out.cell;go_wp2_with fail
  refine D7.out.ret (v:=res.1) hF Tryz.results155 ?_ ?_ hv <;> rfl
 replace HS:=kp (HS.out.trans (if_neg h1));have g1:(name.toList == [60,61])=false:=tl_false h1
 by_cases h2:name=sLt
 ·replace HS:=kp (HS.out.trans (if_pos h2));have g2:(name.toList == [60])=true:=tl_true h2;have HD:=kp (diff_any hF D1.out.maker x y hx hy (n - 1) hb1);clear h1 h2;rw [← HS.out] at HD;go_wp2_with fail
  refine HD.out.mono ?_;rintro e w7 ⟨rfl,hv,hk7,A7,c7,hm7,ht7⟩;have D7:=kp (D1.out.call hk7 hm7 ht7);unfold valV;clear hk7 hm7 ht7;obtain ⟨r0,r1,rf⟩:=Bk.c2 D7.out.cell;go_wp2_with fail
  refine D7.out.ret (v:=res.1) hF Tryz.results155 ?_ ?_ hv <;> rfl
 replace HS:=kp (HS.out.trans (if_neg h2));have g2:(name.toList == [60])=false:=tl_false h2
 by_cases h3:name=sGe
 ·replace HS:=kp (HS.out.trans (if_pos h3));have g3:(name.toList == [62,61])=true:=tl_true h3;have HD:=kp (diff_any hF D1.out.maker y x hy hx (-n) hb2);clear h1 h2 h3;rw [← HS.out] at HD;go_wp2_with fail
  refine HD.out.mono ?_;rintro e w7 ⟨rfl,hv,hk7,A7,c7,hm7,ht7⟩;have D7:=kp (D1.out.call hk7 hm7 ht7);unfold valV;clear hk7 hm7 ht7;obtain ⟨r0,r1,rf⟩:=Bk.c2 D7.out.cell;go_wp2_with fail
  refine D7.out.ret (v:=res.1) hF Tryz.results155 ?_ ?_ hv <;> rfl
 replace HS:=kp (HS.out.trans (if_neg h3));have g3:(name.toList == [62,61])=false:=tl_false h3
 by_cases h4:name=sGt
 ·replace HS:=kp (HS.out.trans (if_pos h4));have g4:(name.toList == [62])=true:=tl_true h4;have HD:=kp (diff_any hF D1.out.maker y x hy hx (-n - 1) hb3);clear h1 h2 h3 h4;rw [← HS.out] at HD;go_wp2_with fail
  refine HD.out.mono ?_;rintro e w7 ⟨rfl,hv,hk7,A7,c7,hm7,ht7⟩;have D7:=kp (D1.out.call hk7 hm7 ht7);unfold valV;clear hk7 hm7 ht7;obtain ⟨r0,r1,rf⟩:=Bk.c2 D7.out.cell;go_wp2_with fail
  refine D7.out.ret (v:=res.1) hF Tryz.results155 ?_ ?_ hv <;> rfl
 replace HS:=kp (HS.out.trans (if_neg h4));have g4:(name.toList == [62])=false:=tl_false h4;clear h1 h2 h3 h4;have HD:=kp (diff_any hF D1.out.maker x y hx hy n hb0);generalize diffM F.c x y n st=p at *;obtain ⟨pv,ps⟩:=p;go_wp2_with fail
 refine HD.out.mono ?_;rintro e w7 ⟨rfl,hv,hk7,A7,c7,hm7,ht7⟩;have D7:=kp (D1.out.call hk7 hm7 ht7);have X7:=kp (D1.out.blk hk7 X1.out nlq);have Y7:=kp (D1.out.blk hk7 Y1.out (Nat.le_succ _));have VP:=kp hv;unfold valV;clear hv hk7 hm7 ht7 x0 x1 xf y0 y1 yf HD;have DA:=kp (D7.out.alloc (.cells #[.int .i64 pv.1,.int .i64 pv.2] 82));have PA:=kp (Bk.new w7 (.cells #[.int .i64 pv.1,.int .i64 pv.2] 82));have XA:=kp (Bk.keep X7.out (.cells #[.int .i64 pv.1,.int .i64 pv.2] 82));have YA:=kp (Bk.keep Y7.out (.cells #[.int .i64 pv.1,.int .i64 pv.2] 82));have hpb:=D7.out.keeps.size;go_upto_region 11 with fail
 generalize w7.alloc (.cells #[.int .i64 pv.1,.int .i64 pv.2] 82)=wr at *;generalize w7.heap.size=pb at *;have D0:=kp DA.out.drew;have K0:=kp (Keeps.refl (onMb F) wr).drew;have HD2:=kp (diff_any hF D0.out.maker y x hy hx (-n) hb2);generalize diffM F.c y x (-n) (pv,ps).2=q at *;obtain ⟨qv,qs⟩:=q;have RW:=kp (fun(W:World) (k:Nat) (o:Obj) (hW:Keeps (onMb F) wr W) (hk:wr.heap[k]?=some o) (hle:w.heap.size<=k)=>DA.out.blk hW hk hle);refine wp_region_to (by kernel_rfl) (fun W=>Keeps (onMb F) wr W) 10 (K0.out) (fun hHeld=>?_);refine wpTo_take (i:=0) (oi:=Oper.mk _ _ _ _ _ _) (v:=?_) rfl (by kernel_rfl) (by kernel_rfl) (by kernel_rfl) (by kernel_rfl) (fun _ _ _ h=>h) (Or.inl ⟨by rfl,?_⟩) (by assumption) ?_;rotate_left
 ·(intro w hSw;go_simp;try with_reducible rfl)
 try simp only [pt]
 refine wpTo_take (i:=1) (oi:=Oper.mk _ _ _ _ _ _) (v:=?_) rfl (by kernel_rfl) (by kernel_rfl) (by kernel_rfl) (by kernel_rfl) (fun _ _ _ h=>h) (Or.inl ⟨by rfl,?_⟩) (by assumption) ?_;rotate_left
 ·(intro w hSw;(obtain ⟨p0,p1,pf⟩:=Bk.c2 (RW.out _ _ _ hSw PA.out hpb);go_simp;try with_reducible rfl))
 try simp only [pt]
 refine wpTo_take (i:=2) (oi:=Oper.mk _ _ _ _ _ _) (v:=?_) rfl (by kernel_rfl) (by kernel_rfl) (by kernel_rfl) (by kernel_rfl) (fun _ _ _ h=>h) (Or.inl ⟨by rfl,?_⟩) (by assumption) ?_;rotate_left
 ·(intro w hSw;go_simp;try with_reducible rfl)
 try simp only [pt]
 refine wpTo_take (i:=3) (oi:=Oper.mk _ _ _ _ _ _) (v:=?_) rfl (by kernel_rfl) (by kernel_rfl) (by kernel_rfl) (by kernel_rfl) (fun _ _ _ h=>h) (Or.inl ⟨by rfl,?_⟩) (by assumption) ?_;rotate_left
 ·(intro w hSw;(obtain ⟨p0,p1,pf⟩:=Bk.c2 (RW.out _ _ _ hSw YA.out (Nat.le_succ _));go_simp;try with_reducible rfl))
 try simp only [pt]
 refine wpTo_take (i:=4) (oi:=Oper.mk _ _ _ _ _ _) (v:=?_) rfl (by kernel_rfl) (by kernel_rfl) (by kernel_rfl) (by kernel_rfl) (fun _ _ _ h=>h) (Or.inl ⟨by rfl,?_⟩) (by assumption) ?_;rotate_left
 ·(intro w hSw;(obtain ⟨p0,p1,pf⟩:=Bk.c2 (RW.out _ _ _ hSw XA.out nlq);go_simp;try with_reducible rfl))
 try simp only [pt]
 refine wpTo_take (i:=5) (oi:=Oper.mk _ _ _ _ _ _) (v:=?_) rfl (by kernel_rfl) (by kernel_rfl) (by kernel_rfl) (by kernel_rfl) (fun _ _ _ h=>h) (Or.inl ⟨by rfl,?_⟩) (by assumption) ?_;rotate_left
 ·(intro w hSw;go_simp;try with_reducible rfl)
 try simp only [pt]
 refine wpTo_take (i:=6) (oi:=Oper.mk _ _ _ _ _ _) (v:=?_) rfl (by kernel_rfl) (by kernel_rfl) (by kernel_rfl) (by kernel_rfl) (fun _ _ _ h=>h) (Or.inl ⟨by rfl,?_⟩) (by assumption) ?_;rotate_left
 ·(intro w hSw;go_simp;try with_reducible rfl)
 try simp only [pt]
 refine wpTo_step (i:=7) (o:=Oper.mk _ _ _ _ _ _) (by kernel_rfl) rfl (fun K hK=>?_);go_simp;refine HD2.out.mono ?_;rintro e w8 ⟨rfl,hv,hk8,A8,c8,hm8,ht8⟩;have D8:=kp (D0.out.call hk8 hm8 ht8);have K8:=kp (K0.out.trans_same hk8);have VQ:=kp hv;unfold valV;clear hv hk8 hm8 ht8;refine hK.out _ _ K8.out (fun hHeld=>?_);clear hK K;have D9:=kp (D8.out.alloc (.cells #[.int .i64 pv.1,.int .i64 pv.2,.int .i64 qv.1,.int .i64 qv.2] 82));have K9:=kp (K8.out.alloc (.cells #[.int .i64 pv.1,.int .i64 pv.2,.int .i64 qv.1,.int .i64 qv.2] 82));have N9:=kp (Bk.new w8 (.cells #[.int .i64 pv.1,.int .i64 pv.2,.int .i64 qv.1,.int .i64 qv.2] 82));have HOp:=kp (op_any hF D9.out.maker 2 0 (I8.of (by decide) (by decide)) v0_VI.1 2 (lies_two N9.out VP.out VQ.out) (Nat.le_succ 2));refine wpTo_step (i:=8) (o:=Oper.mk _ _ _ _ _ _) (by kernel_rfl) rfl (fun K hK=>?_);go_simp;refine hK.out _ _ (K9.out) (fun hHeld=>?_);clear hK K;try simp only [pt]
 refine wpTo_step (i:=9) (o:=Oper.mk _ _ _ _ _ _) (by kernel_rfl) rfl (fun K hK=>?_);go_simp;refine HOp.out.mono ?_;rintro e wa ⟨rfl,hv,hka,Aa,ca,hma,hta⟩;have Da:=kp (D9.out.call hka hma hta);have Ka:=kp (K9.out.trans_same hka);replace HS:=kp (show res=opM F.c 2 0 [pv,qv] qs from HS.out);rw [← HS.out] at hv Da;unfold valV;rw [← HS.out];clear hka hma hta;refine hK.out _ _ Ka.out (fun hHeld=>?_);clear hK K;obtain ⟨r0,r1,rf⟩:=Bk.c2 Da.out.cell;refine wpTo_last (o:=Oper.mk _ _ _ _ _ _) (by kernel_rfl) rfl (fun K hK=>?_);go_simp;refine hK.out _ _ ?_;clear hK K;try simp only [pt]
 refine wpTo_done (by kernel_rfl) ?_ _;go_wp2_with fail
 refine Da.out.ret (v:=res.1) hF Tryz.results155 ?_ ?_ hv <;> rfl
theorem lies_drop {α:Type} {n:Nat} {R:World->List Value->α->Prop} {w:World} {b o:Nat} {xs:List α} (h:Lies n R w (some ⟨b,o,none⟩) xs) (k:Nat):Lies n R w (some ⟨b,o+k * n,none⟩) (xs.drop k):=by
 rcases h with h | ⟨b',o',hA,hlt,hr⟩
 ·exact .inl (by rw [h];simp)
 ·obtain ⟨rfl,rfl⟩:=aiq hA;refine .inr ⟨b,o+k * n,rfl,hlt,fun i x hx=>?_⟩;rw [List.getElem?_drop] at hx;obtain ⟨vs,h1,h2,h3⟩:=hr (k+i) x hx;refine⟨vs,h1,fun j u hu=>?_,h3⟩;have:=h2 j u hu;rw [Nat.add_mul] at this
  rwa [show o+(k * n+i * n)+j=o+k * n+i * n+j by omega] at this
theorem nth_mem {x:Sexp} {i:Nat} (h:i < x.l.length):nthX x i ∈ x.l:=mgq (nth_get h)
theorem nth_xs {W0:World} {A:Option Addr} {c:Nat} {x:Sexp} (h:XAt W0 A c x) {i:Nat} (hi:i < x.l.length):∃ b o A' c',A=some ⟨b,o,none⟩/\XAt W0 A' c' (nthX x i) /\
  ∀ W,Below W0.heap.size W0 W->W.cell? ⟨b,o+i * 3,none⟩=some (.int .i8 (nthX x i).kind)/\W.cell? ⟨b,o+i * 3+1,none⟩=some (.string (nthX x i).text)/\W.cell? ⟨b,o+i * 3+2,none⟩=some (.slice A' (nthX x i).l.length c'):=xs_get h.opens.1 (nth_get hi)
theorem sum_any {F:Fix} (hF:FixOk F) {known:Nat} {x:Sexp} (hT:∀ y ∈ x.l,TermC F known y) {w:World} {st:St} {At:Option Addr} {ct:Nat} (hm:Mk F w known st At ct) (name:ByteArray) {A:Option Addr} {c:Nat} (hx:XAt F.W0 A c x) {p:Option Addr} {env:Env} (he:EnvS F w p env) :
  Calls Tryz.prog 93 #[.pointer (some ⟨F.mb,0,none⟩),.string name,.agg #[.int .i8 x.kind,.string x.text,.slice A x.l.length c],.pointer p] w (MkPost F known w st.t At (sumM F.c (fun y=>termP F.c known y env) name x st).1 (sumM F.c (fun y=>termP F.c known y env) name x st).2):=by
 have HT:=kp hT;have HX:=kp hx;have HE:=kp he;have hlt:=hm.lt;have B1:=kp ((brq w).alloc nlq (.cells #[.int .i8 x.kind,.string x.text,.slice A x.l.length c] 40));have Z1:=kp (show(w.alloc (.cells #[.int .i8 x.kind,.string x.text,.slice A x.l.length c] 40)).heap.size=w.heap.size+1 by simp);have D1:=kp (Mid.newOn hm B1.out);have X1:=kp (Bk.keep (Bk.new w (.cells #[.int .i8 x.kind,.string x.text,.slice A x.l.length c] 40)) (.cells #[.int .i64 0,.int .i64 0] 82));rw [Z1.out] at D1;generalize hr:(fun y=>termP F.c known y env)=r;have HRf:=kp (fun y s=>show termP F.c known y env s=r y s by rw [← hr])
 have HS:=kp (show sumM F.c r name x st=if x.l.length=2/\name=sMinus then(v0,failS 34 (r (nthX x 1) st).2)
  else if x.l.length≠3 then(v0,failS 30 st)
  else if isNumX (nthX x 2) then opM F.c 11 (if name=sMinus then - (numberM F.c (nthX x 2) (r (nthX x 1) st).2).1 else(numberM F.c (nthX x 2) (r (nthX x 1) st).2).1) [(r (nthX x 1) st).1] (numberM F.c (nthX x 2) (r (nthX x 1) st).2).2
  else if name=sPlus/\isNumX (nthX x 1)=true then opM F.c 11 (numberM F.c (nthX x 1) st).1 [(r (nthX x 2) (numberM F.c (nthX x 1) st).2).1] (r (nthX x 2) (numberM F.c (nthX x 1) st).2).2
  else(v0,failS 34 (allM r x.l.tail st).2) from rfl)
 have HLc:=kp hx.opens;clear hm hr hT hx he;generalize sumM F.c r name x st=res at *
 go_enter Tryz.func93,Tryz.ntmps93
 go_upto_region 1 with fail
 generalize (w.alloc (.cells #[.int .i8 x.kind,.string x.text,.slice A x.l.length c] 40)).alloc (.cells #[.int .i64 0,.int .i64 0] 82)=w1 at *;obtain ⟨q0,q1,q2,qf⟩:=Bk.c3 X1.out
 by_cases h1:x.l.length=2/\name=sMinus
 ·replace HS:=kp (HS.out.trans (if_pos h1));have g1:((x.l.length:Int) == 2)=true:=by rw [h1.1];rfl
  have g2:(name.toList == [45])=true:=tl_true h1.2;have g3:(1:Int) < (x.l.length:Int):=by omega
  have HM:=kp (nth_mem (x:=x) (i:=1) (by omega));obtain ⟨b,o,A',c',rfl,hxy,hcells⟩:=nth_xs HX.out (i:=1) (by omega);have HC:=kp (HT.out _ HM.out D1.out.maker hxy (HE.out.on D1.out.keeps));rw [HRf.out] at HC;obtain ⟨e0,e1,e2⟩:=hcells w1 D1.out.maker.below;generalize nthX x 1=y at *;generalize r y st=pr at *;clear h1 hxy hcells;go_wp2_with fail
  refine HC.out.mono ?_;rintro e w7 ⟨rfl,hv,hk7,A7,c7,hm7,ht7⟩;have D7:=kp (D1.out.call hk7 hm7 ht7);unfold valV;clear hv hk7 hm7 ht7 e0 e1 e2 q0 q1 q2 qf;have HFl:=kp (fail_any hF D7.out.maker 34 (by decide));rw [show failS 34 _=res.2 by rw [HS.out]] at HFl;go_wp2_with fail
  refine HFl.out.mono ?_;rintro e w8 ⟨rfl,hv,hk8,A8,c8,hm8,ht8⟩;have D8:=kp (D7.out.call hk8 hm8 ht8);unfold valV v0;clear hk8 hm8 ht8 HFl;obtain ⟨r0,r1,rf⟩:=Bk.c2 D8.out.cell;go_wp2_with fail
  rw [show res.1=v0 by rw [HS.out]];refine D8.out.ret (v:=v0) hF Tryz.results93 ?_ ?_ v0_VI <;> rfl
 replace HS:=kp (HS.out.trans (if_neg h1))
 have HG:=kp (show((x.l.length:Int) == 2)=false\/((x.l.length:Int) == 2)=true/\(name.toList == [45])=false by
  by_cases h:x.l.length=2
  ·exact .inr ⟨by rw [h];rfl,tl_false (fun e=>h1 ⟨h,e⟩)⟩
  ·exact .inl (by rw [beq_eq_false_iff_ne];omega))
 by_cases h3:x.l.length=3
 ·have g1:((x.l.length:Int) == 2)=false:=by rw [h3];rfl
  have g2:((x.l.length:Int) != 3)=false:=by rw [h3];rfl
  have g3:(2:Int) < (x.l.length:Int):=by omega
  have g4:(1:Int) < (x.l.length:Int):=by omega
  replace HS:=kp (HS.out.trans (if_neg (fun h=>h h3)));obtain ⟨b,o,A1,c1,hA,hx1,hc1⟩:=nth_xs HX.out (i:=1) (by omega);obtain ⟨b',o',A2,c2,hA2,hx2,hc2⟩:=nth_xs HX.out (i:=2) (by omega);subst hA;obtain ⟨rfl,rfl⟩:=aiq hA2;have HX1:=kp hx1;have HX2:=kp hx2;have HC1:=kp hc1;have HC2:=kp hc2;have HM1:=kp (nth_mem (x:=x) (i:=1) (by omega));have HM2:=kp (nth_mem (x:=x) (i:=2) (by omega));have HNu:=kp (isnum_any (hx2.on D1.out.maker.below));have HTl:=kp (show x.l.tail=x.l.drop 1 by rw [List.drop_one]);have hcl3:=HLc.out.2.1;clear h1 hx1 hx2 hc1 hc2 HG;generalize nthX x 1=y1 at *;generalize nthX x 2=y2 at *;obtain ⟨f0,f1,f2⟩:=HC2.out w1 D1.out.maker.below
  by_cases h4:isNumX y2=true
  ·replace HS:=kp (HS.out.trans (if_pos h4));rw [h4] at HNu;clear h4 h3;go_wp2_with fail
   refine HNu.out.mono ?_;rintro e w2 ⟨rfl,hb2⟩;have D2:=kp (D1.out.below hb2);have X2:=kp (Bk.on X1.out hb2);clear hb2 q0 q1 q2 qf f0 f1 f2;obtain ⟨q0,q1,q2,qf⟩:=Bk.c3 X2.out;obtain ⟨e0,e1,e2⟩:=HC1.out w2 D2.out.maker.below;have HC:=kp (HT.out _ HM1.out D2.out.maker HX1.out (HE.out.on D2.out.keeps));rw [HRf.out] at HC;generalize r y1 st=pr at *;obtain ⟨pv,ps⟩:=pr;go_wp2_with fail
   refine HC.out.mono ?_;rintro e w3 ⟨rfl,hv,hk3,A3,c3,hm3,ht3⟩;have D3:=kp (D2.out.call hk3 hm3 ht3);have X3:=kp (D2.out.blk hk3 X2.out nlq);have VP:=kp hv;unfold valV;clear hv hk3 hm3 ht3 q0 q1 q2 qf e0 e1 e2;have D4:=kp (D3.out.alloc (.cells #[.int .i64 pv.1,.int .i64 pv.2] 82));have X4:=kp (Bk.keep X3.out (.cells #[.int .i64 pv.1,.int .i64 pv.2] 82));have V4:=kp (Bk.new w3 (.cells #[.int .i64 pv.1,.int .i64 pv.2] 82));have hvb:=D3.out.keeps.size;go_upto_region 8 with fail
   generalize w3.alloc (.cells #[.int .i64 pv.1,.int .i64 pv.2] 82)=w4 at *;generalize w3.heap.size=vb at *;obtain ⟨q0,q1,q2,qf⟩:=Bk.c3 X4.out;obtain ⟨f0,f1,f2⟩:=HC2.out w4 D4.out.maker.below;have HNm:=kp (number_any hF D4.out.maker (HX2.out.on D4.out.maker.below));have HLim:=kp (show -4611686018427387904<=(numberM F.c y2 ps).1/\(numberM F.c y2 ps).1<=4611686018427387904 by rw [numberM_fst];exact numR_lim y2);have HS2:=kp (show res=opM F.c 11 (if name=sMinus then - (numberM F.c y2 ps).1 else(numberM F.c y2 ps).1) [pv] (numberM F.c y2 ps).2 from HS.out);clear HS;generalize numberM F.c y2 ps=nr at *;obtain ⟨n,ns⟩:=nr;go_wp2_with fail
   refine HNm.out.mono ?_;rintro e w5 ⟨rfl,hk5,A5,c5,hm5,ht5⟩;have D5:=kp (D4.out.call hk5 hm5 ht5);have V5:=kp (D4.out.blk hk5 V4.out hvb);clear hk5 hm5 ht5 q0 q1 q2 qf f0 f1 f2;have DB:=kp (D5.out.alloc (.cells #[.int .i64 pv.1,.int .i64 pv.2] 82));have NB:=kp (Bk.new w5 (.cells #[.int .i64 pv.1,.int .i64 pv.2] 82));have hlim:=HLim.out;have hw2:IntKind.i64.wrap (-n)=-n:=IntWalk.i64_in _ (by omega);obtain ⟨v0',v1',vf⟩:=Bk.c2 V5.out
   by_cases h5:name=sMinus
   ·have g5:(name.toList == [45])=true:=tl_true h5;replace HS2:=kp (show res=opM F.c 11 (-n) [pv] ns by rw [HS2.out,if_pos h5]);have HOp:=kp (op_any hF DB.out.maker 11 (-n) (I8.of (by decide) (by decide)) ⟨by omega,by omega⟩ 1 (lies_one NB.out VP.out) (by simp));rw [← HS2.out] at HOp;clear h5 hlim HLim;go_wp2_with fail
    refine HOp.out.mono ?_;rintro e w7 ⟨rfl,hv,hk7,A7,c7,hm7,ht7⟩;have D7:=kp (DB.out.call hk7 hm7 ht7);unfold valV;clear hk7 hm7 ht7;obtain ⟨r0,r1,rf⟩:=Bk.c2 D7.out.cell;go_wp2_with fail
    refine D7.out.ret (v:=res.1) hF Tryz.results93 ?_ ?_ hv <;> rfl
   ·have g5:(name.toList == [45])=false:=tl_false h5;replace HS2:=kp (show res=opM F.c 11 n [pv] ns by rw [HS2.out,if_neg h5]);have HOp:=kp (op_any hF DB.out.maker 11 n (I8.of (by decide) (by decide)) ⟨by omega,by omega⟩ 1 (lies_one NB.out VP.out) (by simp));rw [← HS2.out] at HOp;clear h5 hlim HLim;go_wp2_with fail
    refine HOp.out.mono ?_;rintro e w7 ⟨rfl,hv,hk7,A7,c7,hm7,ht7⟩;have D7:=kp (DB.out.call hk7 hm7 ht7);unfold valV;clear hk7 hm7 ht7;obtain ⟨r0,r1,rf⟩:=Bk.c2 D7.out.cell;go_wp2_with fail
    refine D7.out.ret (v:=res.1) hF Tryz.results93 ?_ ?_ hv <;> rfl
  ·replace HS:=kp (HS.out.trans (if_neg h4));rw [eq_false_of_ne_true h4] at HNu;clear h4;go_wp2_with fail
   refine HNu.out.mono ?_;rintro e w2 ⟨rfl,hb2⟩;have D2:=kp (D1.out.below hb2);have X2:=kp (Bk.on X1.out hb2);clear hb2 q0 q1 q2 qf f0 f1 f2;obtain ⟨q0,q1,q2,qf⟩:=Bk.c3 X2.out;obtain ⟨e0,e1,e2⟩:=HC1.out w2 D2.out.maker.below;have HN1:=kp (isnum_any (HX1.out.on D2.out.maker.below))
   by_cases h5:name=sPlus
   ·have g5:(name.toList == [43])=true:=tl_true h5
    by_cases h6:isNumX y1=true
    ·replace HS:=kp (HS.out.trans (if_pos ⟨h5,h6⟩));rw [h6] at HN1;have HLim:=kp (show -4611686018427387904<=(numberM F.c y1 st).1/\(numberM F.c y1 st).1<=4611686018427387904 by rw [numberM_fst];exact numR_lim y1);clear h5 h6 h3;go_wp2_with fail
     refine HN1.out.mono ?_;rintro e w3 ⟨rfl,hb3⟩;have D3:=kp (D2.out.below hb3);have X3:=kp (Bk.on X2.out hb3);clear hb3 q0 q1 q2 qf e0 e1 e2;obtain ⟨q0,q1,q2,qf⟩:=Bk.c3 X3.out;obtain ⟨e0,e1,e2⟩:=HC1.out w3 D3.out.maker.below;have HNm:=kp (number_any hF D3.out.maker (HX1.out.on D3.out.maker.below));generalize numberM F.c y1 st=nr at *;obtain ⟨n,ns⟩:=nr;go_wp2_with fail
     refine HNm.out.mono ?_;rintro e w4 ⟨rfl,hk4,A4,c4,hm4,ht4⟩;have D4:=kp (D3.out.call hk4 hm4 ht4);have X4:=kp (D3.out.blk hk4 X3.out nlq);clear hk4 hm4 ht4 q0 q1 q2 qf e0 e1 e2;obtain ⟨q0,q1,q2,qf⟩:=Bk.c3 X4.out;obtain ⟨f0,f1,f2⟩:=HC2.out w4 D4.out.maker.below;have HC:=kp (HT.out _ HM2.out D4.out.maker HX2.out (HE.out.on D4.out.keeps));rw [HRf.out] at HC;generalize r y2 (n,ns).2=pr at *;obtain ⟨pv,ps⟩:=pr;go_wp2_with fail
     refine HC.out.mono ?_;rintro e w5 ⟨rfl,hv,hk5,A5,c5,hm5,ht5⟩;have D5:=kp (D4.out.call hk5 hm5 ht5);have VP:=kp hv;unfold valV;clear hv hk5 hm5 ht5 q0 q1 q2 qf f0 f1 f2;have DB:=kp (D5.out.alloc (.cells #[.int .i64 pv.1,.int .i64 pv.2] 82));have NB:=kp (Bk.new w5 (.cells #[.int .i64 pv.1,.int .i64 pv.2] 82));have hlim:=HLim.out;replace HS:=kp (show res=opM F.c 11 n [pv] ps from HS.out);have HOp:=kp (op_any hF DB.out.maker 11 n (I8.of (by decide) (by decide)) ⟨by omega,by omega⟩ 1 (lies_one NB.out VP.out) (by simp));rw [← HS.out] at HOp;clear hlim HLim;go_wp2_with fail
     refine HOp.out.mono ?_;rintro e w7 ⟨rfl,hv,hk7,A7,c7,hm7,ht7⟩;have D7:=kp (DB.out.call hk7 hm7 ht7);unfold valV;clear hk7 hm7 ht7;obtain ⟨r0,r1,rf⟩:=Bk.c2 D7.out.cell;go_wp2_with fail
     refine D7.out.ret (v:=res.1) hF Tryz.results93 ?_ ?_ hv <;> rfl
    ·replace HS:=kp (HS.out.trans (if_neg (fun h=>h6 h.2)));rw [eq_false_of_ne_true h6] at HN1;clear h5 h6;go_wp2_with fail
     refine HN1.out.mono ?_;rintro e w3 ⟨rfl,hb3⟩;have D3:=kp (D2.out.below hb3);have X3:=kp (Bk.on X2.out hb3);clear hb3 q0 q1 q2 qf e0 e1 e2;obtain ⟨q0,q1,q2,qf⟩:=Bk.c3 X3.out;have hl2:x.l.tail.length=x.l.length - 1:=by rw [HTl.out];simp
     have hc1:¬ c=1:=by omega
     have HAl:=kp (all_any hF (l:=x.l.tail) (fun y hy=>HT.out y (List.mem_of_mem_tail hy)) D3.out.maker (c - 1) (by have h:=lies_drop HLc.out.1 1;rwa [← HTl.out] at h) (by omega) (HE.out.on D3.out.keeps));rw [show(fun y=>termP F.c known y env)=r from funext fun y=>funext fun s=>HRf.out y s,hl2] at HAl;have hgl:(1:Int)<=(x.l.length:Int):=by omega
     have hgc:(1:Int)<=(c:Int):=by omega
     clear hl2 h3 hcl3;go_wp2_with fail
     refine HAl.out.mono ?_;rintro e w7 ⟨L7,cl7,rfl,hcl7,hcm7,hv,hk7,A7,c7,hm7,ht7⟩;have D7:=kp (D3.out.call hk7 hm7 ht7);clear hv hk7 hm7 ht7 q0 q1 q2 qf hcl7 hcm7;have HFl:=kp (fail_any hF D7.out.maker 34 (by decide));rw [show failS 34 _=res.2 by rw [HS.out]] at HFl;go_wp2_with fail
     refine HFl.out.mono ?_;rintro e w8 ⟨rfl,hv,hk8,A8,c8,hm8,ht8⟩;have D8:=kp (D7.out.call hk8 hm8 ht8);unfold valV v0;clear hk8 hm8 ht8 HFl;obtain ⟨r0,r1,rf⟩:=Bk.c2 D8.out.cell;go_wp2_with fail
     rw [show res.1=v0 by rw [HS.out]];refine D8.out.ret (v:=v0) hF Tryz.results93 ?_ ?_ v0_VI <;> rfl
   ·have g5:(name.toList == [43])=false:=tl_false h5;replace HS:=kp (HS.out.trans (if_neg (fun h=>h5 h.1)));have D3:=D2;clear h5 HN1;have hl2:x.l.tail.length=x.l.length - 1:=by rw [HTl.out];simp
    have hc1:¬ c=1:=by omega
    have HAl:=kp (all_any hF (l:=x.l.tail) (fun y hy=>HT.out y (List.mem_of_mem_tail hy)) D3.out.maker (c - 1) (by have h:=lies_drop HLc.out.1 1;rwa [← HTl.out] at h) (by omega) (HE.out.on D3.out.keeps));rw [show(fun y=>termP F.c known y env)=r from funext fun y=>funext fun s=>HRf.out y s,hl2] at HAl;have hgl:(1:Int)<=(x.l.length:Int):=by omega
    have hgc:(1:Int)<=(c:Int):=by omega
    clear hl2 h3 hcl3;go_wp2_with fail
    refine HAl.out.mono ?_;rintro e w7 ⟨L7,cl7,rfl,hcl7,hcm7,hv,hk7,A7,c7,hm7,ht7⟩;have D7:=kp (D3.out.call hk7 hm7 ht7);clear hv hk7 hm7 ht7 q0 q1 q2 qf hcl7 hcm7;have HFl:=kp (fail_any hF D7.out.maker 34 (by decide));rw [show failS 34 _=res.2 by rw [HS.out]] at HFl;go_wp2_with fail
    refine HFl.out.mono ?_;rintro e w8 ⟨rfl,hv,hk8,A8,c8,hm8,ht8⟩;have D8:=kp (D7.out.call hk8 hm8 ht8);unfold valV v0;clear hk8 hm8 ht8 HFl;obtain ⟨r0,r1,rf⟩:=Bk.c2 D8.out.cell;go_wp2_with fail
    rw [show res.1=v0 by rw [HS.out]];refine D8.out.ret (v:=v0) hF Tryz.results93 ?_ ?_ v0_VI <;> rfl
 ·have g2:((x.l.length:Int) != 3)=true:=by rw [bne_iff_ne];omega
  replace HS:=kp (HS.out.trans (if_pos h3));have D7:=D1;clear h1 h3;rcases HG.out with g1 | ⟨g1,g3⟩
  ·skip;have HFl:=kp (fail_any hF D7.out.maker 30 (by decide));rw [show failS 30 _=res.2 by rw [HS.out]] at HFl;go_wp2_with fail
   refine HFl.out.mono ?_;rintro e w8 ⟨rfl,hv,hk8,A8,c8,hm8,ht8⟩;have D8:=kp (D7.out.call hk8 hm8 ht8);unfold valV v0;clear hk8 hm8 ht8 HFl;obtain ⟨r0,r1,rf⟩:=Bk.c2 D8.out.cell;go_wp2_with fail
   rw [show res.1=v0 by rw [HS.out]];refine D8.out.ret (v:=v0) hF Tryz.results93 ?_ ?_ v0_VI <;> rfl
  ·skip;have HFl:=kp (fail_any hF D7.out.maker 30 (by decide));rw [show failS 30 _=res.2 by rw [HS.out]] at HFl;go_wp2_with fail
   refine HFl.out.mono ?_;rintro e w8 ⟨rfl,hv,hk8,A8,c8,hm8,ht8⟩;have D8:=kp (D7.out.call hk8 hm8 ht8);unfold valV v0;clear hk8 hm8 ht8 HFl;obtain ⟨r0,r1,rf⟩:=Bk.c2 D8.out.cell;go_wp2_with fail
   rw [show res.1=v0 by rw [HS.out]];refine D8.out.ret (v:=v0) hF Tryz.results93 ?_ ?_ v0_VI <;> rfl
theorem info_strE:(Tryz.prog.info? 9).map (fun i=>(i.zero,i.size,i.bytes))=some (some (.string { data:=#[] }),1,16):=by kernel_rfl
def NRow (base:Nat) (w:World) (v:Value) (ns:List ByteArray):Prop:=w.ownsRow base 9 1 v ns.length (ns.map Value.string)
section
variable {base:Nat} {w w':World} {v:Value} {ns:List ByteArray}
theorem NRow.nil (base:Nat) (w:World):NRow base w (.slice none 0 0) []:=⟨rfl,.inl ⟨rfl,rfl⟩⟩
theorem NRow.shape (h:NRow base w v ns):∃ A c,v=.slice A ns.length c:=row_shape h
theorem NRow.wide {B:Nat} (h:NRow base w v ns) (hb:B<=base):NRow B w v ns:=by
 refine⟨h.1,?_⟩;rcases h.2 with h1 | ⟨g,cap,cur,h1,hg,h2⟩
 ·exact .inl h1
 ·exact .inr ⟨g,cap,cur,h1,Nat.le_trans hb hg,h2⟩
theorem NRow.below (h:NRow base w v ns) (hb:Below w.heap.size w w'):NRow base w' v ns:=owns_keepE h (Keeps.of_below hb (fun _=>False)) (fun _ hk=>hk.elim)
theorem NRow.keep {F:Fix} (h:NRow base w v ns) (hk:Keeps (onMb F) w w') (hb:F.mb < base):NRow base w' v ns:=owns_keepE h hk (fun k hk=>by unfold onMb at hk;omega)
theorem NRow.cells {A:Option Addr} {c:Nat} (h:NRow base w (.slice A ns.length c) ns):Cells w A (ns.map Value.string):=Cells.own h
theorem NRow.at {A:Option Addr} {c:Nat} (h:NRow base w (.slice A ns.length c) ns) {k:Nat} {s:ByteArray} (hs:ns[k]?=some s):∃ b o,A=some ⟨b,o,none⟩/\w.cell? ⟨b,o+k,none⟩=some (.string s):=by
 have hm:(ns.map Value.string)[k]?=some (.string s):=by rw [List.getElem?_map,hs];rfl
 rcases h.cells with h0 | ⟨b,o,hA,_,hc⟩
 ·rw [h0] at hm;cases hm
 ·exact⟨b,o,hA,hc k _ hm⟩
theorem has_contains (ns:List ByteArray) (s:ByteArray):Lib.containsS (ns.take ns.length) s=hasB ns s:=by
 rw [List.take_length,Bool.eq_iff_iff,Lib.containsS_iff,hasB_iff]
theorem NRow.contains {A:Option Addr} {c:Nat} (h:NRow base w (.slice A ns.length c) ns) (hl:ns.length<=9223372036854775807) (s:ByteArray) :
  Calls Tryz.prog 153 #[.slice A ns.length c,.string s] w fun e w'=>e=.returned (.bool (hasB ns s))/\w'=w:=by
 rcases h.cells with h0 | ⟨b,o,rfl,_,hc⟩
 ·have h0':ns=[]:=List.map_eq_nil_iff.1 h0;subst h0';exact Tryz.slices_Contains_string_empty A c s w
 ·have:=Tryz.slices_Contains_string b o ns.length c ns s w nlq (by omega) (fun j hj=>hc j _ (by rw [List.getElem?_map,gqe hj,List.getD_eq_getElem?_getD,gqe hj];rfl))
  rwa [has_contains] at this
theorem str_cells {W:World} {b:Nat} {u:ByteArray} (h:W.heap[b]?=some (.cells #[.string u] 9 (0,0))):Cells W (some ⟨b,0,none⟩) [.string u]:=by
 obtain ⟨c0,_⟩:=Bk.c1 h;refine .inr ⟨b,0,rfl,lt_of_block h,fun j x hx=>?_⟩
 match j,hx with
 | 0,hx=>cases hx;exact c0
 | j+1,hx=>simp at hx
theorem push_str {ops:Array Oper} {rest:List Oper} {o:Oper} {a:Act} {Q:Exit->Act->World->Prop} (hgd:o.guard=none) (s x:Operand) (ho:o.op=.call { callee:=.builtin .append,args:=#[s,x],argTypes:=#[22,22] })
  {Ao:Option Addr} {co b:Nat} {u:ByteArray} (hs:a.eval s=.slice Ao ns.length co) (h:NRow base w (.slice Ao ns.length co) ns) (hx:a.eval x=.slice (some ⟨b,0,none⟩) 1 1) (hb:w.heap[b]?=some (.cells #[.string u] 9 (0,0))) (hlen:ns.length < 8000000000000) (hbase:base<=w.heap.size)
  (hK:∀ A9 c9 w9,NRow base w9 (.slice A9 (ns.length+1) c9) (ns ++ [u])->w.grownBy w9 (Value.slice Ao ns.length co).ownBlock->wpList Tryz.prog ops Q rest (a.put o.dst (.slice A9 (ns.length+1) c9)) w9):wpList Tryz.prog ops Q (o :: rest) a w:=by
 obtain ⟨i0,hi0,z0,z1,z2⟩:=info_parts info_strE;refine wpList_append_at hgd s x _ ho base 9 i0 (.string { data:=#[] }) 1 16 Tryz.underlying22 hi0 z0 z1 z2 rfl (by decide) (.slice Ao ns.length co) ns.length (ns.map Value.string) hs h (some ⟨b,0,none⟩) 1 1 [.string u] hx rfl (str_cells hb) (by simp [Value.oneCell']) (by unfold maxLen;omega) (by omega) hbase ?_;intro v' w9 hown hgr hat;obtain ⟨A9,c9,rfl⟩:=row_shape hown;exact hK A9 c9 w9 (by unfold NRow;rw [List.length_append,List.map_append];exact hown) hgr
end
theorem bindN_eq (y:Sexp):bindN y=if y.kind=3/\y.l.length=2/\(nthX y 0).kind=0/\Lx.resB (Lx.bs (nthX y 0).text)=false then some (nthX y 0).text else none:=by
 unfold bindN
 by_cases h3:y.kind=3
 ·rw [if_pos h3]
  match hl:y.l with
  | []=>rw [if_neg (by simp)]
  | [_]=>rw [if_neg (by simp)]
  | [z,u] =>
   have hz:nthX y 0=z:=by unfold nthX;rw [hl];rfl
   rw [hz];simp only [h3,List.length_cons,List.length_nil,true_and,Nat.zero_add,Nat.reduceAdd]
  | _ :: _ :: _ :: _=>rw [if_neg (by simp)]
 ·rw [if_neg h3,if_neg (fun h=>h3 h.1)]
def stepB (o:Option (List ByteArray)) (y:Sexp):Option (List ByteArray):=o.bind fun ns=>(bindN y).bind fun s=>if hasB ns s then none else some (ns ++ [s])
theorem fold_none (l:List Sexp):l.foldl stepB none=none:=by
 induction l with
 | nil=>rfl
 | cons y r ih=>exact ih
theorem boundN_eq (x:Sexp):boundN x=if x.l.length=3/\(nthX x 1).kind=3/\(nthX x 1).l.length≠0 then(nthX x 1).l.foldl stepB (some []) else none:=by
 unfold boundN
 match hl:x.l with
 | []=>rw [if_neg (by simp)]
 | [_]=>rw [if_neg (by simp)]
 | [_,_]=>rw [if_neg (by simp)]
 | [a,b,c] =>
  have hz:nthX x 1=b:=by unfold nthX;rw [hl];rfl
  rw [hz];simp only [List.length_cons,List.length_nil,Nat.zero_add,Nat.reduceAdd,true_and,ne_eq,List.length_eq_zero_iff]
  rfl
 | _ :: _ :: _ :: _ :: _=>rw [if_neg (by simp)]
def BoundPost (o:Option (List ByteArray)) (w:World) (e:Ending) (w':World):Prop :=
 (∃ v,e=.returned (.tuple #[v,.bool o.isSome])/\∀ ns,o=some ns->NRow w.heap.size w' v ns)/\Below w.heap.size w w'
theorem bound_any {w:World} {A:Option Addr} {c:Nat} {x:Sexp} (h:XAt w A c x) :
  Calls Tryz.prog 140 #[.agg #[.int .i8 x.kind,.string x.text,.slice A x.l.length c]] w (BoundPost (boundN x) w):=by
 have XB:=kp (Bk.new w (.cells #[.int .i8 x.kind,.string x.text,.slice A x.l.length c] 40));have B1:=kp ((brq w).alloc nlq (.cells #[.int .i8 x.kind,.string x.text,.slice A x.l.length c] 40));have HX:=kp (h.on B1.out);have HO:=kp (boundN_eq x);have HPn:=kp (show ∀ w',Below w.heap.size w w'->BoundPost none w (.returned (.tuple #[.slice none 0 0,.bool false])) w' from fun w' hb=>⟨⟨_,rfl,fun ns hn=>by cases hn⟩,hb⟩);have HPs:=kp (show ∀ ns A' c' w',Below w.heap.size w w'->NRow w.heap.size w' (.slice A' (List.length ns) c') ns->BoundPost (some ns) w (.returned (.tuple #[.slice A' ns.length c',.bool true])) w' from fun ns A' c' w' hb hn=>⟨⟨_,rfl,fun ns' e=>by cases e;exact hn⟩,hb⟩);clear h;generalize boundN x=res at *
 go_enter Tryz.func140,Tryz.ntmps140
 go_upto_region 1 with fail
 generalize w.alloc (.cells #[.int .i8 x.kind,.string x.text,.slice A x.l.length c] 40)=w1 at *;obtain ⟨q0,q1,q2,qf⟩:=Bk.c3 XB.out
 by_cases h3:x.l.length=3
 ·have g1:((x.l.length:Int) != 3)=false:=by rw [h3];rfl
  have g2:(1:Int) < (x.l.length:Int):=by omega
  obtain ⟨b0,o0,Ab,cb,rfl,hbl,e0,e1,e2,hxb⟩:=nth_cells HX.out (i:=1) (by omega);replace HO:=kp (show res=if(nthX x 1).kind=3/\(nthX x 1).l.length≠0 then(nthX x 1).l.foldl stepB (some []) else none by rw [HO.out];simp only [h3,true_and]);rw [Nat.one_mul] at e0 e1 e2;clear h3;generalize nthX x 1=y at *;have HY:=kp hxb;clear hxb
  by_cases hk:y.kind=3
  ·have g3:(y.kind != 3)=false:=by simp [hk]
   by_cases hl:y.l.length=0
   ·have g4:((y.l.length:Int) == 0)=true:=by rw [hl];rfl
    replace HO:=kp (show res=none by rw [HO.out,if_neg (fun h=>h.2 hl)]);clear hk hl;go_wp2_with fail
    go_ret2;rw [HO.out];exact HPn.out _ B1.out
   ·have g4:((y.l.length:Int) == 0)=false:=by rw [beq_eq_false_iff_ne];omega
    replace HO:=kp (show res=(y.l.drop 0).foldl stepB (some []) by rw [HO.out,if_pos ⟨hk,hl⟩];rfl);obtain ⟨hll,hlc,hcm,_,hlb,_⟩:=HY.out.opens;have HLl:=kp hll;clear hk hl hll;go_wp2_with fail
    go_loopw [2,33] (fun v' i' wr=>∃ k:Nat,k<=y.l.length/\i'=.int .i64 k/\∃ ns:List ByteArray,ns.length=k/\res=(y.l.drop k).foldl stepB (some ns)/\NRow w1.heap.size wr v' ns/\Below w1.heap.size w1 wr) (fun _ i' _=>y.l.length - (intOf i').toNat)
    case atStart=>exact⟨0,Nat.zero_le _,rfl,[],rfl,HO.out,NRow.nil _ _,Below.refl _ _⟩
    case round =>
     obtain ⟨k,hk,rfl,ns,hnl,hres,hrow,hb⟩:=hrel;have HRes:=kp hres;have HRow:=kp hrow;have HB:=kp hb;obtain ⟨Ao,co,rfl⟩:=hrow.shape;clear hres hrow hb
     by_cases hkl:k < y.l.length
     ·have hlt2:(k:Int) < (y.l.length:Int):=by omega
      obtain ⟨u,hu⟩:∃ u,y.l[k]?=some u:=⟨_,gqe hkl⟩
      have HDr:=kp (show y.l.drop k=u :: y.l.drop (k+1) by
       rw [List.drop_eq_getElem_cons hkl];rw [gqe hkl] at hu;simp at hu;rw [hu])
      rw [HDr.out] at HRes;replace HRes:=kp (show res=(y.l.drop (k+1)).foldl stepB ((bindN u).bind fun s=>if hasB ns s then none else some (ns ++ [s])) from HRes.out);have HBi:=kp (bindN_eq u);obtain ⟨b1,o1,Au,cu,rfl,hbl1,e0,e1,e2,hr⟩:=sexp_cells (HLl.out.on SexpR.lasts HB.out) hu;have BA:=kp (HB.out.alloc HB.out.size (.cells #[.int .i8 u.kind,.string u.text,.slice Au u.l.length cu] 40));have UA:=kp (Bk.new wr (.cells #[.int .i8 u.kind,.string u.text,.slice Au u.l.length cu] 40));have RA:=kp (HRow.out.below ((brq wr).alloc nlq (.cells #[.int .i8 u.kind,.string u.text,.slice Au u.l.length cu] 40)));have HUx:=kp (show XAt (wr.alloc (.cells #[.int .i8 u.kind,.string u.text,.slice Au u.l.length cu] 40)) Au cu u from SexpR.lasts _ _ _ _ ((Below.refl _ _).alloc nlq _) hr);clear hu HDr hr;go_upto_region 6 with fail
      generalize wr.alloc (.cells #[.int .i8 u.kind,.string u.text,.slice Au u.l.length cu] 40)=wa at *;generalize wr.heap.size=ub at *;clear e0 e1 e2;obtain ⟨u0,u1,u2,uf⟩:=Bk.c3 UA.out
      by_cases c1:u.kind=3
      ·have d1:(u.kind != 3)=false:=by simp [c1]
       by_cases c2:u.l.length=2
       ·have d2:((u.l.length:Int) != 2)=false:=by rw [c2];rfl
        have d3:(0:Int) < (u.l.length:Int):=by omega
        obtain ⟨b2,o2,Az,cz,rfl,hbl2,z0,z1,z2,hz⟩:=nth_cells HUx.out (i:=0) (by omega);rw [Nat.zero_mul,Nat.add_zero] at z0 z1 z2;have hzt:=hz.opens.2.2.2.1
        by_cases c3:(nthX u 0).kind=0
        ·have d4:((nthX u 0).kind != 0)=false:=by simp [c3]
         have HRs:=kp (Lx.reserved_any (nthX u 0).text)
         by_cases c4:Lx.resB (Lx.bs (nthX u 0).text)=true
         ·replace HBi:=kp (show bindN u=none by rw [HBi.out,if_neg (fun h=>by rw [h.2.2.2] at c4;cases c4)]);replace HRes:=kp (show res=none by rw [HRes.out,HBi.out];exact fold_none _);rw [c4] at HRs;clear hz c1 c2 c3 c4;generalize nthX u 0=z at *;go_wp2_with fail
          refine(HRs.out _).mono ?_;rintro e w' ⟨rfl,rfl⟩;go_wp2_with fail
          go_ret2;rw [HRes.out];exact HPn.out _ (B1.out.trans (BA.out.mono B1.out.size))
         ·have c4':=eq_false_of_ne_true c4;replace HBi:=kp (show bindN u=some (nthX u 0).text by rw [HBi.out,if_pos ⟨c1,c2,c3,c4'⟩]);rw [c4'] at HRs;have HCo:=kp (RA.out.contains (by rw [hnl];omega) (nthX u 0).text);rw [hnl] at HCo
          by_cases c5:hasB ns (nthX u 0).text=true
          ·replace HRes:=kp (show res=none by rw [HRes.out,HBi.out,Option.bind_some,if_pos c5];exact fold_none _);rw [c5] at HCo;clear hz c1 c2 c3 c4 c4' c5;generalize nthX u 0=z at *;go_wp2_with fail
           refine(HRs.out _).mono ?_;rintro e w' ⟨rfl,rfl⟩;go_wp2_with fail
           refine HCo.out.mono ?_;rintro e w' ⟨rfl,rfl⟩;go_wp2_with fail
           go_ret2;rw [HRes.out];exact HPn.out _ (B1.out.trans (BA.out.mono B1.out.size))
          ·have c5':=eq_false_of_ne_true c5;replace HRes:=kp (show res=(y.l.drop (k+1)).foldl stepB (some (ns ++ [(nthX u 0).text])) by rw [HRes.out,HBi.out,Option.bind_some,if_neg c5]);rw [c5'] at HCo;clear hz c1 c2 c3 c4 c4' c5 c5';generalize nthX u 0=z at *;go_wp2_with fail
           refine(HRs.out _).mono ?_;rintro e w' ⟨rfl,rfl⟩;go_wp2_with fail
           refine HCo.out.mono ?_;rintro e w' ⟨rfl,rfl⟩;have BD:=kp (BA.out.alloc BA.out.size (.cells #[.string z.text] 9));have RD:=kp (RA.out.below ((Below.refl w'.heap.size w').alloc nlq (.cells #[.string z.text] 9)));have ND:=kp (Bk.new w' (.cells #[.string z.text] 9));subst hnl
           go_wp2_with (at_builtin;refine push_str rfl (.tmp 71) (.tmp 77) rfl rfl RD.out rfl ND.out (by omega) (by have:=BD.out.size;omega) ?_)
           intro A9 c9 w9 hown hgr;have R9:=kp hown;have B9:=kp (BD.out.grown hgr (by have:=BD.out.size;simpa using this) (fun j hj=>by have:=(RD.out.lt j hj).1;omega));clear hown hgr;go_wp2_with fail
           go_roundw
           case rel=>exact⟨ns.length+1,by omega,by go_num,ns ++ [z.text],by simp,HRes.out,R9.out,B9.out⟩
           case measure=>simp [intOf];omega
        ·have d4:((nthX u 0).kind != 0)=true:=by rw [bne_iff_ne];exact c3
         replace HBi:=kp (show bindN u=none by rw [HBi.out,if_neg (fun h=>c3 h.2.2.1)]);replace HRes:=kp (show res=none by rw [HRes.out,HBi.out];exact fold_none _);clear hz c1 c2 c3;generalize nthX u 0=z at *;go_wp2_with fail
         go_ret2;rw [HRes.out];exact HPn.out _ (B1.out.trans (BA.out.mono B1.out.size))
       ·have d2:((u.l.length:Int) != 2)=true:=by rw [bne_iff_ne];omega
        replace HBi:=kp (show bindN u=none by rw [HBi.out,if_neg (fun h=>c2 h.2.1)]);replace HRes:=kp (show res=none by rw [HRes.out,HBi.out];exact fold_none _);clear c1 c2;go_wp2_with fail
        go_ret2;rw [HRes.out];exact HPn.out _ (B1.out.trans (BA.out.mono B1.out.size))
      ·have d1:(u.kind != 3)=true:=by rw [bne_iff_ne];exact c1
       replace HBi:=kp (show bindN u=none by rw [HBi.out,if_neg (fun h=>c1 h.1)]);replace HRes:=kp (show res=none by rw [HRes.out,HBi.out];exact fold_none _);clear c1;go_wp2_with fail
       go_ret2;rw [HRes.out];exact HPn.out _ (B1.out.trans (BA.out.mono B1.out.size))
     ·obtain rfl:k=y.l.length:=by omega
      replace HRes:=kp (show res=some ns by rw [HRes.out,List.drop_length];rfl);go_wp2_with fail
      go_ret2;rw [HRes.out];exact HPs.out ns Ao co _ (B1.out.trans (HB.out.mono B1.out.size)) (HRow.out.wide B1.out.size)
  ·have g3:(y.kind != 3)=true:=by rw [bne_iff_ne];exact hk
   replace HO:=kp (show res=none by rw [HO.out,if_neg (fun h=>hk h.1)]);clear hk;go_wp2_with fail
   go_ret2;rw [HO.out];exact HPn.out _ B1.out
 ·have g1:((x.l.length:Int) != 3)=true:=by rw [bne_iff_ne];omega
  replace HO:=kp (show res=none by rw [HO.out,if_neg (fun h=>h3 h.1)]);clear h3;go_wp2_with fail
  go_ret2;rw [HO.out];exact HPn.out _ B1.out
end El
namespace El
open Go.RowKit Go.Maps Dt Sg
theorem and_any {F:Fix} (hF:FixOk F) {w:World} {known:Int} {st:St} {At:Option Addr} {ct:Nat} (hm:Mk F w known st At ct) {L:Option Addr} {l:List V} (cl:Nat) (hcl:l.length<=cl) (hl:ValsS F w L l) (h1:l≠[]) (hll:l.length<=8000000000000) :
  Calls Tryz.prog 142 #[.pointer (some ⟨F.mb,0,none⟩),.slice L l.length cl] w (MkPost F known w st.t At (headM F.c 2 l st).1 (headM F.c 2 l st).2):=by
 have B1:=kp ((brq w).alloc nlq (.cells #[.int .i64 0,.int .i64 0] 82));have RB:=kp (Bk.new w (.cells #[.int .i64 0,.int .i64 0] 82));have hlt:=hm.lt;have HFr:=kp (hm.new_far (Nat.le_refl w.heap.size));have HC:=kp (left_any hF (hm.keep B1.out) 2 (I8.of (by decide) (by decide)) cl hcl (hl.on (Keeps.of_below B1.out _)) h1 hll);generalize headM F.c 2 l st=res at *
 go_enter Tryz.func142,Tryz.ntmps142
 go_upto_region 1 with fail
 generalize w.alloc (.cells #[.int .i64 0,.int .i64 0] 82)=w1 at *;go_wp2_with fail
 refine HC.out.mono ?_;rintro e w7 ⟨rfl,hv,hk7,A7,c7,hm7,ht7⟩;have R7:=kp ((hk7.block w.heap.size (lt_of_block RB.out) (by unfold onMb;omega)).trans RB.out);have M7:=kp hm7;have K7:=kp ((Keeps.of_below B1.out (onMb F)).trans_same hk7);have HT7:=kp (ht7.mono B1.out.size);have HF7:=kp (Far.of_tn HFr.out ht7 (lt_of_block RB.out));unfold valV;clear hk7 hm7 ht7;obtain ⟨r0,r1,rf⟩:=Bk.c2 R7.out;go_wp2_with fail
 refine mk_end (v:=res.1) hF Tryz.results142 M7.out hlt K7.out HT7.out nlq HF7.out R7.out ?_ ?_ hv <;> rfl
theorem or_any {F:Fix} (hF:FixOk F) {w:World} {known:Int} {st:St} {At:Option Addr} {ct:Nat} (hm:Mk F w known st At ct) {L:Option Addr} {l:List V} (cl:Nat) (hcl:l.length<=cl) (hl:ValsS F w L l) (h1:l≠[]) (hll:l.length<=8000000000000) :
  Calls Tryz.prog 143 #[.pointer (some ⟨F.mb,0,none⟩),.slice L l.length cl] w (MkPost F known w st.t At (headM F.c 3 l st).1 (headM F.c 3 l st).2):=by
 have B1:=kp ((brq w).alloc nlq (.cells #[.int .i64 0,.int .i64 0] 82));have RB:=kp (Bk.new w (.cells #[.int .i64 0,.int .i64 0] 82));have hlt:=hm.lt;have HFr:=kp (hm.new_far (Nat.le_refl w.heap.size));have HC:=kp (left_any hF (hm.keep B1.out) 3 (I8.of (by decide) (by decide)) cl hcl (hl.on (Keeps.of_below B1.out _)) h1 hll);generalize headM F.c 3 l st=res at *
 go_enter Tryz.func143,Tryz.ntmps143
 go_upto_region 1 with fail
 generalize w.alloc (.cells #[.int .i64 0,.int .i64 0] 82)=w1 at *;go_wp2_with fail
 refine HC.out.mono ?_;rintro e w7 ⟨rfl,hv,hk7,A7,c7,hm7,ht7⟩;have R7:=kp ((hk7.block w.heap.size (lt_of_block RB.out) (by unfold onMb;omega)).trans RB.out);have M7:=kp hm7;have K7:=kp ((Keeps.of_below B1.out (onMb F)).trans_same hk7);have HT7:=kp (ht7.mono B1.out.size);have HF7:=kp (Far.of_tn HFr.out ht7 (lt_of_block RB.out));unfold valV;clear hk7 hm7 ht7;obtain ⟨r0,r1,rf⟩:=Bk.c2 R7.out;go_wp2_with fail
 refine mk_end (v:=res.1) hF Tryz.results143 M7.out hlt K7.out HT7.out nlq HF7.out R7.out ?_ ?_ hv <;> rfl
theorem xor_any {F:Fix} (hF:FixOk F) {w:World} {known:Int} {st:St} {At:Option Addr} {ct:Nat} (hm:Mk F w known st At ct) {L:Option Addr} {l:List V} (cl:Nat) (hcl:l.length<=cl) (hl:ValsS F w L l) (h1:l≠[]) (hll:l.length<=8000000000000) :
  Calls Tryz.prog 144 #[.pointer (some ⟨F.mb,0,none⟩),.slice L l.length cl] w (MkPost F known w st.t At (headM F.c 4 l st).1 (headM F.c 4 l st).2):=by
 have B1:=kp ((brq w).alloc nlq (.cells #[.int .i64 0,.int .i64 0] 82));have RB:=kp (Bk.new w (.cells #[.int .i64 0,.int .i64 0] 82));have hlt:=hm.lt;have HFr:=kp (hm.new_far (Nat.le_refl w.heap.size));have HC:=kp (left_any hF (hm.keep B1.out) 4 (I8.of (by decide) (by decide)) cl hcl (hl.on (Keeps.of_below B1.out _)) h1 hll);generalize headM F.c 4 l st=res at *
 go_enter Tryz.func144,Tryz.ntmps144
 go_upto_region 1 with fail
 generalize w.alloc (.cells #[.int .i64 0,.int .i64 0] 82)=w1 at *;go_wp2_with fail
 refine HC.out.mono ?_;rintro e w7 ⟨rfl,hv,hk7,A7,c7,hm7,ht7⟩;have R7:=kp ((hk7.block w.heap.size (lt_of_block RB.out) (by unfold onMb;omega)).trans RB.out);have M7:=kp hm7;have K7:=kp ((Keeps.of_below B1.out (onMb F)).trans_same hk7);have HT7:=kp (ht7.mono B1.out.size);have HF7:=kp (Far.of_tn HFr.out ht7 (lt_of_block RB.out));unfold valV;clear hk7 hm7 ht7;obtain ⟨r0,r1,rf⟩:=Bk.c2 R7.out;go_wp2_with fail
 refine mk_end (v:=res.1) hF Tryz.results144 M7.out hlt K7.out HT7.out nlq HF7.out R7.out ?_ ?_ hv <;> rfl
theorem ge_any {F:Fix} (hF:FixOk F) {w:World} {known:Int} {st:St} {At:Option Addr} {ct:Nat} (hm:Mk F w known st At ct) {L:Option Addr} {x y:V} (cl:Nat) (hl:ValsS F w L [x,y]) :
  Calls Tryz.prog 151 #[.pointer (some ⟨F.mb,0,none⟩),.slice L 2 cl] w (MkPost F known w st.t At (opM F.c 8 0 [y,x] st).1 (opM F.c 8 0 [y,x] st).2):=by
 have B1:=kp ((brq w).alloc nlq (.cells #[.int .i64 0,.int .i64 0] 82));have RB:=kp (Bk.new w (.cells #[.int .i64 0,.int .i64 0] 82));have hlt:=hm.lt;have HFr:=kp (hm.new_far (Nat.le_refl w.heap.size));obtain ⟨b,o,rfl,_,_,_,hx⟩:=val_get hl.now (k:=0) (v:=x) rfl;have hy:VI y:=lies_vi hl.now y (by simp);have HX:=kp hx;have HY:=kp hy
 have HLv:=kp (fun W (hW:Keeps (onMb F) w W)=>show(W.cell? ⟨b,o,none⟩=some (.int .i64 x.1)/\W.cell? ⟨b,o+1,none⟩=some (.int .i64 x.2))/\W.cell? ⟨b,o+2,none⟩=some (.int .i64 y.1)/\W.cell? ⟨b,o+3,none⟩=some (.int .i64 y.2) by
  obtain ⟨b1,o1,hA,_,e0,e1,_⟩:=val_get (hl.on hW).now (k:=0) (v:=x) rfl;obtain ⟨b2,o2,hA2,_,e2,e3,_⟩:=val_get (hl.on hW).now (k:=1) (v:=y) rfl;simp only [Option.some.injEq,Addr.mk.injEq,and_true] at hA hA2;obtain ⟨rfl,rfl⟩:=hA;obtain ⟨rfl,rfl⟩:=hA2;rw [Nat.zero_mul,Nat.add_zero] at e0 e1;exact⟨⟨e0,e1⟩,e2,e3⟩)
 clear hx hy;have HC:=kp (fun(W:World) (b':Nat) (hW:Below w.heap.size w W) (hb:W.heap[b']?=some (.cells #[.int .i64 y.1,.int .i64 y.2,.int .i64 x.1,.int .i64 x.2] 82 (0,0)))=>op_any hF (hm.keep hW) 8 0 (I8.of (by decide) (by decide)) v0_VI.1 2 (lies_two hb HY.out HX.out) (Nat.le_succ 2));generalize opM F.c 8 0 [y,x] st=res at *
 go_enter Tryz.func151,Tryz.ntmps151
 go_upto_region 1 with fail
 generalize w.alloc (.cells #[.int .i64 0,.int .i64 0] 82)=w1 at *;have B0:=kp (brq w1).drew;have K0:=kp (Keeps.of_below (B1.out.trans (B0.out.mono B1.out.size)) (onMb F));have KB:=kp (K0.out.alloc (.cells #[.int .i64 y.1,.int .i64 y.2,.int .i64 x.1,.int .i64 x.2] 82));have BB:=kp (B0.out.alloc B0.out.size (.cells #[.int .i64 y.1,.int .i64 y.2,.int .i64 x.1,.int .i64 x.2] 82));have NB:=kp (show(w1.drew.alloc (.cells #[.int .i64 y.1,.int .i64 y.2,.int .i64 x.1,.int .i64 x.2] 82)).heap[w1.heap.size]?=some (.cells #[.int .i64 y.1,.int .i64 y.2,.int .i64 x.1,.int .i64 x.2] 82 (0,0)) from Bk.new w1.drew _);have HCall:=kp (HC.out _ _ (B1.out.trans (BB.out.mono B1.out.size)) NB.out);refine wp_region_held_drew (S:=fun W=>Keeps (onMb F) w W) (by kernel_rfl) (K0.out) (fun hHeld=>?_);refine plz [0,1,2,3,4,5,6] ?_;iterate 7 (refine tnz (v:=?_) ?_ ?_;rotate_left;(focus first | ((intro w hSw;go_simp;try with_reducible rfl);done) | ((intro w hSw;(obtain ⟨⟨e0,e1⟩,e2,e3⟩:=HLv.out _ hSw;go_simp;try with_reducible rfl));done));try simp only [pt])
 refine pzz ?_;refine rd 7 fun K hK=>?_;go_simp;refine hK.out _ _ (KB.out) (fun hHeld=>?_);clear hK K;try simp only [pt]
 have hne0:w.heap.size≠F.mb:=by omega
 have RBB:=kp (Bk.on RB.out BB.out);refine rd 8 fun K hK=>?_;go_simp;refine HCall.out.mono ?_;rintro e w7 ⟨rfl,hv,hk7,A7,c7,hm7,ht7⟩;have R7:=kp ((hk7.block w.heap.size (lt_of_block RBB.out) hne0).trans RBB.out);have M7:=kp hm7;have K7:=kp (KB.out.trans_same hk7);have HT7:=kp (ht7.mono KB.out.size);have HF7:=kp (Far.of_tn HFr.out ht7 (lt_of_block RBB.out));unfold valV;clear hk7 hm7 ht7;refine hK.out _ _ K7.out (fun hHeld=>?_);clear hK K;try simp only [pt]
 obtain ⟨r0,r1,rf⟩:=Bk.c2 R7.out;have K8:=kp ((K7.out.setCell (p:=⟨w.heap.size,0,none⟩) (.inr nlq) (.int .i64 res.1.1)).setCell (p:=⟨w.heap.size,1,none⟩) (.inr nlq) (.int .i64 res.1.2));refine rd 9 fun K hK=>?_;go_simp;refine hK.out _ _ (K8.out) (fun hHeld=>?_);clear hK K;try simp only [pt]
 refine dnz ?_;go_wp2_with fail
 refine mk_end (v:=res.1) hF Tryz.results151 M7.out hlt K7.out HT7.out nlq HF7.out R7.out ?_ ?_ hv <;> rfl
theorem gt_any {F:Fix} (hF:FixOk F) {w:World} {known:Int} {st:St} {At:Option Addr} {ct:Nat} (hm:Mk F w known st At ct) {L:Option Addr} {x y:V} (cl:Nat) (hl:ValsS F w L [x,y]) :
  Calls Tryz.prog 152 #[.pointer (some ⟨F.mb,0,none⟩),.slice L 2 cl] w (MkPost F known w st.t At (opM F.c 9 0 [y,x] st).1 (opM F.c 9 0 [y,x] st).2):=by
 have B1:=kp ((brq w).alloc nlq (.cells #[.int .i64 0,.int .i64 0] 82));have RB:=kp (Bk.new w (.cells #[.int .i64 0,.int .i64 0] 82));have hlt:=hm.lt;have HFr:=kp (hm.new_far (Nat.le_refl w.heap.size));obtain ⟨b,o,rfl,_,_,_,hx⟩:=val_get hl.now (k:=0) (v:=x) rfl;have hy:VI y:=lies_vi hl.now y (by simp);have HX:=kp hx;have HY:=kp hy
 have HLv:=kp (fun W (hW:Keeps (onMb F) w W)=>show(W.cell? ⟨b,o,none⟩=some (.int .i64 x.1)/\W.cell? ⟨b,o+1,none⟩=some (.int .i64 x.2))/\W.cell? ⟨b,o+2,none⟩=some (.int .i64 y.1)/\W.cell? ⟨b,o+3,none⟩=some (.int .i64 y.2) by
  obtain ⟨b1,o1,hA,_,e0,e1,_⟩:=val_get (hl.on hW).now (k:=0) (v:=x) rfl;obtain ⟨b2,o2,hA2,_,e2,e3,_⟩:=val_get (hl.on hW).now (k:=1) (v:=y) rfl;simp only [Option.some.injEq,Addr.mk.injEq,and_true] at hA hA2;obtain ⟨rfl,rfl⟩:=hA;obtain ⟨rfl,rfl⟩:=hA2;rw [Nat.zero_mul,Nat.add_zero] at e0 e1;exact⟨⟨e0,e1⟩,e2,e3⟩)
 clear hx hy;have HC:=kp (fun(W:World) (b':Nat) (hW:Below w.heap.size w W) (hb:W.heap[b']?=some (.cells #[.int .i64 y.1,.int .i64 y.2,.int .i64 x.1,.int .i64 x.2] 82 (0,0)))=>op_any hF (hm.keep hW) 9 0 (I8.of (by decide) (by decide)) v0_VI.1 2 (lies_two hb HY.out HX.out) (Nat.le_succ 2));generalize opM F.c 9 0 [y,x] st=res at *
 go_enter Tryz.func152,Tryz.ntmps152
 go_upto_region 1 with fail
 generalize w.alloc (.cells #[.int .i64 0,.int .i64 0] 82)=w1 at *;have B0:=kp (brq w1).drew;have K0:=kp (Keeps.of_below (B1.out.trans (B0.out.mono B1.out.size)) (onMb F));have KB:=kp (K0.out.alloc (.cells #[.int .i64 y.1,.int .i64 y.2,.int .i64 x.1,.int .i64 x.2] 82));have BB:=kp (B0.out.alloc B0.out.size (.cells #[.int .i64 y.1,.int .i64 y.2,.int .i64 x.1,.int .i64 x.2] 82));have NB:=kp (show(w1.drew.alloc (.cells #[.int .i64 y.1,.int .i64 y.2,.int .i64 x.1,.int .i64 x.2] 82)).heap[w1.heap.size]?=some (.cells #[.int .i64 y.1,.int .i64 y.2,.int .i64 x.1,.int .i64 x.2] 82 (0,0)) from Bk.new w1.drew _);have HCall:=kp (HC.out _ _ (B1.out.trans (BB.out.mono B1.out.size)) NB.out);refine wp_region_held_drew (S:=fun W=>Keeps (onMb F) w W) (by kernel_rfl) (K0.out) (fun hHeld=>?_);refine plz [0,1,2,3,4,5,6] ?_;iterate 7 (refine tnz (v:=?_) ?_ ?_;rotate_left;(focus first | ((intro w hSw;go_simp;try with_reducible rfl);done) | ((intro w hSw;(obtain ⟨⟨e0,e1⟩,e2,e3⟩:=HLv.out _ hSw;go_simp;try with_reducible rfl));done));try simp only [pt])
 refine pzz ?_;refine rd 7 fun K hK=>?_;go_simp;refine hK.out _ _ (KB.out) (fun hHeld=>?_);clear hK K;try simp only [pt]
 have hne0:w.heap.size≠F.mb:=by omega
 have RBB:=kp (Bk.on RB.out BB.out);refine rd 8 fun K hK=>?_;go_simp;refine HCall.out.mono ?_;rintro e w7 ⟨rfl,hv,hk7,A7,c7,hm7,ht7⟩;have R7:=kp ((hk7.block w.heap.size (lt_of_block RBB.out) hne0).trans RBB.out);have M7:=kp hm7;have K7:=kp (KB.out.trans_same hk7);have HT7:=kp (ht7.mono KB.out.size);have HF7:=kp (Far.of_tn HFr.out ht7 (lt_of_block RBB.out));unfold valV;clear hk7 hm7 ht7;refine hK.out _ _ K7.out (fun hHeld=>?_);clear hK K;try simp only [pt]
 obtain ⟨r0,r1,rf⟩:=Bk.c2 R7.out;have K8:=kp ((K7.out.setCell (p:=⟨w.heap.size,0,none⟩) (.inr nlq) (.int .i64 res.1.1)).setCell (p:=⟨w.heap.size,1,none⟩) (.inr nlq) (.int .i64 res.1.2));refine rd 9 fun K hK=>?_;go_simp;refine hK.out _ _ (K8.out) (fun hHeld=>?_);clear hK K;try simp only [pt]
 refine dnz ?_;go_wp2_with fail
 refine mk_end (v:=res.1) hF Tryz.results152 M7.out hlt K7.out HT7.out nlq HF7.out R7.out ?_ ?_ hv <;> rfl
theorem alike1_any {w:World} {bb n c:Nat} {L:Option Addr} {l:List V} {x:V} (v:V) (hb:w.heap[bb]?=some (.cells #[.slice L n c] 154 (0,0))) (hl:Lies 2 ValR w L l) (hx:l[0]?=some x) (hn:0 < n) :
  Calls Tryz.prog 192 #[.agg #[.int .i64 v.1,.int .i64 v.2],.pointer (some ⟨bb,0,none⟩)] w fun e w'=>e=.returned (.bool (v.1 != x.1))/\Below w.heap.size w w':=by
 have B1:=kp ((brq w).alloc nlq (.cells #[.int .i64 v.1,.int .i64 v.2] 82));have N1:=kp (Bk.new w (.cells #[.int .i64 v.1,.int .i64 v.2] 82));have HBk:=kp (Bk.on hb B1.out);have HLv:=kp (hl.on ValR.lasts B1.out);obtain ⟨b,o,rfl,_,_,_,_⟩:=val_get hl hx;have hn2:(0:Int) < (n:Int):=by omega
 clear hb hl
 go_enter Tryz.func192,Tryz.ntmps192
 go_upto_region 1 with fail
 generalize w.alloc (.cells #[.int .i64 v.1,.int .i64 v.2] 82)=w1 at *;have B0:=kp (brq w1).drew
 have HR:=kp (fun W (hW:Below w1.heap.size w1 W)=>show W.cell? ⟨b,o,none⟩=some (.int .i64 x.1) by
  obtain ⟨b1,o1,hA,_,e0,e1,_⟩:=val_get (HLv.out.on ValR.lasts hW) hx;obtain ⟨rfl,rfl⟩:=aiq hA
  rwa [Nat.zero_mul,Nat.add_zero] at e0)
 refine wp_region_held_drew (S:=fun W=>Below w1.heap.size w1 W) (by kernel_rfl) (B0.out) (fun hHeld=>?_);refine plz [0,1,2,3,4,5,6,7] ?_;iterate 8 (refine tnz (v:=?_) ?_ ?_;rotate_left;(focus first | ((intro w hSw;go_simp;try with_reducible rfl);done) | ((intro w hSw;(obtain ⟨v0',v1',vf⟩:=Bk.c2 (Bk.on N1.out hSw);go_simp;try with_reducible rfl));done) | ((intro w hSw;(obtain ⟨v0',vf⟩:=Bk.c1 (Bk.on HBk.out hSw);go_simp;try with_reducible rfl));done) | ((intro w hSw;(have e0:=HR.out _ hSw;go_simp;try with_reducible rfl));done));try simp only [pt])
 refine pzz ?_;refine dnz ?_;go_wp2_with fail
 go_ret;exact⟨rfl,B1.out.trans (B0.out.mono B1.out.size)⟩
theorem idx_vals {w:World} {bb c:Nat} {L:Option Addr} {l:List V} {x:V} (hb:w.heap[bb]?=some (.cells #[.slice L l.length c] 154 (0,0))) (hl:Lies 2 ValR w L l) (hx:l[0]?=some x) (hlen:l.length<=8000000000000) :
  Calls Tryz.prog 198 #[.slice L l.length c,.func (Fn.func 192) #[] #[.pointer (some ⟨bb,0,none⟩)]] w fun e w'=>IdxPost (l.any fun v=>v.1 != x.1) e/\Below w.heap.size w w':=by
 have HBb:=kp hb;have HL:=kp hl;have HX:=kp hx;have hpos:0 < l.length:=by have:=(gqs hx).1;exact this
 clear hb hl hx
 go_enter Tryz.func198,Tryz.ntmps198
 go_wp2_with fail
 go_loopw [8] (fun v wr=>∃ k:Nat,k<=l.length/\v=.int .i64 k/\(l.take k).any (fun v=>v.1 != x.1)=false/\Below w.heap.size w wr) (fun v _=>l.length - (intOf v).toNat)
 case atStart=>exact⟨0,Nat.zero_le _,rfl,rfl,Below.refl _ _⟩
 case round =>
  obtain ⟨k,hk,rfl,hn,hbl⟩:=hrel;have HN:=kp hn;have HB:=kp hbl;clear hn hbl
  by_cases hlt:k < l.length
  ·have hlt2:(k:Int) < (l.length:Int):=by omega
   obtain ⟨y,hy⟩:∃ y,l[k]?=some y:=⟨_,gqe hlt⟩;obtain ⟨b,o,rfl,_,e0,e1,_⟩:=val_get (HL.out.on ValR.lasts HB.out) hy;have HC:=kp (alike1_any y (Bk.on HBb.out HB.out) (HL.out.on ValR.lasts HB.out) HX.out hpos);have HY:=kp hy;clear hy
   cases hq:y.1 != x.1 with
   | false =>
    have HQ:=kp (show(l.take (k+1)).any (fun v=>v.1 != x.1)=false by rw [List.take_add_one,HY.out,List.any_append,HN.out];simpa using hq);rw [hq] at HC;clear hq;go_wp2_with fail
    refine HC.out.mono ?_;rintro e w2 ⟨rfl,hb2⟩;have HB2:=kp (HB.out.trans (hb2.mono HB.out.size));clear hb2;go_wp2_with fail
    go_roundw
    case rel=>exact⟨k+1,by omega,by go_num,HQ.out,HB2.out⟩
    case measure=>simp [intOf];omega
   | true =>
    have HQ:=kp (show l.any (fun v=>v.1 != x.1)=true by rw [List.any_eq_true];exact⟨y,mgq HY.out,hq⟩);rw [hq] at HC;clear hq;go_wp2_with fail
    refine HC.out.mono ?_;rintro e w2 ⟨rfl,hb2⟩;have HB2:=kp (HB.out.trans (hb2.mono HB.out.size));clear hb2;go_wp2_with fail
    go_ret;exact⟨⟨k,rfl,by rw [HQ.out];exact decide_eq_true (by omega)⟩,HB2.out⟩
  ·obtain rfl:k=l.length:=by omega
   have HQ:=kp (show l.any (fun v=>v.1 != x.1)=false by have h:=HN.out;rwa [List.take_length] at h);go_wp2_with fail
   go_ret;exact⟨⟨-1,rfl,by rw [HQ.out];exact dfq (by omega)⟩,HB.out⟩
theorem contains_vals {w:World} {A:Option Addr} {n c:Nat} {q:Bool} {fv:Value} (h:Calls Tryz.prog 198 #[.slice A n c,fv] w fun e w'=>IdxPost q e/\Below w.heap.size w w') :
  Calls Tryz.prog 191 #[.slice A n c,fv] w fun e w'=>e=.returned (.bool q)/\Below w.heap.size w w':=by
 have HI:=kp h;clear h
 go_enter Tryz.func191,Tryz.ntmps191
 go_wp2_with fail
 refine HI.out.mono ?_;rintro e w1 ⟨⟨r,rfl,hr⟩,hb⟩;have HR:=kp hr;have HB:=kp hb;clear hr hb;go_wp2_with fail
 go_ret;exact⟨ret_bool HR.out,HB.out⟩
theorem elike_eq {l:List V} {x:V} (hx:l[0]?=some x):(l.any fun v=>v.1 != x.1)=!alikeB l:=by
 unfold alikeB;rw [List.getD_eq_getElem?_getD,hx,List.any_eq_not_all_not];simp only [Option.getD_some,bne,Bool.not_not]
def alikeS (l:List V) (st:St):St:=if alikeB l then st else failS 33 st
def MbPost (F:Fix) (known:Int) (w:World) (t:List Node) (At:Option Addr) (b:Bool) (st':St) (e:Ending) (w':World):Prop :=
 e=.returned (.bool b)/\Keeps (onMb F) w w'/\∃ A' c',Mk F w' known st' A' c'/\TN w.heap.size t At st'.t A'
theorem elike_any {F:Fix} (hF:FixOk F) {w:World} {known:Int} {st:St} {At:Option Addr} {ct:Nat} (hm:Mk F w known st At ct) {L:Option Addr} {l:List V} (cl:Nat) (hl:ValsS F w L l) (h1:l≠[]) (hll:l.length<=8000000000000) :
  Calls Tryz.prog 177 #[.pointer (some ⟨F.mb,0,none⟩),.slice L l.length cl] w (MbPost F known w st.t At (decide ((alikeS l st).e=0)) (alikeS l st)):=by
 obtain ⟨x,hx⟩:∃ x,l[0]?=some x:=⟨_,gqe (List.length_pos_iff.2 h1)⟩;have B1:=kp ((brq w).alloc nlq (.cells #[.slice L l.length cl] 154));have N1:=kp (Bk.new w (.cells #[.slice L l.length cl] 154));have M1:=kp (hm.keep B1.out);have HI:=kp (contains_vals (idx_vals N1.out (hl.below B1.out).now hx hll));rw [elike_eq hx] at HI;have HS:=kp (show alikeS l st=if alikeB l then st else failS 33 st from rfl);have HF:=kp (fun(W:World) (h:Below w.heap.size w W)=>fail_any hF (hm.keep h) 33 (by decide));clear hm hl hx;generalize alikeS l st=st1 at *;generalize alikeB l=al at *
 go_enter Tryz.func177,Tryz.ntmps177
 go_upto_region 1 with fail
 generalize w.alloc (.cells #[.slice L l.length cl] 154)=w1 at *;obtain ⟨c0,cf⟩:=Bk.c1 N1.out;go_wp2_with fail
 refine HI.out.mono ?_;rintro e w2 ⟨rfl,hb2⟩;have B2:=kp (B1.out.trans (hb2.mono B1.out.size));have M2:=kp (M1.out.keep hb2);clear hb2
 cases al with
 | true =>
  replace HS:=kp (show st1=st from HS.out);obtain ⟨m0,m1,m2,m3,m4,m5,m6,m7,m8,mf⟩:=Bk.c9 M2.out.blk;go_wp2_with fail
  go_ret;exact⟨by rw [HS.out];congr,Keeps.of_below B2.out _,At,ct,by rw [HS.out];exact M2.out,by rw [HS.out];exact TN.refl _ _ _⟩
 | false =>
  replace HS:=kp (show st1=failS 33 st from HS.out);have HF2:=kp (HF.out _ B2.out);go_wp2_with fail
  refine HF2.out.mono ?_;rintro e w7 ⟨rfl,hv,hk7,A7,c7,hm7,ht7⟩;have K7:=kp ((Keeps.of_below B2.out (onMb F)).trans_same hk7);have T7:=kp (ht7.mono B2.out.size);have M7:=kp hm7;rw [← HS.out] at M7 T7;obtain ⟨m0,m1,m2,m3,m4,m5,m6,m7,m8,mf⟩:=Bk.c9 M7.out.blk;clear hk7 hm7 ht7 hv;go_wp2_with fail
  go_ret;exact⟨by congr,K7.out,A7,c7,M7.out,T7.out⟩
theorem equal_any {F:Fix} (hF:FixOk F) {w:World} {known:Int} {st:St} {At:Option Addr} {ct:Nat} (hm:Mk F w known st At ct) {L:Option Addr} {l:List V} (cl:Nat) (hcl:l.length<=cl) (hl:ValsS F w L l) (h2:2<=l.length) (hll:l.length<=8000000000000) :
  Calls Tryz.prog 146 #[.pointer (some ⟨F.mb,0,none⟩),.slice L l.length cl] w (MkPost F known w st.t At (equalM F.c l st).1 (equalM F.c l st).2):=by
 have h1:l≠[]:=by intro e;rw [e] at h2;simp at h2
 have D1:=kp (Mid.new hm);have HAl:=kp (elike_any hF D1.out.maker cl (hl.on D1.out.keeps) h1 hll);have HS:=kp (show equalM F.c l st=if(alikeS l st).e≠0 then(v0,alikeS l st) else headM F.c 2 (eqsM F.c (l.getD 0 v0) l.tail (alikeS l st)).1 (eqsM F.c (l.getD 0 v0) l.tail (alikeS l st)).2 from rfl);have HLv:=kp hl;obtain ⟨x,r,rfl⟩:=List.exists_cons_of_ne_nil h1;have HLn:=kp (show(x :: r).length=r.length+1 from rfl);have hr1:1<=r.length:=by rw [HLn.out] at h2;omega
 have hrl:r.length < 8000000000000:=by rw [HLn.out] at hll;omega
 have hlt:=hm.lt;clear hl hm h1 h2 hll;generalize equalM F.c (x :: r) st=res at *;generalize alikeS (x :: r) st=st1 at *;generalize hxn:(x :: r).length=xn at *;obtain rfl:xn=r.length+1:=HLn.out;clear hxn
 go_enter Tryz.func146,Tryz.ntmps146
 go_upto_region 1 with fail
 generalize w.alloc (.cells #[.int .i64 0,.int .i64 0] 82)=w1 at *;go_wp2_with fail
 refine HAl.out.mono ?_;rintro e w2 ⟨rfl,hk2,A2,c2,hm2,ht2⟩;have D2:=kp (D1.out.call hk2 hm2 ht2);clear hk2 hm2 ht2 HAl
 by_cases he:st1.e=0
 ·replace HS:=kp (show res=headM F.c 2 (eqsM F.c x r st1).1 (eqsM F.c x r st1).2 by rw [HS.out,if_neg (by simp [he])];rfl);have he1:decide (st1.e=0)=true:=decide_eq_true he;have hc1:¬ cl=1:=by omega
  have hcl2:1<=cl:=by omega
  rw [he1];clear he he1;go_wp2_with fail
  go_loopw [5,15] (fun v' i' wr=>∃ (k:Nat) (y:V) (vs:List V) (st':St) (A':Option Addr) (c':Nat),k<=r.length/\i'=.int .i64 k/\(x :: r)[k]?=some y/\vs.length=k/\res=headM F.c 2 (vs ++ (eqsM F.c y (r.drop k) st').1) (eqsM F.c y (r.drop k) st').2/\VRow (w.heap.size+1) st'.t A' wr v' vs/\Mid F known w st.t At w.heap.size wr st' A' c') (fun _ i' _=>r.length - (intOf i').toNat)
  case atStart=>exact⟨0,x,[],st1,A2,c2,Nat.zero_le _,rfl,rfl,rfl,HS.out,VRow.nil _ _ _ _,D2.out⟩
  case round =>
   obtain ⟨k,y,vs,st',A',c',hk,rfl,hy,hvl,hres,hrow,hmid⟩:=hrel;have HRes:=kp hres;have HRow:=kp hrow;have DR:=kp hmid;have HY:=kp hy;obtain ⟨Ao,co,rfl,hsh1,hsh2⟩:=hrow.shape;clear hres hrow hmid hy
   by_cases hkl:k < r.length
   ·have hlt2:(k:Int) < (r.length:Int):=by omega
    have hlt3:(k:Int) < (r.length:Int)+1:=by omega
    have hkw:IntKind.i64.wrap ((k:Int)+1)=(k:Int)+1:=IntWalk.i64_in _ (by omega);have hk0:0<=(k:Int)+1:=by omega
    have hkt:((k:Int)+1).toNat=k+1:=by omega
    obtain ⟨z,hz⟩:∃ z,r[k]?=some z:=⟨_,gqe hkl⟩
    have HDr:=kp (show r.drop k=z :: r.drop (k+1) by
     rw [List.drop_eq_getElem_cons hkl];rw [gqe hkl] at hz;simp at hz;rw [hz])
    rw [HDr.out] at HRes;replace HRes:=kp (show res=headM F.c 2 (vs ++ ((opM F.c 6 0 [y,z] st').1 :: (eqsM F.c z (r.drop (k+1)) (opM F.c 6 0 [y,z] st').2).1)) (eqsM F.c z (r.drop (k+1)) (opM F.c 6 0 [y,z] st').2).2 from HRes.out);have HZ:=kp (show(x :: r)[k+1]?=some z by simpa using hz);obtain ⟨b,o,rfl,_,_,_,hvy⟩:=val_get HLv.out.now HY.out;obtain ⟨b',o',hA,_,_,_,hvz⟩:=val_get HLv.out.now HZ.out;obtain ⟨rfl,rfl⟩:=aiq hA;have VY:=kp hvy;have VZ:=kp hvz
    have HYr:=kp (fun W (hW:Keeps (onMb F) w W)=>show(W.cell? ⟨b,o+k * 2,none⟩=some (.int .i64 y.1)/\W.cell? ⟨b,o+k * 2+1,none⟩=some (.int .i64 y.2))/\W.cell? ⟨b,o+(k+1) * 2,none⟩=some (.int .i64 z.1)/\W.cell? ⟨b,o+(k+1) * 2+1,none⟩=some (.int .i64 z.2) by
     obtain ⟨b1,o1,hA,_,e0,e1,_⟩:=val_get (HLv.out.on hW).now HY.out;obtain ⟨b2,o2,hA2,_,e2,e3,_⟩:=val_get (HLv.out.on hW).now HZ.out;simp only [Option.some.injEq,Addr.mk.injEq,and_true] at hA hA2;obtain ⟨rfl,rfl⟩:=hA;obtain ⟨rfl,rfl⟩:=hA2;exact⟨⟨e0,e1⟩,e2,e3⟩)
    clear hvy hvz hz HDr;go_upto_region 7 with fail
    have DB:=kp (DR.out.drew.alloc (.cells #[.int .i64 y.1,.int .i64 y.2,.int .i64 z.1,.int .i64 z.2] 82));have NB:=kp (show(wr.drew.alloc (.cells #[.int .i64 y.1,.int .i64 y.2,.int .i64 z.1,.int .i64 z.2] 82)).heap[wr.heap.size]?=some (.cells #[.int .i64 y.1,.int .i64 y.2,.int .i64 z.1,.int .i64 z.2] 82 (0,0)) from Bk.new wr.drew _);have RB:=kp (HRow.out.below ((brq wr).drew.alloc nlq (.cells #[.int .i64 y.1,.int .i64 y.2,.int .i64 z.1,.int .i64 z.2] 82)));have HOp:=kp (op_any hF DB.out.maker 6 0 (I8.of (by decide) (by decide)) v0_VI.1 2 (lies_two NB.out VY.out VZ.out) (Nat.le_succ 2));generalize opM F.c 6 0 [y,z] st'=pr at *;obtain ⟨pv,ps⟩:=pr;have hmbb:F.mb < w.heap.size+1:=by omega
    refine wp_region_held_drew (S:=fun W=>Keeps (onMb F) w W) (by kernel_rfl) (DR.out.drew.keeps) (fun hHeld=>?_);refine plz [0,1,2,3,4,5,6,7,8,9,10] ?_;iterate 11 (refine tnz (v:=?_) ?_ ?_;rotate_left;(focus first | ((intro w hSw;go_simp;try with_reducible rfl);done) | ((intro w hSw;(obtain ⟨⟨e0,e1⟩,e2,e3⟩:=HYr.out _ hSw;go_simp;try with_reducible rfl));done));try simp only [pt])
    refine pzz ?_;refine rd 11 fun K hK=>?_;go_simp;refine hK.out _ _ (DB.out.keeps) (fun hHeld=>?_);clear hK K;try simp only [pt]
    refine rd 12 fun K hK=>?_;go_simp;refine HOp.out.mono ?_;rintro e w7 ⟨rfl,hv,hk7,A7,c7,hm7,ht7⟩;have D7:=kp (DB.out.call hk7 hm7 ht7);have R7:=kp (RB.out.call hk7 ht7 hmbb);have VP:=kp hv;unfold valV;clear hv hk7 hm7 ht7;refine hK.out _ _ D7.out.keeps (fun hHeld=>?_);clear hK K;have D8:=kp (D7.out.alloc (.cells #[.int .i64 pv.1,.int .i64 pv.2] 82));have R8:=kp (R7.out.below ((brq w7).alloc nlq (.cells #[.int .i64 pv.1,.int .i64 pv.2] 82)));have N8:=kp (Bk.new w7 (.cells #[.int .i64 pv.1,.int .i64 pv.2] 82));subst hvl;refine rd 13 fun K hK=>?_;go_simp;refine hK.out _ _ (D8.out.keeps) (fun hHeld=>?_);clear hK K;try simp only [pt]
    refine rd 14 fun K hK=>?_;refine push_step (by rfl) (.tmp 18) (.tmp 31) (by rfl) (by rfl) R8.out (by rfl) N8.out VP.out (by omega) (by have:=D8.out.size;omega) (D8.out.fresh nlq) ?_;intro A9 c9 w9 hp9 hg9 _;have D9:=kp (D8.out.grown hF R8.out hg9 (Nat.lt_succ_self _));have R9:=kp hp9;clear hp9 hg9;refine hK.out _ _ D9.out.keeps (fun hHeld=>?_);clear hK K;simp only [Act.put];refine tk 15 (v:=?_) ?_ ?_;rotate_left
    ·(intro w hSw;go_simp;try with_reducible rfl)
    try simp only [pt]
    refine dnz ?_;go_wp2_with fail
    go_roundw
    case rel=>exact⟨_,_,_,⟨vs.length+1,by omega,by go_num,z.1,z.2,HZ.out,vs ++ [pv],by simp,ps,by rw [HRes.out];simp,A7,R9.out,c7,D9.out⟩,rfl,rfl,rfl⟩
    case measure=>simp [intOf];omega
   ·obtain rfl:k=r.length:=by omega
    replace HRes:=kp (show res=headM F.c 2 vs st' by rw [HRes.out,List.drop_length];simp [eqsM]);have HAnd:=kp (and_any hF DR.out.maker co hsh1 (HRow.out.valsS (F:=F) (by omega)) (by intro e;rw [e] at hvl;simp at hvl;omega) (by omega));rw [← HRes.out,hvl] at HAnd;go_wp2_with fail
    refine HAnd.out.mono ?_;rintro e w7 ⟨rfl,hv,hk7,A7,c7,hm7,ht7⟩;have D7:=kp (DR.out.call hk7 hm7 ht7);unfold valV;clear hk7 hm7 ht7;obtain ⟨r0,r1,rf⟩:=Bk.c2 D7.out.cell;go_wp2_with fail
    refine D7.out.ret (v:=res.1) hF Tryz.results146 ?_ ?_ hv <;> rfl
 ·replace HS:=kp (show res=(v0,st1) by rw [HS.out,if_pos he]);have he1:decide (st1.e=0)=false:=dfq he;rw [he1];obtain ⟨r0,r1,rf⟩:=Bk.c2 D2.out.cell;go_wp2_with fail
  rw [HS.out];refine D2.out.ret (v:=v0) hF Tryz.results146 ?_ ?_ v0_VI <;> rfl
def distR (c:Cx) (x:V) (r1 r:List V) (vs:List V) (st:St):V × St:=headM c 2 (vs ++ (neqsM c x r1 st).1 ++ (distinctL c r (neqsM c x r1 st).2).1) (distinctL c r (neqsM c x r1 st).2).2
theorem distinct_any {F:Fix} (hF:FixOk F) {w:World} {known:Int} {st:St} {At:Option Addr} {ct:Nat} (hm:Mk F w known st At ct) {L:Option Addr} {l:List V} (cl:Nat) (hcl:l.length<=cl) (hl:ValsS F w L l) (h2:2<=l.length) (hll:l.length<=1048576) :
  Calls Tryz.prog 147 #[.pointer (some ⟨F.mb,0,none⟩),.slice L l.length cl] w (MkPost F known w st.t At (distinctM F.c l st).1 (distinctM F.c l st).2):=by
 have h1:l≠[]:=by intro e;rw [e] at h2;simp at h2
 obtain ⟨bf,hbs,hbm⟩:∃ bf:Nat->Nat,(∀ k,bf (k+1)=bf k+l.length)/\(∀ k,k<=l.length->bf k<=2000000000000):=⟨fun k=>k * l.length,fun k=>Nat.succ_mul k _,fun k hk=>Nat.le_trans (Nat.mul_le_mul (Nat.le_trans hk hll) hll) (by decide)⟩;have HBs:=kp hbs;have HBm:=kp hbm;clear hbs hbm;have D1:=kp (Mid.new hm);have HAl:=kp (elike_any hF D1.out.maker cl (hl.on D1.out.keeps) h1 (by omega));have HS:=kp (show distinctM F.c l st=if(alikeS l st).e≠0 then(v0,alikeS l st) else headM F.c 2 (distinctL F.c l (alikeS l st)).1 (distinctL F.c l (alikeS l st)).2 from rfl);have HLv:=kp hl;have hlt:=hm.lt;clear hl hm h1;generalize distinctM F.c l st=res at *;generalize alikeS l st=st1 at *
 go_enter Tryz.func147,Tryz.ntmps147
 go_upto_region 1 with fail
 generalize w.alloc (.cells #[.int .i64 0,.int .i64 0] 82)=w1 at *;go_wp2_with fail
 refine HAl.out.mono ?_;rintro e w2 ⟨rfl,hk2,A2,c2,hm2,ht2⟩;have D2:=kp (D1.out.call hk2 hm2 ht2);clear hk2 hm2 ht2 HAl
 by_cases he:st1.e=0
 ·replace HS:=kp (show res=headM F.c 2 ([] ++ (distinctL F.c (l.drop 0) st1).1) (distinctL F.c (l.drop 0) st1).2 by rw [HS.out,if_neg (by simp [he])];rfl);have he1:decide (st1.e=0)=true:=decide_eq_true he;rw [he1];clear he he1;go_wp2_with fail
  go_loopw [5,17] (fun v' i' wr=>∃ (k:Nat),k<=l.length/\i'=.int .i64 k/\∃ (vs:List V),vs.length<=bf k/\(1<=k->1<=vs.length)/\∃ (st':St),res=headM F.c 2 (vs ++ (distinctL F.c (l.drop k) st').1) (distinctL F.c (l.drop k) st').2/\∃ (A':Option Addr),VRow (w.heap.size+1) st'.t A' wr v' vs/\∃ (c':Nat),Mid F known w st.t At w.heap.size wr st' A' c') (fun _ i' _=>l.length - (intOf i').toNat)
  case atStart=>exact⟨0,Nat.zero_le _,rfl,[],Nat.zero_le _,by omega,st1,HS.out,A2,VRow.nil _ _ _ _,c2,D2.out⟩
  case round =>
   obtain ⟨k,hk,rfl,vs,hvs,hvs0,st',hres,A',hrow,c',hmid⟩:=hrel;have HRes:=kp hres;have HRow:=kp hrow;have DR:=kp hmid;obtain ⟨Ao,co,rfl,hsh1,hsh2⟩:=hrow.shape;clear hres hrow hmid
   by_cases hkl:k < l.length
   ·have hlt2:(k:Int) < (l.length:Int):=by omega
    obtain ⟨x,hx⟩:∃ x,l[k]?=some x:=⟨_,gqe hkl⟩;have HX:=kp hx
    have HDr:=kp (show l.drop k=x :: l.drop (k+1) by
     rw [List.drop_eq_getElem_cons hkl];rw [gqe hkl] at hx;simp at hx;rw [hx])
    rw [HDr.out] at HRes;replace HRes:=kp (show res=distR F.c x ((l.drop (k+1)).drop 0) (l.drop (k+1)) vs st' by rw [HRes.out];unfold distR;rw [List.append_assoc];rfl);obtain ⟨b,o,rfl,_,e0,e1,hvx⟩:=val_get (HLv.out.on DR.out.keeps).now hx;have VX:=kp hvx;have hle:=hcl;have DA:=kp (DR.out.alloc (.cells #[.int .i64 x.1,.int .i64 x.2] 82));have XA:=kp (Bk.new wr (.cells #[.int .i64 x.1,.int .i64 x.2] 82));have RA:=kp (HRow.out.below ((brq wr).alloc nlq (.cells #[.int .i64 x.1,.int .i64 x.2] 82)));have HOx:=kp (show ∀ g,(Value.slice Ao vs.length co).ownBlock=some g->g≠wr.heap.size from fun g hg=>by have:=(HRow.out.own.lt g hg).2;omega);have hxb:w.heap.size<=wr.heap.size:=DR.out.keeps.size;clear hvx hx HDr HRow DR;go_upto_region 7 with fail
    generalize hwa:wr.alloc (.cells #[.int .i64 x.1,.int .i64 x.2] 82)=wa at *;clear hwa e0 e1;generalize hxm:wr.heap.size=xb at *;clear hxm;have hkw:IntKind.i64.wrap ((k:Int)+1)=(k:Int)+1:=IntWalk.i64_in _ (by omega);have hk0:0<=(k:Int)+1:=by omega
    have hkt:((k:Int)+1).toNat=k+1:=by omega
    have hks:(k:Int)+1<=(l.length:Int):=by omega
    have hkc:(k:Int)+1<=(cl:Int):=by omega
    generalize hr:l.drop (k+1)=r at *;have HR:=kp hr;have hrn:l.length - (k+1)=r.length:=by rw [← hr];simp
    clear hr;have hrl:r.length+k+1=l.length:=by omega
    by_cases hck:cl=k+1
    ·obtain rfl:r=[]:=List.length_eq_zero_iff.1 (by omega);replace HRes:=kp (show res=headM F.c 2 (vs ++ (distinctL F.c (l.drop (k+1)) st').1) (distinctL F.c (l.drop (k+1)) st').2 by rw [HRes.out,HR.out];simp [distR,neqsM]);have hln:l.length=k+1:=by simp at hrl;omega
     go_wp2_with fail
     go_loopw [5,27] (fun v' i' wr'=>v'=.slice Ao vs.length co/\i'=.int .i64 0/\wa=wr') (fun _ _ _=>0)
     case atStart=>exact⟨rfl,rfl,rfl⟩
     case round =>
      obtain ⟨rfl,rfl,rfl⟩:=hrel;have HRow:=RA;have DR:=DA;have hvs1':vs.length<=bf (k+1):=by rw [HBs.out k];omega
      have hvs2':1<=k+1->1<=vs.length:=by omega
      go_wp2_with fail
      go_roundw
      case rel=>exact⟨k+1,by omega,by go_num,vs,hvs1',hvs2',st',HRes.out,A',HRow.out,c',DR.out⟩
      case measure=>simp [intOf];omega
    ·have hck2:k+1 < cl:=by omega
     go_upto_region 8 with fail
     go_loopw [5,27] (fun v' i' wr'=>∃ (j:Nat),j<=r.length/\i'=.int .i64 j/\∃ (vs:List V),vs.length<=bf k+j/\(1<=k+j->1<=vs.length)/\∃ (st':St),res=distR F.c x (r.drop j) r vs st'/\∃ (A':Option Addr),VRow (w.heap.size+1) st'.t A' wr' v' vs/\(∀ g,v'.ownBlock=some g->g≠xb)/\wr'.heap[xb]?=some (.cells #[.int .i64 x.1,.int .i64 x.2] 82 (0,0))/\∃ (c':Nat),Mid F known w st.t At w.heap.size wr' st' A' c') (fun _ i' _=>r.length - (intOf i').toNat)
     case atStart=>exact⟨0,Nat.zero_le _,rfl,vs,by omega,by omega,st',HRes.out,A',RA.out,HOx.out,XA.out,c',DA.out⟩
     case round =>
      clear HRes RA HOx XA DA hvs hvs0 hsh1 hsh2;obtain ⟨j,hj,rfl,vs,hvs,hvs0,st',hres,A',hrow,hox,hxa,c',hmid⟩:=hrel;have HRes:=kp hres;have HRow:=kp hrow;have DR:=kp hmid;have HOx:=kp hox;have XR:=kp hxa;obtain ⟨Ao,co,rfl,hsh1,hsh2⟩:=hrow.shape;clear hres hrow hmid hox hxa
      by_cases hjl:j < r.length
      ·have hlt3:(j:Int) < (r.length:Int):=by omega
       obtain ⟨y,hy⟩:∃ y,r[j]?=some y:=⟨_,gqe hjl⟩
       have HDr:=kp (show r.drop j=y :: r.drop (j+1) by
        rw [List.drop_eq_getElem_cons hjl];rw [gqe hjl] at hy;simp at hy;rw [hy])
       rw [HDr.out] at HRes;replace HRes:=kp (show res=distR F.c x (r.drop (j+1)) r (vs ++ [(opM F.c 1 0 [(opM F.c 6 0 [x,y] st').1] (opM F.c 6 0 [x,y] st').2).1]) (opM F.c 1 0 [(opM F.c 6 0 [x,y] st').1] (opM F.c 6 0 [x,y] st').2).2 by rw [HRes.out];unfold distR;simp [neqsM]);obtain ⟨b2,o2,hA,_,e0,e1,hvy⟩:=val_get (HLv.out.on DR.out.keeps).now (k:=k+1+j) (v:=y) (by rw [← HR.out,List.getElem?_drop] at hy;exact hy);obtain ⟨rfl,rfl⟩:=aiq hA;rw [show o+(k+1+j) * 2=o+(k+1) * 2+j * 2 by omega] at e0 e1;have VY:=kp hvy;have DA:=kp (DR.out.alloc (.cells #[.int .i64 y.1,.int .i64 y.2] 82));have YA:=kp (Bk.new wr (.cells #[.int .i64 y.1,.int .i64 y.2] 82));have XA:=kp (Bk.keep XR.out (.cells #[.int .i64 y.1,.int .i64 y.2] 82));have RA:=kp (HRow.out.below ((brq wr).alloc nlq (.cells #[.int .i64 y.1,.int .i64 y.2] 82)));clear hvy hy HDr HRow DR XR;go_upto_region 10 with fail
       generalize hwa:wr.alloc (.cells #[.int .i64 y.1,.int .i64 y.2] 82)=wa at *;clear hwa e0 e1;have DB:=kp (DA.out.alloc (.cells #[.int .i64 x.1,.int .i64 x.2,.int .i64 y.1,.int .i64 y.2] 82));have NB:=kp (Bk.new wa (.cells #[.int .i64 x.1,.int .i64 x.2,.int .i64 y.1,.int .i64 y.2] 82));have XB:=kp (Bk.keep XA.out (.cells #[.int .i64 x.1,.int .i64 x.2,.int .i64 y.1,.int .i64 y.2] 82));have RB:=kp (RA.out.below ((brq wa).alloc nlq (.cells #[.int .i64 x.1,.int .i64 x.2,.int .i64 y.1,.int .i64 y.2] 82)));have HOp:=kp (op_any hF DB.out.maker 6 0 (I8.of (by decide) (by decide)) v0_VI.1 2 (lies_two NB.out VX.out VY.out) (Nat.le_succ 2));generalize opM F.c 6 0 [x,y] st'=pr at *;obtain ⟨pv,ps⟩:=pr;have hmbb:F.mb < w.heap.size+1:=by omega
       obtain ⟨x0,x1,xf⟩:=Bk.c2 XA.out;obtain ⟨y0,y1,yf⟩:=Bk.c2 YA.out;go_wp2_with fail
       refine HOp.out.mono ?_;rintro e w7 ⟨rfl,hv,hk7,A7,c7,hm7,ht7⟩;have D7:=kp (DB.out.call hk7 hm7 ht7);have R7:=kp (RB.out.call hk7 ht7 hmbb);have X7:=kp (DB.out.blk hk7 XB.out hxb);have VP:=kp hv;unfold valV;clear hv hk7 hm7 ht7 x0 x1 xf y0 y1 yf;have D8:=kp (D7.out.alloc (.cells #[.int .i64 pv.1,.int .i64 pv.2] 82));have R8:=kp (R7.out.below ((brq w7).alloc nlq (.cells #[.int .i64 pv.1,.int .i64 pv.2] 82)));have X8:=kp (Bk.keep X7.out (.cells #[.int .i64 pv.1,.int .i64 pv.2] 82));have N8:=kp (Bk.new w7 (.cells #[.int .i64 pv.1,.int .i64 pv.2] 82));have HNo:=kp (not_any hF D8.out.maker (l:=[pv]) 1 (fun W hW=>lies_one (D8.out.blk hW N8.out D7.out.keeps.size) VP.out) (by simp));generalize opM F.c 1 0 [pv] ps=qr at *;obtain ⟨qv,qs⟩:=qr;go_wp2_with fail
       refine HNo.out.mono ?_;rintro e w9 ⟨rfl,hv,hk7,A9,c9,hm7,ht7⟩;have D9:=kp (D8.out.call hk7 hm7 ht7);have R9:=kp (R8.out.call hk7 ht7 hmbb);have X9:=kp (D8.out.blk hk7 X8.out hxb);have VQ:=kp hv;unfold valV;clear hv hk7 hm7 ht7;have DT:=kp (D9.out.alloc (.cells #[.int .i64 qv.1,.int .i64 qv.2] 82));have RT:=kp (R9.out.below ((brq w9).alloc nlq (.cells #[.int .i64 qv.1,.int .i64 qv.2] 82)));have XT:=kp (Bk.keep X9.out (.cells #[.int .i64 qv.1,.int .i64 qv.2] 82));have NT:=kp (Bk.new w9 (.cells #[.int .i64 qv.1,.int .i64 qv.2] 82))
       go_wp2_with (at_builtin;refine push_val rfl (.tmp 31) (.tmp 40) rfl rfl RT.out rfl NT.out VQ.out (by have:=HBm.out k (by omega);omega) (by have:=DT.out.size;omega) (DT.out.fresh nlq) ?_)
       intro AT cT wt hpt hgt hat
       have HOt:=kp (show ∀ g,(Value.slice AT (vs.length+1) cT).ownBlock=some g->g≠xb from fun g hg=>by
        rcases hat g hg with h | h
        ·exact HOx.out g h
        ·subst h;have:=lt_of_block X9.out;omega)
       have XU:=kp ((hgt.block xb (lt_of_block XT.out) (fun e=>HOx.out xb e.symm rfl)).trans XT.out);have DU:=kp (DT.out.grown hF RT.out hgt (Nat.lt_succ_self _));have RU:=kp hpt;clear hpt hgt hat;go_wp2_with fail
       go_roundw
       case rel=>exact⟨j+1,by omega,by go_num,vs ++ [qv],by simp;omega,by simp,qs,HRes.out,A9,RU.out,HOt.out,XU.out,c9,DU.out⟩
       case measure=>simp [intOf];omega
      ·obtain rfl:j=r.length:=by omega
       replace HRes:=kp (show res=headM F.c 2 (vs ++ (distinctL F.c (l.drop (k+1)) st').1) (distinctL F.c (l.drop (k+1)) st').2 by rw [HRes.out,HR.out,List.drop_length];simp [distR,neqsM]);have hvs1':vs.length<=bf (k+1):=by rw [HBs.out k];omega
       have hvs2':1<=k+1->1<=vs.length:=by omega
       go_wp2_with fail
       go_roundw
       case rel=>exact⟨k+1,by omega,by go_num,vs,hvs1',hvs2',st',HRes.out,A',HRow.out,c',DR.out⟩
       case measure=>simp [intOf];omega
   ·obtain rfl:k=l.length:=by omega
    replace HRes:=kp (show res=headM F.c 2 vs st' by rw [HRes.out,List.drop_length];simp [distinctL]);have HAnd:=kp (and_any hF DR.out.maker co hsh1 (HRow.out.valsS (F:=F) (by omega)) (by intro e;have:=hvs0 (by omega);rw [e] at this;simp at this) (by have:=HBm.out _ nlq;omega));rw [← HRes.out] at HAnd;go_wp2_with fail
    refine HAnd.out.mono ?_;rintro e w7 ⟨rfl,hv,hk7,A7,c7,hm7,ht7⟩;have D7:=kp (DR.out.call hk7 hm7 ht7);unfold valV;clear hk7 hm7 ht7;obtain ⟨r0,r1,rf⟩:=Bk.c2 D7.out.cell;go_wp2_with fail
    refine D7.out.ret (v:=res.1) hF Tryz.results147 ?_ ?_ hv <;> rfl
 ·replace HS:=kp (show res=(v0,st1) by rw [HS.out,if_pos he]);have he1:decide (st1.e=0)=false:=dfq he;rw [he1];obtain ⟨r0,r1,rf⟩:=Bk.c2 D2.out.cell;go_wp2_with fail
  rw [HS.out];refine D2.out.ret (v:=v0) hF Tryz.results147 ?_ ?_ v0_VI <;> rfl
end El
end Go.Proofs.YtpmdcckapddchaaGreatDoor

import Derived.Test.YtpmdcckapddchaaGreatShort
import Derived.Test.YtpmdcckapddchaaGreatMu
import Derived.Test.YtpmdcckapddchaaGreatMb
/- merged by wip/merge.py from: ElEnv ElWays -/
set_option maxRecDepth 100000
set_option maxHeartbeats 51200000
namespace Go.Proofs.YtpmdcckapddchaaGreat
namespace El
open Go.RowKit Go.Maps Dt Sg
def strKV (s:ByteArray):Value:=.string s
def EnvR (w:World):Option Addr->List Env->Prop
 | p,[]=>p=none
 | p,l :: r=>∃ b ap m n,p=some ⟨b,0,none⟩/\w.heap[b]?=some (.cells #[.pointer ap,.map (some m)] 76 (0,0))/\KeyMap 9 strKV w m n (fun s=>(findE l s).map valV)/\(∀ q ∈ l,VI q.2)/\EnvR w ap r
theorem EnvR.keeps {S:Nat->Prop} {w w':World} (hk:Keeps S w w'):∀ {ls:List Env} {p:Option Addr},EnvR w p ls->(∀ b,S b->w.heap.size<=b)->EnvR w' p ls
 | [],_,h,_=>h
 | l :: r,p,⟨b,ap,m,n,h1,h2,h3,h4,h5⟩,hS =>
  ⟨b,ap,m,n,h1,(hk.block b (lt_of_block h2) (fun hs=>by have:=hS b hs;have:=lt_of_block h2;omega)).trans h2,h3.keeps hk (fun hs=>by have:=hS m hs;have:=h3.lt;omega),h4,EnvR.keeps hk h5 hS⟩
theorem EnvR.below {w w':World} (hb:Below w.heap.size w w') {ls:List Env} {p:Option Addr} (h:EnvR w p ls):EnvR w' p ls:=h.keeps (Keeps.of_below hb (fun _=>False)) (fun _ h=>h.elim)
theorem EnvR.len {w:World}:∀ {ls ls':List Env} {p:Option Addr},EnvR w p ls->EnvR w p ls'->ls.length=ls'.length
 | [],[],_,_,_=>rfl
 | [],_ :: _,_,h,⟨b,ap,m,n,h1,_⟩=>by rw [show _=none from h] at h1;cases h1
 | _ :: _,[],_,⟨b,ap,m,n,h1,_⟩,h=>by rw [show _=none from h] at h1;cases h1
 | l :: r,l' :: r',p,⟨b,ap,m,n,h1,h2,h3,h4,h5⟩,⟨b',ap',m',n',h1',h2',h3',h4',h5'⟩=>by
  rw [h1] at h1';simp only [Option.some.injEq,Addr.mk.injEq,and_true] at h1';subst h1';rw [h2] at h2';simp only [Option.some.injEq,Obj.cells.injEq,Array.mk.injEq,List.cons.injEq,Value.pointer.injEq,and_true] at h2';obtain ⟨rfl,_⟩:=h2';simp [EnvR.len h5 h5']
open Classical in
noncomputable def dep (w:World) (v:Value):Nat:=if h:∃ ls,∃ p,v=.pointer p/\EnvR w p ls then h.choose.length else 0
theorem dep_eq {w:World} {p:Option Addr} {ls:List Env} (h:EnvR w p ls):dep w (.pointer p)=ls.length:=by
 have hx:∃ ls,∃ p',(Value.pointer p)=.pointer p'/\EnvR w p' ls:=⟨ls,p,rfl,h⟩;unfold dep;rw [dif_pos hx];obtain ⟨p',e,h'⟩:=hx.choose_spec
 cases e
 exact EnvR.len h' h
theorem findE_append (a b:Env) (s:ByteArray):findE (a ++ b) s=(findE a s).or (findE b s):=by
 unfold findE;rw [List.find?_append]
 cases a.find? fun p=>decide (p.1=s) <;> simp
def EnvS (F:Fix) (w:World) (p:Option Addr) (env:Env):Prop:=∃ ls:List Env,ls.flatten=env/\Sta F (fun W=>EnvR W p ls) w
theorem EnvS.on {F:Fix} {w w':World} {p:Option Addr} {env:Env} (h:EnvS F w p env) (hk:Keeps (onMb F) w w'):EnvS F w' p env:=by
 obtain ⟨ls,h1,h2⟩:=h;exact⟨ls,h1,h2.on hk⟩
theorem EnvS.nil (F:Fix) (w:World):EnvS F w none []:=⟨[],rfl,fun _ _=>rfl⟩
theorem EnvS.cons {F:Fix} {w:World} {p:Option Addr} {env l:Env} {b m n:Nat} (h:EnvS F w p env) (h2:w.heap[b]?=some (.cells #[.pointer p,.map (some m)] 76 (0,0))) (h3:KeyMap 9 strKV w m n (fun s=>(findE l s).map valV)) (h4:∀ q ∈ l,VI q.2) (hb:b≠F.mb) (hm:m≠F.mb):EnvS F w (some ⟨b,0,none⟩) (l ++ env):=by
 obtain ⟨ls,h1,h5⟩:=h;exact⟨l :: ls,by simp [h1],fun W hW=>⟨b,p,m,n,rfl,(hW.block b (lt_of_block h2) hb).trans h2,h3.keeps hW hm,h4,h5 W hW⟩⟩
theorem zero_val (w:World):(zeroValue 69).run Tryz.prog w=.ok (.agg #[.int .i64 0,.int .i64 0]) w:=by kernel_rfl
theorem look_scope {w:World} {m n:Nat} {l:Env} (h:KeyMap 9 strKV w m n (fun s=>(findE l s).map valV)) (name:ByteArray) (hs:(name.size:Int)<=140737488351232) :
  (Instr.lookup 74 (.map (some m)) (.string name) true).run Tryz.prog w=.ok (.tuple #[valV ((findE l name).getD v0),.bool (findE l name).isSome]) w:=by
 have h1:=h.look (a:=name) string_key Tryz.underlying74 (zero_val w) (keyOf_str hs);rw [show strKV name=.string name from rfl] at h1;rw [h1]
 cases findE l name <;> rfl
theorem find_ret {f:Func} {w:World} {b:Nat} {x y:Value} {o:Bool} {act:Act} {R:Ending->World->Prop} (hf:f.results=#[.cell 4 69,.tmp 5]) (hb:w.heap[b]?=some (.cells #[x,y] 69 (0,0))) (h2:act.tmps[4]?=some (.pointer (some ⟨b,0,none⟩))) (h3:act.tmps[5]?=some (.bool o)) (hd:act.defers=[]) (hR:R (.returned (.tuple #[.agg #[x,y],.bool o])) w) :
  bodyPost Tryz.prog f R .ret act w:=by
 obtain ⟨y0,y1,_⟩:=Bk.c2 hb;refine bodyPost_ret (v:=.tuple #[.agg #[x,y],.bool o]) ?_ hd hR;simp [results,hf,go_sem,y0,y1,h2,h3]
def FindPost (env:Env) (name:ByteArray) (w:World) (e:Ending) (w':World):Prop:=e=.returned (.tuple #[valV ((findE env name).getD v0),.bool (findE env name).isSome])/\Below w.heap.size w w'
theorem find_any {w:World} {p:Option Addr} {ls:List Env} (h:EnvR w p ls) (name:ByteArray) (hs:(name.size:Int)<=140737488351232) :
  Calls Tryz.prog 50 #[.pointer p,.string name] w (FindPost ls.flatten name w):=by
 have HP:=kp (show ∀ (v:V) (o:Bool) w',v=(findE ls.flatten name).getD v0->o=(findE ls.flatten name).isSome->Below w.heap.size w w'->FindPost ls.flatten name w (.returned (.tuple #[.agg #[.int .i64 v.1,.int .i64 v.2],.bool o])) w' from fun v o w' h1 h2 h3=>by
  unfold FindPost;rw [h1,h2];exact⟨rfl,h3⟩)
 have RB:=kp (Bk.new w (.cells #[.int .i64 0,.int .i64 0] 69));have B1:=kp ((brq w).alloc nlq (.cells #[.int .i64 0,.int .i64 0] 69));have HR:=kp h;clear h;generalize FindPost ls.flatten name w=PP at *;obtain ⟨fe,hfe⟩:∃ fe,fe=findE ls.flatten name:=⟨_,rfl⟩;rw [← hfe] at HP;have HFe:=kp hfe;clear hfe
 go_enter Tryz.func50,Tryz.ntmps50
 go_upto_region 1 with fail
 generalize w.alloc (.cells #[.int .i64 0,.int .i64 0] 69)=w1 at *
 go_loopw [0] (fun v wr=>∃ p' ls',v=.pointer p'/\EnvR wr p' ls'/\fe=findE ls'.flatten name/\Below w.heap.size w wr/\wr.heap[w.heap.size]?=some (.cells #[.int .i64 0,.int .i64 0] 69 (0,0))) (fun v wr=>dep wr v)
 case atStart=>exact⟨p,ls,rfl,HR.out.below B1.out,HFe.out,B1.out,RB.out⟩
 case round =>
  obtain ⟨p',ls',rfl,hr,hf,hb,hrb⟩:=hrel;have HF:=kp hf;have HB:=kp hb;have RR:=kp hrb;have HD:=kp (dep_eq hr);clear hf hb hrb
  cases ls' with
  | nil =>
   obtain rfl:=show p'=none from hr;obtain ⟨r0,r1,rf⟩:=Bk.c2 RR.out;go_wp2_with fail
   exact find_ret Tryz.results50 (Bk.set_at (Bk.set_at RR.out 0 _) 1 _) rfl rfl rfl (HP.out v0 false _ (by rw [HF.out];rfl) (by rw [HF.out];rfl) ((HB.out.setCell (p:=⟨w.heap.size,0,none⟩) nlq _).setCell (p:=⟨w.heap.size,1,none⟩) nlq _))
  | cons l r =>
   have hr0:=hr;obtain ⟨b,ap,m,n,rfl,h2,h3,h4,h5⟩:=hr;have HC:=kp h2;have HKm:=kp h3;obtain ⟨s0,s1,sf⟩:=Bk.c2 h2;have hlook:=look_scope h3 name hs;rw [List.flatten_cons,findE_append] at HF;have HR5:=kp h5;have HDc:=kp (dep_eq h5);clear h2 h3 h4 hr0
   cases hfl:findE l name with
   | none =>
    rw [hfl] at HF hlook;unfold valV v0 at hlook;have BA:=kp (HB.out.alloc HB.out.size (.cells #[.int .i64 0,.int .i64 0] 69));have RA:=kp (Bk.keep RR.out (.cells #[.int .i64 0,.int .i64 0] 69));have HA:=kp (HR5.out.below ((brq wr).alloc nlq (.cells #[.int .i64 0,.int .i64 0] 69)));have CA:=kp (Bk.keep HC.out (.cells #[.int .i64 0,.int .i64 0] 69));have HDa:=kp (dep_eq HA.out);clear hfl;go_upto_region 4 with fail
    clear s0 s1 sf;generalize wr.alloc (.cells #[.int .i64 0,.int .i64 0] 69)=wa at *;obtain ⟨s0,s1,sf⟩:=Bk.c2 CA.out;go_wp2_with fail
    go_roundw
    case rel=>exact⟨ap,r,rfl,HA.out,by rw [HF.out];rfl,BA.out,RA.out⟩
    case measure=>rw [HDa.out,HD.out];simp
   | some v =>
    rw [hfl] at HF hlook;unfold valV at hlook;have BA:=kp (HB.out.alloc HB.out.size (.cells #[.int .i64 v.1,.int .i64 v.2] 69));have RA:=kp (Bk.keep RR.out (.cells #[.int .i64 v.1,.int .i64 v.2] 69));have VA:=kp (Bk.new wr (.cells #[.int .i64 v.1,.int .i64 v.2] 69));clear hfl;go_upto_region 4 with fail
    clear s0 s1 sf;generalize hwa:wr.alloc (.cells #[.int .i64 v.1,.int .i64 v.2] 69)=wa at *;clear hwa;obtain ⟨x0,x1,xf⟩:=Bk.c2 VA.out;obtain ⟨r0,r1,rf⟩:=Bk.c2 RA.out;go_wp2_with fail
    exact find_ret Tryz.results50 (Bk.set_at (Bk.set_at RA.out 0 _) 1 _) rfl rfl rfl (HP.out v true _ (by rw [HF.out];rfl) (by rw [HF.out];rfl) ((BA.out.setCell (p:=⟨w.heap.size,0,none⟩) nlq _).setCell (p:=⟨w.heap.size,1,none⟩) nlq _))
theorem str_inj (x y:ByteArray) (h:Value.string x=.string y):x=y:=by injection h
def fnW (k:Nat):FuncId :=
 if k=0 then 121
 else if k=1 then 122
 else if k=2 then 123
 else if k=3 then 124
 else if k=4 then 125
 else if k=5 then 126
 else if k=6 then 127
 else if k=7 then 128
 else if k=8 then 129
 else if k=9 then 130
 else if k=10 then 131
 else 132
def fnV (k:Nat):Value:=.func (.func (fnW k)) #[] #[]
def waysF:ByteArray->Option Value:=fun x=>if x=sGt then some (.agg #[.int .i64 2,.int .i64 2,.func (.func 132) #[] #[]]) else if x=sGe then some (.agg #[.int .i64 2,.int .i64 2,.func (.func 131) #[] #[]]) else if x=sLt then some (.agg #[.int .i64 2,.int .i64 2,.func (.func 130) #[] #[]]) else if x=sLe then some (.agg #[.int .i64 2,.int .i64 2,.func (.func 129) #[] #[]]) else if x=sIte then some (.agg #[.int .i64 3,.int .i64 3,.func (.func 128) #[] #[]]) else if x=sDistinct then some (.agg #[.int .i64 2,.int .i64 1048576,.func (.func 127) #[] #[]]) else if x=sEq then some (.agg #[.int .i64 2,.int .i64 1048576,.func (.func 126) #[] #[]]) else if x=sImp then some (.agg #[.int .i64 2,.int .i64 1048576,.func (.func 125) #[] #[]]) else if x=sXor then some (.agg #[.int .i64 2,.int .i64 1048576,.func (.func 124) #[] #[]]) else if x=sOr then some (.agg #[.int .i64 2,.int .i64 1048576,.func (.func 123) #[] #[]]) else if x=sAnd then some (.agg #[.int .i64 2,.int .i64 1048576,.func (.func 122) #[] #[]]) else if x=sNot then some (.agg #[.int .i64 1,.int .i64 1,.func (.func 121) #[] #[]]) else none
def wayR:Option (Nat × Nat × Nat)->Value
 | none=>.agg #[.int .i64 0,.int .i64 0,.nilFunc]
 | some (k,lo,hi)=>.agg #[.int .i64 (lo:Int),.int .i64 (hi:Int),fnV k]
theorem waysF_eq (s:ByteArray):waysF s=(wayN s).map fun p=>wayR (some p):=by
 by_cases e0:s=sNot
 ·subst e0;rfl
 by_cases e1:s=sAnd
 ·subst e1;rfl
 by_cases e2:s=sOr
 ·subst e2;rfl
 by_cases e3:s=sXor
 ·subst e3;rfl
 by_cases e4:s=sImp
 ·subst e4;rfl
 by_cases e5:s=sEq
 ·subst e5;rfl
 by_cases e6:s=sDistinct
 ·subst e6;rfl
 by_cases e7:s=sIte
 ·subst e7;rfl
 by_cases e8:s=sLe
 ·subst e8;rfl
 by_cases e9:s=sLt
 ·subst e9;rfl
 by_cases e10:s=sGe
 ·subst e10;rfl
 by_cases e11:s=sGt
 ·subst e11;rfl
 unfold waysF wayN;rw [if_neg e11];rw [if_neg e10];rw [if_neg e9];rw [if_neg e8];rw [if_neg e7];rw [if_neg e6];rw [if_neg e5];rw [if_neg e4];rw [if_neg e3];rw [if_neg e2];rw [if_neg e1];rw [if_neg e0];rw [if_neg e0];rw [if_neg e1];rw [if_neg e2];rw [if_neg e3];rw [if_neg e4];rw [if_neg e5];rw [if_neg e6];rw [if_neg e7];rw [if_neg e8];rw [if_neg e9];rw [if_neg e10];rw [if_neg e11]
 rfl
theorem zero_way (w:World):(zeroValue 131).run Tryz.prog w=.ok (.agg #[.int .i64 0,.int .i64 0,.nilFunc]) w:=by kernel_rfl
theorem look_ways {w:World} {m n:Nat} (h:KeyMap 9 Value.string w m n waysF) (name:ByteArray) (hs:(name.size:Int)<=140737488351232) :
  (Instr.lookup 167 (.map (some m)) (.string name) true).run Tryz.prog w=.ok (.tuple #[wayR (wayN name),.bool (wayN name).isSome]) w:=by
 rw [h.look (a:=name) string_key Tryz.underlying167 (zero_way w) (keyOf_str hs),waysF_eq]
 cases wayN name <;> rfl
theorem ways_ret {f:Func} {w:World} {b:Nat} {x y z:Value} {o:Bool} {act:Act} {R:Ending->World->Prop} (hf:f.results=#[.cell 2 131,.tmp 3]) (hb:w.heap[b]?=some (.cells #[x,y,z] 131 (0,0))) (h2:act.tmps[2]?=some (.pointer (some ⟨b,0,none⟩))) (h3:act.tmps[3]?=some (.bool o)) (hd:act.defers=[]) (hR:R (.returned (.tuple #[.agg #[x,y,z],.bool o])) w) :
  bodyPost Tryz.prog f R .ret act w:=by
 obtain ⟨y0,y1,y2,_⟩:=Bk.c3 hb;refine bodyPost_ret (v:=.tuple #[.agg #[x,y,z],.bool o]) ?_ hd hR;simp [results,hf,go_sem,y0,y1,y2,h2,h3]
def WaysPost (name:ByteArray) (w:World) (e:Ending) (w':World):Prop:=e=.returned (.tuple #[wayR (wayN name),.bool (wayN name).isSome])/\Below w.heap.size w w'
theorem ways_any {w:World} (name:ByteArray) (hs:(name.size:Int)<=140737488351232):Calls Tryz.prog 80 #[.string name] w (WaysPost name w):=by
 have RB:=kp (Bk.new w (.cells #[.int .i64 0,.int .i64 0,.nilFunc] 131));have B1:=kp ((brq w).alloc nlq (.cells #[.int .i64 0,.int .i64 0,.nilFunc] 131));have HP:=kp (show ∀ e w',e=.returned (.tuple #[wayR (wayN name),.bool (wayN name).isSome])->Below w.heap.size w w'->WaysPost name w e w' from fun e w' h1 h2=>⟨h1,h2⟩);generalize WaysPost name w=PP at *
 go_enter Tryz.func80,Tryz.ntmps80
 go_upto_region 1 with fail
 generalize w.alloc (.cells #[.int .i64 0,.int .i64 0,.nilFunc] 131)=w3 at *;have M0:=kp (KeyMap.made (kt:=9) (key:=Value.string) w3);have K0:=kp (show Keeps (fun k=>k=w3.heap.size) w3 (w3.alloc (.map #[] 0)) from(Keeps.refl _ _).alloc _);generalize hv0:w3.alloc (.map #[] 0)=v0 at *;obtain ⟨v1,u1,m1,g1⟩:=KeyMap.store (a:=sNot) (t:=167) (e:=131) M0.out string_key str_inj Tryz.underlying167 (by decide) (keyOf_str (by decide)) (.agg #[.int .i64 1,.int .i64 1,.func (.func 121) #[] #[]]);replace u1:(Instr.mapUpdate 167 (.map (some w3.heap.size)) (.string { data:=#[110,111,116] }) (.agg #[.int .i64 1,.int .i64 1,.func (.func 121) #[] #[]])).run Tryz.prog v0=.ok () v1:=u1;have M1:=kp m1;have K1:=kp (K0.out.grown g1 (fun k hk=>.inl (Option.some.inj hk).symm));clear m1 g1;obtain ⟨v2,u2,m2,g2⟩:=KeyMap.store (a:=sAnd) (t:=167) (e:=131) M1.out string_key str_inj Tryz.underlying167 (by decide) (keyOf_str (by decide)) (.agg #[.int .i64 2,.int .i64 1048576,.func (.func 122) #[] #[]]);replace u2:(Instr.mapUpdate 167 (.map (some w3.heap.size)) (.string { data:=#[97,110,100] }) (.agg #[.int .i64 2,.int .i64 1048576,.func (.func 122) #[] #[]])).run Tryz.prog v1=.ok () v2:=u2;have M2:=kp m2;have K2:=kp (K1.out.grown g2 (fun k hk=>.inl (Option.some.inj hk).symm));clear m2 g2;obtain ⟨v3,u3,m3,g3⟩:=KeyMap.store (a:=sOr) (t:=167) (e:=131) M2.out string_key str_inj Tryz.underlying167 (by decide) (keyOf_str (by decide)) (.agg #[.int .i64 2,.int .i64 1048576,.func (.func 123) #[] #[]])
 replace u3:(Instr.mapUpdate 167 (.map (some w3.heap.size)) (.string { data:=#[111,114] }) (.agg #[.int .i64 2,.int .i64 1048576,.func (.func 123) #[] #[]])).run Tryz.prog v2=.ok () v3:=u3;have M3:=kp m3;have K3:=kp (K2.out.grown g3 (fun k hk=>.inl (Option.some.inj hk).symm));clear m3 g3;obtain ⟨v4,u4,m4,g4⟩:=KeyMap.store (a:=sXor) (t:=167) (e:=131) M3.out string_key str_inj Tryz.underlying167 (by decide) (keyOf_str (by decide)) (.agg #[.int .i64 2,.int .i64 1048576,.func (.func 124) #[] #[]]);replace u4:(Instr.mapUpdate 167 (.map (some w3.heap.size)) (.string { data:=#[120,111,114] }) (.agg #[.int .i64 2,.int .i64 1048576,.func (.func 124) #[] #[]])).run Tryz.prog v3=.ok () v4:=u4;have M4:=kp m4;have K4:=kp (K3.out.grown g4 (fun k hk=>.inl (Option.some.inj hk).symm));clear m4 g4;obtain ⟨v5,u5,m5,g5⟩:=KeyMap.store (a:=sImp) (t:=167) (e:=131) M4.out string_key str_inj Tryz.underlying167 (by decide) (keyOf_str (by decide)) (.agg #[.int .i64 2,.int .i64 1048576,.func (.func 125) #[] #[]]);replace u5:(Instr.mapUpdate 167 (.map (some w3.heap.size)) (.string { data:=#[61,62] }) (.agg #[.int .i64 2,.int .i64 1048576,.func (.func 125) #[] #[]])).run Tryz.prog v4=.ok () v5:=u5;have M5:=kp m5;have K5:=kp (K4.out.grown g5 (fun k hk=>.inl (Option.some.inj hk).symm));clear m5 g5;obtain ⟨v6,u6,m6,g6⟩:=KeyMap.store (a:=sEq) (t:=167) (e:=131) M5.out string_key str_inj Tryz.underlying167 (by decide) (keyOf_str (by decide)) (.agg #[.int .i64 2,.int .i64 1048576,.func (.func 126) #[] #[]])
 replace u6:(Instr.mapUpdate 167 (.map (some w3.heap.size)) (.string { data:=#[61] }) (.agg #[.int .i64 2,.int .i64 1048576,.func (.func 126) #[] #[]])).run Tryz.prog v5=.ok () v6:=u6;have M6:=kp m6;have K6:=kp (K5.out.grown g6 (fun k hk=>.inl (Option.some.inj hk).symm));clear m6 g6;obtain ⟨v7,u7,m7,g7⟩:=KeyMap.store (a:=sDistinct) (t:=167) (e:=131) M6.out string_key str_inj Tryz.underlying167 (by decide) (keyOf_str (by decide)) (.agg #[.int .i64 2,.int .i64 1048576,.func (.func 127) #[] #[]]);replace u7:(Instr.mapUpdate 167 (.map (some w3.heap.size)) (.string { data:=#[100,105,115,116,105,110,99,116] }) (.agg #[.int .i64 2,.int .i64 1048576,.func (.func 127) #[] #[]])).run Tryz.prog v6=.ok () v7:=u7;have M7:=kp m7;have K7:=kp (K6.out.grown g7 (fun k hk=>.inl (Option.some.inj hk).symm));clear m7 g7;obtain ⟨v8,u8,m8,g8⟩:=KeyMap.store (a:=sIte) (t:=167) (e:=131) M7.out string_key str_inj Tryz.underlying167 (by decide) (keyOf_str (by decide)) (.agg #[.int .i64 3,.int .i64 3,.func (.func 128) #[] #[]]);replace u8:(Instr.mapUpdate 167 (.map (some w3.heap.size)) (.string { data:=#[105,116,101] }) (.agg #[.int .i64 3,.int .i64 3,.func (.func 128) #[] #[]])).run Tryz.prog v7=.ok () v8:=u8;have M8:=kp m8;have K8:=kp (K7.out.grown g8 (fun k hk=>.inl (Option.some.inj hk).symm));clear m8 g8;obtain ⟨v9,u9,m9,g9⟩:=KeyMap.store (a:=sLe) (t:=167) (e:=131) M8.out string_key str_inj Tryz.underlying167 (by decide) (keyOf_str (by decide)) (.agg #[.int .i64 2,.int .i64 2,.func (.func 129) #[] #[]])
 replace u9:(Instr.mapUpdate 167 (.map (some w3.heap.size)) (.string { data:=#[60,61] }) (.agg #[.int .i64 2,.int .i64 2,.func (.func 129) #[] #[]])).run Tryz.prog v8=.ok () v9:=u9;have M9:=kp m9;have K9:=kp (K8.out.grown g9 (fun k hk=>.inl (Option.some.inj hk).symm));clear m9 g9;obtain ⟨v10,u10,m10,g10⟩:=KeyMap.store (a:=sLt) (t:=167) (e:=131) M9.out string_key str_inj Tryz.underlying167 (by decide) (keyOf_str (by decide)) (.agg #[.int .i64 2,.int .i64 2,.func (.func 130) #[] #[]]);replace u10:(Instr.mapUpdate 167 (.map (some w3.heap.size)) (.string { data:=#[60] }) (.agg #[.int .i64 2,.int .i64 2,.func (.func 130) #[] #[]])).run Tryz.prog v9=.ok () v10:=u10;have M10:=kp m10;have K10:=kp (K9.out.grown g10 (fun k hk=>.inl (Option.some.inj hk).symm));clear m10 g10;obtain ⟨v11,u11,m11,g11⟩:=KeyMap.store (a:=sGe) (t:=167) (e:=131) M10.out string_key str_inj Tryz.underlying167 (by decide) (keyOf_str (by decide)) (.agg #[.int .i64 2,.int .i64 2,.func (.func 131) #[] #[]]);replace u11:(Instr.mapUpdate 167 (.map (some w3.heap.size)) (.string { data:=#[62,61] }) (.agg #[.int .i64 2,.int .i64 2,.func (.func 131) #[] #[]])).run Tryz.prog v10=.ok () v11:=u11;have M11:=kp m11;have K11:=kp (K10.out.grown g11 (fun k hk=>.inl (Option.some.inj hk).symm));clear m11 g11;obtain ⟨v12,u12,m12,g12⟩:=KeyMap.store (a:=sGt) (t:=167) (e:=131) M11.out string_key str_inj Tryz.underlying167 (by decide) (keyOf_str (by decide)) (.agg #[.int .i64 2,.int .i64 2,.func (.func 132) #[] #[]])
 replace u12:(Instr.mapUpdate 167 (.map (some w3.heap.size)) (.string { data:=#[62] }) (.agg #[.int .i64 2,.int .i64 2,.func (.func 132) #[] #[]])).run Tryz.prog v11=.ok () v12:=u12;have M12:=kp m12;have K12:=kp (K11.out.grown g12 (fun k hk=>.inl (Option.some.inj hk).symm));clear m12 g12;have hmm:=@run_makeMap Tryz.prog;subst hv0;have HM:=kp (show KeyMap 9 Value.string v12 w3.heap.size 12 waysF from M12.out);have B13:=kp (K12.out.below (B:=w3.heap.size) (fun k e=>by subst e;exact nlq) nlq);have hlk:=look_ways HM.out name hs;have R13:=kp (Bk.on RB.out B13.out);have BW:=kp (B1.out.trans (B13.out.mono B1.out.size));clear M0 M1 M2 M3 M4 M5 M6 M7 M8 M9 M10 M11 M12 K0 K1 K2 K3 K4 K5 K6 K7 K8 K9 K10 K11 K12 RB B1 HM B13;have hsn:=fun(a:Addr) (m:Mode) (w:World)=>run_store Tryz.prog w a .nilFunc m rfl;have hsf:=fun(a:Addr) (m:Mode) (w:World) (fn:Fn) (x y:Array Value)=>run_store Tryz.prog w a (.func fn x y) m rfl
 cases hwn:wayN name with
 | none =>
  rw [hwn] at hlk HP;replace hlk:(Instr.lookup 167 (.map (some w3.heap.size)) (.string name) true).run Tryz.prog v12=.ok (.tuple #[.agg #[.int .i64 0,.int .i64 0,.nilFunc],.bool false]) v12:=hlk;obtain ⟨r0,r1,r2,rf⟩:=Bk.c3 R13.out;go_wp2_with fail
  exact ways_ret Tryz.results80 (Bk.set_at (Bk.set_at (Bk.set_at (Bk.set_at (Bk.set_at (Bk.set_at R13.out 0 _) 1 _) 2 _) 0 _) 1 _) 2 _) rfl rfl rfl (HP.out _ _ rfl ((((((BW.out.setCell (p:=⟨w.heap.size,0,none⟩) nlq _).setCell (p:=⟨w.heap.size,1,none⟩) nlq _).setCell (p:=⟨w.heap.size,2,none⟩) nlq _).setCell (p:=⟨w.heap.size,0,none⟩) nlq _).setCell (p:=⟨w.heap.size,1,none⟩) nlq _).setCell (p:=⟨w.heap.size,2,none⟩) nlq _))
 | some p =>
  obtain ⟨k,lo,hi⟩:=p;rw [hwn] at hlk HP;replace hlk:(Instr.lookup 167 (.map (some w3.heap.size)) (.string name) true).run Tryz.prog v12=.ok (.tuple #[.agg #[.int .i64 (lo:Int),.int .i64 (hi:Int),fnV k],.bool true]) v12:=hlk;obtain ⟨r0,r1,r2,rf⟩:=Bk.c3 R13.out;obtain ⟨fv,hfv⟩:∃ fv,fnW k=fv:=⟨_,rfl⟩;unfold fnV at hlk;rw [hfv] at hlk;go_wp2_with fail
  exact ways_ret Tryz.results80 (Bk.set_at (Bk.set_at (Bk.set_at (Bk.set_at (Bk.set_at (Bk.set_at R13.out 0 _) 1 _) 2 _) 0 _) 1 _) 2 _) rfl rfl rfl (HP.out _ _ (by rw [← hfv];rfl) ((((((BW.out.setCell (p:=⟨w.heap.size,0,none⟩) nlq _).setCell (p:=⟨w.heap.size,1,none⟩) nlq _).setCell (p:=⟨w.heap.size,2,none⟩) nlq _).setCell (p:=⟨w.heap.size,0,none⟩) nlq _).setCell (p:=⟨w.heap.size,1,none⟩) nlq _).setCell (p:=⟨w.heap.size,2,none⟩) nlq _))
end El
end Go.Proofs.YtpmdcckapddchaaGreat

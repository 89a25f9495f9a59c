import Derived.Test.YtpmdcckapddchaaGreatDoorShort
import Derived.Test.YtpmdcckapddchaaGreatDoorMzc
import Derived.Test.YtpmdcckapddchaaGreatDoorMz
/- merged by wip/merge.py from: ElLet -/
set_option maxRecDepth 100000
set_option maxHeartbeats 51200000
namespace Go.Proofs.YtpmdcckapddchaaGreatDoor
namespace El
open Go.RowKit Go.Maps Dt Sg
theorem fold_some:∀ {l:List Sexp} {acc ns:List ByteArray},l.foldl stepB (some acc)=some ns->ns=acc ++ l.map (fun u=>(nthX u 0).text)/\∀ u ∈ l,u.l.length=2
 | [],acc,ns,h=>by
  simp only [List.foldl_nil,Option.some.injEq] at h;subst h;exact⟨by simp,fun u hu=>by cases hu⟩
 | u :: l,acc,ns,h=>by
  rw [List.foldl_cons] at h
  cases hb:bindN u with
  | none =>
   rw [show stepB (some acc) u=none by unfold stepB;rw [Option.bind_some,hb];rfl,fold_none] at h
   cases h
  | some s =>
   have hs:=bindN_eq u;rw [hb] at hs
   by_cases hc:u.kind=3/\u.l.length=2/\(nthX u 0).kind=0/\Lx.resB (Lx.bs (nthX u 0).text)=false
   ·rw [if_pos hc] at hs
    cases hs
    by_cases hh:hasB acc (nthX u 0).text=true
    ·rw [show stepB (some acc) u=none by unfold stepB;rw [Option.bind_some,hb,Option.bind_some,if_pos hh],fold_none] at h
     cases h
    ·rw [show stepB (some acc) u=some (acc ++ [(nthX u 0).text]) by unfold stepB;rw [Option.bind_some,hb,Option.bind_some,if_neg hh]] at h;obtain ⟨h1,h2⟩:=fold_some h;refine⟨by rw [h1];simp,fun v hv=>?_⟩;rcases List.mem_cons.1 hv with rfl | hv
     ·exact hc.2.1
     ·exact h2 v hv
   ·rw [if_neg hc] at hs
    cases hs
theorem bound_some {x:Sexp} {ns:List ByteArray} (h:boundN x=some ns):x.l.length=3/\ns=(nthX x 1).l.map (fun u=>(nthX u 0).text)/\∀ u ∈ (nthX x 1).l,u.l.length=2:=by
 rw [boundN_eq] at h
 by_cases hc:x.l.length=3/\(nthX x 1).kind=3/\(nthX x 1).l.length≠0
 ·rw [if_pos hc] at h;obtain ⟨h1,h2⟩:=fold_some h;exact⟨hc.1,by simpa using h1,h2⟩
 ·rw [if_neg hc] at h
  cases h
theorem NRow.other {S:Nat->Prop} {base:Nat} {w w':World} {v:Value} {ns:List ByteArray} (h:NRow base w v ns) (hk:Keeps S w w') (hS:∀ g,v.ownBlock=some g->¬ S g):NRow base w' v ns:=by
 refine⟨h.1,?_⟩;rcases h.2 with h1 | ⟨g,cap,cur,h1,hg,hat,h2⟩
 ·exact .inl h1
 ·exact .inr ⟨g,cap,cur,h1,hg,(hk.block g (lt_of_block hat) (hS g (by rw [h1];rfl))).trans hat,h2⟩
theorem Mid.mapped {F:Fix} {known:Int} {w0 W W9:World} {t0:List Node} {At0:Option Addr} {rb m:Nat} {st':St} {A':Option Addr} {c':Nat} (hF:FixOk F) (h:Mid F known w0 t0 At0 rb W st' A' c') (hg:W.grownBy W9 (some m)) (hf:Far m st'.t A') (h1:w0.heap.size<=m) (h2:m≠rb):Mid F known w0 t0 At0 rb W9 st' A' c':=by
 have hlt:=h.lt;have hk:Keeps (fun k=>k=m) W W9:=(Keeps.refl _ W).grown hg (fun j hj=>.inl (Option.some.inj hj).symm);exact⟨h.maker.same hk (by omega) (fun hn b o e hb=>hf hn b o e hb) (fun k e=>by have:=hF.lt;omega),h.keeps.grown hg (fun j hj=>.inr (by cases hj;exact h1)),h.tn,h.far,(hk.block rb h.size (Ne.symm h2)).trans h.cell,h.lt,h.le⟩
theorem KeyMap.congr {κ:Type} {kt:TypeId} {key:κ->Value} {w:World} {b n:Nat} {G H:κ->Option Value} (h:KeyMap kt key w b n G) (e:∀ a,G a=H a):KeyMap kt key w b n H:=by
 have:G=H:=funext e;rw [← this];exact h
theorem findE_cons (n:ByteArray) (v:V) (l:Env) (s:ByteArray):(findE ((n,v) :: l) s).map valV=if s=n then some (valV v) else(findE l s).map valV:=by
 unfold findE
 by_cases h:n=s
 ·subst h;simp
 ·rw [List.find?_cons_of_neg (by simpa using h),if_neg (Ne.symm h)]
theorem zip_snoc {ns:List ByteArray} {vs:List V} {n:ByteArray} {v:V} (hn:ns[vs.length]?=some n):(ns.zip (vs ++ [v])).reverse=(n,v) :: (ns.zip vs).reverse:=by
 have h:ns.zip (vs ++ [v])=ns.zip vs ++ [(n,v)]:=by
  induction vs generalizing ns with
  | nil =>
   cases ns with
   | nil=>simp at hn
   | cons a r=>simp at hn;subst hn;simp
  | cons x vs ih =>
   cases ns with
   | nil=>simp at hn
   | cons a r =>
    have:=ih (ns:=r) (by simpa using hn);simp [this]
 rw [h];simp
theorem let_any {F:Fix} (hF:FixOk F) {known:Nat} {x:Sexp} (hT:∀ y:Sexp,y.full < x.full->TermC F known y) {w:World} {st:St} {At:Option Addr} {ct:Nat} (hm:Mk F w known st At ct) {A:Option Addr} {c:Nat} (hx:XAt F.W0 A c x) {p:Option Addr} {env:Env} (he:EnvS F w p env) :
  Calls Tryz.prog 92 #[.pointer (some ⟨F.mb,0,none⟩),.agg #[.int .i8 x.kind,.string x.text,.slice A x.l.length c],.pointer p] w (MkPost F known w st.t At (letM (termP F.c) known x env st).1 (letM (termP F.c) known x env st).2):=by
 have HT:=kp hT;have HX:=kp hx;have HE:=kp he;have hlt:=hm.lt;have B1:=kp ((brq w).alloc nlq (.cells #[.int .i8 x.kind,.string x.text,.slice A x.l.length c] 40));have Z1:=kp (show(w.alloc (.cells #[.int .i8 x.kind,.string x.text,.slice A x.l.length c] 40)).heap.size=w.heap.size+1 by simp);have D1:=kp (Mid.newOn hm B1.out);have X1:=kp (Bk.keep (Bk.new w (.cells #[.int .i8 x.kind,.string x.text,.slice A x.l.length c] 40)) (.cells #[.int .i64 0,.int .i64 0] 82));rw [Z1.out] at D1
 have HS:=kp (show letM (termP F.c) known x env st=match boundN x with
  | none=>(v0,failS 30 st)
  | some names=>termP F.c known (nthX x 2) ((names.zip (allM (fun y=>termP F.c known y env) ((nthX x 1).l.map secondX) st).1).reverse ++ env) (allM (fun y=>termP F.c known y env) ((nthX x 1).l.map secondX) st).2 from rfl)
 have HBd:=kp (fun ns h=>bound_some (x:=x) (ns:=ns) h);clear hm hT hx he;generalize letM (termP F.c) known x env st=res at *
 go_enter Tryz.func92,Tryz.ntmps92
 go_upto_region 1 with fail
 generalize (w.alloc (.cells #[.int .i8 x.kind,.string x.text,.slice A x.l.length c] 40)).alloc (.cells #[.int .i64 0,.int .i64 0] 82)=w1 at *;obtain ⟨q0,q1,q2,qf⟩:=Bk.c3 X1.out;have HBo:=kp (bound_any (HX.out.on D1.out.maker.below))
 cases hbo:boundN x with
 | none =>
  rw [hbo] at HS HBo;go_wp2_with fail
  refine HBo.out.mono ?_;rintro e w2 ⟨⟨v,rfl,_⟩,hb2⟩;have D2:=kp (D1.out.below hb2);clear hb2 q0 q1 q2 qf;have HFl:=kp (fail_any hF D2.out.maker 30 (by decide));go_wp2_with fail
  refine HFl.out.mono ?_;rintro e w7 ⟨rfl,hv,hk7,A7,c7,hm7,ht7⟩;have D7:=kp (D2.out.call hk7 hm7 ht7);unfold valV v0;clear hk7 hm7 ht7;obtain ⟨r0,r1,rf⟩:=Bk.c2 D7.out.cell;go_wp2_with fail
  rw [HS.out];refine D7.out.ret (v:=v0) hF Tryz.results92 ?_ ?_ v0_VI <;> rfl
 | some ns =>
  rw [hbo] at HS HBo;have H3:=kp (HBd.out ns hbo);replace HS:=kp (show res=termP F.c known (nthX x 2) ((ns.zip (allM (fun y=>termP F.c known y env) ((nthX x 1).l.map secondX) st).1).reverse ++ env) (allM (fun y=>termP F.c known y env) ((nthX x 1).l.map secondX) st).2 from HS.out);clear hbo HBd;go_wp2_with fail
  refine HBo.out.mono ?_;rintro e w2 ⟨⟨v,rfl,hnr⟩,hb2⟩;have D2:=kp (D1.out.below hb2);have X2:=kp (Bk.on X1.out hb2);have N2:=kp (hnr ns rfl);obtain ⟨An,cn,rfl⟩:=N2.out.shape;clear hb2 q0 q1 q2 qf hnr HBo;obtain ⟨h3,hns,hun⟩:=H3.out;clear H3;obtain ⟨b0,o0,A1,c1,hA,hx1,hc1⟩:=nth_xs HX.out (i:=1) (by omega);obtain ⟨b0',o0',A2,c2,hA2,hx2,hc2⟩:=nth_xs HX.out (i:=2) (by omega);subst hA;obtain ⟨rfl,rfl⟩:=aiq hA2;have HM1:=kp (nth_mem (x:=x) (i:=1) (by omega));have HM2:=kp (nth_mem (x:=x) (i:=2) (by omega));have g3:(2:Int) < (x.l.length:Int):=by omega
  have g4:(1:Int) < (x.l.length:Int):=by omega
  have HX2:=kp hx2;have HC1:=kp hc1;have HC2:=kp hc2;generalize nthX x 1=y1 at *;generalize nthX x 2=y2 at *;have HLl:=kp hx1.opens.1;have HNl:=kp (show ns.length=y1.l.length by rw [hns];simp);have hyl:=hx1.opens.2.2.2.2.1;have HNs:=kp (fun k u (hu:y1.l[k]?=some u)=>show ns[k]?=some (nthX u 0).text by rw [hns,List.getElem?_map,hu];rfl);have HUn:=kp hun;clear hns hun h3 hx1 hx2 hc1 hc2;generalize hrest:y1.l.map secondX=rest at *;have HRest:=kp hrest;have HRl:=kp (show rest.length=ns.length by rw [← hrest,HNl.out];simp);clear hrest;generalize hr:(fun y=>termP F.c known y env)=r at *;have HRf:=kp (fun y s=>show termP F.c known y env s=r y s by rw [← hr]);clear hr;have hmm:=@run_makeMap Tryz.prog;have M3:=kp (KeyMap.made (kt:=9) (key:=strKV) w2);have D3:=kp (D2.out.alloc (.map #[] 0));have X3:=kp (Bk.keep X2.out (.map #[] 0));have N3:=kp (N2.out.below ((brq w2).alloc nlq (.map #[] 0)));have FM3:=kp (D2.out.fresh (Nat.le_refl w2.heap.size));have HNo:=kp (show ∀ g,(Value.slice An ns.length cn).ownBlock=some g->g≠w2.heap.size from fun g hg=>by have:=(N2.out.lt g hg).2;omega);have hmr:w2.heap.size≠w.heap.size+1:=by have:=D2.out.size;omega
  have hmx:w2.heap.size≠w.heap.size:=by have:=D2.out.size;omega
  have hmw:=D2.out.keeps.size;go_upto_region 5 with fail
  generalize w2.alloc (.map #[] 0)=w3 at *;generalize w2.heap.size=mpb at *;clear hmm D2 X2 N2;have HS0:=kp (show res=termP F.c known y2 ((ns.zip ([] ++ (allM r (rest.drop 0) st).1)).reverse ++ env) (allM r (rest.drop 0) st).2 from HS.out);clear HS;go_wp2_with fail
  go_loopw [24] (fun i' wr=>∃ k:Nat,k<=ns.length/\i'=.int .i64 k/\∃ vs:List V,vs.length=k/\∃ (st':St) (A':Option Addr) (c':Nat),res=termP F.c known y2 ((ns.zip (vs ++ (allM r (rest.drop k) st').1)).reverse ++ env) (allM r (rest.drop k) st').2/\Mid F known w st.t At (w.heap.size+1) wr st' A' c'/\wr.heap[w.heap.size]?=some (.cells #[.int .i8 x.kind,.string x.text,.slice (some ⟨b0,o0,none⟩) x.l.length c] 40 (0,0))/\NRow w1.heap.size wr (.slice An ns.length cn) ns/\KeyMap 9 strKV wr mpb k (fun s=>(findE (ns.zip vs).reverse s).map valV)/\Far mpb st'.t A'/\∀ v ∈ vs,VI v) (fun i' _=>ns.length - (intOf i').toNat)
  case atStart=>exact⟨0,Nat.zero_le _,rfl,[],rfl,st,At,ct,HS0.out,D3.out,X3.out,N3.out,KeyMap.congr M3.out (fun s=>by simp [findE]),FM3.out,fun v hv=>by cases hv⟩
  case round =>
   obtain ⟨k,hk,rfl,vs,hvl,st',A',c',hres,hmid,hxr,hnr,hkm,hfm,hvi⟩:=hrel;have HRes:=kp hres;have DR:=kp hmid;have XR:=kp hxr;have NR:=kp hnr;have KM:=kp hkm;have FM:=kp hfm;have VI':=kp hvi;clear hres hmid hxr hnr hkm hfm hvi
   by_cases hkl:k < ns.length
   ·have hlt2:(k:Int) < (ns.length:Int):=by omega
    have hlt3:(k:Int) < (y1.l.length:Int):=by have:=HNl.out;omega
    obtain ⟨u,hu⟩:∃ u,y1.l[k]?=some u:=⟨_,gqe (by have:=HNl.out;omega)⟩;have hn:=HNs.out k u hu;have hu2:=HUn.out u (mgq hu);have hu3:(1:Int) < (u.l.length:Int):=by omega
    have HDr:=kp (show rest.drop k=nthX u 1 :: rest.drop (k+1) by
     have hlr:k < rest.length:=by have:=HRl.out;omega
     rw [List.drop_eq_getElem_cons hlr];have h1:rest[k]?=some (nthX u 1):=by rw [← HRest.out,List.getElem?_map,hu];rfl
     rw [gqe hlr] at h1;simp at h1;rw [h1])
    rw [HDr.out] at HRes;replace HRes:=kp (show res=termP F.c known y2 ((ns.zip (vs ++ ((r (nthX u 1) st').1 :: (allM r (rest.drop (k+1)) (r (nthX u 1) st').2).1))).reverse ++ env) (allM r (rest.drop (k+1)) (r (nthX u 1) st').2).2 from HRes.out);obtain ⟨bn,on,hAn,p0⟩:=NR.out.at hn;obtain ⟨bu,ou,Au,cu,hAu,hxu,hcu⟩:=xs_get HLl.out hu;obtain ⟨bz,oz,Az,cz,hAz,hxz,hcz⟩:=nth_xs hxu (i:=1) (by omega)
    have hns:((nthX u 0).text.size:Int)<=140737488351232:=by
     obtain ⟨_,_,_,_,_,hxn,_⟩:=nth_xs hxu (i:=0) (by omega);exact hxn.opens.2.2.2.1
    have hfz:(nthX u 1).full < x.full:=by
     have h1:=full_mem (nth_mem (x:=u) (i:=1) (by omega));have h2:=full_mem (mgq hu);have h3:=full_mem HM1.out
     omega
    have HC:=kp (HT.out _ hfz DR.out.maker hxz (HE.out.on DR.out.keeps));rw [HRf.out] at HC;have HN:=kp hn;obtain ⟨e0,e1,e2⟩:=HC1.out wr DR.out.maker.below;obtain ⟨f0,f1,f2⟩:=hcu wr DR.out.maker.below;obtain ⟨z0,z1,z2⟩:=hcz wr DR.out.maker.below;obtain ⟨q0,q1,q2,qf⟩:=Bk.c3 XR.out;generalize (nthX u 0).text=n at *;generalize nthX u 1=z at *;generalize r z st'=pr at *;obtain ⟨pv,ps⟩:=pr;subst hAu hAz;rw [hAn] at NR HNo;clear hu hu2 hn hxu hxz hcu hcz hfz HDr;rw [hAn];go_wp2_with fail
    refine HC.out.mono ?_;rintro e w7 ⟨rfl,hv,hk7,A7,c7,hm7,ht7⟩;have D7:=kp (DR.out.call hk7 hm7 ht7);have X7:=kp (DR.out.blk hk7 XR.out nlq);have N7:=kp (NR.out.keep hk7 (by have:=D1.out.size;omega));have KM7:=kp (KM.out.keeps hk7 (DR.out.ne hmw));have FM7:=kp (Far.of_tn FM.out ht7 KM.out.lt);have VP:=kp hv;clear hv hk7 hm7 ht7 p0 e0 e1 e2 f0 f1 f2 z0 z1 z2 q0 q1 q2 qf;obtain ⟨v8,u8,m8,g8⟩:=KeyMap.store (a:=n) (t:=115) (e:=82) KM7.out string_key str_inj Tryz.underlying115 (by have:=NR.out;unfold maxLen;omega) (keyOf_str hns) (valV pv);unfold valV at u8;replace u8:(Instr.mapUpdate 115 (.map (some mpb)) (.string n) (.agg #[.int .i64 pv.1,.int .i64 pv.2])).run Tryz.prog w7=.ok () v8:=u8;have K8:=kp (show Keeps (fun k=>k=mpb) w7 v8 from(Keeps.refl _ w7).grown g8 (fun j hj=>.inl (Option.some.inj hj).symm));have D8:=kp (D7.out.mapped hF g8 FM7.out hmw hmr);have X8:=kp ((K8.out.block w.heap.size (lt_of_block X7.out) (Ne.symm hmx)).trans X7.out);have N8:=kp (N7.out.other K8.out (fun g hg e=>HNo.out g hg e));subst hvl;have M8:=kp (show KeyMap 9 strKV v8 mpb (vs.length+1) (fun s=>(findE (ns.zip (vs ++ [pv])).reverse s).map valV) from KeyMap.congr m8 (fun s=>by rw [zip_snoc HN.out,findE_cons]));clear m8 g8;unfold valV;go_wp2_with fail
    go_roundw
    case rel=>exact⟨vs.length+1,by omega,by go_num,vs ++ [pv],by simp,ps,A7,c7,by rw [HRes.out];simp,D8.out,X8.out,N8.out,M8.out,FM7.out,fun v hv=>by
     rcases List.mem_append.1 hv with hv | hv
     ·exact VI'.out v hv
     ·obtain rfl:v=pv:=by simpa using hv
      exact VP.out⟩
    case measure=>simp [intOf];omega
   ·obtain rfl:k=ns.length:=by omega
    replace HRes:=kp (show res=termP F.c known y2 ((ns.zip vs).reverse ++ env) st' by rw [HRes.out,List.drop_of_length_le (by have:=HRl.out;omega)];simp [allM]);have D9:=kp (DR.out.alloc (.cells #[.pointer p,.map (some mpb)] 117));have S9:=kp (Bk.new wr (.cells #[.pointer p,.map (some mpb)] 117));have KM9:=kp (KM.out.below ((brq wr).alloc nlq (.cells #[.pointer p,.map (some mpb)] 117)));have HEn:=kp ((HE.out.on D9.out.keeps).cons S9.out KM9.out (fun q hq=>VI'.out _ (List.of_mem_zip (List.mem_reverse.1 hq)).2) (by have:=DR.out.keeps.size;omega) (by omega));have HC:=kp (HT.out y2 (full_mem HM2.out) D9.out.maker HX2.out HEn.out);rw [← HRes.out] at HC;obtain ⟨e0,e1,e2⟩:=HC2.out wr DR.out.maker.below;obtain ⟨q0,q1,q2,qf⟩:=Bk.c3 XR.out;go_wp2_with fail
    refine HC.out.mono ?_;rintro e w7 ⟨rfl,hv,hk7,A7,c7,hm7,ht7⟩;have D7:=kp (D9.out.call hk7 hm7 ht7);unfold valV;clear hk7 hm7 ht7 e0 e1 e2 q0 q1 q2 qf;obtain ⟨r0,r1,rf⟩:=Bk.c2 D7.out.cell;go_wp2_with fail
    refine D7.out.ret (v:=res.1) hF Tryz.results92 ?_ ?_ hv <;> rfl
end El
end Go.Proofs.YtpmdcckapddchaaGreatDoor

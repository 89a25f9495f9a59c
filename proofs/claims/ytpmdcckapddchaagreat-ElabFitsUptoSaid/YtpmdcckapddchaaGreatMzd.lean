import Derived.Test.YtpmdcckapddchaaGreatShort
import Derived.Test.YtpmdcckapddchaaGreatMza
import Derived.Test.YtpmdcckapddchaaGreatMb
import Derived.Test.YtpmdcckapddchaaGreatMf
import Derived.Test.YtpmdcckapddchaaGreatShelf
import Derived.Test.YtpmdcckapddchaaGreatMy
import Derived.Deep.QuietTactic
import Derived.Test.YtpmdcckapddchaaGreatMh
/- merged by wip/merge.py from: ElBound ElLet Rd4 Rd5 Rd6 -/
set_option maxRecDepth 100000
set_option maxHeartbeats 51200000
namespace Go.Proofs.YtpmdcckapddchaaGreat
namespace El
open Go.RowKit Go.Maps Dt Sg
theorem info_strE:(Tryz.prog.info? 9).map (fun i=>(i.zero,i.size,i.bytes))=some (some (.string { data:=#[] }),1,16):=by kernel_rfl
def NRow (base:Nat) (w:World) (v:Value) (ns:List ByteArray):Prop:=w.ownsRow base 9 1 v ns.length (ns.map Value.string)
section
variable {base:Nat} {w w':World} {v:Value} {ns:List ByteArray}
theorem NRow.nil (base:Nat) (w:World):NRow base w (.slice none 0 0) []:=⟨rfl,.inl ⟨rfl,rfl⟩⟩
theorem NRow.shape (h:NRow base w v ns):∃ A c,v=.slice A ns.length c:=row_shape h
theorem NRow.wide {B:Nat} (h:NRow base w v ns) (hb:B<=base):NRow B w v ns:=by
 refine⟨h.1,?_⟩;rcases h.2 with h1 | ⟨g,cap,cur,h1,hg,h2⟩
 ·exact .inl h1
 ·exact .inr ⟨g,cap,cur,h1,Nat.le_trans hb hg,h2⟩
theorem NRow.below (h:NRow base w v ns) (hb:Below w.heap.size w w'):NRow base w' v ns:=owns_keepE h (Keeps.of_below hb (fun _=>False)) (fun _ hk=>hk.elim)
theorem NRow.keep {F:Fix} (h:NRow base w v ns) (hk:Keeps (onMb F) w w') (hb:F.mb < base):NRow base w' v ns:=owns_keepE h hk (fun k hk=>by unfold onMb at hk;omega)
theorem NRow.cells {A:Option Addr} {c:Nat} (h:NRow base w (.slice A ns.length c) ns):Cells w A (ns.map Value.string):=Cells.own h
theorem NRow.at {A:Option Addr} {c:Nat} (h:NRow base w (.slice A ns.length c) ns) {k:Nat} {s:ByteArray} (hs:ns[k]?=some s):∃ b o,A=some ⟨b,o,none⟩/\w.cell? ⟨b,o+k,none⟩=some (.string s):=by
 have hm:(ns.map Value.string)[k]?=some (.string s):=by rw [List.getElem?_map,hs];rfl
 rcases h.cells with h0 | ⟨b,o,hA,_,hc⟩
 ·rw [h0] at hm;cases hm
 ·exact⟨b,o,hA,hc k _ hm⟩
theorem has_contains (ns:List ByteArray) (s:ByteArray):Lib.containsS (ns.take ns.length) s=hasB ns s:=by
 rw [List.take_length,Bool.eq_iff_iff,Lib.containsS_iff,hasB_iff]
theorem NRow.contains {A:Option Addr} {c:Nat} (h:NRow base w (.slice A ns.length c) ns) (hl:ns.length<=9223372036854775807) (s:ByteArray) :
  Calls Tryz.prog 133 #[.slice A ns.length c,.string s] w fun e w'=>e=.returned (.bool (hasB ns s))/\w'=w:=by
 rcases h.cells with h0 | ⟨b,o,rfl,_,hc⟩
 ·have h0':ns=[]:=List.map_eq_nil_iff.1 h0;subst h0';exact Tryz.slices_Contains_string_empty A c s w
 ·have:=Tryz.slices_Contains_string b o ns.length c ns s w nlq (by omega) (fun j hj=>hc j _ (by rw [List.getElem?_map,gqe hj,List.getD_eq_getElem?_getD,gqe hj];rfl))
  rwa [has_contains] at this
theorem str_cells {W:World} {b:Nat} {u:ByteArray} (h:W.heap[b]?=some (.cells #[.string u] 9 (0,0))):Cells W (some ⟨b,0,none⟩) [.string u]:=by
 obtain ⟨c0,_⟩:=Bk.c1 h;refine .inr ⟨b,0,rfl,lt_of_block h,fun j x hx=>?_⟩
 match j,hx with
 | 0,hx=>cases hx;exact c0
 | j+1,hx=>simp at hx
theorem push_str {ops:Array Oper} {rest:List Oper} {o:Oper} {a:Act} {Q:Exit->Act->World->Prop} (hgd:o.guard=none) (s x:Operand) (ho:o.op=.call { callee:=.builtin .append,args:=#[s,x],argTypes:=#[22,22] })
  {Ao:Option Addr} {co b:Nat} {u:ByteArray} (hs:a.eval s=.slice Ao ns.length co) (h:NRow base w (.slice Ao ns.length co) ns) (hx:a.eval x=.slice (some ⟨b,0,none⟩) 1 1) (hb:w.heap[b]?=some (.cells #[.string u] 9 (0,0))) (hlen:ns.length < 8000000000000) (hbase:base<=w.heap.size)
  (hK:∀ A9 c9 w9,NRow base w9 (.slice A9 (ns.length+1) c9) (ns ++ [u])->w.grownBy w9 (Value.slice Ao ns.length co).ownBlock->wpList Tryz.prog ops Q rest (a.put o.dst (.slice A9 (ns.length+1) c9)) w9):wpList Tryz.prog ops Q (o :: rest) a w:=by
 obtain ⟨i0,hi0,z0,z1,z2⟩:=info_parts info_strE;refine wpList_append_at hgd s x _ ho base 9 i0 (.string { data:=#[] }) 1 16 Tryz.underlying22 hi0 z0 z1 z2 rfl (by decide) (.slice Ao ns.length co) ns.length (ns.map Value.string) hs h (some ⟨b,0,none⟩) 1 1 [.string u] hx rfl (str_cells hb) (by simp [Value.oneCell']) (by unfold maxLen;omega) (by omega) hbase ?_;intro v' w9 hown hgr hat;obtain ⟨A9,c9,rfl⟩:=row_shape hown;exact hK A9 c9 w9 (by unfold NRow;rw [List.length_append,List.map_append];exact hown) hgr
end
theorem bindN_eq (y:Sexp):bindN y=if y.kind=3/\y.l.length=2/\(nthX y 0).kind=0/\Lx.resB (Lx.bs (nthX y 0).text)=false then some (nthX y 0).text else none:=by
 unfold bindN
 by_cases h3:y.kind=3
 ·rw [if_pos h3]
  match hl:y.l with
  | []=>rw [if_neg (by simp)]
  | [_]=>rw [if_neg (by simp)]
  | [z,u] =>
   have hz:nthX y 0=z:=by unfold nthX;rw [hl];rfl
   rw [hz];simp only [h3,List.length_cons,List.length_nil,true_and,Nat.zero_add,Nat.reduceAdd]
  | _ :: _ :: _ :: _=>rw [if_neg (by simp)]
 ·rw [if_neg h3,if_neg (fun h=>h3 h.1)]
def stepB (o:Option (List ByteArray)) (y:Sexp):Option (List ByteArray):=o.bind fun ns=>(bindN y).bind fun s=>if hasB ns s then none else some (ns ++ [s])
theorem fold_none (l:List Sexp):l.foldl stepB none=none:=by
 induction l with
 | nil=>rfl
 | cons y r ih=>exact ih
theorem boundN_eq (x:Sexp):boundN x=if x.l.length=3/\(nthX x 1).kind=3/\(nthX x 1).l.length≠0 then(nthX x 1).l.foldl stepB (some []) else none:=by
 unfold boundN
 match hl:x.l with
 | []=>rw [if_neg (by simp)]
 | [_]=>rw [if_neg (by simp)]
 | [_,_]=>rw [if_neg (by simp)]
 | [a,b,c] =>
  have hz:nthX x 1=b:=by unfold nthX;rw [hl];rfl
  rw [hz];simp only [List.length_cons,List.length_nil,Nat.zero_add,Nat.reduceAdd,true_and,ne_eq,List.length_eq_zero_iff]
  rfl
 | _ :: _ :: _ :: _ :: _=>rw [if_neg (by simp)]
def BoundPost (o:Option (List ByteArray)) (w:World) (e:Ending) (w':World):Prop :=
 (∃ v,e=.returned (.tuple #[v,.bool o.isSome])/\∀ ns,o=some ns->NRow w.heap.size w' v ns)/\Below w.heap.size w w'
theorem bound_any {w:World} {A:Option Addr} {c:Nat} {x:Sexp} (h:XAt w A c x) :
  Calls Tryz.prog 120 #[.agg #[.int .i8 x.kind,.string x.text,.slice A x.l.length c]] w (BoundPost (boundN x) w):=by
 have XB:=kp (Bk.new w (.cells #[.int .i8 x.kind,.string x.text,.slice A x.l.length c] 30));have B1:=kp ((brq w).alloc nlq (.cells #[.int .i8 x.kind,.string x.text,.slice A x.l.length c] 30));have HX:=kp (h.on B1.out);have HO:=kp (boundN_eq x);have HPn:=kp (show ∀ w',Below w.heap.size w w'->BoundPost none w (.returned (.tuple #[.slice none 0 0,.bool false])) w' from fun w' hb=>⟨⟨_,rfl,fun ns hn=>by cases hn⟩,hb⟩);have HPs:=kp (show ∀ ns A' c' w',Below w.heap.size w w'->NRow w.heap.size w' (.slice A' (List.length ns) c') ns->BoundPost (some ns) w (.returned (.tuple #[.slice A' ns.length c',.bool true])) w' from fun ns A' c' w' hb hn=>⟨⟨_,rfl,fun ns' e=>by cases e;exact hn⟩,hb⟩);clear h;generalize boundN x=res at *
 go_enter Tryz.func120,Tryz.ntmps120
 go_upto_region 1 with fail
 generalize w.alloc (.cells #[.int .i8 x.kind,.string x.text,.slice A x.l.length c] 30)=w1 at *;obtain ⟨q0,q1,q2,qf⟩:=Bk.c3 XB.out
 by_cases h3:x.l.length=3
 ·have g1:((x.l.length:Int) != 3)=false:=by rw [h3];rfl
  have g2:(1:Int) < (x.l.length:Int):=by omega
  obtain ⟨b0,o0,Ab,cb,rfl,hbl,e0,e1,e2,hxb⟩:=nth_cells HX.out (i:=1) (by omega);replace HO:=kp (show res=if(nthX x 1).kind=3/\(nthX x 1).l.length≠0 then(nthX x 1).l.foldl stepB (some []) else none by rw [HO.out];simp only [h3,true_and]);rw [Nat.one_mul] at e0 e1 e2;clear h3;generalize nthX x 1=y at *;have HY:=kp hxb;clear hxb
  by_cases hk:y.kind=3
  ·have g3:(y.kind != 3)=false:=by simp [hk]
   by_cases hl:y.l.length=0
   ·have g4:((y.l.length:Int) == 0)=true:=by rw [hl];rfl
    replace HO:=kp (show res=none by rw [HO.out,if_neg (fun h=>h.2 hl)]);clear hk hl;go_wp2_with fail
    go_ret2;rw [HO.out];exact HPn.out _ B1.out
   ·have g4:((y.l.length:Int) == 0)=false:=by rw [beq_eq_false_iff_ne];omega
    replace HO:=kp (show res=(y.l.drop 0).foldl stepB (some []) by rw [HO.out,if_pos ⟨hk,hl⟩];rfl);obtain ⟨hll,hlc,hcm,_,hlb,_⟩:=HY.out.opens;have HLl:=kp hll;clear hk hl hll;go_wp2_with fail
    go_loopw [2,33] (fun v' i' wr=>∃ k:Nat,k<=y.l.length/\i'=.int .i64 k/\∃ ns:List ByteArray,ns.length=k/\res=(y.l.drop k).foldl stepB (some ns)/\NRow w1.heap.size wr v' ns/\Below w1.heap.size w1 wr) (fun _ i' _=>y.l.length - (intOf i').toNat)
    case atStart=>exact⟨0,Nat.zero_le _,rfl,[],rfl,HO.out,NRow.nil _ _,Below.refl _ _⟩
    case round =>
     obtain ⟨k,hk,rfl,ns,hnl,hres,hrow,hb⟩:=hrel;have HRes:=kp hres;have HRow:=kp hrow;have HB:=kp hb;obtain ⟨Ao,co,rfl⟩:=hrow.shape;clear hres hrow hb
     by_cases hkl:k < y.l.length
     ·have hlt2:(k:Int) < (y.l.length:Int):=by omega
      obtain ⟨u,hu⟩:∃ u,y.l[k]?=some u:=⟨_,gqe hkl⟩
      have HDr:=kp (show y.l.drop k=u :: y.l.drop (k+1) by
       rw [List.drop_eq_getElem_cons hkl];rw [gqe hkl] at hu;simp at hu;rw [hu])
      rw [HDr.out] at HRes;replace HRes:=kp (show res=(y.l.drop (k+1)).foldl stepB ((bindN u).bind fun s=>if hasB ns s then none else some (ns ++ [s])) from HRes.out);have HBi:=kp (bindN_eq u);obtain ⟨b1,o1,Au,cu,rfl,hbl1,e0,e1,e2,hr⟩:=sexp_cells (HLl.out.on SexpR.lasts HB.out) hu;have BA:=kp (HB.out.alloc HB.out.size (.cells #[.int .i8 u.kind,.string u.text,.slice Au u.l.length cu] 30));have UA:=kp (Bk.new wr (.cells #[.int .i8 u.kind,.string u.text,.slice Au u.l.length cu] 30));have RA:=kp (HRow.out.below ((brq wr).alloc nlq (.cells #[.int .i8 u.kind,.string u.text,.slice Au u.l.length cu] 30)));have HUx:=kp (show XAt (wr.alloc (.cells #[.int .i8 u.kind,.string u.text,.slice Au u.l.length cu] 30)) Au cu u from SexpR.lasts _ _ _ _ ((Below.refl _ _).alloc nlq _) hr);clear hu HDr hr;go_upto_region 6 with fail
      generalize wr.alloc (.cells #[.int .i8 u.kind,.string u.text,.slice Au u.l.length cu] 30)=wa at *;generalize wr.heap.size=ub at *;clear e0 e1 e2;obtain ⟨u0,u1,u2,uf⟩:=Bk.c3 UA.out
      by_cases c1:u.kind=3
      ·have d1:(u.kind != 3)=false:=by simp [c1]
       by_cases c2:u.l.length=2
       ·have d2:((u.l.length:Int) != 2)=false:=by rw [c2];rfl
        have d3:(0:Int) < (u.l.length:Int):=by omega
        obtain ⟨b2,o2,Az,cz,rfl,hbl2,z0,z1,z2,hz⟩:=nth_cells HUx.out (i:=0) (by omega);rw [Nat.zero_mul,Nat.add_zero] at z0 z1 z2;have hzt:=hz.opens.2.2.2.1
        by_cases c3:(nthX u 0).kind=0
        ·have d4:((nthX u 0).kind != 0)=false:=by simp [c3]
         have HRs:=kp (Lx.reserved_any (nthX u 0).text)
         by_cases c4:Lx.resB (Lx.bs (nthX u 0).text)=true
         ·replace HBi:=kp (show bindN u=none by rw [HBi.out,if_neg (fun h=>by rw [h.2.2.2] at c4;cases c4)]);replace HRes:=kp (show res=none by rw [HRes.out,HBi.out];exact fold_none _);rw [c4] at HRs;clear hz c1 c2 c3 c4;generalize nthX u 0=z at *;go_wp2_with fail
          refine(HRs.out _).mono ?_;rintro e w' ⟨rfl,rfl⟩;go_wp2_with fail
          go_ret2;rw [HRes.out];exact HPn.out _ (B1.out.trans (BA.out.mono B1.out.size))
         ·have c4':=eq_false_of_ne_true c4;replace HBi:=kp (show bindN u=some (nthX u 0).text by rw [HBi.out,if_pos ⟨c1,c2,c3,c4'⟩]);rw [c4'] at HRs;have HCo:=kp (RA.out.contains (by rw [hnl];omega) (nthX u 0).text);rw [hnl] at HCo
          by_cases c5:hasB ns (nthX u 0).text=true
          ·replace HRes:=kp (show res=none by rw [HRes.out,HBi.out,Option.bind_some,if_pos c5];exact fold_none _);rw [c5] at HCo;clear hz c1 c2 c3 c4 c4' c5;generalize nthX u 0=z at *;go_wp2_with fail
           refine(HRs.out _).mono ?_;rintro e w' ⟨rfl,rfl⟩;go_wp2_with fail
           refine HCo.out.mono ?_;rintro e w' ⟨rfl,rfl⟩;go_wp2_with fail
           go_ret2;rw [HRes.out];exact HPn.out _ (B1.out.trans (BA.out.mono B1.out.size))
          ·have c5':=eq_false_of_ne_true c5;replace HRes:=kp (show res=(y.l.drop (k+1)).foldl stepB (some (ns ++ [(nthX u 0).text])) by rw [HRes.out,HBi.out,Option.bind_some,if_neg c5]);rw [c5'] at HCo;clear hz c1 c2 c3 c4 c4' c5 c5';generalize nthX u 0=z at *;go_wp2_with fail
           refine(HRs.out _).mono ?_;rintro e w' ⟨rfl,rfl⟩;go_wp2_with fail
           refine HCo.out.mono ?_;rintro e w' ⟨rfl,rfl⟩;have BD:=kp (BA.out.alloc BA.out.size (.cells #[.string z.text] 9));have RD:=kp (RA.out.below ((Below.refl w'.heap.size w').alloc nlq (.cells #[.string z.text] 9)));have ND:=kp (Bk.new w' (.cells #[.string z.text] 9));subst hnl
           go_wp2_with (at_builtin;refine push_str rfl (.tmp 71) (.tmp 77) rfl rfl RD.out rfl ND.out (by omega) (by have:=BD.out.size;omega) ?_)
           intro A9 c9 w9 hown hgr;have R9:=kp hown;have B9:=kp (BD.out.grown hgr (by have:=BD.out.size;simpa using this) (fun j hj=>by have:=(RD.out.lt j hj).1;omega));clear hown hgr;go_wp2_with fail
           go_roundw
           case rel=>exact⟨ns.length+1,by omega,by go_num,ns ++ [z.text],by simp,HRes.out,R9.out,B9.out⟩
           case measure=>simp [intOf];omega
        ·have d4:((nthX u 0).kind != 0)=true:=by rw [bne_iff_ne];exact c3
         replace HBi:=kp (show bindN u=none by rw [HBi.out,if_neg (fun h=>c3 h.2.2.1)]);replace HRes:=kp (show res=none by rw [HRes.out,HBi.out];exact fold_none _);clear hz c1 c2 c3;generalize nthX u 0=z at *;go_wp2_with fail
         go_ret2;rw [HRes.out];exact HPn.out _ (B1.out.trans (BA.out.mono B1.out.size))
       ·have d2:((u.l.length:Int) != 2)=true:=by rw [bne_iff_ne];omega
        replace HBi:=kp (show bindN u=none by rw [HBi.out,if_neg (fun h=>c2 h.2.1)]);replace HRes:=kp (show res=none by rw [HRes.out,HBi.out];exact fold_none _);clear c1 c2;go_wp2_with fail
        go_ret2;rw [HRes.out];exact HPn.out _ (B1.out.trans (BA.out.mono B1.out.size))
      ·have d1:(u.kind != 3)=true:=by rw [bne_iff_ne];exact c1
       replace HBi:=kp (show bindN u=none by rw [HBi.out,if_neg (fun h=>c1 h.1)]);replace HRes:=kp (show res=none by rw [HRes.out,HBi.out];exact fold_none _);clear c1;go_wp2_with fail
       go_ret2;rw [HRes.out];exact HPn.out _ (B1.out.trans (BA.out.mono B1.out.size))
     ·obtain rfl:k=y.l.length:=by omega
      replace HRes:=kp (show res=some ns by rw [HRes.out,List.drop_length];rfl);go_wp2_with fail
      go_ret2;rw [HRes.out];exact HPs.out ns Ao co _ (B1.out.trans (HB.out.mono B1.out.size)) (HRow.out.wide B1.out.size)
  ·have g3:(y.kind != 3)=true:=by rw [bne_iff_ne];exact hk
   replace HO:=kp (show res=none by rw [HO.out,if_neg (fun h=>hk h.1)]);clear hk;go_wp2_with fail
   go_ret2;rw [HO.out];exact HPn.out _ B1.out
 ·have g1:((x.l.length:Int) != 3)=true:=by rw [bne_iff_ne];omega
  replace HO:=kp (show res=none by rw [HO.out,if_neg (fun h=>h3 h.1)]);clear h3;go_wp2_with fail
  go_ret2;rw [HO.out];exact HPn.out _ B1.out
end El
namespace El
open Go.RowKit Go.Maps Dt Sg
theorem fold_some:∀ {l:List Sexp} {acc ns:List ByteArray},l.foldl stepB (some acc)=some ns->ns=acc ++ l.map (fun u=>(nthX u 0).text)/\∀ u ∈ l,u.l.length=2
 | [],acc,ns,h=>by
  simp only [List.foldl_nil,Option.some.injEq] at h;subst h;exact⟨by simp,fun u hu=>by cases hu⟩
 | u :: l,acc,ns,h=>by
  rw [List.foldl_cons] at h
  cases hb:bindN u with
  | none =>
   rw [show stepB (some acc) u=none by unfold stepB;rw [Option.bind_some,hb];rfl,fold_none] at h
   cases h
  | some s =>
   have hs:=bindN_eq u;rw [hb] at hs
   by_cases hc:u.kind=3/\u.l.length=2/\(nthX u 0).kind=0/\Lx.resB (Lx.bs (nthX u 0).text)=false
   ·rw [if_pos hc] at hs
    cases hs
    by_cases hh:hasB acc (nthX u 0).text=true
    ·rw [show stepB (some acc) u=none by unfold stepB;rw [Option.bind_some,hb,Option.bind_some,if_pos hh],fold_none] at h
     cases h
    ·rw [show stepB (some acc) u=some (acc ++ [(nthX u 0).text]) by unfold stepB;rw [Option.bind_some,hb,Option.bind_some,if_neg hh]] at h;obtain ⟨h1,h2⟩:=fold_some h;refine⟨by rw [h1];simp,fun v hv=>?_⟩;rcases List.mem_cons.1 hv with rfl | hv
     ·exact hc.2.1
     ·exact h2 v hv
   ·rw [if_neg hc] at hs
    cases hs
theorem bound_some {x:Sexp} {ns:List ByteArray} (h:boundN x=some ns):x.l.length=3/\ns=(nthX x 1).l.map (fun u=>(nthX u 0).text)/\∀ u ∈ (nthX x 1).l,u.l.length=2:=by
 rw [boundN_eq] at h
 by_cases hc:x.l.length=3/\(nthX x 1).kind=3/\(nthX x 1).l.length≠0
 ·rw [if_pos hc] at h;obtain ⟨h1,h2⟩:=fold_some h;exact⟨hc.1,by simpa using h1,h2⟩
 ·rw [if_neg hc] at h
  cases h
theorem NRow.other {S:Nat->Prop} {base:Nat} {w w':World} {v:Value} {ns:List ByteArray} (h:NRow base w v ns) (hk:Keeps S w w') (hS:∀ g,v.ownBlock=some g->¬ S g):NRow base w' v ns:=by
 refine⟨h.1,?_⟩;rcases h.2 with h1 | ⟨g,cap,cur,h1,hg,hat,h2⟩
 ·exact .inl h1
 ·exact .inr ⟨g,cap,cur,h1,hg,(hk.block g (lt_of_block hat) (hS g (by rw [h1];rfl))).trans hat,h2⟩
theorem Mid.mapped {F:Fix} {known:Int} {w0 W W9:World} {t0:List Node} {At0:Option Addr} {rb m:Nat} {st':St} {A':Option Addr} {c':Nat} (hF:FixOk F) (h:Mid F known w0 t0 At0 rb W st' A' c') (hg:W.grownBy W9 (some m)) (hf:Far m st'.t A') (h1:w0.heap.size<=m) (h2:m≠rb):Mid F known w0 t0 At0 rb W9 st' A' c':=by
 have hlt:=h.lt;have hk:Keeps (fun k=>k=m) W W9:=(Keeps.refl _ W).grown hg (fun j hj=>.inl (Option.some.inj hj).symm);exact⟨h.maker.same hk (by omega) (fun hn b o e hb=>hf hn b o e hb) (fun k e=>by have:=hF.lt;omega),h.keeps.grown hg (fun j hj=>.inr (by cases hj;exact h1)),h.tn,h.far,(hk.block rb h.size (Ne.symm h2)).trans h.cell,h.lt,h.le⟩
theorem KeyMap.congr {κ:Type} {kt:TypeId} {key:κ->Value} {w:World} {b n:Nat} {G H:κ->Option Value} (h:KeyMap kt key w b n G) (e:∀ a,G a=H a):KeyMap kt key w b n H:=by
 have:G=H:=funext e;rw [← this];exact h
theorem findE_cons (n:ByteArray) (v:V) (l:Env) (s:ByteArray):(findE ((n,v) :: l) s).map valV=if s=n then some (valV v) else(findE l s).map valV:=by
 unfold findE
 by_cases h:n=s
 ·subst h;simp
 ·rw [List.find?_cons_of_neg (by simpa using h),if_neg (Ne.symm h)]
theorem zip_snoc {ns:List ByteArray} {vs:List V} {n:ByteArray} {v:V} (hn:ns[vs.length]?=some n):(ns.zip (vs ++ [v])).reverse=(n,v) :: (ns.zip vs).reverse:=by
 have h:ns.zip (vs ++ [v])=ns.zip vs ++ [(n,v)]:=by
  induction vs generalizing ns with
  | nil =>
   cases ns with
   | nil=>simp at hn
   | cons a r=>simp at hn;subst hn;simp
  | cons x vs ih =>
   cases ns with
   | nil=>simp at hn
   | cons a r =>
    have:=ih (ns:=r) (by simpa using hn);simp [this]
 rw [h];simp
theorem let_any {F:Fix} (hF:FixOk F) {known:Nat} {x:Sexp} (hT:∀ y:Sexp,y.full < x.full->TermC F known y) {w:World} {st:St} {At:Option Addr} {ct:Nat} (hm:Mk F w known st At ct) {A:Option Addr} {c:Nat} (hx:XAt F.W0 A c x) {p:Option Addr} {env:Env} (he:EnvS F w p env) :
  Calls Tryz.prog 78 #[.pointer (some ⟨F.mb,0,none⟩),.agg #[.int .i8 x.kind,.string x.text,.slice A x.l.length c],.pointer p] w (MkPost F known w st.t At (letM (termP F.c) known x env st).1 (letM (termP F.c) known x env st).2):=by
 have HT:=kp hT;have HX:=kp hx;have HE:=kp he;have hlt:=hm.lt;have B1:=kp ((brq w).alloc nlq (.cells #[.int .i8 x.kind,.string x.text,.slice A x.l.length c] 30));have Z1:=kp (show(w.alloc (.cells #[.int .i8 x.kind,.string x.text,.slice A x.l.length c] 30)).heap.size=w.heap.size+1 by simp);have D1:=kp (Mid.newOn hm B1.out);have X1:=kp (Bk.keep (Bk.new w (.cells #[.int .i8 x.kind,.string x.text,.slice A x.l.length c] 30)) (.cells #[.int .i64 0,.int .i64 0] 69));rw [Z1.out] at D1
 have HS:=kp (show letM (termP F.c) known x env st=match boundN x with
  | none=>(v0,failS 30 st)
  | some names=>termP F.c known (nthX x 2) ((names.zip (allM (fun y=>termP F.c known y env) ((nthX x 1).l.map secondX) st).1).reverse ++ env) (allM (fun y=>termP F.c known y env) ((nthX x 1).l.map secondX) st).2 from rfl)
 have HBd:=kp (fun ns h=>bound_some (x:=x) (ns:=ns) h);clear hm hT hx he;generalize letM (termP F.c) known x env st=res at *
 go_enter Tryz.func78,Tryz.ntmps78
 go_upto_region 1 with fail
 generalize (w.alloc (.cells #[.int .i8 x.kind,.string x.text,.slice A x.l.length c] 30)).alloc (.cells #[.int .i64 0,.int .i64 0] 69)=w1 at *;obtain ⟨q0,q1,q2,qf⟩:=Bk.c3 X1.out;have HBo:=kp (bound_any (HX.out.on D1.out.maker.below))
 cases hbo:boundN x with
 | none =>
  rw [hbo] at HS HBo;go_wp2_with fail
  refine HBo.out.mono ?_;rintro e w2 ⟨⟨v,rfl,_⟩,hb2⟩;have D2:=kp (D1.out.below hb2);clear hb2 q0 q1 q2 qf;have HFl:=kp (fail_any hF D2.out.maker 30 (by decide));go_wp2_with fail
  refine HFl.out.mono ?_;rintro e w7 ⟨rfl,hv,hk7,A7,c7,hm7,ht7⟩;have D7:=kp (D2.out.call hk7 hm7 ht7);unfold valV v0;clear hk7 hm7 ht7;obtain ⟨r0,r1,rf⟩:=Bk.c2 D7.out.cell;go_wp2_with fail
  rw [HS.out];refine D7.out.ret (v:=v0) hF Tryz.results78 ?_ ?_ v0_VI <;> rfl
 | some ns =>
  rw [hbo] at HS HBo;have H3:=kp (HBd.out ns hbo);replace HS:=kp (show res=termP F.c known (nthX x 2) ((ns.zip (allM (fun y=>termP F.c known y env) ((nthX x 1).l.map secondX) st).1).reverse ++ env) (allM (fun y=>termP F.c known y env) ((nthX x 1).l.map secondX) st).2 from HS.out);clear hbo HBd;go_wp2_with fail
  refine HBo.out.mono ?_;rintro e w2 ⟨⟨v,rfl,hnr⟩,hb2⟩;have D2:=kp (D1.out.below hb2);have X2:=kp (Bk.on X1.out hb2);have N2:=kp (hnr ns rfl);obtain ⟨An,cn,rfl⟩:=N2.out.shape;clear hb2 q0 q1 q2 qf hnr HBo;obtain ⟨h3,hns,hun⟩:=H3.out;clear H3;obtain ⟨b0,o0,A1,c1,hA,hx1,hc1⟩:=nth_xs HX.out (i:=1) (by omega);obtain ⟨b0',o0',A2,c2,hA2,hx2,hc2⟩:=nth_xs HX.out (i:=2) (by omega);subst hA;obtain ⟨rfl,rfl⟩:=aiq hA2;have HM1:=kp (nth_mem (x:=x) (i:=1) (by omega));have HM2:=kp (nth_mem (x:=x) (i:=2) (by omega));have g3:(2:Int) < (x.l.length:Int):=by omega
  have g4:(1:Int) < (x.l.length:Int):=by omega
  have HX2:=kp hx2;have HC1:=kp hc1;have HC2:=kp hc2;generalize nthX x 1=y1 at *;generalize nthX x 2=y2 at *;have HLl:=kp hx1.opens.1;have HNl:=kp (show ns.length=y1.l.length by rw [hns];simp);have hyl:=hx1.opens.2.2.2.2.1;have HNs:=kp (fun k u (hu:y1.l[k]?=some u)=>show ns[k]?=some (nthX u 0).text by rw [hns,List.getElem?_map,hu];rfl);have HUn:=kp hun;clear hns hun h3 hx1 hx2 hc1 hc2;generalize hrest:y1.l.map secondX=rest at *;have HRest:=kp hrest;have HRl:=kp (show rest.length=ns.length by rw [← hrest,HNl.out];simp);clear hrest;generalize hr:(fun y=>termP F.c known y env)=r at *;have HRf:=kp (fun y s=>show termP F.c known y env s=r y s by rw [← hr]);clear hr;have hmm:=@run_makeMap Tryz.prog;have M3:=kp (KeyMap.made (kt:=9) (key:=strKV) w2);have D3:=kp (D2.out.alloc (.map #[] 0));have X3:=kp (Bk.keep X2.out (.map #[] 0));have N3:=kp (N2.out.below ((brq w2).alloc nlq (.map #[] 0)));have FM3:=kp (D2.out.fresh (Nat.le_refl w2.heap.size));have HNo:=kp (show ∀ g,(Value.slice An ns.length cn).ownBlock=some g->g≠w2.heap.size from fun g hg=>by have:=(N2.out.lt g hg).2;omega);have hmr:w2.heap.size≠w.heap.size+1:=by have:=D2.out.size;omega
  have hmx:w2.heap.size≠w.heap.size:=by have:=D2.out.size;omega
  have hmw:=D2.out.keeps.size;go_upto_region 5 with fail
  generalize w2.alloc (.map #[] 0)=w3 at *;generalize w2.heap.size=mpb at *;clear hmm D2 X2 N2;have HS0:=kp (show res=termP F.c known y2 ((ns.zip ([] ++ (allM r (rest.drop 0) st).1)).reverse ++ env) (allM r (rest.drop 0) st).2 from HS.out);clear HS;go_wp2_with fail
  go_loopw [24] (fun i' wr=>∃ k:Nat,k<=ns.length/\i'=.int .i64 k/\∃ vs:List V,vs.length=k/\∃ (st':St) (A':Option Addr) (c':Nat),res=termP F.c known y2 ((ns.zip (vs ++ (allM r (rest.drop k) st').1)).reverse ++ env) (allM r (rest.drop k) st').2/\Mid F known w st.t At (w.heap.size+1) wr st' A' c'/\wr.heap[w.heap.size]?=some (.cells #[.int .i8 x.kind,.string x.text,.slice (some ⟨b0,o0,none⟩) x.l.length c] 30 (0,0))/\NRow w1.heap.size wr (.slice An ns.length cn) ns/\KeyMap 9 strKV wr mpb k (fun s=>(findE (ns.zip vs).reverse s).map valV)/\Far mpb st'.t A'/\∀ v ∈ vs,VI v) (fun i' _=>ns.length - (intOf i').toNat)
  case atStart=>exact⟨0,Nat.zero_le _,rfl,[],rfl,st,At,ct,HS0.out,D3.out,X3.out,N3.out,KeyMap.congr M3.out (fun s=>by simp [findE]),FM3.out,fun v hv=>by cases hv⟩
  case round =>
   obtain ⟨k,hk,rfl,vs,hvl,st',A',c',hres,hmid,hxr,hnr,hkm,hfm,hvi⟩:=hrel;have HRes:=kp hres;have DR:=kp hmid;have XR:=kp hxr;have NR:=kp hnr;have KM:=kp hkm;have FM:=kp hfm;have VI':=kp hvi;clear hres hmid hxr hnr hkm hfm hvi
   by_cases hkl:k < ns.length
   ·have hlt2:(k:Int) < (ns.length:Int):=by omega
    have hlt3:(k:Int) < (y1.l.length:Int):=by have:=HNl.out;omega
    obtain ⟨u,hu⟩:∃ u,y1.l[k]?=some u:=⟨_,gqe (by have:=HNl.out;omega)⟩;have hn:=HNs.out k u hu;have hu2:=HUn.out u (mgq hu);have hu3:(1:Int) < (u.l.length:Int):=by omega
    have HDr:=kp (show rest.drop k=nthX u 1 :: rest.drop (k+1) by
     have hlr:k < rest.length:=by have:=HRl.out;omega
     rw [List.drop_eq_getElem_cons hlr];have h1:rest[k]?=some (nthX u 1):=by rw [← HRest.out,List.getElem?_map,hu];rfl
     rw [gqe hlr] at h1;simp at h1;rw [h1])
    rw [HDr.out] at HRes;replace HRes:=kp (show res=termP F.c known y2 ((ns.zip (vs ++ ((r (nthX u 1) st').1 :: (allM r (rest.drop (k+1)) (r (nthX u 1) st').2).1))).reverse ++ env) (allM r (rest.drop (k+1)) (r (nthX u 1) st').2).2 from HRes.out);obtain ⟨bn,on,hAn,p0⟩:=NR.out.at hn;obtain ⟨bu,ou,Au,cu,hAu,hxu,hcu⟩:=xs_get HLl.out hu;obtain ⟨bz,oz,Az,cz,hAz,hxz,hcz⟩:=nth_xs hxu (i:=1) (by omega)
    have hns:((nthX u 0).text.size:Int)<=140737488351232:=by
     obtain ⟨_,_,_,_,_,hxn,_⟩:=nth_xs hxu (i:=0) (by omega);exact hxn.opens.2.2.2.1
    have hfz:(nthX u 1).full < x.full:=by
     have h1:=full_mem (nth_mem (x:=u) (i:=1) (by omega));have h2:=full_mem (mgq hu);have h3:=full_mem HM1.out
     omega
    have HC:=kp (HT.out _ hfz DR.out.maker hxz (HE.out.on DR.out.keeps));rw [HRf.out] at HC;have HN:=kp hn;obtain ⟨e0,e1,e2⟩:=HC1.out wr DR.out.maker.below;obtain ⟨f0,f1,f2⟩:=hcu wr DR.out.maker.below;obtain ⟨z0,z1,z2⟩:=hcz wr DR.out.maker.below;obtain ⟨q0,q1,q2,qf⟩:=Bk.c3 XR.out;generalize (nthX u 0).text=n at *;generalize nthX u 1=z at *;generalize r z st'=pr at *;obtain ⟨pv,ps⟩:=pr;subst hAu hAz;rw [hAn] at NR HNo;clear hu hu2 hn hxu hxz hcu hcz hfz HDr;rw [hAn];go_wp2_with fail
    refine HC.out.mono ?_;rintro e w7 ⟨rfl,hv,hk7,A7,c7,hm7,ht7⟩;have D7:=kp (DR.out.call hk7 hm7 ht7);have X7:=kp (DR.out.blk hk7 XR.out nlq);have N7:=kp (NR.out.keep hk7 (by have:=D1.out.size;omega));have KM7:=kp (KM.out.keeps hk7 (DR.out.ne hmw));have FM7:=kp (Far.of_tn FM.out ht7 KM.out.lt);have VP:=kp hv;clear hv hk7 hm7 ht7 p0 e0 e1 e2 f0 f1 f2 z0 z1 z2 q0 q1 q2 qf;obtain ⟨v8,u8,m8,g8⟩:=KeyMap.store (a:=n) (t:=74) (e:=69) KM7.out string_key str_inj Tryz.underlying74 (by have:=NR.out;unfold maxLen;omega) (keyOf_str hns) (valV pv);unfold valV at u8;replace u8:(Instr.mapUpdate 74 (.map (some mpb)) (.string n) (.agg #[.int .i64 pv.1,.int .i64 pv.2])).run Tryz.prog w7=.ok () v8:=u8;have K8:=kp (show Keeps (fun k=>k=mpb) w7 v8 from(Keeps.refl _ w7).grown g8 (fun j hj=>.inl (Option.some.inj hj).symm));have D8:=kp (D7.out.mapped hF g8 FM7.out hmw hmr);have X8:=kp ((K8.out.block w.heap.size (lt_of_block X7.out) (Ne.symm hmx)).trans X7.out);have N8:=kp (N7.out.other K8.out (fun g hg e=>HNo.out g hg e));subst hvl;have M8:=kp (show KeyMap 9 strKV v8 mpb (vs.length+1) (fun s=>(findE (ns.zip (vs ++ [pv])).reverse s).map valV) from KeyMap.congr m8 (fun s=>by rw [zip_snoc HN.out,findE_cons]));clear m8 g8;unfold valV;go_wp2_with fail
    go_roundw
    case rel=>exact⟨vs.length+1,by omega,by go_num,vs ++ [pv],by simp,ps,A7,c7,by rw [HRes.out];simp,D8.out,X8.out,N8.out,M8.out,FM7.out,fun v hv=>by
     rcases List.mem_append.1 hv with hv | hv
     ·exact VI'.out v hv
     ·obtain rfl:v=pv:=by simpa using hv
      exact VP.out⟩
    case measure=>simp [intOf];omega
   ·obtain rfl:k=ns.length:=by omega
    replace HRes:=kp (show res=termP F.c known y2 ((ns.zip vs).reverse ++ env) st' by rw [HRes.out,List.drop_of_length_le (by have:=HRl.out;omega)];simp [allM]);have D9:=kp (DR.out.alloc (.cells #[.pointer p,.map (some mpb)] 76));have S9:=kp (Bk.new wr (.cells #[.pointer p,.map (some mpb)] 76));have KM9:=kp (KM.out.below ((brq wr).alloc nlq (.cells #[.pointer p,.map (some mpb)] 76)));have HEn:=kp ((HE.out.on D9.out.keeps).cons S9.out KM9.out (fun q hq=>VI'.out _ (List.of_mem_zip (List.mem_reverse.1 hq)).2) (by have:=DR.out.keeps.size;omega) (by omega));have HC:=kp (HT.out y2 (full_mem HM2.out) D9.out.maker HX2.out HEn.out);rw [← HRes.out] at HC;obtain ⟨e0,e1,e2⟩:=HC2.out wr DR.out.maker.below;obtain ⟨q0,q1,q2,qf⟩:=Bk.c3 XR.out;go_wp2_with fail
    refine HC.out.mono ?_;rintro e w7 ⟨rfl,hv,hk7,A7,c7,hm7,ht7⟩;have D7:=kp (D9.out.call hk7 hm7 ht7);unfold valV;clear hk7 hm7 ht7 e0 e1 e2 q0 q1 q2 qf;obtain ⟨r0,r1,rf⟩:=Bk.c2 D7.out.cell;go_wp2_with fail
    refine D7.out.ret (v:=res.1) hF Tryz.results78 ?_ ?_ hv <;> rfl
end El
namespace El
open Go.RowKit Dt Sg
def RDiffPost (W0 w:World) (x:Sexp) (e:Ending) (w':World):Prop :=
 ((differsN (headS x) x=0/\e=.returned (.tuple #[.agg #[.int .i8 0,.string { data:=#[] },.slice none 0 0],.bool false,.bool false])) \/
  (differsN (headS x) x=1/\∃ A' c',XAt W0 A' c' (nthX x 1)/\e=.returned (.tuple #[.agg #[.int .i8 (nthX x 1).kind,.string (nthX x 1).text,.slice A' (nthX x 1).l.length c'],.bool true,.bool true])) \/
  (differsN (headS x) x=2/\∃ A' c',XAt W0 A' c' (nthX x 2)/\e=.returned (.tuple #[.agg #[.int .i8 (nthX x 2).kind,.string (nthX x 2).text,.slice A' (nthX x 2).l.length c'],.bool false,.bool true])))/\Below w.heap.size w w'
theorem differs_ret {f:Func} {w:World} {b:Nat} {x y z:Value} {o q:Bool} {act:Act} {R:Ending->World->Prop} (hf:f.results=#[.cell 2 30,.tmp 3,.tmp 4]) (hb:w.heap[b]?=some (.cells #[x,y,z] 30 (0,0))) (h1:act.tmps[3]?=some (.bool o)) (h3:act.tmps[4]?=some (.bool q)) (h2:act.tmps[2]?=some (.pointer (some ⟨b,0,none⟩))) (hd:act.defers=[]) (hR:R (.returned (.tuple #[.agg #[x,y,z],.bool o,.bool q])) w) :
  bodyPost Tryz.prog f R .ret act w:=by
 obtain ⟨y0,y1,y2,_⟩:=Bk.c3 hb;refine bodyPost_ret (v:=.tuple #[.agg #[x,y,z],.bool o,.bool q]) ?_ hd hR;simp [results,hf,go_sem,y0,y1,y2,h1,h2,h3]
theorem rdiffers_any {W0 w:World} {A:Option Addr} {c:Nat} {x:Sexp} (hx:XAt W0 A c x) (h0:Below W0.heap.size W0 w) :
  Calls Tryz.prog 145 #[.agg #[.int .i8 x.kind,.string x.text,.slice A x.l.length c]] w (RDiffPost W0 w x):=by
 have B1:=kp (((brq w).alloc nlq (.cells #[.int .i8 x.kind,.string x.text,.slice A x.l.length c] 30)).alloc (by simp) (.cells #[.int .i8 0,.string { data:=#[] },.slice none 0 0] 30));have X1:=kp (Bk.keep (Bk.new w (.cells #[.int .i8 x.kind,.string x.text,.slice A x.l.length c] 30)) (.cells #[.int .i8 0,.string { data:=#[] },.slice none 0 0] 30));have R1:=kp (show((w.alloc (.cells #[.int .i8 x.kind,.string x.text,.slice A x.l.length c] 30)).alloc (.cells #[.int .i8 0,.string { data:=#[] },.slice none 0 0] 30)).heap[w.heap.size+1]?=some (.cells #[.int .i8 0,.string { data:=#[] },.slice none 0 0] 30 (0,0)) by have h:=Bk.new (w.alloc (.cells #[.int .i8 x.kind,.string x.text,.slice A x.l.length c] 30)) (.cells #[.int .i8 0,.string { data:=#[] },.slice none 0 0] 30);simpa using h);have W1:=kp (h0.trans (B1.out.mono h0.size));have HX:=kp hx;have HH:=kp (rhead_any (hx.on W1.out));have HCm:=kp (rcompares_all (headS x));have HIs:=kp (fun W A c y (h:XAt W A c y)=>ris_any h);have HMi:=kp (fun W A c y (h:XAt W A c y)=>rminus_any h)
 have HD:=kp (show differsN (headS x) x=if x.l.length=3/\cmpN (headS x)=true then
  if minusB (nthX x 1) && isNumX (nthX x 2) then 1 else if minusB (nthX x 2) && isNumX (nthX x 1) then 2 else 0
 else 0 by rw [cmpN_eq];rfl)
 have HP0:=kp (show ∀ w',differsN (headS x) x=0->Below w.heap.size w w'->RDiffPost W0 w x (.returned (.tuple #[.agg #[.int .i8 0,.string { data:=#[] },.slice none 0 0],.bool false,.bool false])) w' from fun w' h hb=>⟨.inl ⟨h,rfl⟩,hb⟩);have HP1:=kp (show ∀ w' A' c',differsN (headS x) x=1->XAt W0 A' c' (nthX x 1)->Below w.heap.size w w'->RDiffPost W0 w x (.returned (.tuple #[.agg #[.int .i8 (nthX x 1).kind,.string (nthX x 1).text,.slice A' (nthX x 1).l.length c'],.bool true,.bool true])) w' from fun w' A' c' h hx hb=>⟨.inr (.inl ⟨h,A',c',hx,rfl⟩),hb⟩);have HP2:=kp (show ∀ w' A' c',differsN (headS x) x=2->XAt W0 A' c' (nthX x 2)->Below w.heap.size w w'->RDiffPost W0 w x (.returned (.tuple #[.agg #[.int .i8 (nthX x 2).kind,.string (nthX x 2).text,.slice A' (nthX x 2).l.length c'],.bool false,.bool true])) w' from fun w' A' c' h hx hb=>⟨.inr (.inr ⟨h,A',c',hx,rfl⟩),hb⟩);clear hx h0;generalize RDiffPost W0 w x=PP at *;generalize differsN (headS x) x=dn at *;generalize hhd:headS x=hd at *;clear hhd;generalize cmpN hd=cm at *;have hrn:w.heap.size+1≠w.heap.size:=by omega
 go_enter Tryz.func145,Tryz.ntmps145
 go_upto_region 1 with fail
 generalize (w.alloc (.cells #[.int .i8 x.kind,.string x.text,.slice A x.l.length c] 30)).alloc (.cells #[.int .i8 0,.string { data:=#[] },.slice none 0 0] 30)=w1 at *;obtain ⟨q0,q1,q2,qf⟩:=Bk.c3 X1.out;go_wp2_with fail
 refine HH.out.mono ?_;rintro e w2 ⟨rfl,hb⟩;have B2:=kp (B1.out.trans (hb.mono B1.out.size));have W2:=kp (W1.out.trans (hb.mono W1.out.size));have X2:=kp (Bk.on X1.out hb);have R2:=kp (Bk.on R1.out hb);clear hb q0 q1 q2 qf B1 W1 X1 R1;obtain ⟨q0,q1,q2,qf⟩:=Bk.c3 X2.out;obtain ⟨r0,r1,r2,rf⟩:=Bk.c3 R2.out
 cases hcm:cm with
 | false =>
  rw [hcm] at HCm;have HQ:=kp (show dn=0 by rw [HD.out,if_neg (fun h=>by rw [h.2] at hcm;cases hcm)]);clear hcm;go_wp2_with fail
  refine(HCm.out _).mono ?_;rintro e w' ⟨rfl,rfl⟩;go_wp2_with fail
  refine differs_ret (b:=w.heap.size+1) (o:=false) (q:=false) Tryz.results145 (Bk.set_at (Bk.set_at (Bk.set_at R2.out 0 _) 1 _) 2 _) rfl rfl rfl rfl ?_;exact HP0.out _ HQ.out (set3'_below B2.out (b:=w.heap.size+1) (by omega) _ _ _)
 | true =>
  rw [hcm] at HCm
  by_cases h3:x.l.length=3
  ·have h3':((x.l.length:Int) != 3)=false:=by rw [h3];rfl
   have h31:(1:Int) < (x.l.length:Int):=by omega
   have h32:(2:Int) < (x.l.length:Int):=by omega
   replace HD:=kp (HD.out.trans (if_pos ⟨h3,hcm⟩));obtain ⟨b,o,A1,c1,hA,hx1,hc1⟩:=nth_xs HX.out (i:=1) (by omega);obtain ⟨b',o',A2,c2,hA2,hx2,hc2⟩:=nth_xs HX.out (i:=2) (by omega);subst hA;obtain ⟨rfl,rfl⟩:=aiq hA2;rw [Nat.one_mul] at hc1;have XO1:=kp hx1;have XO2:=kp hx2;have HC1:=kp hc1;have HC2:=kp hc2;clear hx1 hx2 hc1 hc2 h3 hcm HH;have HM1:=kp (HMi.out w2 A1 c1 _ (XO1.out.on W2.out));obtain ⟨e0,e1,e2⟩:=HC1.out w2 W2.out;generalize nthX x 1=y1 at *;generalize nthX x 2=y2 at *;go_wp2_with fail
   refine(HCm.out _).mono ?_;rintro e w' ⟨rfl,rfl⟩;go_wp2_with fail
   refine HM1.out.mono ?_;rintro e w3 ⟨rfl,hb⟩;have B3:=kp (B2.out.trans (hb.mono B2.out.size));have W3:=kp (W2.out.trans (hb.mono W2.out.size));have X3:=kp (Bk.on X2.out hb);have R3:=kp (Bk.on R2.out hb);clear hb q0 q1 q2 qf r0 r1 r2 rf e0 e1 e2 HM1;obtain ⟨q0,q1,q2,qf⟩:=Bk.c3 X3.out
   cases hm1:minusB y1 with
   | true =>
    have HI2:=kp (HIs.out w3 A2 c2 _ (XO2.out.on W3.out));obtain ⟨e0,e1,e2⟩:=HC2.out w3 W3.out;go_wp2_with fail
    refine HI2.out.mono ?_;rintro e w4 ⟨rfl,hb⟩;have B4:=kp (B3.out.trans (hb.mono B3.out.size));have W4:=kp (W3.out.trans (hb.mono W3.out.size));have X4:=kp (Bk.on X3.out hb);have R4:=kp (Bk.on R3.out hb);clear hb q0 q1 q2 qf e0 e1 e2 HI2;obtain ⟨q0,q1,q2,qf⟩:=Bk.c3 X4.out;obtain ⟨r0,r1,r2,rf⟩:=Bk.c3 R4.out
    cases hi2:isNumX y2 with
    | true =>
     have HQ:=kp (show dn=1 by rw [HD.out,hm1,hi2];rfl);clear hm1 hi2;obtain ⟨e0,e1,e2⟩:=HC1.out w4 W4.out;go_wp2_with fail
     refine differs_ret (b:=w.heap.size+1) (o:=true) (q:=true) Tryz.results145 (Bk.set_at (Bk.set_at (Bk.set_at R4.out 0 _) 1 _) 2 _) rfl rfl rfl rfl ?_;exact HP1.out _ _ _ HQ.out XO1.out (set3'_below B4.out (b:=w.heap.size+1) (by omega) _ _ _)
    | false =>
     replace HD:=kp (show dn=if minusB y2 && isNumX y1 then 2 else 0 by rw [HD.out,hm1,hi2];rfl);clear hm1 hi2;have HM2:=kp (HMi.out w4 A2 c2 _ (XO2.out.on W4.out));obtain ⟨e0,e1,e2⟩:=HC2.out w4 W4.out;go_wp2_with fail
     refine HM2.out.mono ?_;rintro e w5 ⟨rfl,hb⟩;have B5:=kp (B4.out.trans (hb.mono B4.out.size));have W5:=kp (W4.out.trans (hb.mono W4.out.size));have X5:=kp (Bk.on X4.out hb);have R5:=kp (Bk.on R4.out hb);clear hb q0 q1 q2 qf r0 r1 r2 rf e0 e1 e2 HM2;obtain ⟨q0,q1,q2,qf⟩:=Bk.c3 X5.out
     cases hm2:minusB y2 with
     | true =>
      have HI1:=kp (HIs.out w5 A1 c1 _ (XO1.out.on W5.out));obtain ⟨e0,e1,e2⟩:=HC1.out w5 W5.out;go_wp2_with fail
      refine HI1.out.mono ?_;rintro e w7 ⟨rfl,hb⟩;have B7:=kp (B5.out.trans (hb.mono B5.out.size));have W7:=kp (W5.out.trans (hb.mono W5.out.size));have X7:=kp (Bk.on X5.out hb);have R7:=kp (Bk.on R5.out hb);clear hb q0 q1 q2 qf e0 e1 e2 HI1;obtain ⟨q0,q1,q2,qf⟩:=Bk.c3 X7.out;obtain ⟨r0,r1,r2,rf⟩:=Bk.c3 R7.out
      cases hi1:isNumX y1 with
      | true =>
       have HQ:=kp (show dn=2 by rw [HD.out,hm2,hi1];rfl);clear hm2 hi1;obtain ⟨e0,e1,e2⟩:=HC2.out w7 W7.out;go_wp2_with fail
       refine differs_ret (b:=w.heap.size+1) (o:=false) (q:=true) Tryz.results145 (Bk.set_at (Bk.set_at (Bk.set_at R7.out 0 _) 1 _) 2 _) rfl rfl rfl rfl ?_;exact HP2.out _ _ _ HQ.out XO2.out (set3'_below B7.out (b:=w.heap.size+1) (by omega) _ _ _)
      | false =>
       have HQ:=kp (show dn=0 by rw [HD.out,hm2,hi1];rfl);clear hm2 hi1;go_wp2_with fail
       refine differs_ret (b:=w.heap.size+1) (o:=false) (q:=false) Tryz.results145 (Bk.set_at (Bk.set_at (Bk.set_at R7.out 0 _) 1 _) 2 _) rfl rfl rfl rfl ?_;exact HP0.out _ HQ.out (set3'_below B7.out (b:=w.heap.size+1) (by omega) _ _ _)
     | false =>
      have HQ:=kp (show dn=0 by rw [HD.out,hm2];rfl);obtain ⟨r0,r1,r2,rf⟩:=Bk.c3 R5.out;clear hm2;go_wp2_with fail
      refine differs_ret (b:=w.heap.size+1) (o:=false) (q:=false) Tryz.results145 (Bk.set_at (Bk.set_at (Bk.set_at R5.out 0 _) 1 _) 2 _) rfl rfl rfl rfl ?_;exact HP0.out _ HQ.out (set3'_below B5.out (b:=w.heap.size+1) (by omega) _ _ _)
   | false =>
    replace HD:=kp (show dn=if minusB y2 && isNumX y1 then 2 else 0 by rw [HD.out,hm1];rfl);obtain ⟨r0,r1,r2,rf⟩:=Bk.c3 R3.out;clear hm1;have HM2:=kp (HMi.out w3 A2 c2 _ (XO2.out.on W3.out));obtain ⟨e0,e1,e2⟩:=HC2.out w3 W3.out;go_wp2_with fail
    refine HM2.out.mono ?_;rintro e w5 ⟨rfl,hb⟩;have B5:=kp (B3.out.trans (hb.mono B3.out.size));have W5:=kp (W3.out.trans (hb.mono W3.out.size));have X5:=kp (Bk.on X3.out hb);have R5:=kp (Bk.on R3.out hb);clear hb q0 q1 q2 qf r0 r1 r2 rf e0 e1 e2 HM2;obtain ⟨q0,q1,q2,qf⟩:=Bk.c3 X5.out
    cases hm2:minusB y2 with
    | true =>
     have HI1:=kp (HIs.out w5 A1 c1 _ (XO1.out.on W5.out));obtain ⟨e0,e1,e2⟩:=HC1.out w5 W5.out;go_wp2_with fail
     refine HI1.out.mono ?_;rintro e w7 ⟨rfl,hb⟩;have B7:=kp (B5.out.trans (hb.mono B5.out.size));have W7:=kp (W5.out.trans (hb.mono W5.out.size));have X7:=kp (Bk.on X5.out hb);have R7:=kp (Bk.on R5.out hb);clear hb q0 q1 q2 qf e0 e1 e2 HI1;obtain ⟨q0,q1,q2,qf⟩:=Bk.c3 X7.out;obtain ⟨r0,r1,r2,rf⟩:=Bk.c3 R7.out
     cases hi1:isNumX y1 with
     | true =>
      have HQ:=kp (show dn=2 by rw [HD.out,hm2,hi1];rfl);clear hm2 hi1;obtain ⟨e0,e1,e2⟩:=HC2.out w7 W7.out;go_wp2_with fail
      refine differs_ret (b:=w.heap.size+1) (o:=false) (q:=true) Tryz.results145 (Bk.set_at (Bk.set_at (Bk.set_at R7.out 0 _) 1 _) 2 _) rfl rfl rfl rfl ?_;exact HP2.out _ _ _ HQ.out XO2.out (set3'_below B7.out (b:=w.heap.size+1) (by omega) _ _ _)
     | false =>
      have HQ:=kp (show dn=0 by rw [HD.out,hm2,hi1];rfl);clear hm2 hi1;go_wp2_with fail
      refine differs_ret (b:=w.heap.size+1) (o:=false) (q:=false) Tryz.results145 (Bk.set_at (Bk.set_at (Bk.set_at R7.out 0 _) 1 _) 2 _) rfl rfl rfl rfl ?_;exact HP0.out _ HQ.out (set3'_below B7.out (b:=w.heap.size+1) (by omega) _ _ _)
    | false =>
     have HQ:=kp (show dn=0 by rw [HD.out,hm2];rfl);obtain ⟨r0,r1,r2,rf⟩:=Bk.c3 R5.out;clear hm2;go_wp2_with fail
     refine differs_ret (b:=w.heap.size+1) (o:=false) (q:=false) Tryz.results145 (Bk.set_at (Bk.set_at (Bk.set_at R5.out 0 _) 1 _) 2 _) rfl rfl rfl rfl ?_;exact HP0.out _ HQ.out (set3'_below B5.out (b:=w.heap.size+1) (by omega) _ _ _)
  ·have h3':((x.l.length:Int) != 3)=true:=by rw [bne_iff_ne];omega
   have HQ:=kp (show dn=0 by rw [HD.out,if_neg (fun h=>h3 h.1)]);clear h3 hcm;go_wp2_with fail
   refine(HCm.out _).mono ?_;rintro e w' ⟨rfl,rfl⟩;go_wp2_with fail
   refine differs_ret (b:=w.heap.size+1) (o:=false) (q:=false) Tryz.results145 (Bk.set_at (Bk.set_at (Bk.set_at R2.out 0 _) 1 _) 2 _) rfl rfl rfl rfl ?_;exact HP0.out _ HQ.out (set3'_below B2.out (b:=w.heap.size+1) (by omega) _ _ _)
theorem has_take_step {ns:List ByteArray} {s x:ByteArray} {k:Nat} (hk:ns[k]?=some x) (h:hasB (ns.take k) s=false) (hx:x≠s):hasB (ns.take (k+1)) s=false:=find_step hk h hx
theorem has_hit {ns:List ByteArray} {s x:ByteArray} {k:Nat} (hk:ns[k]?=some x) (h:x=s):hasB ns s=true:=hasB_iff.2 (by rw [← h];exact mgq hk)
theorem rbindings_any {w:World} {A:Option Addr} {c:Nat} {x:Sexp} (h:XAt w A c x) :
  Calls Tryz.prog 144 #[.agg #[.int .i8 x.kind,.string x.text,.slice A x.l.length c]] w fun e w'=>e=.returned (.bool (boundN x).isSome)/\Below w.heap.size w w':=by
 have XB:=kp (Bk.new w (.cells #[.int .i8 x.kind,.string x.text,.slice A x.l.length c] 30));have B1:=kp ((brq w).alloc nlq (.cells #[.int .i8 x.kind,.string x.text,.slice A x.l.length c] 30));have HX:=kp (h.on B1.out);have HO:=kp (boundN_eq x);clear h;generalize boundN x=res at *
 go_enter Tryz.func144,Tryz.ntmps144
 go_upto_region 1 with fail
 generalize w.alloc (.cells #[.int .i8 x.kind,.string x.text,.slice A x.l.length c] 30)=w1 at *;obtain ⟨q0,q1,q2,qf⟩:=Bk.c3 XB.out
 by_cases h3:x.l.length=3
 ·have g1:((x.l.length:Int) != 3)=false:=by rw [h3];rfl
  have g2:(1:Int) < (x.l.length:Int):=by omega
  obtain ⟨b0,o0,Ab,cb,rfl,hbl,e0,e1,e2,hxb⟩:=nth_cells HX.out (i:=1) (by omega);replace HO:=kp (show res=if(nthX x 1).kind=3/\(nthX x 1).l.length≠0 then(nthX x 1).l.foldl stepB (some []) else none by rw [HO.out];simp only [h3,true_and]);rw [Nat.one_mul] at e0 e1 e2;clear h3;generalize nthX x 1=y at *;have HY:=kp hxb;clear hxb
  by_cases hk:y.kind=3
  ·have g3:(y.kind != 3)=false:=by simp [hk]
   by_cases hl:y.l.length=0
   ·have g4:((y.l.length:Int) == 0)=true:=by rw [hl];rfl
    replace HO:=kp (show res=none by rw [HO.out,if_neg (fun h=>h.2 hl)]);clear hk hl;go_wp2_with fail
    go_ret;rw [HO.out];exact⟨rfl,B1.out⟩
   ·have g4:((y.l.length:Int) == 0)=false:=by rw [beq_eq_false_iff_ne];omega
    replace HO:=kp (show res=(y.l.drop 0).foldl stepB (some []) by rw [HO.out,if_pos ⟨hk,hl⟩];rfl);obtain ⟨hll,hlc,hcm,_,hlb,_⟩:=HY.out.opens;have HLl:=kp hll;clear hk hl hll;go_wp2_with fail
    go_loopw [4] (fun i' wr=>∃ k:Nat,k<=y.l.length/\i'=.int .i64 k/\∃ ns:List ByteArray,ns.length=k/\res=(y.l.drop k).foldl stepB (some ns)/\(∀ j u,j < k->y.l[j]?=some u->u.l.length=2/\ns[j]?=some (nthX u 0).text)/\Below w1.heap.size w1 wr) (fun i' _=>y.l.length - (intOf i').toNat)
    case atStart=>exact⟨0,Nat.zero_le _,rfl,[],rfl,HO.out,fun j u hj=>by omega,Below.refl _ _⟩
    case round =>
     obtain ⟨k,hk,rfl,ns,hnl,hres,hto,hb⟩:=hrel;have HB:=kp hb;generalize hwr:wr=w2 at *;clear hwr hb;have HRes:=kp hres;have HTo:=kp hto;have HNl:=kp hnl;clear hres hto hnl
     by_cases hkl:k < y.l.length
     ·have hlt2:(k:Int) < (y.l.length:Int):=by omega
      obtain ⟨u,hu⟩:∃ u,y.l[k]?=some u:=⟨_,gqe hkl⟩
      have HDr:=kp (show y.l.drop k=u :: y.l.drop (k+1) by
       rw [List.drop_eq_getElem_cons hkl];rw [gqe hkl] at hu;simp at hu;rw [hu])
      rw [HDr.out] at HRes;replace HRes:=kp (show res=(y.l.drop (k+1)).foldl stepB ((bindN u).bind fun s=>if hasB ns s then none else some (ns ++ [s])) from HRes.out);have HBi:=kp (bindN_eq u);have HU:=kp hu;obtain ⟨b1,o1,Au,cu,rfl,hbl1,u0,u1,u2',hr⟩:=sexp_cells (HLl.out.on SexpR.lasts HB.out) hu;have HUx:=kp (show XAt w2 Au cu u from hr);clear hu HDr hr
      by_cases c1:u.kind=3
      ·have d1:(u.kind != 3)=false:=by simp [c1]
       by_cases c2:u.l.length=2
       ·have d2:((u.l.length:Int) != 2)=false:=by rw [c2];rfl
        have d3:(0:Int) < (u.l.length:Int):=by omega
        obtain ⟨b2,o2,Az,cz,rfl,hbl2,z0,z1,z2,hz⟩:=nth_cells HUx.out (i:=0) (by omega);rw [Nat.zero_mul,Nat.add_zero] at z0 z1 z2
        by_cases c3:(nthX u 0).kind=0
        ·have d4:((nthX u 0).kind != 0)=false:=by simp [c3]
         have HRs:=kp (Lx.rreserved_any (nthX u 0).text)
         by_cases c4:Lx.resB (Lx.bs (nthX u 0).text)=true
         ·replace HBi:=kp (show bindN u=none by rw [HBi.out,if_neg (fun h=>by rw [h.2.2.2] at c4;cases c4)]);replace HRes:=kp (show res=none by rw [HRes.out,HBi.out];exact fold_none _);rw [c4] at HRs;clear hz c1 c2 c3 c4;generalize nthX u 0=z at *;go_wp2_with fail
          refine(HRs.out _).mono ?_;rintro e w' ⟨rfl,rfl⟩;go_wp2_with fail
          go_ret;rw [HRes.out];exact⟨rfl,B1.out.trans (HB.out.mono B1.out.size)⟩
         ·have c4':=eq_false_of_ne_true c4;replace HBi:=kp (show bindN u=some (nthX u 0).text by rw [HBi.out,if_pos ⟨c1,c2,c3,c4'⟩]);rw [c4'] at HRs;replace HRes:=kp (show res=(y.l.drop (k+1)).foldl stepB (if hasB ns (nthX u 0).text then none else some (ns ++ [(nthX u 0).text])) by rw [HRes.out,HBi.out];rfl);have HC2:=kp c2;clear hz c1 c2 c3 c4 c4';generalize hzz:nthX u 0=z at *;have HZ:=kp hzz;clear hzz;go_wp2_with fail
          refine(HRs.out _).mono ?_;rintro e w' ⟨rfl,rfl⟩;go_wp2_with fail
          go_loopw [5] (fun j' wr=>∃ j:Nat,j<=k/\j'=.int .i64 j/\hasB (ns.take j) z.text=false/\Below w2.heap.size w2 wr) (fun j' _=>k - (intOf j').toNat)
          case atStart=>exact⟨0,Nat.zero_le _,rfl,rfl,Below.refl _ _⟩
          case round =>
           obtain ⟨j,hj,rfl,hno,hb⟩:=hrel;have HNo:=kp hno;have HBj:=kp hb;have HBB:=kp (HB.out.trans (hb.mono HB.out.size));clear hno hb
           by_cases hjk:j < k
           ·have hjk2:(j:Int) < (k:Int):=by omega
            have hjk3:(j:Int) < (y.l.length:Int):=by omega
            obtain ⟨v,hv⟩:∃ v,y.l[j]?=some v:=⟨_,gqe (by omega)⟩;obtain ⟨hv2,hvn⟩:=HTo.out j v hjk hv;obtain ⟨b1',o1',Av,cv,hAv,_,v0',v1',v2',hrv⟩:=sexp_cells (HLl.out.on SexpR.lasts HBB.out) hv;obtain ⟨rfl,rfl⟩:=aiq hAv;have i2:=((bcell HBj.out).1 b1 _ hbl1).trans u2';have i1:=((bcell HBj.out).1 b2 _ hbl2).trans z1;obtain ⟨b3,o3,Ay,cy,rfl,hbl3,y0,y1,y2,_⟩:=nth_cells (show XAt wr Av cv v from hrv) (i:=0) (by omega);rw [Nat.zero_mul,Nat.add_zero] at y0 y1 y2;have HVn:=kp hvn;have d5:(0:Int) < (v.l.length:Int):=by omega
            have d5n:0 < v.l.length:=by omega
            have d3n:0 < u.l.length:=by omega
            clear hv hv2 hvn hrv;generalize nthX v 0=zv at *
            by_cases hq:zv.text=z.text
            ·have hq1:(zv.text.toList == z.text.toList)=true:=by rw [hq];simp
             have HQ:=kp (show res=none by rw [HRes.out,if_pos (has_hit HVn.out hq)];exact fold_none _);rw [hq] at y1 hq1;clear hq;go_upto_region 12 with fail
             refine wp_region_held_drew (S:=fun W=>W.cell? ⟨b1,o1+j * 3+2,none⟩=some (.slice (some ⟨b3,o3,none⟩) v.l.length cv)/\W.cell? ⟨b3,o3+1,none⟩=some (.string z.text)/\W.cell? ⟨b1,o1+k * 3+2,none⟩=some (.slice (some ⟨b2,o2,none⟩) u.l.length cu)/\W.cell? ⟨b2,o2+1,none⟩=some (.string z.text)) (by kernel_rfl) (⟨v2',y1,i2,i1⟩) (fun hHeld=>?_);refine plz [0,1,2,3,4,5,6,7,8,9,10,11,12,13,14,15,16] ?_;iterate 17 (refine tnz (v:=?_) ?_ ?_;rotate_left;(focus (intro w hSw;go_simp;try with_reducible rfl));try simp only [pt])
             refine pzz ?_;refine dnz ?_;clear hHeld;go_wp2_with fail
             go_ret;rw [HQ.out];exact⟨rfl,B1.out.trans (HBB.out.drew.mono B1.out.size)⟩
            ·have hq1:=text_ne hq;have HQ:=kp (has_take_step HVn.out HNo.out hq);clear hq;go_upto_region 12 with fail
             refine wp_region_held_drew (S:=fun W=>W.cell? ⟨b1,o1+j * 3+2,none⟩=some (.slice (some ⟨b3,o3,none⟩) v.l.length cv)/\W.cell? ⟨b3,o3+1,none⟩=some (.string zv.text)/\W.cell? ⟨b1,o1+k * 3+2,none⟩=some (.slice (some ⟨b2,o2,none⟩) u.l.length cu)/\W.cell? ⟨b2,o2+1,none⟩=some (.string z.text)) (by kernel_rfl) (⟨v2',y1,i2,i1⟩) (fun hHeld=>?_);refine plz [0,1,2,3,4,5,6,7,8,9,10,11,12,13,14,15,16] ?_;iterate 17 (refine tnz (v:=?_) ?_ ?_;rotate_left;(focus (intro w hSw;go_simp;try with_reducible rfl));try simp only [pt])
             refine pzz ?_;refine dnz ?_;clear hHeld;go_wp2_with fail
             go_roundw
             case rel=>exact⟨j+1,by omega,by go_num,HQ.out,HBj.out.drew⟩
             case measure=>simp [intOf];omega
           ·obtain rfl:j=k:=by omega
            have HNo2:=kp (show hasB ns z.text=false by have:=HNo.out;rwa [List.take_of_length_le (by have:=HNl.out;omega)] at this);replace HRes:=kp (show res=(y.l.drop (j+1)).foldl stepB (some (ns ++ [z.text])) by rw [HRes.out,HNo2.out];rfl);go_wp2_with fail
            go_roundw
            case rel=>exact⟨j+1,by omega,by go_num,ns ++ [z.text],by have:=HNl.out;simp;omega,HRes.out,fun i v hi hv=>by
             by_cases hij:i < j
             ·obtain ⟨h1,h2⟩:=HTo.out i v hij hv;exact⟨h1,by rw [List.getElem?_append_left (by have:=HNl.out;omega)];exact h2⟩
             ·obtain rfl:i=j:=by omega
              have:=HU.out.symm.trans hv;obtain rfl:u=v:=by simpa using this
              refine⟨HC2.out,?_⟩;rw [List.getElem?_append_right (by have:=HNl.out;omega),HNl.out,HZ.out];simp,HBB.out⟩
            case measure=>simp [intOf];omega
        ·have d4:((nthX u 0).kind != 0)=true:=by rw [bne_iff_ne];exact c3
         replace HBi:=kp (show bindN u=none by rw [HBi.out,if_neg (fun h=>c3 h.2.2.1)]);replace HRes:=kp (show res=none by rw [HRes.out,HBi.out];exact fold_none _);clear hz c1 c2 c3;generalize nthX u 0=z at *;go_wp2_with fail
         go_ret;rw [HRes.out];exact⟨rfl,B1.out.trans (HB.out.mono B1.out.size)⟩
       ·have d2:((u.l.length:Int) != 2)=true:=by rw [bne_iff_ne];omega
        replace HBi:=kp (show bindN u=none by rw [HBi.out,if_neg (fun h=>c2 h.2.1)]);replace HRes:=kp (show res=none by rw [HRes.out,HBi.out];exact fold_none _);clear c1 c2;go_wp2_with fail
        go_ret;rw [HRes.out];exact⟨rfl,B1.out.trans (HB.out.mono B1.out.size)⟩
      ·have d1:(u.kind != 3)=true:=by rw [bne_iff_ne];exact c1
       replace HBi:=kp (show bindN u=none by rw [HBi.out,if_neg (fun h=>c1 h.1)]);replace HRes:=kp (show res=none by rw [HRes.out,HBi.out];exact fold_none _);clear c1;go_wp2_with fail
       go_ret;rw [HRes.out];exact⟨rfl,B1.out.trans (HB.out.mono B1.out.size)⟩
     ·obtain rfl:k=y.l.length:=by omega
      replace HRes:=kp (show res=some ns by rw [HRes.out,List.drop_length];rfl);go_wp2_with fail
      go_ret;rw [HRes.out];exact⟨rfl,B1.out.trans (HB.out.mono B1.out.size)⟩
  ·have g3:(y.kind != 3)=true:=by rw [bne_iff_ne];exact hk
   replace HO:=kp (show res=none by rw [HO.out,if_neg (fun h=>hk h.1)]);clear hk;go_wp2_with fail
   go_ret;rw [HO.out];exact⟨rfl,B1.out⟩
 ·have g1:((x.l.length:Int) != 3)=true:=by rw [bne_iff_ne];omega
  replace HO:=kp (show res=none by rw [HO.out,if_neg (fun h=>h3 h.1)]);clear h3;go_wp2_with fail
  go_ret;rw [HO.out];exact⟨rfl,B1.out⟩
def vy (p:Vy):List Value:=[.string p.1,.int .i64 p.2,.int .i64 0]
theorem info_vary:(Tryz.prog.info? 94).map (fun i=>(i.zero,i.size,i.bytes))=some (some (.agg #[.string { data:=#[] },.int .i64 0,.int .i64 0]),3,32):=by kernel_rfl
def VyOk (p:Vy):Prop:=(p.1.size:Int)<=140737488351232/\I64 p.2
structure VyRow (base:Nat) (w:World) (v:Value) (vs:List Vy):Prop where
 own:w.ownsRow base 94 3 v vs.length (flatV vy vs)
 ok:∀ u ∈ vs,VyOk u
section
variable {F:RFix} {base:Nat} {w w':World} {v:Value} {vs:List Vy}
theorem VyRow.nil (base:Nat) (w:World):VyRow base w (.slice none 0 0) []:=⟨⟨by simp [flatV],.inl ⟨rfl,rfl⟩⟩,fun u hu=>(by cases hu)⟩
theorem VyRow.shape (h:VyRow base w v vs):∃ A c,v=.slice A vs.length c/\vs.length<=c/\c<=maxLen:=by
 rcases h.own.2 with⟨h1,h2⟩ | ⟨g,cap,cur,h1,_,_,h2,h3,_⟩
 ·exact⟨none,0,by rw [h2];exact h1,by omega,by unfold maxLen;omega⟩
 ·exact⟨_,cap,h1,h2,h3⟩
theorem VyRow.lies {A:Option Addr} {k c:Nat} (h:VyRow base w (.slice A k c) vs):Lies 3 VarR w A vs:=by
 rcases h.own.2 with⟨h1,h2⟩ | ⟨g,cap,cur,h1,hg,hat,h2,h3,h4,h5⟩
 ·exact .inl (List.length_eq_zero_iff.1 h2)
 ·simp only [Value.slice.injEq] at h1;refine .inr ⟨g,0,h1.1,lt_of_block hat,fun i x hx=>?_⟩;refine⟨vy x,rfl,fun j u hu=>?_,rfl,h.ok x (mgq hx)⟩;rw [Nat.zero_add,cell_of_row w g (i * 3+j) cur 94 (0,0) hat];have:=flatV_at (n:=3) (val:=vy) (fun _=>rfl) vs i x hx j u hu;rw [← h5,List.getElem?_take] at this
  split at this
  ·simpa using this
  ·cases this
theorem VyRow.keep (h:VyRow base w v vs) (hk:Keeps (onRb F) w w') (hb:F.rb < base):VyRow base w' v vs:=⟨keep_row h.own hk (fun k hk=>by unfold onRb at hk;omega),h.ok⟩
theorem VyRow.below (h:VyRow base w v vs) (hb:Below w.heap.size w w'):VyRow base w' v vs:=⟨keep_row h.own (Keeps.of_below hb (fun _=>False)) (fun _ hk=>hk.elim),h.ok⟩
theorem VyRow.wide {B:Nat} (h:VyRow base w v vs) (hb:B<=base):VyRow B w v vs:=by
 refine⟨⟨h.own.1,?_⟩,h.ok⟩;rcases h.own.2 with h1 | ⟨g,cap,cur,h1,hg,r⟩
 ·exact .inl h1
 ·exact .inr ⟨g,cap,cur,h1,Nat.le_trans hb hg,r⟩
theorem VyRow.varsS {A:Option Addr} {n c:Nat} (h:VyRow base w (.slice A n c) vs) (hb:F.rb < base):VarsS F w A vs:=fun _ hW=>(h.keep hW hb).lies
theorem grown_blkV {W W9:World} (hr:VyRow base W v vs) (hg:W.grownBy W9 v.ownBlock) {k:Nat} {o:Obj} (hk:W.heap[k]?=some o) (hb:k < base):W9.heap[k]?=some o :=
 (hg.block k (lt_of_block hk) (fun e=>by have:=(hr.own.lt k e.symm).1;omega)).trans hk
theorem RMid.grown {w0 W W9:World} {rc:Nat} {e:Int} (hF:RFixOk F) (h:RMid F w0 rc W e) (hr:VyRow base W v vs) (hg:W.grownBy W9 v.ownBlock) (hb:rc < base):RMid F w0 rc W9 e:=by
 have hle:=h.le;have hlt:=h.lt;have hk:Keeps (fun k=>v.ownBlock=some k) W W9:=(Keeps.refl _ W).grown hg (fun j hj=>.inl hj);refine⟨⟨(hk.block F.rb h.rd.lt (fun e=>by have:=(hr.own.lt _ e).1;omega)).trans h.rd.blk,h.rd.below.trans (hk.below (fun k hk=>by have:=(hr.own.lt k hk).1;have:=hF.lt;omega) h.rd.below.size)⟩,?_,(hk.block rc h.size (fun e=>by have:=(hr.own.lt _ e).1;omega)).trans h.cell,h.lt,h.le⟩;exact h.keeps.grown hg (fun j hj=>.inr (by have:=(hr.own.lt j hj).1;omega))
theorem vy_cells {W:World} {b:Nat} {u:Vy} (h:W.heap[b]?=some (.cells #[.string u.1,.int .i64 u.2,.int .i64 0] 94 (0,0))):Cells W (some ⟨b,0,none⟩) (vy u):=by
 obtain ⟨c0,c1,c2,_⟩:=Bk.c3 h;refine .inr ⟨b,0,rfl,lt_of_block h,fun j x hx=>?_⟩
 match j,hx with
 | 0,hx=>cases hx;exact c0
 | 1,hx=>cases hx;exact c1
 | 2,hx=>cases hx;exact c2
 | j+3,hx=>simp [vy] at hx
theorem push_vy {ops:Array Oper} {rest:List Oper} {o:Oper} {a:Act} {Q:Exit->Act->World->Prop} (hgd:o.guard=none) (s x:Operand) (ho:o.op=.call { callee:=.builtin .append,args:=#[s,x],argTypes:=#[92,92] })
  {Ao:Option Addr} {co b:Nat} {u:Vy} (hs:a.eval s=.slice Ao vs.length co) (h:VyRow base w (.slice Ao vs.length co) vs) (hx:a.eval x=.slice (some ⟨b,0,none⟩) 1 1) (hb:w.heap[b]?=some (.cells #[.string u.1,.int .i64 u.2,.int .i64 0] 94 (0,0))) (hu:VyOk u) (hlen:vs.length < 4000000000000) (hbase:base<=w.heap.size)
  (hK:∀ A9 c9 w9,VyRow base w9 (.slice A9 (vs.length+1) c9) (vs ++ [u])->w.grownBy w9 (Value.slice Ao vs.length co).ownBlock->wpList Tryz.prog ops Q rest (a.put o.dst (.slice A9 (vs.length+1) c9)) w9):wpList Tryz.prog ops Q (o :: rest) a w:=by
 obtain ⟨i0,hi0,z0,z1,z2⟩:=info_parts info_vary;refine wpList_append_at hgd s x _ ho base 94 i0 (.agg #[.string { data:=#[] },.int .i64 0,.int .i64 0]) 3 32 Tryz.underlying92 hi0 z0 z1 z2 rfl (by decide) (.slice Ao vs.length co) vs.length (flatV vy vs) hs h.own (some ⟨b,0,none⟩) 1 1 (vy u) hx rfl (vy_cells hb) (by simp [vy,Value.oneCell']) (by unfold maxLen;omega) (by omega) hbase ?_;intro v' w9 hown hgr hat
 have hp:VyRow base w9 v' (vs ++ [u]):=⟨by rw [List.length_append,flatV_snoc];exact hown,fun x hx=>by
  rcases List.mem_append.1 hx with hx | hx
  ·exact h.ok x hx
  ·obtain rfl:x=u:=by simpa using hx
   exact hu⟩
 obtain ⟨A9,c9,hv,_,_⟩:=hp.shape;rw [List.length_append] at hv;subst hv;exact hK A9 c9 w9 hp hgr
end
def EnvEq (env:Env) (vs:List Vy):Prop:=env.map (fun q=>(q.1,q.2.1))=vs.reverse
def RTermC (F:RFix) (x:Sexp):Prop:=∀ {w:World} {st:St} {A:Option Addr} {c:Nat} {Av:Option Addr} {cv:Nat} {vs:List Vy} {env:Env},RR F w st.e->XAt F.W0 A c x->VarsS F w Av vs->(vs.length+x.full<=4000000)->(st.e=0->EnvEq env vs) ->
 Calls Tryz.prog 53 #[.pointer (some ⟨F.rb,0,none⟩),.agg #[.int .i8 x.kind,.string x.text,.slice A x.l.length c],.slice Av vs.length cv] w (RPost F w (termP (cxR F) F.g.macros.length x env st))
def RAllPost (F:RFix) (w:World) (q:List V × St) (n:Nat) (e:Ending) (w':World):Prop :=
 ∃ L cl vs,e=.returned (.slice L n cl)/\vs.length=n/\VyRow w.heap.size w' (.slice L n cl) vs/\(q.2.e=0->q.1.map Prod.fst=vs.map Prod.snd)/\Keeps (onRb F) w w'/\RR F w' q.2.e
theorem rall_any {F:RFix} (hF:RFixOk F) {l:List Sexp} (hT:∀ y ∈ l,RTermC F y) {w:World} {st:St} (hm:RR F w st.e) {A:Option Addr} (c:Nat) (hl:Lies 3 SexpR F.W0 A l) (hll:l.length<=3000000) {Av:Option Addr} {vs:List Vy} (cv:Nat) {env:Env} (hv:VarsS F w Av vs) (hvl:∀ y ∈ l,vs.length+y.full<=4000000) (he:st.e=0->EnvEq env vs) :
  Calls Tryz.prog 148 #[.pointer (some ⟨F.rb,0,none⟩),.slice A l.length c,.slice Av vs.length cv] w (RAllPost F w (allM (fun y=>termP (cxR F) F.g.macros.length y env) l st) l.length):=by
 have HT:=kp hT;have HL:=kp hl;have HV:=kp hv;have HVl:=kp hvl;have hlt:=hm.lt;have HStk:=kp (fun y (s:St) (h:s.e≠0)=>term_stick (cxR F) F.g.macros.length y env s h);have HE:=kp he;generalize hr:(fun y=>termP (cxR F) F.g.macros.length y env)=r;have HRf:=kp (fun y s=>show termP (cxR F) F.g.macros.length y env s=r y s by rw [← hr]);clear hr hT hl hv hvl he;have HS:=kp (show allM r l st=([] ++ (allM r (l.drop 0) st).1,(allM r (l.drop 0) st).2) by simp);generalize hres:allM r l st=res at *;clear hres;have M0:=kp hm;clear hm
 go_enter Tryz.func148,Tryz.ntmps148
 go_wp2_with fail
 go_loopw [7,8] (fun v' i' wr=>∃ (k:Nat) (us:List Vy) (a:List V) (st':St),k<=l.length/\i'=.int .i64 k/\us.length=k/\res=(a ++ (allM r (l.drop k) st').1,(allM r (l.drop k) st').2)/\(st'.e=0->a.map Prod.fst=us.map Prod.snd)/\(st'.e=0->st.e=0)/\VyRow w.heap.size wr v' us/\RR F wr st'.e/\Keeps (onRb F) w wr) (fun _ i' _=>l.length - (intOf i').toNat)
 case atStart=>exact⟨0,[],[],st,Nat.zero_le _,rfl,rfl,HS.out,fun _=>rfl,id,VyRow.nil _ _,M0.out,Keeps.refl _ _⟩
 case round =>
  obtain ⟨k,us,a,st',hk,rfl,hul,hres,hsame,hst,hrow,hmk,hkp⟩:=hrel;have HRes:=kp hres;have HSame:=kp hsame;have HSt:=kp hst;have HRow:=kp hrow;have MR:=kp hmk;have KR:=kp hkp;obtain ⟨Ao,co,rfl,_,_⟩:=hrow.shape;clear hres hsame hst hrow hmk hkp
  by_cases hkl:k < l.length
  ·have hlt2:(k:Int) < (l.length:Int):=by omega
   obtain ⟨y,hy⟩:∃ y,l[k]?=some y:=⟨_,gqe hkl⟩
   have HDr:=kp (show l.drop k=y :: l.drop (k+1) by
    rw [List.drop_eq_getElem_cons hkl];rw [gqe hkl] at hy;simp at hy;rw [hy])
   rw [HDr.out] at HRes;replace HRes:=kp (show res=(a ++ ((r y st').1 :: (allM r (l.drop (k+1)) (r y st').2).1),(allM r (l.drop (k+1)) (r y st').2).2) from HRes.out);obtain ⟨b,o,Ay,cy,rfl,hx,hcells⟩:=xs_get HL.out hy;obtain ⟨e0,e1,e2⟩:=hcells wr MR.out.below;have HC:=kp (HT.out y (mgq hy) MR.out hx (HV.out.on KR.out) (HVl.out y (mgq hy)) (fun h=>HE.out (HSt.out h)) (cv:=cv));rw [HRf.out] at HC;have HSk:=kp (fun h=>HStk.out y st' h);rw [HRf.out] at HSk;generalize r y st'=pr at *;obtain ⟨pv,ps⟩:=pr;clear hx hcells hy HDr;go_wp2_with fail
   refine HC.out.mono ?_;rintro e w7 ⟨nm7,s7,rfl,hv7,hk7,hm7⟩;have R7:=kp (HRow.out.keep hk7 hlt);have M7:=kp hm7;have K7:=kp (KR.out.trans_same hk7);have V7:=kp hv7
   have HS7:=kp (show ps.e=0->st'.e=0 from fun h=>Decidable.byContradiction fun hn=>by
    have:=HSk.out hn;have e:ps=st':=this;rw [e] at h;exact hn h)
   clear hk7 hm7 hv7 e0 e1 e2;have BB:=kp ((brq w7).alloc nlq (.cells #[.string nm7,.int .i64 s7,.int .i64 0] 94));have R8:=kp (R7.out.below BB.out);have M8:=kp (M7.out.keep BB.out);have K8:=kp (K7.out.trans_same (Keeps.of_below BB.out _));have N8:=kp (Bk.new w7 (.cells #[.string nm7,.int .i64 s7,.int .i64 0] 94));subst hul
   go_wp2_with (at_builtin;refine push_vy (u:=(nm7,s7)) rfl (.tmp 15) (.tmp 23) rfl rfl R8.out rfl N8.out ⟨V7.out.size,V7.out.i64⟩ (by omega) K8.out.size ?_)
   intro A9 c9 w9 hp9 hg9;have hk9:Keeps (fun k=>(Value.slice Ao us.length co).ownBlock=some k) _ w9:=(Keeps.refl _ _).grown hg9 (fun j hj=>.inl hj);have R9:=kp hp9;have M9:=kp (show RR F w9 ps.e from⟨(hk9.block F.rb M8.out.lt (fun e=>by have:=(R8.out.own.lt _ e).1;omega)).trans M8.out.blk,M8.out.below.trans (hk9.below (fun k hk=>by have:=(R8.out.own.lt k hk).1;have:=hF.lt;omega) M8.out.below.size)⟩);have K9:=kp (K8.out.grown hg9 (fun j hj=>.inr (R8.out.own.lt j hj).1));clear hp9 hg9 hk9;go_wp2_with fail
   go_roundw
   case rel=>exact⟨us.length+1,us ++ [(nm7,s7)],a ++ [pv],ps,by omega,by go_num,by simp,by rw [HRes.out];simp,fun h=>by
    rw [List.map_append,List.map_append,HSame.out (HS7.out h)];have:=V7.out.same h;simp [this],fun h=>HSt.out (HS7.out h),R9.out,M9.out,K9.out⟩
   case measure=>simp [intOf];omega
  ·obtain rfl:k=l.length:=by omega
   replace HRes:=kp (show res=(a,st') by rw [HRes.out,List.drop_length];simp [allM]);go_wp2_with fail
   go_ret;rw [hul] at HRow;exact⟨Ao,co,us,by show Ending.returned (Value.slice Ao us.length co)=_;rw [hul],hul,HRow.out,by rw [HRes.out];exact HSame.out,KR.out,by rw [HRes.out];exact MR.out⟩
end El
end Go.Proofs.YtpmdcckapddchaaGreat

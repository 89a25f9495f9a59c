import Derived.Test.YtpmdcckapddchaaGreatShort
import Derived.Test.YtpmdcckapddchaaGreatMze
import Derived.Test.YtpmdcckapddchaaGreatMb
import Derived.Test.YtpmdcckapddchaaGreatMe
import Derived.Test.YtpmdcckapddchaaGreatShelf
/- merged by wip/merge.py from: ElBound -/
/- A let's names. -/
namespace Go.Proofs.YtpmdcckapddchaaGreat.El
open Go.RowKit Go.Maps Go.Proofs.YtpmdcckapddchaaGreat.Dt Go.Proofs.YtpmdcckapddchaaGreat.Sg
theorem info_strE:(Tryz.prog.info? 9).map (fun i=>(i.zero,i.size,i.bytes))=some (some (.string { data:=#[] }),1,16):=by kernel_rfl
def NRow (base:Nat) (w:World) (v:Value) (ns:List ByteArray):Prop:=w.ownsRow base 9 1 v ns.length (ns.map Value.string)
section
variable {base:Nat} {w w':World} {v:Value} {ns:List ByteArray}
theorem NRow.nil (base:Nat) (w:World):NRow base w (.slice none 0 0) []:=⟨rfl,.inl ⟨rfl,rfl⟩⟩
theorem NRow.shape (h:NRow base w v ns):∃ A c,v=.slice A ns.length c:=row_shape h
theorem NRow.wide {B:Nat} (h:NRow base w v ns) (hb:B≤base):NRow B w v ns:=by
 refine⟨h.1,?_⟩;rcases h.2 with h1 | ⟨g,cap,cur,h1,hg,h2⟩
 ·exact .inl h1
 ·exact .inr ⟨g,cap,cur,h1,Nat.le_trans hb hg,h2⟩
theorem NRow.below (h:NRow base w v ns) (hb:Below w.heap.size w w'):NRow base w' v ns:=owns_keepE h (Keeps.of_below hb (fun _=>False)) (fun _ hk=>hk.elim)
theorem NRow.keep {F:Fix} (h:NRow base w v ns) (hk:Keeps (onMb F) w w') (hb:F.mb < base):NRow base w' v ns:=owns_keepE h hk (fun k hk=>by unfold onMb at hk;omega)
theorem NRow.cells {A:Option Addr} {c:Nat} (h:NRow base w (.slice A ns.length c) ns):Cells w A (ns.map Value.string):=Cells.own h
theorem NRow.at {A:Option Addr} {c:Nat} (h:NRow base w (.slice A ns.length c) ns) {k:Nat} {s:ByteArray} (hs:ns[k]?=some s):∃ b o,A=some ⟨b,o,none⟩∧w.cell? ⟨b,o+k,none⟩=some (.string s):=by
 have hm:(ns.map Value.string)[k]?=some (.string s):=by rw [List.getElem?_map,hs];rfl
 rcases h.cells with h0 | ⟨b,o,hA,_,hc⟩
 ·rw [h0] at hm;cases hm
 ·exact⟨b,o,hA,hc k _ hm⟩
theorem has_contains (ns:List ByteArray) (s:ByteArray):Lib.containsS (ns.take ns.length) s=hasB ns s:=by
 rw [List.take_length,Bool.eq_iff_iff,Lib.containsS_iff,hasB_iff]
theorem NRow.contains {A:Option Addr} {c:Nat} (h:NRow base w (.slice A ns.length c) ns) (hl:ns.length≤9223372036854775807) (s:ByteArray) :
  Calls Tryz.prog 133 #[.slice A ns.length c,.string s] w fun e w'=>e=.returned (.bool (hasB ns s))∧w'=w:=by
 rcases h.cells with h0 | ⟨b,o,rfl,_,hc⟩
 ·have h0':ns=[]:=List.map_eq_nil_iff.1 h0;subst h0';exact Tryz.slices_Contains_string_empty A c s w
 ·have:=Tryz.slices_Contains_string b o ns.length c ns s w (Nat.le_refl _) (by omega) (fun j hj=>hc j _ (by rw [List.getElem?_map,List.getElem?_eq_getElem hj,List.getD_eq_getElem?_getD,List.getElem?_eq_getElem hj];rfl))
  rwa [has_contains] at this
theorem str_cells {W:World} {b:Nat} {u:ByteArray} (h:W.heap[b]?=some (.cells #[.string u] 9 (0,0))):Cells W (some ⟨b,0,none⟩) [.string u]:=by
 obtain ⟨c0,_⟩:=Bk.c1 h;refine .inr ⟨b,0,rfl,lt_of_block h,fun j x hx=>?_⟩
 match j,hx with
 | 0,hx=>cases hx;exact c0
 | j+1,hx=>simp at hx
theorem push_str {ops:Array Oper} {rest:List Oper} {o:Oper} {a:Act} {Q:Exit→Act→World→Prop} (hgd:o.guard=none) (s x:Operand) (ho:o.op=.call { callee:=.builtin .append,args:=#[s,x],argTypes:=#[22,22] })
  {Ao:Option Addr} {co b:Nat} {u:ByteArray} (hs:a.eval s=.slice Ao ns.length co) (h:NRow base w (.slice Ao ns.length co) ns) (hx:a.eval x=.slice (some ⟨b,0,none⟩) 1 1) (hb:w.heap[b]?=some (.cells #[.string u] 9 (0,0))) (hlen:ns.length < 8000000000000) (hbase:base≤w.heap.size)
  (hK:∀ A9 c9 w9,NRow base w9 (.slice A9 (ns.length+1) c9) (ns ++ [u])→w.grownBy w9 (Value.slice Ao ns.length co).ownBlock→wpList Tryz.prog ops Q rest (a.put o.dst (.slice A9 (ns.length+1) c9)) w9):wpList Tryz.prog ops Q (o :: rest) a w:=by
 obtain ⟨i0,hi0,z0,z1,z2⟩:=info_parts info_strE;refine wpList_append_at hgd s x _ ho base 9 i0 (.string { data:=#[] }) 1 16 Tryz.underlying22 hi0 z0 z1 z2 rfl (by decide) (.slice Ao ns.length co) ns.length (ns.map Value.string) hs h (some ⟨b,0,none⟩) 1 1 [.string u] hx rfl (str_cells hb) (by simp [Value.oneCell']) (by unfold maxLen;omega) (by omega) hbase ?_;intro v' w9 hown hgr hat;obtain ⟨A9,c9,rfl⟩:=row_shape hown;exact hK A9 c9 w9 (by unfold NRow;rw [List.length_append,List.map_append];exact hown) hgr
end
theorem bindN_eq (y:Sexp):bindN y=if y.kind=3∧y.l.length=2∧(nthX y 0).kind=0∧Lx.resB (Lx.bs (nthX y 0).text)=false then some (nthX y 0).text else none:=by
 unfold bindN
 by_cases h3:y.kind=3
 ·rw [if_pos h3]
  match hl:y.l with
  | []=>rw [if_neg (by simp)]
  | [_]=>rw [if_neg (by simp)]
  | [z,u] =>
   have hz:nthX y 0=z:=by unfold nthX;rw [hl];rfl
   rw [hz];simp only [h3,List.length_cons,List.length_nil,true_and,Nat.zero_add,Nat.reduceAdd]
  | _ :: _ :: _ :: _=>rw [if_neg (by simp)]
 ·rw [if_neg h3,if_neg (fun h=>h3 h.1)]
def stepB (o:Option (List ByteArray)) (y:Sexp):Option (List ByteArray):=o.bind fun ns=>(bindN y).bind fun s=>if hasB ns s then none else some (ns ++ [s])
theorem fold_none (l:List Sexp):l.foldl stepB none=none:=by
 induction l with
 | nil=>rfl
 | cons y r ih=>exact ih
theorem boundN_eq (x:Sexp):boundN x=if x.l.length=3∧(nthX x 1).kind=3∧(nthX x 1).l.length≠0 then(nthX x 1).l.foldl stepB (some []) else none:=by
 unfold boundN
 match hl:x.l with
 | []=>rw [if_neg (by simp)]
 | [_]=>rw [if_neg (by simp)]
 | [_,_]=>rw [if_neg (by simp)]
 | [a,b,c] =>
  have hz:nthX x 1=b:=by unfold nthX;rw [hl];rfl
  rw [hz];simp only [List.length_cons,List.length_nil,Nat.zero_add,Nat.reduceAdd,true_and,ne_eq,List.length_eq_zero_iff]
  rfl
 | _ :: _ :: _ :: _ :: _=>rw [if_neg (by simp)]
def BoundPost (o:Option (List ByteArray)) (w:World) (e:Ending) (w':World):Prop :=
 (∃ v,e=.returned (.tuple #[v,.bool o.isSome])∧∀ ns,o=some ns→NRow w.heap.size w' v ns)∧Below w.heap.size w w'
set_option maxRecDepth 100000 in
set_option maxHeartbeats 12800000 in
theorem bound_any {w:World} {A:Option Addr} {c:Nat} {x:Sexp} (h:XAt w A c x) :
  Calls Tryz.prog 120 #[.agg #[.int .i8 x.kind,.string x.text,.slice A x.l.length c]] w (BoundPost (boundN x) w):=by
 have XB:=kp (Bk.new w (.cells #[.int .i8 x.kind,.string x.text,.slice A x.l.length c] 30));have B1:=kp ((Below.refl w.heap.size w).alloc (Nat.le_refl _) (.cells #[.int .i8 x.kind,.string x.text,.slice A x.l.length c] 30));have HX:=kp (h.on B1.out);have HO:=kp (boundN_eq x);have HPn:=kp (show ∀ w',Below w.heap.size w w'→BoundPost none w (.returned (.tuple #[.slice none 0 0,.bool false])) w' from fun w' hb=>⟨⟨_,rfl,fun ns hn=>by cases hn⟩,hb⟩);have HPs:=kp (show ∀ ns A' c' w',Below w.heap.size w w'→NRow w.heap.size w' (.slice A' (List.length ns) c') ns→BoundPost (some ns) w (.returned (.tuple #[.slice A' ns.length c',.bool true])) w' from fun ns A' c' w' hb hn=>⟨⟨_,rfl,fun ns' e=>by cases e;exact hn⟩,hb⟩);clear h;generalize boundN x=res at *
 go_enter Tryz.func120,Tryz.ntmps120
 go_upto_region 1 with fail
 generalize w.alloc (.cells #[.int .i8 x.kind,.string x.text,.slice A x.l.length c] 30)=w1 at *;obtain ⟨q0,q1,q2,qf⟩:=Bk.c3 XB.out
 by_cases h3:x.l.length=3
 ·have g1:((x.l.length:Int) != 3)=false:=by rw [h3];rfl
  have g2:(1:Int) < (x.l.length:Int):=by omega
  obtain ⟨b0,o0,Ab,cb,rfl,hbl,e0,e1,e2,hxb⟩:=nth_cells HX.out (i:=1) (by omega);replace HO:=kp (show res=if(nthX x 1).kind=3∧(nthX x 1).l.length≠0 then(nthX x 1).l.foldl stepB (some []) else none by rw [HO.out];simp only [h3,true_and]);rw [Nat.one_mul] at e0 e1 e2;clear h3;generalize nthX x 1=y at *;have HY:=kp hxb;clear hxb
  by_cases hk:y.kind=3
  ·have g3:(y.kind != 3)=false:=by simp [hk]
   by_cases hl:y.l.length=0
   ·have g4:((y.l.length:Int) == 0)=true:=by rw [hl];rfl
    replace HO:=kp (show res=none by rw [HO.out,if_neg (fun h=>h.2 hl)]);clear hk hl;go_wp2_with fail
    go_ret2;rw [HO.out];exact HPn.out _ B1.out
   ·have g4:((y.l.length:Int) == 0)=false:=by rw [beq_eq_false_iff_ne];omega
    replace HO:=kp (show res=(y.l.drop 0).foldl stepB (some []) by rw [HO.out,if_pos ⟨hk,hl⟩];rfl);obtain ⟨hll,hlc,hcm,_,hlb,_⟩:=HY.out.opens;have HLl:=kp hll;clear hk hl hll;go_wp2_with fail
    go_loopw [2,33] (fun v' i' wr=>∃ k:Nat,k≤y.l.length∧i'=.int .i64 k∧∃ ns:List ByteArray,ns.length=k∧res=(y.l.drop k).foldl stepB (some ns)∧NRow w1.heap.size wr v' ns∧Below w1.heap.size w1 wr) (fun _ i' _=>y.l.length - (intOf i').toNat)
    case atStart=>exact⟨0,Nat.zero_le _,rfl,[],rfl,HO.out,NRow.nil _ _,Below.refl _ _⟩
    case round =>
     obtain ⟨k,hk,rfl,ns,hnl,hres,hrow,hb⟩:=hrel;have HRes:=kp hres;have HRow:=kp hrow;have HB:=kp hb;obtain ⟨Ao,co,rfl⟩:=hrow.shape;clear hres hrow hb
     by_cases hkl:k < y.l.length
     ·have hlt2:(k:Int) < (y.l.length:Int):=by omega
      obtain ⟨u,hu⟩:∃ u,y.l[k]?=some u:=⟨_,List.getElem?_eq_getElem hkl⟩
      have HDr:=kp (show y.l.drop k=u :: y.l.drop (k+1) by
       rw [List.drop_eq_getElem_cons hkl];rw [List.getElem?_eq_getElem hkl] at hu;simp at hu;rw [hu])
      rw [HDr.out] at HRes;replace HRes:=kp (show res=(y.l.drop (k+1)).foldl stepB ((bindN u).bind fun s=>if hasB ns s then none else some (ns ++ [s])) from HRes.out);have HBi:=kp (bindN_eq u);obtain ⟨b1,o1,Au,cu,rfl,hbl1,e0,e1,e2,hr⟩:=sexp_cells (HLl.out.on SexpR.lasts HB.out) hu;have BA:=kp (HB.out.alloc HB.out.size (.cells #[.int .i8 u.kind,.string u.text,.slice Au u.l.length cu] 30));have UA:=kp (Bk.new wr (.cells #[.int .i8 u.kind,.string u.text,.slice Au u.l.length cu] 30));have RA:=kp (HRow.out.below ((Below.refl wr.heap.size wr).alloc (Nat.le_refl _) (.cells #[.int .i8 u.kind,.string u.text,.slice Au u.l.length cu] 30)));have HUx:=kp (show XAt (wr.alloc (.cells #[.int .i8 u.kind,.string u.text,.slice Au u.l.length cu] 30)) Au cu u from SexpR.lasts _ _ _ _ ((Below.refl _ _).alloc (Nat.le_refl _) _) hr);clear hu HDr hr;go_upto_region 6 with fail
      generalize wr.alloc (.cells #[.int .i8 u.kind,.string u.text,.slice Au u.l.length cu] 30)=wa at *;generalize wr.heap.size=ub at *;clear e0 e1 e2;obtain ⟨u0,u1,u2,uf⟩:=Bk.c3 UA.out
      by_cases c1:u.kind=3
      ·have d1:(u.kind != 3)=false:=by simp [c1]
       by_cases c2:u.l.length=2
       ·have d2:((u.l.length:Int) != 2)=false:=by rw [c2];rfl
        have d3:(0:Int) < (u.l.length:Int):=by omega
        obtain ⟨b2,o2,Az,cz,rfl,hbl2,z0,z1,z2,hz⟩:=nth_cells HUx.out (i:=0) (by omega);rw [Nat.zero_mul,Nat.add_zero] at z0 z1 z2;have hzt:=hz.opens.2.2.2.1
        by_cases c3:(nthX u 0).kind=0
        ·have d4:((nthX u 0).kind != 0)=false:=by simp [c3]
         have HRs:=kp (Lx.reserved_any (nthX u 0).text)
         by_cases c4:Lx.resB (Lx.bs (nthX u 0).text)=true
         ·replace HBi:=kp (show bindN u=none by rw [HBi.out,if_neg (fun h=>by rw [h.2.2.2] at c4;cases c4)]);replace HRes:=kp (show res=none by rw [HRes.out,HBi.out];exact fold_none _);rw [c4] at HRs;clear hz c1 c2 c3 c4;generalize nthX u 0=z at *;go_wp2_with fail
          refine(HRs.out _).mono ?_;rintro e w' ⟨rfl,rfl⟩;go_wp2_with fail
          go_ret2;rw [HRes.out];exact HPn.out _ (B1.out.trans (BA.out.mono B1.out.size))
         ·have c4':=eq_false_of_ne_true c4;replace HBi:=kp (show bindN u=some (nthX u 0).text by rw [HBi.out,if_pos ⟨c1,c2,c3,c4'⟩]);rw [c4'] at HRs;have HCo:=kp (RA.out.contains (by rw [hnl];omega) (nthX u 0).text);rw [hnl] at HCo
          by_cases c5:hasB ns (nthX u 0).text=true
          ·replace HRes:=kp (show res=none by rw [HRes.out,HBi.out,Option.bind_some,if_pos c5];exact fold_none _);rw [c5] at HCo;clear hz c1 c2 c3 c4 c4' c5;generalize nthX u 0=z at *;go_wp2_with fail
           refine(HRs.out _).mono ?_;rintro e w' ⟨rfl,rfl⟩;go_wp2_with fail
           refine HCo.out.mono ?_;rintro e w' ⟨rfl,rfl⟩;go_wp2_with fail
           go_ret2;rw [HRes.out];exact HPn.out _ (B1.out.trans (BA.out.mono B1.out.size))
          ·have c5':=eq_false_of_ne_true c5;replace HRes:=kp (show res=(y.l.drop (k+1)).foldl stepB (some (ns ++ [(nthX u 0).text])) by rw [HRes.out,HBi.out,Option.bind_some,if_neg c5]);rw [c5'] at HCo;clear hz c1 c2 c3 c4 c4' c5 c5';generalize nthX u 0=z at *;go_wp2_with fail
           refine(HRs.out _).mono ?_;rintro e w' ⟨rfl,rfl⟩;go_wp2_with fail
           refine HCo.out.mono ?_;rintro e w' ⟨rfl,rfl⟩;have BD:=kp (BA.out.alloc BA.out.size (.cells #[.string z.text] 9));have RD:=kp (RA.out.below ((Below.refl w'.heap.size w').alloc (Nat.le_refl _) (.cells #[.string z.text] 9)));have ND:=kp (Bk.new w' (.cells #[.string z.text] 9));subst hnl
           go_wp2_with (at_builtin;refine push_str rfl (.tmp 71) (.tmp 77) rfl rfl RD.out rfl ND.out (by omega) (by have:=BD.out.size;omega) ?_)
           intro A9 c9 w9 hown hgr;have R9:=kp hown;have B9:=kp (BD.out.grown hgr (by have:=BD.out.size;simpa using this) (fun j hj=>by have:=(RD.out.lt j hj).1;omega));clear hown hgr;go_wp2_with fail
           go_roundw
           case rel=>exact⟨ns.length+1,by omega,by go_num,ns ++ [z.text],by simp,HRes.out,R9.out,B9.out⟩
           case measure=>simp [intOf];omega
        ·have d4:((nthX u 0).kind != 0)=true:=by rw [bne_iff_ne];exact c3
         replace HBi:=kp (show bindN u=none by rw [HBi.out,if_neg (fun h=>c3 h.2.2.1)]);replace HRes:=kp (show res=none by rw [HRes.out,HBi.out];exact fold_none _);clear hz c1 c2 c3;generalize nthX u 0=z at *;go_wp2_with fail
         go_ret2;rw [HRes.out];exact HPn.out _ (B1.out.trans (BA.out.mono B1.out.size))
       ·have d2:((u.l.length:Int) != 2)=true:=by rw [bne_iff_ne];omega
        replace HBi:=kp (show bindN u=none by rw [HBi.out,if_neg (fun h=>c2 h.2.1)]);replace HRes:=kp (show res=none by rw [HRes.out,HBi.out];exact fold_none _);clear c1 c2;go_wp2_with fail
        go_ret2;rw [HRes.out];exact HPn.out _ (B1.out.trans (BA.out.mono B1.out.size))
      ·have d1:(u.kind != 3)=true:=by rw [bne_iff_ne];exact c1
       replace HBi:=kp (show bindN u=none by rw [HBi.out,if_neg (fun h=>c1 h.1)]);replace HRes:=kp (show res=none by rw [HRes.out,HBi.out];exact fold_none _);clear c1;go_wp2_with fail
       go_ret2;rw [HRes.out];exact HPn.out _ (B1.out.trans (BA.out.mono B1.out.size))
     ·obtain rfl:k=y.l.length:=by omega
      replace HRes:=kp (show res=some ns by rw [HRes.out,List.drop_length];rfl);go_wp2_with fail
      go_ret2;rw [HRes.out];exact HPs.out ns Ao co _ (B1.out.trans (HB.out.mono B1.out.size)) (HRow.out.wide B1.out.size)
  ·have g3:(y.kind != 3)=true:=by rw [bne_iff_ne];exact hk
   replace HO:=kp (show res=none by rw [HO.out,if_neg (fun h=>hk h.1)]);clear hk;go_wp2_with fail
   go_ret2;rw [HO.out];exact HPn.out _ B1.out
 ·have g1:((x.l.length:Int) != 3)=true:=by rw [bne_iff_ne];omega
  replace HO:=kp (show res=none by rw [HO.out,if_neg (fun h=>h3 h.1)]);clear h3;go_wp2_with fail
  go_ret2;rw [HO.out];exact HPn.out _ B1.out
end Go.Proofs.YtpmdcckapddchaaGreat.El

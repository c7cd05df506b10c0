import Derived.Test.YtehkgphockcjdaaGreatW2
import Derived.Test.YtehkgphockcjdaaGreatP1
open Bool renaming and_eq_true→a_
open List renaming drop_eq_getElem_cons→b_,getElem?_eq_getElem→c_,drop_eq_nil_of_le→d_,mem_of_getElem?→e_
open Nat renaming le_refl→f_
namespace Go.Proofs.YtehkgphockcjdaaGreat
open Go.Abs
set_option maxRecDepth 100000
set_option maxHeartbeats 4000000
set_option linter.unusedSimpArgs false
set_option linter.unusedVariables false
theorem orderTermLists_fn (a b:List V):Gives Tryz.prog 86 [.sl (a.map V.enc),.sl (b.map V.enc)] (.d (.int .i64 (V.cmpL a b))):=by
 refine aE_ Tryz.func86 ?_
 refine rS_ Tryz.func86 ?_
 simp only [go_sem,seval]
 refine AW.len 0 rfl (fun hl=>?_)
 simp only [maxLen,List.length_map] at hl
 refine AW.lp [0,1] (fun i:Nat=>[(5,.d (.int .i64 i))]) (fun H _=>H) (fun i=>i≤a.length∧i≤b.length∧V.cmpL (a.drop i) (b.drop i)=V.cmpL a b∧ordInt ((a.drop i).length:Int) ((b.drop i).length:Int)=ordInt (a.length:Int) (b.length:Int)) (fun i=>a.length - i) 0 ⟨by omega,by omega,rfl,rfl⟩ wk2_ ?_
 rintro i ⟨hi,hj,hinv,hord⟩ hnext
 by_cases h:i<a.length∧i<b.length
 ·obtain ⟨h1,h2⟩:=h
  have e1:a.drop i=a[i] :: a.drop (i+1):=b_ h1
  have e2:b.drop i=b[i] :: b.drop (i+1):=b_ h2
  have g1:a[i]? = some a[i]:=c_ h1
  have g2:b[i]? = some b[i]:=c_ h2
  generalize a[i]=x at e1 g1
  generalize b[i]=y at e2 g2
  rw [e1,e2,V.cmpL_cons] at hinv
  have h1':(i:Int)<a.length:=by omega
  have h2':(i:Int)<b.length:=by omega
  refine rS_ Tryz.func86 ?_
  simp only [go_sem,seval,h1',h2',idx_of g1,idx_of g2]
  repeat' (first
   | ((refine br_n (fun hq=>?_) (fun hq=>?_))<;>(try simp only [go_sem,seval,h1',h2',idx_of g1,idx_of g2,hq]))
   | (simp (disch:=omega) only [wrap_ok])
   | (refine hnext (i+1) _ ⟨by omega,by omega,by simp_all,?_⟩ (by omega) wk2_)
   | ((refine (orderTerms_fn _ _ _ (f_ _)).callQ rfl ?_)<;>(try simp only [go_sem,seval,h1',h2',idx_of g1,idx_of g2]))
   | fail)
  all_goals clear hnext
  ·simp_all
  ·rw [←hord];simp only [List.length_drop,ordInt];split<;>split<;>omega
 ·have hz:V.cmpL (a.drop i) (b.drop i)=ordInt (a.length:Int) (b.length:Int):=by
   rw [←hord]
   by_cases h1:i<a.length
   ·have:b.drop i=[]:=d_ (by omega)
    rw [this,V.cmpL_nil_right];rfl
   ·have:a.drop i=[]:=d_ (by omega)
    rw [this,V.cmpL_nil_left];rfl
  rw [hz] at hinv
  clear hnext
  refine rS_ Tryz.func86 ?_
  simp only [go_sem,seval]
  repeat' (first
   | ((first | (refine br_n (fun hq=>?_) (fun hq=>?_)) | (refine idx_intro (fun x hx=>have hq:=hx;?_)))<;>(try simp only [go_sem,seval,hq]))
   | (simp (disch:=omega) only [wrap_ok])
   | ((first
    | (refine (orderTerms_fn _ _ _ (f_ _)).callQ rfl ?_)
    | (refine (orderInts_fn _ _).calls rfl ?_)
    | (refine ⟨sd,?_⟩))<;>(try simp only [go_sem,seval]))
   | fail)
  all_goals try clear ih
  all_goals try clear hnext
  all_goals first
   | (simp_all;done)
   | (simp_all;omega)
   | (simp_all;split<;>simp_all<;>omega)
   | (exfalso;omega)
   | assumption
theorem l02CmpAll_fn (a b:List V):Gives Tryz.prog 71 [.sl (a.map V.enc),.sl (b.map V.enc)] (.d (.int .i64 (V.cmpL a b))):=by
 refine aE_ Tryz.func71 ?_
 refine rS_ Tryz.func71 ?_
 simp only [go_sem,seval]
 refine AW.len 0 rfl (fun hl=>?_)
 simp only [maxLen,List.length_map] at hl
 refine AW.lp [0,1] (fun i:Nat=>[(5,.d (.int .i64 i))]) (fun H _=>H) (fun i=>i≤a.length∧i≤b.length∧V.cmpL (a.drop i) (b.drop i)=V.cmpL a b∧ordInt ((a.drop i).length:Int) ((b.drop i).length:Int)=ordInt (a.length:Int) (b.length:Int)) (fun i=>a.length - i) 0 ⟨by omega,by omega,rfl,rfl⟩ wk2_ ?_
 rintro i ⟨hi,hj,hinv,hord⟩ hnext
 by_cases h:i<a.length∧i<b.length
 ·obtain ⟨h1,h2⟩:=h
  have e1:a.drop i=a[i] :: a.drop (i+1):=b_ h1
  have e2:b.drop i=b[i] :: b.drop (i+1):=b_ h2
  have g1:a[i]? = some a[i]:=c_ h1
  have g2:b[i]? = some b[i]:=c_ h2
  generalize a[i]=x at e1 g1
  generalize b[i]=y at e2 g2
  rw [e1,e2,V.cmpL_cons] at hinv
  have h1':(i:Int)<a.length:=by omega
  have h2':(i:Int)<b.length:=by omega
  refine rS_ Tryz.func71 ?_
  simp only [go_sem,seval,h1',h2',idx_of g1,idx_of g2]
  repeat' (first
   | ((refine br_n (fun hq=>?_) (fun hq=>?_))<;>(try simp only [go_sem,seval,h1',h2',idx_of g1,idx_of g2,hq]))
   | (simp (disch:=omega) only [wrap_ok])
   | (refine hnext (i+1) _ ⟨by omega,by omega,by simp_all,?_⟩ (by omega) wk2_)
   | ((refine (l02Cmp_fn _ _ _ (f_ _)).callQ rfl ?_)<;>(try simp only [go_sem,seval,h1',h2',idx_of g1,idx_of g2]))
   | fail)
  all_goals clear hnext
  ·simp_all
  ·rw [←hord];simp only [List.length_drop,ordInt];split<;>split<;>omega
 ·have hz:V.cmpL (a.drop i) (b.drop i)=ordInt (a.length:Int) (b.length:Int):=by
   rw [←hord]
   by_cases h1:i<a.length
   ·have:b.drop i=[]:=d_ (by omega)
    rw [this,V.cmpL_nil_right];rfl
   ·have:a.drop i=[]:=d_ (by omega)
    rw [this,V.cmpL_nil_left];rfl
  rw [hz] at hinv
  clear hnext
  generalize V.cmpL a b=N at hinv ⊢
  unfold ordInt at hinv
  refine rS_ Tryz.func71 ?_
  simp only [go_sem,seval]
  repeat' (first
   | ((first | (refine br_n (fun hq=>?_) (fun hq=>?_)) | (refine idx_intro (fun x hx=>have hq:=hx;?_)))<;>(try simp only [go_sem,seval,hq]))
   | (simp (disch:=omega) only [wrap_ok])
   | ((first
    | (refine (l02Cmp_fn _ _ _ (f_ _)).callQ rfl ?_)
    | (refine (l02Sign_fn _).calls rfl ?_)
    | (refine ⟨sd,?_⟩))<;>(try simp only [go_sem,seval]))
   | fail)
  all_goals try clear ih
  all_goals try clear hnext
  all_goals first
   | (simp_all;done)
   | (simp_all;omega)
   | (simp_all;split<;>simp_all<;>omega)
   | (exfalso;omega)
   | assumption
theorem orderFacts_fn (r q:List UInt8) (a b:List V):Gives Tryz.prog 59 [.agg (Fc.enc ⟨r,a.map V.tm⟩),.agg (Fc.enc ⟨q,b.map V.tm⟩)] (.d (.int .i64 (cmpFact r a q b))):=by
 have hc:cmpFact r a q b=if r≠q then (if Op.bytesLess r q then -1 else 1) else V.cmpL a b:=rfl
 generalize cmpFact r a q b=N at hc ⊢
 refine aE_ Tryz.func59 ?_
 refine rS_ Tryz.func59 ?_
 simp only [go_sem,seval]
 try simp only [go_sem,seval,enc_tms]
 repeat' (first
  | ((refine br_n (fun hq=>?_) (fun hq=>?_))<;>(try simp only [go_sem,seval,enc_tms,hq]))
  | ((refine (orderTermLists_fn _ _).calls rfl ?_)<;>(try simp only [go_sem,seval,enc_tms]))
  | fail)
 all_goals try clear ih
 all_goals try clear hnext
 all_goals first
  | (simp_all;done)
  | (simp_all;omega)
  | (simp_all;split<;>simp_all<;>omega)
  | (exfalso;omega)
  | assumption
theorem l18Cmp_fn (r q:List UInt8) (a b:List V):Gives Tryz.prog 47 [.agg (Fc.enc ⟨r,a.map V.tm⟩),.agg (Fc.enc ⟨q,b.map V.tm⟩)] (.d (.int .i64 (cmpFact r a q b))):=by
 have hc:cmpFact r a q b=if r≠q then (if Op.bytesLess r q then -1 else 1) else V.cmpL a b:=rfl
 generalize cmpFact r a q b=N at hc ⊢
 refine aE_ Tryz.func47 ?_
 refine rS_ Tryz.func47 ?_
 simp only [go_sem,seval]
 try simp only [go_sem,seval,enc_tms]
 repeat' (first
  | ((refine br_n (fun hq=>?_) (fun hq=>?_))<;>(try simp only [go_sem,seval,enc_tms,hq]))
  | ((first
   | (refine (l02Sign_fn _).calls rfl ?_)
   | (refine (l02CmpAll_fn _ _).calls rfl ?_))<;>(try simp only [go_sem,seval,enc_tms]))
  | fail)
 all_goals try clear ih
 all_goals try clear hnext
 all_goals first
  | (simp_all;done)
  | (simp_all;omega)
  | (simp_all;split<;>simp_all<;>omega)
  | (exfalso;omega)
  | assumption
set_option maxHeartbeats 8000000
theorem iIsRelName_fn (s:List UInt8) (hm:s.length≤9000000):Gives Tryz.prog 50 [.str s] (.d (.bool (isRel s))):=by
 have hr:isRel s=(!reserved.contains s && isName s):=rfl
 simp only [reserved] at hr
 generalize isRel s=N at hr ⊢
 refine aE_ Tryz.func50 ?_
 refine rS_ Tryz.func50 ?_
 simp only [go_sem,seval]
 repeat' (first
  | ((refine br_n (fun hq=>?_) (fun hq=>?_))<;>(try simp only [go_sem,seval,hq]))
  | ((refine (iIsName_fn _ sd).calls rfl ?_)<;>(try simp only [go_sem,seval]))
  | fail)
 all_goals (simp_all;done)
theorem sIsRelName_fn (s:List UInt8) (hm:s.length≤9000000):Gives Tryz.prog 41 [.str s] (.d (.bool (isRel s))):=by
 have hr:isRel s=(!reserved.contains s && isName s):=rfl
 simp only [reserved] at hr
 generalize isRel s=N at hr ⊢
 refine aE_ Tryz.func41 ?_
 refine rS_ Tryz.func41 ?_
 simp only [go_sem,seval]
 repeat' (first
  | ((refine br_n (fun hq=>?_) (fun hq=>?_))<;>(try simp only [go_sem,seval,hq]))
  | (simp (disch:=omega) only [wrap_ok])
  | ((first
   | (refine AW.loop ?_<;>(refine rS_ Tryz.func41 ?_))
   | (refine AW.round ?_<;>(refine rS_ Tryz.func41 ?_))
   | (refine (sIsName_fn _ sd).calls rfl ?_))<;>(try simp only [go_sem,seval]))
  | fail)
 all_goals first
  | (simp_all;done)
  | (simp_all;intro _;refine ⟨?_,?_,?_,?_,?_,?_,?_,?_,?_⟩<;>(intro h;subst h;contradiction))
theorem l13Count_fn:∀(t:Gl) (most:Int),wtL t.enc≤9000000→-10000000≤most→most≤10000000→Gives Tryz.prog 67 [.agg t.enc,.int .i64 most] (.d (.int .i64 (t.countF most))):=by
 intro t
 induction t using Gl.ind' with
 | h t ih =>
  intro most hw h0 h1
  have hc:=Gl.cnt_le_wt t
  have he:=Gl.countF_eq t most
  rw [Gl.cnt_eq] at hc
  generalize t.countF most=N at he ⊢
  refine aE_ Tryz.func67 ?_
  refine rS_ Tryz.func67 ?_
  simp only [go_sem,seval]
  refine AW.rng t.goals [1,9,10] 11 9 (fun n:Int=>[(5,.d (.int .i64 n))]) (fun H _=>H) (fun r n=>1≤n∧n+Gl.cnts r≤1+Gl.cnts t.goals∧Gl.countL r most n=N) 1 rfl (by simp) ⟨by omega,by omega,he.symm⟩ wk2_ (fun i x r acc hxi hdr hlt hm hinv hnext=>?_) (fun acc hinv=>?_)
  ·have hx:=e_ hxi
   have ihx:=ih x hx
   have hwx:=Gl.wt_goals hx
   have hcs:=Gl.count_spec x (most - acc)
   obtain ⟨v1,v2,v3⟩:=hinv
   simp only [Gl.countL,Gl.cnts] at v2 v3
   refine rS_ Tryz.func67 ?_
   simp only [go_sem,seval,hlt,idx_of hxi]
   repeat' (first
    | ((refine br_n (fun hq=>?_) (fun hq=>?_))<;>(try simp only [go_sem,seval,hq]))
    | (simp (disch:=omega) only [wrap_ok])
    | (refine hnext (acc+x.countF (most - acc)) _ ⟨by omega,by omega,?_⟩ wk2_)
    | ((refine (ihx _ (by omega) (by omega) (by omega)).calls rfl ?_)<;>(try simp only [go_sem,seval]))
    | fail)
   all_goals clear hnext ihx ih
   ·rw [if_pos (by omega)] at v3;rw [v3]
   ·rw [if_neg (by omega)] at v3;exact v3
  ·obtain ⟨v1,v2,v3⟩:=hinv
   simp only [Gl.countL] at v3
   refine rS_ Tryz.func67 ?_
   simp only [go_sem,seval]
   simp_all
theorem goalNodes_fn:∀(t:Gl) (room:Int),wtL t.enc≤9000000→-10000000≤room→room≤10000000→Gives Tryz.prog 52 [.agg t.enc,.int .i64 room] (.d (.int .i64 (t.nodes room))):=by
 intro t
 induction t using Gl.ind' with
 | h t ih =>
  intro room hw h0 h1
  have hn:=Gl.wt_name t
  have ht:∀x,x∈t.terms→wtL x.enc≤9000000:=fun x hx=>by have:=Gl.wt_terms hx;omega
  have nl:=Gl.nodes_lt (g:=t) (room:=room)
  have bd:=Gl.nodes_bad (g:=t) (room:=room)
  have lf:=Gl.nodes_leaf (g:=t) (room:=room)
  have kd:=Gl.nodes_kids (g:=t) (room:=room)
  rw [Gl.shape_eq] at bd lf
  by_cases hr:room<1
  ·rw [nl hr]
   refine aE_ Tryz.func52 ?_
   refine rS_ Tryz.func52 ?_
   simp only [go_sem,seval]
   repeat' (first
    | ((first | (refine br_n (fun hq=>?_) (fun hq=>?_)) | (refine idx_intro (fun x hx=>have hq:=hx;?_)))<;>(try simp only [go_sem,seval,hq]))
    | ((first
     | (refine (iIsRelName_fn _ sd).calls rfl ?_)
     | (refine (itermsOk_fn _ sd).calls rfl ?_)
     | (refine ⟨sd,?_⟩))<;>(try simp only [go_sem,seval]))
    | fail)
   all_goals try clear ih
   all_goals try clear hnext
   all_goals first
    | (simp_all;done)
    | (simp_all;omega)
    | (simp_all;split<;>simp_all<;>omega)
    | (exfalso;omega)
    | assumption
  by_cases hto:t.terms.all tmOk=true
  ·rw [hto] at bd lf kd
   simp only [Bool.and_true,forall_const] at bd lf kd
   generalize t.nodes room=N at nl bd lf kd ⊢
   have hform:t.form=(if t.kind=9 then isRel t.name && decide ((t.goals.length:Int)=0) && decide ((t.terms.length:Int)≤4)
    else if 0≤t.kind∧t.kind≤6 then decide (t.name=[]) && decide ((t.goals.length:Int)=0) && decide ((t.terms.length:Int)=arityOf t.kind) && (if t.kind=6 then firstSym t.terms else true)
    else if t.kind=7∨t.kind=8 then decide (t.name=[]) && decide ((t.terms.length:Int)=0) && decide ((t.goals.length:Int)≤8)
    else if t.kind=10 then decide (t.name=[]) && decide ((t.terms.length:Int)=0) && decide ((t.goals.length:Int)=1) && firstCall t.goals
    else false):=rfl
   refine aE_ Tryz.func52 ?_
   refine rS_ Tryz.func52 ?_
   simp only [go_sem,seval]
   repeat' (first
    | ((first | (refine br_n (fun hq=>?_) (fun hq=>?_)) | (refine idx_intro (fun x hx=>have hq:=hx;?_)))<;>(try simp only [go_sem,seval,hto,hq]))
    | ((first
     | (refine (iIsRelName_fn _ sd).calls rfl ?_)
     | (refine (itermsOk_fn _ sd).calls rfl ?_)
     | (refine ⟨sd,?_⟩))<;>(try simp only [go_sem,seval,hto]))
    | fail)
   all_goals try (exfalso;omega)
   all_goals try (clear ih;simp_all [arityOf,firstSym_eq,firstCall_eq];done)
   all_goals try (rw [bd (by clear bd lf kd nl ih;rw [Bool.and_eq_false_iff];left;rw [hform];clear hform;first | (simp [*];done) | (simp [*];intros;omega))];done)
   all_goals
    have hf:t.form=true:=by clear ih;simp_all [arityOf,firstSym_eq,firstCall_eq];try omega
    have hk:=kd hf (by omega)
    refine AW.rng t.goals [1,124,125] 126 124 (fun n:Int=>[(6,.d (.int .i64 n))]) (fun H _=>H) (fun r n=>1≤n∧n≤room∧Gl.nodeL r room n=N) 1 rfl (by simp) ⟨by omega,by omega,hk.symm⟩ wk2_ (fun i x r acc hxi hdr hlt hm hinv hnext=>?_) (fun acc hinv=>?_)
    ·have hx:=e_ hxi
     have ihx:=ih x hx
     have hwx:=Gl.wt_goals hx
     have hng:=Gl.nodes_ge (g:=x) (room:=room - acc)
     obtain ⟨v1,v2,v3⟩:=hinv
     simp only [Gl.nodeL] at v3
     refine rS_ Tryz.func52 ?_
     simp only [go_sem,seval,hlt,idx_of hxi]
     repeat' (first
      | ((refine br_n (fun hq=>?_) (fun hq=>?_))<;>(try simp only [go_sem,seval,hq]))
      | (simp (disch:=omega) only [wrap_ok])
      | (refine hnext (acc+x.nodes (room - acc)) _ ⟨by omega,by omega,?_⟩ wk2_)
      | ((refine (ihx _ (by omega) (by omega) (by omega)).calls rfl ?_)<;>(try simp only [go_sem,seval]))
      | fail)
     all_goals clear hnext ihx ih
     ·rw [if_pos (by omega)] at v3;rw [v3]
     ·rw [if_neg (by omega)] at v3;exact v3
    ·obtain ⟨v1,v2,v3⟩:=hinv
     simp only [Gl.nodeL] at v3
     refine rS_ Tryz.func52 ?_
     simp only [go_sem,seval]
     simp_all
  ·have hN:t.nodes room=-1:=bd (by simp [hto])
   rw [hN]
   simp only [Bool.not_eq_true] at hto
   refine aE_ Tryz.func52 ?_
   refine rS_ Tryz.func52 ?_
   simp only [go_sem,seval]
   repeat' (first
    | ((refine br_n (fun hq=>?_) (fun hq=>?_))<;>(try simp only [go_sem,seval,hto,hq]))
    | ((refine (itermsOk_fn _ sd).calls rfl ?_)<;>(try simp only [go_sem,seval,hto]))
    | fail)
   all_goals try clear ih
   all_goals try clear hnext
   all_goals first
    | (simp_all;done)
    | (simp_all;omega)
    | (simp_all;split<;>simp_all<;>omega)
    | (exfalso;omega)
    | assumption
theorem l13Shape_fn:∀(t:Gl),wtL t.enc≤9000000→Gives Tryz.prog 89 [.agg t.enc] (.d (.bool t.shape)):=by
 intro t
 induction t using Gl.ind' with
 | h t ih =>
  intro hw
  have hn:=Gl.wt_name t
  have ht:∀x,x∈t.terms→wtL x.enc≤9000000:=fun x hx=>by have:=Gl.wt_terms hx;omega
  have hs:=Gl.shape_eq t
  have har:=arityOf_le t.kind
  have har2:=arityOf_hi t.kind
  have har6:=arityOf_6 t.kind
  generalize t.shape=N at hs ⊢
  have hform:t.form=(if t.kind=9 then isRel t.name && decide ((t.goals.length:Int)=0) && decide ((t.terms.length:Int)≤4)
    else if 0≤t.kind∧t.kind≤6 then decide (t.name=[]) && decide ((t.goals.length:Int)=0) && decide ((t.terms.length:Int)=arityOf t.kind) && (if t.kind=6 then firstSym t.terms else true)
    else if t.kind=7∨t.kind=8 then decide (t.name=[]) && decide ((t.terms.length:Int)=0) && decide ((t.goals.length:Int)≤8)
    else if t.kind=10 then decide (t.name=[]) && decide ((t.terms.length:Int)=0) && decide ((t.goals.length:Int)=1) && firstCall t.goals
    else false):=rfl
  by_cases hk9:t.kind=9
  ·refine aE_ Tryz.func89 ?_
   refine rS_ Tryz.func89 ?_
   simp only [go_sem,seval]
   repeat' (first
    | ((refine br_n (fun hq=>?_) (fun hq=>?_))<;>(try simp only [go_sem,seval,hk9,hq]))
    | ((first
     | (refine (l01In_fn _ _ _).calls rfl ?_)
     | (refine (l02AllOk_fn _ sd).calls rfl ?_))<;>(try simp only [go_sem,seval,hk9]))
    | fail)
   all_goals try (exfalso;omega)
   all_goals try (clear ih;simp_all [arityOf,firstSym_eq,firstCall_eq];done)
   all_goals try (rw [hs,hform];clear hs hform ih;first | (simp [*,arityOf];done) | (simp [*,arityOf];omega) | (simp [*,arityOf];intros;omega))
   all_goals try (cases N<;>first | rfl | (exfalso;simp only [eq_comm (a:=true),a_] at hs;have hfi:=Gl.form_inv hs.1.1;clear hs hform;omega) | (exfalso;simp only [eq_comm (a:=true),a_] at hs;have hfi:=Gl.form_inv hs.1;clear hs hform;omega))
   all_goals
    refine AW.rng t.goals [1,61,62] 63 61 (fun _:Unit=>[]) (fun H _=>H) (fun r _=>r.all Gl.shape=t.goals.all Gl.shape) () rfl (by simp) rfl wk2_ (fun i x r acc hxi hdr hlt hm hinv hnext=>?_) (fun acc hinv=>?_)
    ·have hx:=e_ hxi
     have ihx:=ih x hx
     have hwx:=Gl.wt_goals hx
     rw [List.all_cons] at hinv
     refine rS_ Tryz.func89 ?_
     simp only [go_sem,seval,hlt,idx_of hxi]
     repeat' (first
      | ((refine br_n (fun hq=>?_) (fun hq=>?_))<;>(try simp only [go_sem,seval,hq]))
      | (simp (disch:=omega) only [wrap_ok])
      | (refine hnext () _ ?_ wk2_)
      | ((refine (ihx (by omega)).calls rfl ?_)<;>(try simp only [go_sem,seval]))
      | fail)
     all_goals clear hnext ihx ih
     all_goals first | (rw [hs,←hinv];clear hs;simp [*];done) | (rw [←hinv];clear hs;simp [*];done)
    ·rw [List.all_nil] at hinv
     rw [←hinv] at hs
     clear hinv
     refine rS_ Tryz.func89 ?_
     simp only [go_sem,seval]
     repeat' (first
      | ((first | (refine br_n (fun hq=>?_) (fun hq=>?_)) | (refine idx_intro (fun x hx=>have hq:=hx;?_)))<;>(try simp only [go_sem,seval,hq]))
      | ((first
       | (refine (sIsRelName_fn _ sd).calls rfl ?_)
       | (refine ⟨sd,?_⟩))<;>(try simp only [go_sem,seval]))
      | fail)
     all_goals try (exfalso;omega)
     all_goals try (clear ih;simp_all [arityOf,firstSym_eq,firstCall_eq];done)
     all_goals try (rw [hs,hform];clear hs hform ih;first | (simp [*,arityOf];done) | (simp [*,arityOf];omega) | (simp [*,arityOf];intros;omega))
     all_goals try (cases N<;>first | rfl | (exfalso;simp only [eq_comm (a:=true),a_] at hs;have hfi:=Gl.form_inv hs.1.1;clear hs hform;omega) | (exfalso;simp only [eq_comm (a:=true),a_] at hs;have hfi:=Gl.form_inv hs.1;clear hs hform;omega))
     all_goals try (rw [hs,Gl.form_simple (by omega) (by omega) (by assumption) (by omega) (by omega)];clear hs hform;simp [*];done)
     all_goals try (rw [hs,Gl.form_and (by omega) (by assumption) (by omega) (by omega)];clear hs hform;simp [*];done)
     all_goals try (rw [hs,Gl.form_6 (by omega) (by assumption) (by omega) (by omega) (by assumption)];clear hs hform;simp [*];done)
     all_goals try (rw [hs,Gl.form_10 (by omega) (by assumption) (by omega) (by omega) (by assumption)];clear hs hform;simp [*];done)
  ·refine aE_ Tryz.func89 ?_
   refine rS_ Tryz.func89 ?_
   simp only [go_sem,seval]
   repeat' (first
    | (refine idx_tab (by omega) (by omega) ?_<;>(try simp only [go_sem,seval,hk9]))
    | ((refine br_n (fun hq=>?_) (fun hq=>?_))<;>(try simp only [go_sem,seval,hk9,hq]))
    | (simp (disch:=omega) only [wrap_ok])
    | ((first
     | (refine (l01In_fn _ _ _).calls rfl ?_)
     | (refine (l02AllOk_fn _ sd).calls rfl ?_)
     | (refine ⟨sd,?_⟩))<;>(try simp only [go_sem,seval,hk9]))
    | fail)
   all_goals try (exfalso;omega)
   all_goals try (clear ih;simp_all [arityOf,firstSym_eq,firstCall_eq];done)
   all_goals try (rw [hs,hform];clear hs hform ih;first | (simp [*,arityOf];done) | (simp [*,arityOf];omega) | (simp [*,arityOf];intros;omega))
   all_goals try (cases N<;>first | rfl | (exfalso;simp only [eq_comm (a:=true),a_] at hs;have hfi:=Gl.form_inv hs.1.1;clear hs hform;omega) | (exfalso;simp only [eq_comm (a:=true),a_] at hs;have hfi:=Gl.form_inv hs.1;clear hs hform;omega))
   all_goals
    refine AW.rng t.goals [1,61,62] 63 61 (fun _:Unit=>[]) (fun H _=>H) (fun r _=>r.all Gl.shape=t.goals.all Gl.shape) () rfl (by simp) rfl wk2_ (fun i x r acc hxi hdr hlt hm hinv hnext=>?_) (fun acc hinv=>?_)
    ·have hx:=e_ hxi
     have ihx:=ih x hx
     have hwx:=Gl.wt_goals hx
     rw [List.all_cons] at hinv
     refine rS_ Tryz.func89 ?_
     simp only [go_sem,seval,hlt,idx_of hxi]
     repeat' (first
      | ((refine br_n (fun hq=>?_) (fun hq=>?_))<;>(try simp only [go_sem,seval,hq]))
      | (simp (disch:=omega) only [wrap_ok])
      | (refine hnext () _ ?_ wk2_)
      | ((refine (ihx (by omega)).calls rfl ?_)<;>(try simp only [go_sem,seval]))
      | fail)
     all_goals clear hnext ihx ih
     all_goals first | (rw [hs,←hinv];clear hs;simp [*];done) | (rw [←hinv];clear hs;simp [*];done)
    ·rw [List.all_nil] at hinv
     rw [←hinv] at hs
     clear hinv
     refine rS_ Tryz.func89 ?_
     simp only [go_sem,seval]
     repeat' (first
      | ((first | (refine br_n (fun hq=>?_) (fun hq=>?_)) | (refine idx_intro (fun x hx=>have hq:=hx;?_)))<;>(try simp only [go_sem,seval,hq]))
      | ((first
       | (refine (sIsRelName_fn _ sd).calls rfl ?_)
       | (refine ⟨sd,?_⟩))<;>(try simp only [go_sem,seval]))
      | fail)
     all_goals try (exfalso;omega)
     all_goals try (clear ih;simp_all [arityOf,firstSym_eq,firstCall_eq];done)
     all_goals try (rw [hs,hform];clear hs hform ih;first | (simp [*,arityOf];done) | (simp [*,arityOf];omega) | (simp [*,arityOf];intros;omega))
     all_goals try (cases N<;>first | rfl | (exfalso;simp only [eq_comm (a:=true),a_] at hs;have hfi:=Gl.form_inv hs.1.1;clear hs hform;omega) | (exfalso;simp only [eq_comm (a:=true),a_] at hs;have hfi:=Gl.form_inv hs.1;clear hs hform;omega))
     all_goals try (rw [hs,Gl.form_simple (by omega) (by omega) (by assumption) (by omega) (by omega)];clear hs hform;simp [*];done)
     all_goals try (rw [hs,Gl.form_and (by omega) (by assumption) (by omega) (by omega)];clear hs hform;simp [*];done)
     all_goals try (rw [hs,Gl.form_6 (by omega) (by assumption) (by omega) (by omega) (by assumption)];clear hs hform;simp [*];done)
     all_goals try (rw [hs,Gl.form_10 (by omega) (by assumption) (by omega) (by omega) (by assumption)];clear hs hform;simp [*];done)
theorem sGoalOk_fn (t:Gl) (hw:wtL t.enc≤9000000):Gives Tryz.prog 64 [.agg t.enc] (.d (.bool (glOk t))):=by
 have hc:=Gl.count_ok t
 generalize glOk t=N at hc ⊢
 refine aE_ Tryz.func64 ?_
 refine rS_ Tryz.func64 ?_
 simp only [go_sem,seval]
 repeat' (first
  | ((refine br_n (fun hq=>?_) (fun hq=>?_))<;>(try simp only [go_sem,seval,hq]))
  | ((first
   | (refine (l13Count_fn _ _ sd sd sd).calls rfl ?_)
   | (refine (l13Shape_fn _ sd).calls rfl ?_))<;>(try simp only [go_sem,seval]))
  | fail)
 all_goals first
  | (rw [←hc,decide_eq_false (by omega)];rfl)
  | (simp_all;done)
theorem sGoalSize_fn (t:Gl) (hw:wtL t.enc≤9000000):Gives Tryz.prog 44 [.agg t.enc] (.d (.int .i64 (if glOk t then t.countF 80 else 0))):=by
 refine aE_ Tryz.func44 ?_
 refine rS_ Tryz.func44 ?_
 simp only [go_sem,seval]
 repeat' (first
  | ((refine br_n (fun hq=>?_) (fun hq=>?_))<;>(try simp only [go_sem,seval,hq]))
  | ((first
   | (refine (sGoalOk_fn _ sd).calls rfl ?_)
   | (refine (l13Count_fn _ _ sd sd sd).calls rfl ?_))<;>(try simp only [go_sem,seval]))
  | fail)
 all_goals try clear ih
 all_goals try clear hnext
 all_goals first
  | (simp_all;done)
  | (simp_all;omega)
  | (simp_all;split<;>simp_all<;>omega)
  | (exfalso;omega)
  | assumption
end Go.Proofs.YtehkgphockcjdaaGreat

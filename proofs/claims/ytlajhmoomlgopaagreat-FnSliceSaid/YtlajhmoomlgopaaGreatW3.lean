import Derived.Test.YtlajhmoomlgopaaGreatW2
open List renaming drop_eq_getElem_cons→a_,getElem?_eq_getElem→b_,drop_eq_nil_of_le→c_
namespace Go.Proofs.YtlajhmoomlgopaaGreat
open Go.Abs
set_option maxRecDepth 100000
set_option maxHeartbeats 4000000
set_option linter.unusedSimpArgs false
set_option linter.unusedVariables false
theorem orderTermLists_fn (a b:List V):Gives Tryz.prog 127 [.sl (a.map V.enc),.sl (b.map V.enc)] (.d (.int .i64 (V.cmpL a b))):=by
 refine aE_ Tryz.func127 ?_
 refine rS_ Tryz.func127 ?_
 simp only [go_sem,seval]
 refine AW.len 0 rfl (fun hl=>?_)
 simp only [maxLen,List.length_map] at hl
 refine AW.lp [0,1] (fun i:Nat=>[(5,.d (.int .i64 i))]) (fun H _=>H) (fun i=>i≤a.length∧i≤b.length∧V.cmpL (a.drop i) (b.drop i)=V.cmpL a b∧ordInt ((a.drop i).length:Int) ((b.drop i).length:Int)=ordInt (a.length:Int) (b.length:Int)) (fun i=>a.length - i) 0 ⟨by omega,by omega,rfl,rfl⟩ wk3_ ?_
 rintro i ⟨hi,hj,hinv,hord⟩ hnext
 by_cases h:i<a.length∧i<b.length
 ·obtain ⟨h1,h2⟩:=h
  have e1:a.drop i=a[i] :: a.drop (i+1):=a_ h1
  have e2:b.drop i=b[i] :: b.drop (i+1):=a_ h2
  have g1:a[i]? = some a[i]:=b_ h1
  have g2:b[i]? = some b[i]:=b_ h2
  generalize a[i]=x at e1 g1
  generalize b[i]=y at e2 g2
  rw [e1,e2,V.cmpL_cons] at hinv
  have h1':(i:Int)<a.length:=by omega
  have h2':(i:Int)<b.length:=by omega
  refine rS_ Tryz.func127 ?_
  simp only [go_sem,seval,h1',h2',j5 g1,j5 g2]
  repeat' (first
   | ((refine br_n (fun hq=>?_) (fun hq=>?_))<;>(try simp only [go_sem,seval,h1',h2',j5 g1,j5 g2,hq]))
   | (simp (disch:=omega) only [j6])
   | (refine hnext (i+1) _ ⟨by omega,by omega,by simp_all,?_⟩ (by omega) wk3_)
   | ((refine (orderTerms_fn _ _ _ (Nat.le_refl _)).callQ rfl ?_)<;>(try simp only [go_sem,seval,h1',h2',j5 g1,j5 g2]))
   | fail)
  all_goals clear hnext
  ·simp_all
  ·rw [←hord];simp only [List.length_drop,ordInt];split<;>split<;>omega
 ·have hz:V.cmpL (a.drop i) (b.drop i)=ordInt (a.length:Int) (b.length:Int):=by
   rw [←hord]
   by_cases h1:i<a.length
   ·have:b.drop i=[]:=c_ (by omega)
    rw [this,V.cmpL_nil_right];rfl
   ·have:a.drop i=[]:=c_ (by omega)
    rw [this,V.cmpL_nil_left];rfl
  rw [hz] at hinv
  clear hnext
  refine rS_ Tryz.func127 ?_
  simp only [go_sem,seval]
  repeat' (first
   | ((first | (refine br_n (fun hq=>?_) (fun hq=>?_)) | (refine idx_intro (fun x hx=>have hq:=hx;?_)))<;>(try simp only [go_sem,seval,hq]))
   | (simp (disch:=omega) only [j6])
   | ((first
    | (refine (orderTerms_fn _ _ _ (Nat.le_refl _)).callQ rfl ?_)
    | (refine (orderInts_fn _ _).calls rfl ?_)
    | (refine ⟨sd,?_⟩))<;>(try simp only [go_sem,seval]))
   | fail)
  all_goals try clear ih
  all_goals try clear hnext
  all_goals first
   | (simp_all;done)
   | (simp_all;omega)
   | (simp_all;split<;>simp_all<;>omega)
   | (exfalso;omega)
   | assumption
theorem orderFacts_fn (r q:List UInt8) (a b:List V):Gives Tryz.prog 82 [.agg (Fc.enc ⟨r,a.map V.tm⟩),.agg (Fc.enc ⟨q,b.map V.tm⟩)] (.d (.int .i64 (cmpFact r a q b))):=by
 have hc:cmpFact r a q b=if r≠q then (if Op.bytesLess r q then -1 else 1) else V.cmpL a b:=rfl
 generalize cmpFact r a q b=N at hc ⊢
 refine aE_ Tryz.func82 ?_
 refine rS_ Tryz.func82 ?_
 simp only [go_sem,seval]
 try simp only [go_sem,seval,enc_tms]
 repeat' (first
  | ((refine br_n (fun hq=>?_) (fun hq=>?_))<;>(try simp only [go_sem,seval,enc_tms,hq]))
  | ((refine (orderTermLists_fn _ _).calls rfl ?_)<;>(try simp only [go_sem,seval,enc_tms]))
  | fail)
 all_goals try clear ih
 all_goals try clear hnext
 all_goals first
  | (simp_all;done)
  | (simp_all;omega)
  | (simp_all;split<;>simp_all<;>omega)
  | (exfalso;omega)
  | assumption
end Go.Proofs.YtlajhmoomlgopaaGreat

import Derived.Test.YtehkgphockcjdaaGreatFx
open Nat renaming lt_succ_iff_lt_or_eq→a_
namespace Go.Proofs.YtehkgphockcjdaaGreat
open Go.Abs
set_option maxRecDepth 100000
set_option maxHeartbeats 4000000
set_option linter.unusedSimpArgs false
set_option linter.unusedVariables false
theorem l01In_fn (a lo hi:Int):Gives Tryz.prog 42 [.int .i64 a,.int .i64 lo,.int .i64 hi] (.d (.bool (decide (lo≤a) && decide (a≤hi)))):=by
 refine aE_ Tryz.func42 ?_
 refine rS_ Tryz.func42 ?_
 simp only [go_sem,seval]
 repeat' (first
  | ((refine br_n (fun hq=>?_) (fun hq=>?_))<;>(try simp only [go_sem,seval,hq]))
  | fail)
 all_goals (simp_all;try omega)
theorem u8_byte (s:List UInt8) (i:Nat):0≤((s[i]?.getD 0).toNat:Int)∧((s[i]?.getD 0).toNat:Int)≤255:=by
 have:=UInt8.toNat_lt (s[i]?.getD 0);omega
theorem sIsName_fn (s:List UInt8) (hm:s.length≤9000000):Gives Tryz.prog 63 [.str s] (.d (.bool (isName s))):=by
 refine aE_ Tryz.func63 ?_
 refine rS_ Tryz.func63 ?_
 simp only [go_sem,seval]
 refine AW.lp [0] (fun i:Nat=>[(3,.d (.int .i64 i))]) (fun H _=>H) (fun i=>i≤s.length∧∀j,j<i→okAt s j=true) (fun i=>s.length - i) 0 ⟨by omega,by omega⟩ wk2_ ?_
 rintro i ⟨hi,hall⟩ hnext
 by_cases h:i<s.length
 ·have hlt:(i:Int)<(s.length:Int):=by omega
  have next:okAt s i=true→∀j,j<i+1→okAt s j=true:=fun h j hj=>by
   rcases a_.1 hj with h' | rfl
   ·exact hall j h'
   ·exact h
  have bad:=isName_bad h
  obtain ⟨b,hb⟩:∃b:Int,((s[i]?.getD 0).toNat:Int)=b:=⟨_,rfl⟩
  have hb0:=u8_byte s i
  have hok:okAt s i=((decide (97≤b) && decide (b≤122)) || (i != 0 && (b == 45 || (decide (48≤b) && decide (b≤57))))):=by unfold okAt byteAt;rw [hb]
  rw [hb] at hb0
  rw [hok] at next bad
  refine rS_ Tryz.func63 ?_
  simp only [go_sem,seval,hlt,hb]
  repeat' (first
   | ((refine br_n (fun hq=>?_) (fun hq=>?_))<;>(try simp only [go_sem,seval,hlt,hb,hq]))
   | (simp (disch:=omega) only [wrap_ok])
   | (refine hnext (i+1) _ ⟨by omega,next (by simp;omega)⟩ (by omega) wk2_)
   | ((refine (l01In_fn _ _ _).calls rfl ?_)<;>(try simp only [go_sem,seval,hlt,hb]))
   | fail)
  all_goals (rw [bad (by simp;omega)])
 ·obtain rfl:i=s.length:=by omega
  refine rS_ Tryz.func63 ?_
  simp only [go_sem,seval]
  repeat' (first
   | ((refine (l01In_fn _ _ _).calls rfl ?_)<;>(try simp only [go_sem,seval]))
   | fail)
  all_goals (rw [isName_end hall];congr 3<;>simp<;>omega)
theorem iIsName_fn (s:List UInt8) (hm:s.length≤9000000):Gives Tryz.prog 74 [.str s] (.d (.bool (isName s))):=by
 obtain ⟨b0,hb0⟩:∃b:Int,((s[0]?.getD 0).toNat:Int)=b:=⟨_,rfl⟩
 have h0b:=u8_byte s 0
 have hok0:okAt s 0=(decide (97≤b0) && decide (b0≤122)):=by unfold okAt byteAt;rw [hb0];simp
 rw [hb0] at h0b
 have bad0:=fun h:0<s.length=>isName_bad h
 have badl:¬(1≤s.length∧s.length≤12)→isName s=false:=fun h=>by
  cases hn:isName s with
  | false=>rfl
  | true=>exact absurd (isName_len hn) h
 refine aE_ Tryz.func74 ?_
 refine rS_ Tryz.func74 ?_
 simp only [go_sem,seval]
 repeat' (first
  | ((refine br_n (fun hq=>?_) (fun hq=>?_))<;>(try simp only [go_sem,seval,hb0,hq]))
  | ((refine ⟨sd,?_⟩)<;>(try simp only [go_sem,seval,hb0]))
  | fail)
 all_goals try (rw [badl (by omega)];done)
 all_goals try (rw [bad0 (by omega) (by rw [hok0];simp;omega)];done)
 have st:∀j,j<1→okAt s j=true:=fun j hj=>by
  obtain rfl:j=0:=by omega
  rw [hok0];simp;omega
 refine AW.lp [0] (fun i:Nat=>[(3,.d (.int .i64 i))]) (fun H _=>H) (fun i=>1≤i∧i≤s.length∧∀j,j<i→okAt s j=true) (fun i=>s.length - i) 1 ⟨by omega,by omega,st⟩ wk2_ ?_
 rintro i ⟨hi1,hi,hall⟩ hnext
 by_cases h:i<s.length
 ·have hlt:(i:Int)<(s.length:Int):=by omega
  have next:okAt s i=true→∀j,j<i+1→okAt s j=true:=fun h j hj=>by
   rcases a_.1 hj with h' | rfl
   ·exact hall j h'
   ·exact h
  have bad:=isName_bad h
  obtain ⟨b,hb⟩:∃b:Int,((s[i]?.getD 0).toNat:Int)=b:=⟨_,rfl⟩
  have hb0:=u8_byte s i
  have hok:okAt s i=((decide (97≤b) && decide (b≤122)) || (i != 0 && (b == 45 || (decide (48≤b) && decide (b≤57))))):=by unfold okAt byteAt;rw [hb]
  rw [hb] at hb0
  rw [hok] at next bad
  refine rS_ Tryz.func74 ?_
  simp only [go_sem,seval,hlt,hb]
  repeat' (first
   | ((refine br_n (fun hq=>?_) (fun hq=>?_))<;>(try simp only [go_sem,seval,hlt,hb,hq]))
   | (simp (disch:=omega) only [wrap_ok])
   | (refine hnext (i+1) _ ⟨by omega,by omega,next (by simp;omega)⟩ (by omega) wk2_)
   | fail)
  all_goals (rw [bad (by simp;omega)])
 ·obtain rfl:i=s.length:=by omega
  refine rS_ Tryz.func74 ?_
  simp only [go_sem,seval]
  rw [isName_end hall]
  congr 2;simp;omega
theorem nodesOf_fn:∀(t:Tm) (room:Int),wtL t.enc≤9000000→-10000000≤room→room≤10000000→Gives Tryz.prog 98 [.agg t.enc,.int .i64 room] (.d (.int .i64 (nodes t room))):=by
 intro t
 induction t using Tm.ind' with
 | h t ih =>
  intro room hw h0 h1
  have hn:=name_wt t
  have lf:=nodes_leaf' t (room:=room)
  have bd:=nodes_bad' t (room:=room)
  have nl:=nodes_lt (t:=t) (room:=room)
  by_cases h2:t.args.length=2
  ·obtain ⟨a,b,hab⟩:∃a b,t.args=[a,b]:=by
    match h:t.args,h2 with
    | [a,b],_=>exact ⟨a,b,rfl⟩
   have ia:=ih a (by simp [hab])
   have ib:=ih b (by simp [hab])
   have wa:=wt_args (t:=t) (x:=a) (by simp [hab])
   have wb:=wt_args (t:=t) (x:=b) (by simp [hab])
   have kds:=nodes_kids' t a b hab (room:=room)
   have ga:=nodes_ge (t:=a) (room:=room - 1)
   have gb:=nodes_ge (t:=b) (room:=room - 1 - nodes a (room - 1))
   generalize nodes t room=N at lf bd kds nl ⊢
   refine aE_ Tryz.func98 ?_
   refine rS_ Tryz.func98 ?_
   simp only [go_sem,seval]
   repeat' (first
    | ((refine br_n (fun hq=>?_) (fun hq=>?_))<;>(try simp only [go_sem,seval,hab,hq]))
    | (simp (disch:=omega) only [wrap_ok])
    | ((first
     | (refine (ia _ (by omega) (by omega) (by omega)).calls rfl ?_)
     | (refine (ib _ (by omega) (by omega) (by omega)).calls rfl ?_))<;>(try simp only [go_sem,seval,hab]))
    | fail)
   all_goals clear ia ib
   all_goals try clear ih
   all_goals try clear hnext
   all_goals first
    | (simp_all;done)
    | (simp_all;omega)
    | (simp_all;split<;>simp_all<;>omega)
    | (exfalso;omega)
    | assumption
  ·generalize nodes t room=N at lf bd nl ⊢
   refine aE_ Tryz.func98 ?_
   refine rS_ Tryz.func98 ?_
   simp only [go_sem,seval]
   repeat' (first
    | ((first | (refine br_n (fun hq=>?_) (fun hq=>?_)) | (refine idx_intro (fun x hx=>have hq:=hx;?_)))<;>(try simp only [go_sem,seval,hq]))
    | (simp (disch:=omega) only [wrap_ok])
    | ((refine (iIsName_fn _ sd).calls rfl ?_)<;>(try simp only [go_sem,seval]))
    | fail)
   all_goals try clear ih
   all_goals try clear hnext
   all_goals first
    | (simp_all;done)
    | (simp_all;omega)
    | (simp_all;split<;>simp_all<;>omega)
    | (exfalso;omega)
    | assumption
theorem iTermOk_fn (t:Tm) (hw:wtL t.enc≤9000000):Gives Tryz.prog 79 [.agg t.enc] (.d (.bool (tmOk t))):=by
 refine aE_ Tryz.func79 ?_
 refine rS_ Tryz.func79 ?_
 simp only [go_sem,seval]
 repeat' (first
  | ((refine (nodesOf_fn _ _ sd sd sd).calls rfl ?_)<;>(try simp only [go_sem,seval]))
  | fail)
 all_goals (rw [nodes_ok])
theorem itermsOk_fn (l:List Tm) (hl:∀t,t∈l→wtL t.enc≤9000000):Gives Tryz.prog 75 [.sl (l.map Tm.enc)] (.d (.bool (l.all tmOk))):=by
 refine aE_ Tryz.func75 ?_
 refine rS_ Tryz.func75 ?_
 simp only [go_sem,seval]
 refine AW.rng l [5,6] 7 5 (fun _:Unit=>[]) (fun H _=>H) (fun r _=>r.all tmOk=l.all tmOk) () rfl (by simp) rfl wk2_ (fun i x r acc hxi hdr hlt hm hinv hnext=>?_) (fun acc hinv=>?_)
 ·have hw:=hl x (List.mem_of_getElem? hxi)
  refine rS_ Tryz.func75 ?_
  simp only [go_sem,seval,hlt,idx_of hxi]
  repeat' (first
   | ((refine br_n (fun hq=>?_) (fun hq=>?_))<;>(try simp only [go_sem,seval,hq]))
   | (simp (disch:=omega) only [wrap_ok])
   | (refine hnext () _ ?_ wk2_)
   | ((refine (iTermOk_fn _ sd).calls rfl ?_)<;>(try simp only [go_sem,seval]))
   | fail)
  all_goals (simp_all;done)
 ·refine rS_ Tryz.func75 ?_
  simp only [go_sem,seval]
  simp_all
theorem l02Count_fn:∀(t:Tm) (most:Int),wtL t.enc≤9000000→-10000000≤most→most≤10000000→Gives Tryz.prog 90 [.agg t.enc,.int .i64 most] (.d (.int .i64 (countF t most))):=by
 intro t
 induction t using Tm.ind with
 | h k i nm ks ih =>
  intro most hw h0 h1
  have hwk:=fun x (hx:x∈ks)=>wt_args (t:=.mk k i nm ks) (x:=x) hx
  have e4:(Tm.mk k i nm ks).args=ks:=rfl
  have hc:=cnt_le_wt (.mk k i nm ks)
  simp only [Tm.cnt] at hc
  refine aE_ Tryz.func90 ?_
  refine rS_ Tryz.func90 ?_
  simp only [go_sem,seval]
  simp only [go_sem,seval,e4]
  refine AW.rng ks [1,9,10] 11 9 (fun n:Int=>[(5,.d (.int .i64 n))]) (fun H _=>H) (fun r n=>1≤n∧n+Tm.cnts r≤1+Tm.cnts ks∧countL r most n=countF (.mk k i nm ks) most) 1 rfl (by simp) ⟨by omega,by omega,rfl⟩ wk2_ (fun i x r acc hxi hdr hlt hm hinv hnext=>?_) (fun acc hinv=>?_)
  ·have hx:=List.mem_of_getElem? hxi
   have ihx:=ih x hx
   have hwx:=hwk x hx
   have hcs:=count_spec x (most - acc)
   obtain ⟨v1,v2,v3⟩:=hinv
   simp only [countL,Tm.cnts] at v2 v3
   refine rS_ Tryz.func90 ?_
   simp only [go_sem,seval,hlt,idx_of hxi]
   repeat' (first
    | ((refine br_n (fun hq=>?_) (fun hq=>?_))<;>(try simp only [go_sem,seval,hq]))
    | (simp (disch:=omega) only [wrap_ok])
    | (refine hnext (acc+countF x (most - acc)) _ ⟨by omega,by omega,?_⟩ wk2_)
    | ((refine (ihx _ (by omega) (by omega) (by omega)).calls rfl ?_)<;>(try simp only [go_sem,seval]))
    | fail)
   all_goals clear hnext ihx ih
   ·rw [if_pos (by omega)] at v3;rw [v3]
   ·rw [if_neg (by omega)] at v3;exact v3
  ·refine rS_ Tryz.func90 ?_
   simp only [go_sem,seval]
   simp_all [countL]
end Go.Proofs.YtehkgphockcjdaaGreat

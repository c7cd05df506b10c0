import Derived.Test.YtehcdhelbkjaeaaGreatDoorW19
import Derived.Test.YtehcdhelbkjaeaaGreatDoorW20
import Derived.Test.YtehcdhelbkjaeaaGreatDoorW6
import Derived.Test.YtehcdhelbkjaeaaGreatDoorW9
import Derived.Test.YtehcdhelbkjaeaaGreatDoorP5
open List renaming mem_of_getElem?→a_,append_nil→b_
namespace Go.Proofs.YtehcdhelbkjaeaaGreatDoor
open Go.Abs
set_option maxRecDepth 100000
set_option maxHeartbeats 4000000
set_option linter.unusedSimpArgs false
set_option linter.unusedVariables false
theorem subs_wt {t:Gl} (h:wtL t.enc≤1048576):∀x,x∈t.subs→wtL x.enc≤1048576:=
 Gl.subs_ind (Q:=fun x=>wtL x.enc≤1048576) (fun t ht x hx=>by have:=Gl.wt_goals hx;omega) t h
theorem sClausesOf_fn (t:Gl) (hw:wtL t.enc≤1048576):Gives Tryz.prog 61 [.agg t.enc] (clsR (if glOk t=true∧t.clsS.length≤64 then some t.clsS else none)):=by
 have hmx:maxLen=9223372036854775807:=rfl
 have hlc:=l16Clauses_fn t hw
 have hcw:=Gl.cnt_le_wt t
 by_cases hok:glOk t=true
 ·by_cases hl:t.clsS.length≤64
  ·rw [if_pos ⟨hok,hl⟩]
   have hrow:=Gl.clsS_row t
   have hsw:=subs_wt hw
   generalize t.clsS=L at *
   refine aE_ Tryz.func61 ?_
   refine rS_ Tryz.func61 ?_
   simp only [go_sem,seval,hok]
   repeat' (first
    | ((refine br_n (fun hq=>?_) (fun hq=>?_))<;>(try simp only [go_sem,seval,hok,hq]))
    | ((first
     | (refine hlc.calls rfl ?_)
     | (refine (sGoalOk_fn _ sd).calls rfl ?_))<;>(try simp only [go_sem,seval,hok]))
    | fail)
   all_goals first | (exfalso;omega) | skip
   refine AW.adopt 5 1 79 (by decide) rfl ?_
   refine AW.rng L [17,18] 19 17 (fun p:Nat×List (List Gl)=>[(5,.own 1 p.1)]) (fun _ p=>[.box (t.enc.map .d),.grow p.1 1 79 (p.2.map encC)]) (fun r p=>p.2++r=L) (0,[]) rfl (by simp) rfl wk1_ (fun i c r p hxi hdr hlt hm hinv hnext=>?_) (fun p hinv=>?_)
   ·have hcm:=a_ hxi
    obtain ⟨hr1,hr2⟩:=hrow c hcm
    have hcc:=l16Copy_fn c (by omega) (fun x hx=>Nat.le_trans (hsw x (hr2 x hx)) (by decide))
    have hpl:p.2.length+(r.length+1)=L.length:=by rw [←hinv];simp
    refine rS_ Tryz.func61 ?_
    simp only [go_sem,seval,hlt,idx_of hxi,encC_eq]
    repeat' (first
     | (simp (disch:=omega) only [wrap_ok])
     | ((first
      | (refine hcc.calls rfl ?_)
      | (refine ⟨sd,?_⟩))<;>(try simp only [go_sem,seval,hlt,idx_of hxi,encC_eq]))
     | fail)
    refine hnext (p.1+1,p.2++[c]) _ (by simp [←hinv]) (by refine ⟨by simp [mkS,encC_eq],by simp [mkS,encC_eq],by simp only [mkS,List.all_cons,List.all_nil,O.refsLt,C.refsLt,C.refsLt1,all_dmap];first | done | rfl | (simp;done),?_⟩;simp [mkS,Abs.get,C.refsLtT,C.refsLt,C.refsLt1,encC_eq])
   ·simp only [b_] at hinv
    subst hinv
    refine rS_ Tryz.func61 ?_
    simp only [go_sem,seval]
    all_goals rfl
  ·rw [if_neg (by simp [hl])]
   refine aE_ Tryz.func61 ?_
   refine rS_ Tryz.func61 ?_
   simp only [go_sem,seval,hok]
   repeat' (first
    | ((refine br_n (fun hq=>?_) (fun hq=>?_))<;>(try simp only [go_sem,seval,hok,hq]))
    | ((first
     | (refine hlc.calls rfl ?_)
     | (refine (sGoalOk_fn _ sd).calls rfl ?_))<;>(try simp only [go_sem,seval,hok]))
    | fail)
   all_goals first | (exfalso;omega) | skip
   all_goals rfl
 ·simp only [Bool.not_eq_true] at hok
  rw [if_neg (by simp [hok])]
  refine aE_ Tryz.func61 ?_
  refine rS_ Tryz.func61 ?_
  simp only [go_sem,seval,hok]
  repeat' (first
   | ((refine (sGoalOk_fn _ sd).calls rfl ?_)<;>(try simp only [go_sem,seval,hok]))
   | fail)
  all_goals rfl
set_option maxHeartbeats 8000000
theorem l20Count_fn:∀(t:Pf) (most:Int),wtL t.enc≤1048576→-10000000≤most→most≤10000000→Gives Tryz.prog 60 [.agg t.enc,.int .i64 most] (.d (.int .i64 (t.countF most))):=by
 intro t
 induction t using Pf.ind' with
 | h t ih =>
  intro most hw h0 h1
  have hc:=Pf.cnt_le_wt t
  have he:=Pf.countF_eq t most
  rw [Pf.cnt_eq] at hc
  generalize t.countF most=N at he ⊢
  refine aE_ Tryz.func60 ?_
  refine rS_ Tryz.func60 ?_
  simp only [go_sem,seval]
  refine AW.rng t.kids [1,9,10] 11 9 (fun n:Int=>[(5,.d (.int .i64 n))]) (fun H _=>H) (fun r n=>1≤n∧n+Pf.cnts r≤1+Pf.cnts t.kids∧Pf.countL r most n=N) 1 rfl (by simp) ⟨by omega,by omega,he.symm⟩ wk2_ (fun i x r acc hxi hdr hlt hm hinv hnext=>?_) (fun acc hinv=>?_)
  ·have hx:=a_ hxi
   have ihx:=ih x hx
   have hwx:=Pf.wt_kids hx
   have hcs:=Pf.count_spec x (most - acc)
   obtain ⟨v1,v2,v3⟩:=hinv
   simp only [Pf.countL,Pf.cnts] at v2 v3
   refine rS_ Tryz.func60 ?_
   simp only [go_sem,seval,hlt,idx_of hxi]
   repeat' (first
    | ((refine br_n (fun hq=>?_) (fun hq=>?_))<;>(try simp only [go_sem,seval,hq]))
    | (simp (disch:=omega) only [wrap_ok])
    | (refine hnext (acc+x.countF (most - acc)) _ ⟨by omega,by omega,?_⟩ wk2_)
    | ((refine (ihx _ (by omega) (by omega) (by omega)).calls rfl ?_)<;>(try simp only [go_sem,seval]))
    | fail)
   all_goals clear hnext ihx ih
   ·rw [if_pos (by omega)] at v3;rw [v3]
   ·rw [if_neg (by omega)] at v3;exact v3
  ·obtain ⟨v1,v2,v3⟩:=hinv
   simp only [Pf.countL] at v3
   refine rS_ Tryz.func60 ?_
   simp only [go_sem,seval]
   rw [v3]
theorem sProofSize_fn (t:Pf) (hw:wtL t.enc≤1048576):Gives Tryz.prog 38 [.agg t.enc] (.d (.int .i64 t.sizeI)):=by
 have hs:=Pf.size_count t
 generalize t.sizeI=N at hs ⊢
 have hc:=l20Count_fn t 200 hw (by omega) (by omega)
 generalize t.countF 200=c at hs hc
 refine aE_ Tryz.func38 ?_
 refine rS_ Tryz.func38 ?_
 simp only [go_sem,seval]
 repeat' (first
  | ((refine br_n (fun hq=>?_) (fun hq=>?_))<;>(try simp only [go_sem,seval,hq]))
  | ((refine hc.calls rfl ?_)<;>(try simp only [go_sem,seval]))
  | fail)
 ·rw [hs,if_pos (by omega)]
 ·rw [hs,if_neg (by omega)]
theorem l02Pair_fn (a b:V):Gives Tryz.prog 124 [.agg a.enc,.agg b.enc] (.d (.agg (V.pair a b).enc)):=by
 rw [V.enc_pair]
 refine aE_ Tryz.func124 ?_
 refine rS_ Tryz.func124 ?_
 simp only [go_sem,seval]
def bdD (vs:List V):List (List D):=(bdsF 0 vs).map Bd.enc
theorem l04Get_fn (vs:List V) (n:Int) (h0:0≤n) (h1:n<vs.length):Gives Tryz.prog 147 [.sl (bdD vs),.int .i64 n] (.tup [.d (.agg (valAt vs n).enc),.d (.bool true)]):=by
 have hat:=valAt_at h0 h1
 have hbl:=bdsF_len vs 0
 unfold bdD
 generalize valAt vs n=w at hat ⊢
 refine aE_ Tryz.func147 ?_
 refine rS_ Tryz.func147 ?_
 simp only [go_sem,seval]
 refine AW.rng (bdsF 0 vs) [1,4,8,9] 10 8 (fun _:Unit=>[]) (fun H _=>H) (fun r _=>((vs.length - r.length:Nat):Int)≤n) () rfl (by simp) (by rw [hbl,Nat.sub_self];exact h0) wk1_ (fun i x r acc hxi hdr hlt hm hinv hnext=>?_) (fun acc hinv=>?_)
 ·obtain ⟨v,hv,rfl⟩:=bdsF_inv hxi
  have hdl:=congrArg List.length hdr
  simp only [List.length_drop,List.length_cons,hbl] at hdl
  simp only [List.length_cons] at hinv
  have hil:=(List.getElem?_eq_some_iff.1 hv).1
  have hve:v.tm.kind=v.kind∧v.tm.int=v.int∧v.tm.name=v.name∧v.tm.args.map Tm.enc=v.kids.map V.enc:=by cases v<;>exact ⟨rfl,rfl,rfl,rfl⟩
  by_cases hi:(i:Int)=n
  ·have hw:v=w:=by
    have:n.toNat=i:=by omega
    rw [this,hv] at hat;exact Option.some.inj hat
   subst hw
   rw [V.enc_eq v]
   have hz:((0+i:Nat):Int)=n:=by omega
   refine rS_ Tryz.func147 ?_
   simp only [go_sem,seval,hlt,idx_of hxi,Bd.enc_eq,hz,hve.1,hve.2.1,hve.2.2.1,hve.2.2.2]
   repeat' (first
    | ((refine br_n (fun hq=>?_) (fun hq=>?_))<;>(try simp only [go_sem,seval,hlt,idx_of hxi,Bd.enc_eq,hz,hve.1,hve.2.1,hve.2.2.1,hve.2.2.2,hq]))
    | (simp (disch:=omega) only [wrap_ok])
    | fail)
   all_goals (exfalso;omega)
  ·have hz:¬((0+i:Nat):Int)=n:=by omega
   refine rS_ Tryz.func147 ?_
   simp only [go_sem,seval,hlt,idx_of hxi]
   repeat' (first
    | ((refine br_n (fun hq=>?_) (fun hq=>?_))<;>(try simp only [go_sem,seval,hlt,idx_of hxi,hq]))
    | (simp (disch:=omega) only [wrap_ok])
    | fail)
   ·exact absurd (by omega) hz
   ·exact hnext () _ (by omega) wk1_
 ·simp only [List.length_nil] at hinv
  omega
theorem l04Put_fn (vs:List V):∀v:V,(∀n,n∈v.vars→0≤n∧n<vs.length)→Gives Tryz.prog 128 [.sl (bdD vs),.agg v.enc] (.d (.agg (v.sub (valAt vs)).enc)):=by
 intro v
 induction v with
 | pair x y ihx ihy =>
  intro hq
  have hx:=ihx (fun n hn=>hq n (by simp [V.vars,hn]))
  have hy:=ihy (fun n hn=>hq n (by simp [V.vars,hn]))
  simp only [V.sub]
  refine aE_ Tryz.func128 ?_
  refine run_sound Tryz.func128 mixed 12 _ _ (by kernel_rfl) ?_
  simp only [go_sem,seval,run.eq_1,V.kind,V.int,V.kids]
  refine AW.drawA mixed #[true,true,true,true,true,true,true,true,true,true,true,true,true,false] [(0,.box ((V.pair x y).enc.map .d))] [] [0,1,2,3,4,6,7,8,9,10,5,11,12] [13] none (by kernel_rfl) trivial (by simp [holdsB]) ?_
  simp only [go_sem,seval,V.kind,V.int,V.kids]
  repeat' (first
   | ((first
    | (refine hx.calls rfl ?_)
    | (refine hy.calls rfl ?_)
    | (refine (l02Pair_fn _ _).calls rfl ?_))<;>(try simp only [go_sem,seval,V.kind,V.int,V.kids]))
   | fail)
  refine rS_ Tryz.func128 ?_
  simp only [go_sem,seval]
 | var n =>
  intro hq
  have hn:=hq n (by simp [V.vars])
  simp only [V.sub]
  refine aE_ Tryz.func128 ?_
  refine rS_ Tryz.func128 ?_
  simp only [go_sem,seval,V.kind,V.int,V.kids]
  repeat' (first
   | ((refine (l04Get_fn vs n hn.1 hn.2).calls rfl ?_)<;>(try simp only [go_sem,seval,V.kind,V.int,V.kids]))
   | fail)
 | _ =>
  intro hq
  simp only [V.sub]
  refine aE_ Tryz.func128 ?_
  refine rS_ Tryz.func128 ?_
  simp only [go_sem,seval,V.kind,V.int,V.kids]
theorem l13Put_fn (vs:List V):∀g:Gl,g.inst vs.length→Gives Tryz.prog 97 [.agg g.enc,.sl (bdD vs)] (.d (.agg (g.ins (valAt vs)).enc)):=by
 intro g
 induction g using Gl.ind' with
 | h g ih =>
  intro hg
  have hmx:maxLen=9223372036854775807:=rfl
  have hln:=Gl.shape_len hg.1
  have hit:=Gl.inst_terms hg
  have higs:=Gl.inst_goals hg
  have hR:(g.ins (valAt vs)).enc=[.int .i64 g.kind,.str g.name,.sl ((g.terms.map fun t=>t.V.sub (valAt vs)).map V.enc),.sl ((g.goals.map (Gl.ins (valAt vs))).map Gl.enc)]:=by
   rw [Gl.ins_eq,Gl.enc_eq]
   simp only [Gl.kind,Gl.name,Gl.terms,Gl.goals,List.map_map]
   rfl
  rw [hR]
  refine aE_ Tryz.func97 ?_
  refine run_sound Tryz.func97 mixed 5 _ _ (by kernel_rfl) ?_
  simp only [go_sem,seval,run.eq_1]
  refine AW.adoptGB 2 2 4 89 (by decide) rfl rfl ?_
  refine AW.adoptGB 2 3 4 81 (by decide) rfl rfl ?_
  refine rS_ Tryz.func97 ?_
  simp only [go_sem,seval]
  refine AW.rng g.terms [1,2,4,5,16,17] 18 16 (fun p:List V=>[]) (fun _ p=>[.box (g.enc.map .d),.box [.d (.int .i64 0),.d (.str []),.nil0,.nil0],.box [.d (.int .i64 g.kind),.d (.str g.name),.own 3 p.length,.own 4 0],.grow p.length 4 89 (p.map V.enc),.grow 0 4 81 []]) (fun r p=>p++r.map (fun t=>t.V.sub (valAt vs))=g.terms.map fun t=>t.V.sub (valAt vs)) [] rfl (by simp) rfl wk1_ (fun i x r p hxi hdr hlt hm hinv hnext=>?_) (fun p hinv=>?_)
  ·have hxm:=a_ hxi
   obtain ⟨he,hv⟩:=hit x hxm
   have hw:=l04Put_fn vs x.V (fun n hn=>by have:=hv n hn;omega)
   rw [←he] at hw
   have hpl:p.length+(r.length+1)=g.terms.length:=by have:=congrArg List.length hinv;simpa using this
   refine run_sound Tryz.func97 mixed 9 _ _ (by kernel_rfl) ?_
   simp only [go_sem,seval,run.eq_1,hlt,idx_of hxi]
   refine AW.drawA mixed #[true,true,true,true,true,true,true,false,false] [(2,.box [.d (.int .i64 g.kind),.d (.str g.name),.own 3 p.length,.own 4 0]),(5,.box (x.enc.map .d))] [] [0,1,2,3,4,5,6] [7,8] none (by kernel_rfl) trivial (by simp [holdsB]) ?_
   simp only [go_sem,seval]
   repeat' (first
    | ((first
     | (refine hw.calls rfl ?_)
     | (refine ⟨sd,?_⟩))<;>(try simp only [go_sem,seval]))
    | fail)
   refine rS_ Tryz.func97 ?_
   simp only [go_sem,seval]
   repeat' (first
    | (simp (disch:=omega) only [wrap_ok])
    | fail)
   refine hnext (p++[x.V.sub (valAt vs)]) _ (by rw [←hinv];simp) wk1_
  ·simp only [List.map_nil,b_] at hinv
   subst hinv
   generalize (g.terms.map fun t=>t.V.sub (valAt vs))=L
   refine rS_ Tryz.func97 ?_
   simp only [go_sem,seval]
   refine AW.rng g.goals [1,4,5,32,33] 34 32 (fun p:List Gl=>[]) (fun _ p=>[.box (g.enc.map .d),.box [.d (.int .i64 0),.d (.str []),.nil0,.nil0],.box [.d (.int .i64 g.kind),.d (.str g.name),.own 3 L.length,.own 4 p.length],.grow L.length 4 89 (L.map V.enc),.grow p.length 4 81 (p.map Gl.enc)]) (fun r p=>p++r.map (Gl.ins (valAt vs))=g.goals.map (Gl.ins (valAt vs))) [] rfl (by simp) rfl wk1_ (fun i x r p hxi hdr hlt hm hinv hnext=>?_) (fun p hinv=>?_)
   ·have hxm:=a_ hxi
    have hw:=ih x hxm (higs x hxm)
    have hpl:p.length+(r.length+1)=g.goals.length:=by have:=congrArg List.length hinv;simpa using this
    refine run_sound Tryz.func97 mixed 9 _ _ (by kernel_rfl) ?_
    simp only [go_sem,seval,run.eq_1,hlt,idx_of hxi]
    refine AW.drawA mixed #[true,true,true,true,true,true,true,false,false] [(2,.box [.d (.int .i64 g.kind),.d (.str g.name),.own 3 L.length,.own 4 p.length]),(5,.box (x.enc.map .d))] [] [0,1,2,3,4,5,6] [7,8] none (by kernel_rfl) trivial (by simp [holdsB]) ?_
    simp only [go_sem,seval]
    repeat' (first
     | ((first
      | (refine hw.calls rfl ?_)
      | (refine ⟨sd,?_⟩))<;>(try simp only [go_sem,seval]))
     | fail)
    refine rS_ Tryz.func97 ?_
    simp only [go_sem,seval]
    repeat' (first
     | (simp (disch:=omega) only [wrap_ok])
     | fail)
    refine hnext (p++[x.ins (valAt vs)]) _ (by rw [←hinv];simp) wk1_
   ·simp only [List.map_nil,b_] at hinv
    subst hinv
    refine rS_ Tryz.func97 ?_
    simp only [go_sem,seval]
theorem testV_hiS {f:Int→V} {g:Gl} (h:7≤g.kind):g.testV f=false:=by
 unfold Gl.testV
 split<;>first | rfl | omega
theorem l13TestV_fn (g:Gl) (f:Int→V) (hs:g.shape=true):Gives Tryz.prog 98 [.agg (g.ins f).enc] (.d (.bool (g.testV f))):=by
 have hR:(g.ins f).enc=[.int .i64 g.kind,.str g.name,.sl ((g.terms.map fun t=>t.V.sub f).map V.enc),.sl ((g.goals.map (Gl.ins f)).map Gl.enc)]:=by
  rw [Gl.ins_eq,Gl.enc_eq]
  simp only [Gl.kind,Gl.name,Gl.terms,Gl.goals,List.map_map]
  rfl
 rw [hR]
 generalize (g.goals.map (Gl.ins f)).map Gl.enc=GS
 rcases Gl.shape_cases hs with ⟨hkk,ht⟩ | ⟨hkk,a,b,ht,ha,hb⟩ | ⟨hkk,a,ht,ha⟩ | h7
 ·have hL:(g.terms.map fun t=>t.V.sub f)=[]:=by rw [ht];rfl
  rcases hkk with hkk | hkk
  ·have hT:g.testV f=true:=by simp [Gl.testV,hkk]
   rw [hT]
   refine aE_ Tryz.func98 ?_
   refine rS_ Tryz.func98 ?_
   simp only [go_sem,seval,hkk,hL]
   all_goals first | rfl | (exfalso;omega) | (simp_all;done) | (simp_all;omega)
  ·have hT:g.testV f=false:=by simp [Gl.testV,hkk]
   rw [hT]
   refine aE_ Tryz.func98 ?_
   refine rS_ Tryz.func98 ?_
   simp only [go_sem,seval,hkk,hL]
   all_goals first | rfl | (exfalso;omega) | (simp_all;done) | (simp_all;omega)
 ·have hL:(g.terms.map fun t=>t.V.sub f)=[a.V.sub f,b.V.sub f]:=by rw [ht];rfl
  rcases hkk with hkk | hkk | hkk
  ·have hT:g.testV f=decide ((a.V.sub f).cmp (b.V.sub f)=0):=by simp [Gl.testV,hkk,ht]
   rw [hT]
   refine aE_ Tryz.func98 ?_
   refine rS_ Tryz.func98 ?_
   simp only [go_sem,seval,hkk,hL]
   repeat' (first
    | ((refine (l02Same_fn _ _).callQ rfl ?_)<;>(try simp only [go_sem,seval,hkk,hL]))
    | fail)
   all_goals first | rfl | (exfalso;omega) | (simp_all;done) | (simp_all;omega)
  ·have hT:g.testV f=!decide ((a.V.sub f).cmp (b.V.sub f)=0):=by simp [Gl.testV,hkk,ht]
   rw [hT]
   refine aE_ Tryz.func98 ?_
   refine rS_ Tryz.func98 ?_
   simp only [go_sem,seval,hkk,hL]
   repeat' (first
    | ((refine (l02Same_fn _ _).callQ rfl ?_)<;>(try simp only [go_sem,seval,hkk,hL]))
    | fail)
   all_goals first | rfl | (exfalso;omega) | (simp_all;done) | (simp_all;omega)
  ·have hT:g.testV f=!(b.V.sub f).has (a.V.sub f).name:=by simp [Gl.testV,hkk,ht]
   rw [hT]
   refine aE_ Tryz.func98 ?_
   refine rS_ Tryz.func98 ?_
   simp only [go_sem,seval,hkk,hL]
   repeat' (first
    | ((refine (l10Contains_fn _ _).callQ rfl ?_)<;>(try simp only [go_sem,seval,hkk,hL]))
    | fail)
   all_goals first | rfl | (exfalso;omega) | (simp_all;done) | (simp_all;omega)
 ·have hL:(g.terms.map fun t=>t.V.sub f)=[a.V.sub f]:=by rw [ht];rfl
  rcases hkk with hkk | hkk
  ·have hT:g.testV f=decide ((a.V.sub f).kind=2):=by simp [Gl.testV,hkk,ht]
   rw [hT]
   refine aE_ Tryz.func98 ?_
   refine rS_ Tryz.func98 ?_
   simp only [go_sem,seval,hkk,hL]
   all_goals first | rfl | (exfalso;omega) | (simp_all;done) | (simp_all;omega)
  ·have hT:g.testV f=decide ((a.V.sub f).kind=3):=by simp [Gl.testV,hkk,ht]
   rw [hT]
   refine aE_ Tryz.func98 ?_
   refine rS_ Tryz.func98 ?_
   simp only [go_sem,seval,hkk,hL]
   all_goals first | rfl | (exfalso;omega) | (simp_all;done) | (simp_all;omega)
 ·rw [testV_hiS h7]
  refine aE_ Tryz.func98 ?_
  refine rS_ Tryz.func98 ?_
  simp only [go_sem,seval]
  repeat' (first
   | ((first | (refine br_n (fun hq=>?_) (fun hq=>?_)) | (refine idx_intro (fun x hx=>have hq:=hx;?_)))<;>(try simp only [go_sem,seval,hq]))
   | ((first
    | (refine (l02Same_fn _ _).callQ rfl ?_)
    | (refine (l10Contains_fn _ _).callQ rfl ?_)
    | (refine ⟨sd,?_⟩))<;>(try simp only [go_sem,seval]))
   | fail)
  all_goals first | rfl | (exfalso;omega)
theorem l20Head_fn (p:Pg) (hok:pgOk p=true) (t:Pf) (ht:p.prf t=true):Gives Tryz.prog 65 [.agg p.enc,.agg t.enc] (.d (.agg (FcV.fc (p.headV t.rel t.values)).enc)):=by
 obtain ⟨h0,r,hr,hl,hg,hh⟩:=Pg.prf_head ht
 obtain ⟨_,ha,hb,_⟩:=Pg.body_inst hok (a_ hr) (m:=t.values.length) hl
 have hR:(FcV.fc (p.headV t.rel t.values)).enc=[.str t.rel,.sl ((t.values.take r.arity.toNat).map Tm.enc)]:=by
  rw [Fc.enc_eq,hh]
  simp only [FcV.fc,List.map_take]
  rw [←grounds_V hg]
 rw [hR]
 have hre:(p.rels.map Rl.enc)[(p.find t.rel).toNat]? = some r.enc:=by simp [hr]
 have hrel:=l14Find_fn p t.rel
 have hrg:=Pg.find_range p t.rel
 generalize p.find t.rel=f at *
 refine aE_ Tryz.func65 ?_
 refine run_sound Tryz.func65 mixed 3 _ _ (by kernel_rfl) ?_
 simp only [go_sem,seval,run.eq_1]
 refine AW.drawA mixed #[true,true,true,true,true,true,true,true,true,true,true,true,true,true,true,false] [(0,.box (p.enc.map .d)),(1,.box (t.enc.map .d))] [] [0,1,2,3,4,5,6,7,8,9,10,11,12,13,14] [15] none (by kernel_rfl) trivial (by simp [holdsB]) ?_
 simp only [go_sem,seval,idx_of hre]
 repeat' (first
  | ((refine idx_intro (fun x hx=>have hq:=hx;?_))<;>(try simp only [go_sem,seval,idx_of hre,hq]))
  | ((first
   | (refine hrel.calls rfl ?_)
   | (refine ⟨sd,?_⟩))<;>(try simp only [go_sem,seval,idx_of hre]))
  | fail)
 obtain rfl:r=x:=by rw [hr] at hx;exact Option.some.inj hx
 refine ⟨ha,by omega,?_⟩
 refine rS_ Tryz.func65 ?_
 simp only [go_sem,seval]
end Go.Proofs.YtehcdhelbkjaeaaGreatDoor

import Derived.Test.YtehkgphockcjdaaGreatFx
import Derived.Test.YtehkgphockcjdaaGreatP1
import Derived.Test.YtehkgphockcjdaaGreatShelf
open List renaming append_assoc→a_,length_append→b_,foldl_append→c_,length_nil→d_,length_cons→e_,mem_of_getElem?→f_,foldl_nil→g_,getElem?_eq_some_iff→h_
namespace Go.Proofs.YtehkgphockcjdaaGreat
open Go.Abs
set_option maxRecDepth 100000
set_option maxHeartbeats 4000000
set_option linter.unusedSimpArgs false
set_option linter.unusedVariables false
theorem eachVar_fn {Acc:Type} {g:FuncId} {caps:List C} {m:Nat} {Hs:Acc→List O} {step:Acc→Int→Acc} (h:Clo Tryz.prog g caps m (fun n:Int=>D.int .i64 n) Hs (fun _=>True) step) :
  ∀(v:V) (a:Acc),ACalls Tryz.prog 95 [.d (.agg v.enc),.fn g caps] (Hs a) (fun c H'=>c=.tup []∧H'=Hs (v.vars.foldl step a)):=by
 intro v
 induction v with
 | pair x y ihx ihy =>
  intro a
  refine aE_ Tryz.func95 ?_
  refine rS_ Tryz.func95 ?_
  simp only [go_sem,seval,h.len,h.go,h.at0,h.atj,h.set0,h.setj,h.tk,h.tk0,h.tkj,h.refs,h.refsj,h.hcaps,h.capsj,a_,V.kind,V.int,V.kids]
  repeat' (first
   | ((first
    | (refine h.sub (ihx _) ?_)
    | (refine h.sub (ihy _) ?_))<;>(try simp only [go_sem,seval,h.len,h.go,h.at0,h.atj,h.set0,h.setj,h.tk,h.tk0,h.tkj,h.refs,h.refsj,h.hcaps,h.capsj,a_,V.kind,V.int,V.kids]))
   | fail)
  simp only [V.vars,c_]
 | _ =>
  intro a
  refine aE_ Tryz.func95 ?_
  refine rS_ Tryz.func95 ?_
  simp only [go_sem,seval,h.len,h.go,h.at0,h.atj,h.set0,h.setj,h.tk,h.tk0,h.tkj,h.refs,h.refsj,h.hcaps,h.capsj,a_,V.kind,V.int,V.kids]
  repeat' (first
   | ((refine h.on trivial ?_)<;>(try simp only [go_sem,seval,h.len,h.go,h.at0,h.atj,h.set0,h.setj,h.tk,h.tk0,h.tkj,h.refs,h.refsj,h.hcaps,h.capsj,a_,V.kind,V.int,V.kids]))
   | fail)
  all_goals rfl
theorem eachGoal_fn {Acc:Type} {g:FuncId} {caps:List C} {m:Nat} {Hs:Acc→List O} {Q:Gl→Prop} {step:Acc→Gl→Acc} (h:Clo Tryz.prog g caps m (fun x:Gl=>D.agg x.enc) Hs Q step) :
  ∀(t:Gl) (a:Acc),(∀x,x∈t.subs→Q x)→ACalls Tryz.prog 77 [.d (.agg t.enc),.fn g caps] (Hs a) (fun c H'=>c=.tup []∧H'=Hs (t.subs.foldl step a)):=by
 intro t
 induction t using Gl.ind' with
 | h t ih =>
  intro a hq
  have hqt:=hq t (by rw [Gl.subs_eq];simp)
  have hqs:∀x,x∈t.goals→∀y,y∈x.subs→Q y:=fun x hx y hy=>hq y (by rw [Gl.subs_eq,Gl.subss_eq];exact List.mem_cons_of_mem _ (List.mem_flatMap.2 ⟨x,hx,hy⟩))
  rw [Gl.subs_eq,List.foldl_cons]
  refine aE_ Tryz.func77 ?_
  refine rS_ Tryz.func77 ?_
  simp only [go_sem,seval,h.len,h.go,h.at0,h.atj,h.set0,h.setj,h.tk,h.tk0,h.tkj,h.refs,h.refsj,h.hcaps,h.capsj,a_]
  repeat' (first
   | ((refine h.on hqt ?_)<;>(try simp only [go_sem,seval,h.len,h.go,h.at0,h.atj,h.set0,h.setj,h.tk,h.tk0,h.tkj,h.refs,h.refsj,h.hcaps,h.capsj,a_]))
   | fail)
  refine AW.rng t.goals [1,10,11] 12 10 (fun _:Acc=>[]) (fun _ acc=>Hs acc++[.box (t.enc.map .d)]) (fun r acc=>(Gl.subss r).foldl step acc=(Gl.subss t.goals).foldl step (step a t)) (step a t) rfl (by simp) rfl (by refine ⟨by simp [mkS,h.len],by simp only [mkS,b_,e_,d_,h.len,h.tkj,h.tk0,h.tk];first | done | rfl | (simp;done),by simp [mkS,O.refsLt,C.refsLt,C.refsLt1,h.len,h.refs,h.refsj,all_dmap,all_dcomp,-List.all_eq_true],?_⟩;simp [mkS,Abs.get,C.refsLtT,C.refsLt,C.refsLt1,h.len,h.hcaps,h.capsj,-List.all_eq_true]) (fun i x r acc hxi hdr hlt hm hinv hnext=>?_) (fun acc hinv=>?_)
  ·have hx:=f_ hxi
   have ihx:=ih x hx acc (hqs x hx)
   refine rS_ Tryz.func77 ?_
   simp only [go_sem,seval,hlt,idx_of hxi,h.len,h.go,h.at0,h.atj,h.set0,h.setj,h.tk,h.tk0,h.tkj,h.refs,h.refsj,h.hcaps,h.capsj,a_]
   repeat' (first
    | (simp (disch:=omega) only [wrap_ok])
    | (refine hnext (x.subs.foldl step acc) _ ?_ (by refine ⟨by simp [mkS,h.len],by simp only [mkS,b_,e_,d_,h.len,h.tkj,h.tk0,h.tk];first | done | rfl | (simp;done),by simp [mkS,O.refsLt,C.refsLt,C.refsLt1,h.len,h.refs,h.refsj,all_dmap,all_dcomp,-List.all_eq_true],?_⟩;simp [mkS,Abs.get,C.refsLtT,C.refsLt,C.refsLt1,h.len,h.hcaps,h.capsj,-List.all_eq_true]))
    | ((refine h.sub ihx ?_)<;>(try simp only [go_sem,seval,h.len,h.go,h.at0,h.atj,h.set0,h.setj,h.tk,h.tk0,h.tkj,h.refs,h.refsj,h.hcaps,h.capsj,a_]))
    | fail)
   rw [←hinv];simp only [Gl.subss,c_]
  ·simp only [Gl.subss,g_] at hinv
   subst hinv
   refine rS_ Tryz.func77 ?_
   simp only [go_sem,seval,h.len,h.go,h.at0,h.atj,h.set0,h.setj,h.tk,h.tk0,h.tkj,h.refs,h.refsj,h.hcaps,h.capsj,a_]
   all_goals rfl
theorem gv11_clo (gb:List D):Clo Tryz.prog 96 [.ptr 2 0] 3 (fun n:Int=>D.int .i64 n) (fun ks:List Int=>[.box (gb.map .d),.map false (keysM ks),.box [.map 1]]) (fun _=>True) addK:=by
 refine ⟨by kernel_rfl,rfl,fun _=>rfl,fun a=>by simp only [List.all_cons,List.all_nil,O.refsLt,all_dmap];rfl,fun a x _=>?_⟩
 refine aE_ Tryz.func96 ?_
 refine rS_ Tryz.func96 ?_
 simp only [go_sem,seval]
 all_goals simp [mset_keys,O.refsLt,C.refsLt,C.refsLt1,all_dmap,all_dcomp]
theorem gv1_clo (gb:List D):Clo Tryz.prog 94 [.ptr 2 0] 3 (fun x:Gl=>D.agg x.enc) (fun ks:List Int=>[.box (gb.map .d),.map false (keysM ks),.box [.map 1]]) (fun x=>∀t,t∈x.terms→tmOk t=true) (fun ks x=>(Tm.varss x.terms).foldl addK ks):=by
 have h:=gv11_clo gb
 refine ⟨by kernel_rfl,rfl,fun _=>rfl,fun a=>by simp only [List.all_cons,List.all_nil,O.refsLt,all_dmap];rfl,fun a g hq=>?_⟩
 refine aE_ Tryz.func94 ?_
 refine rS_ Tryz.func94 ?_
 simp only [go_sem,seval]
 refine AW.rng g.terms [1,6,7] 8 6 (fun _:List Int=>[]) (fun _ ks=>[.box (gb.map .d),.map false (keysM ks),.box [.map 1],.box (g.enc.map .d)]) (fun r acc=>(Tm.varss r).foldl addK acc=(Tm.varss g.terms).foldl addK a) a rfl (by simp) rfl wk3_ (fun i x r acc hxi hdr hlt hm hinv hnext=>?_) (fun acc hinv=>?_)
 ·have hx:=f_ hxi
  obtain ⟨v,rfl,hv⟩:=tmOk_v (hq x hx)
  refine rS_ Tryz.func94 ?_
  simp only [go_sem,seval,hlt,idx_of hxi]
  repeat' (first
   | (simp (disch:=omega) only [wrap_ok])
   | (refine hnext (v.vars.foldl addK acc) _ ?_ wk3_)
   | ((refine h.sub (X:=[_,_]) (eachVar_fn h v acc) ?_)<;>(try simp only [go_sem,seval]))
   | fail)
  rw [←hinv];simp only [Tm.varss,c_,V.vars_tm]
 ·simp only [Tm.varss,g_] at hinv
  subst hinv
  refine rS_ Tryz.func94 ?_
  simp only [go_sem,seval]
  all_goals simp [O.refsLt,C.refsLt,C.refsLt1,all_dmap,all_dcomp]
theorem sortedInts_fn (ks:List Int) (hn:ks.Nodup) (hl:ks.length≤9000000):ACalls Tryz.prog 97 [.map 0] [.map false (keysM ks)] (fun c H'=>c=.d (.sl (intsD (ascOf ks)))∧H'=[.map false (keysM ks)]):=by
 refine aE_ Tryz.func97 ?_
 refine rS_ Tryz.func97 ?_
 simp only [go_sem,seval]
 refine AW.adoptB 3 1 3 (by decide) rfl ?_
 refine AW.lp [7] (fun p:List Nat×List Int=>[(3,.own 2 p.2.length)]) (fun _ p=>[.map false (keysM ks),.iter 0 ks.length ks.length p.1,.buf p.2.length 1 3 (intsD p.2)]) (fun p=>p.1.Nodup∧(∀i,i∈p.1→i<ks.length)∧p.2=p.1.map (fun i=>ks.getD i 0)) (fun p=>ks.length - p.1.length) ([],[]) ⟨by simp,by simp,rfl⟩ (by refine ⟨by simp [mkS],by simp [mkS,keysM_len,intsD],by simp [mkS,O.refsLt],?_⟩;simp [mkS,Abs.get,C.refsLtT,C.refsLt,C.refsLt1]) ?_
 rintro ⟨seen,out⟩ ⟨h1,h2,h3⟩ hnext
 dsimp only at h1 h2 h3 hnext
 have hso:out.length=seen.length:=by rw [h3];simp
 have hle:=nodup_le ks.length seen h1 h2
 have hmx:maxLen=9223372036854775807:=rfl
 refine run_sound Tryz.func97 mixed 7 _ _ (by kernel_rfl) ?_
 simp only [go_sem,seval,run.eq_1]
 refine anyNext_intro (fun hall=>?_) (fun i p hp hns=>?_)
 ·have hpk:=picks_spec hn h1 h2 (fun i hi=>hall i (by rw [keysM_len];exact hi))
  rw [←h3] at hpk
  refine sort_calls Tryz.sort_Ints Tryz.sort_Ints_none (r:=2) (by omega) rfl ?_
  simp only [go_sem,seval,run.eq_1]
  refine AW.freezeB 3 2 rfl rfl ?_
  refine rS_ Tryz.func97 ?_
  simp only [go_sem,seval]
  rw [sort_asc hpk.1,ascOf_ext hpk.2]
 ·obtain ⟨k,hk,rfl⟩:=keysM_at hp
  have hik:=(h_.1 hk).1
  have hlt:(seen++[i]).length≤ks.length:=nodup_le _ _ (by rw [List.nodup_append];exact ⟨h1,by simp,fun a ha b hb=>by simp at hb;subst hb;intro e;subst e;exact hns ha⟩) (fun x hx=>by
   rcases List.mem_append.1 hx with hx | hx
   ·exact h2 x hx
   ·simp at hx;omega)
  simp only [b_,e_,d_] at hlt
  refine rS_ Tryz.func97 ?_
  simp only [go_sem,seval,List.getLast?_concat,idx_of hp,idx_of hk,keysM_len,intsD_len]
  have hnd:(seen++[i]).Nodup:=by rw [List.nodup_append];exact ⟨h1,by simp,fun a ha b hb=>by simp at hb;subst hb;intro e;subst e;exact hns ha⟩
  refine ⟨⟨by omega,by omega,hnext (seen++[i],out++[k]) _ ⟨hnd,?_,?_⟩ ?_ ?_⟩,hik⟩
  ·intro x hx
   rcases List.mem_append.1 hx with hx | hx
   ·exact h2 x hx
   ·simp at hx;omega
  ·simp only [List.map_append,h3,List.map_cons,List.map_nil]
   congr 2
   rw [List.getD_eq_getElem?_getD,hk];rfl
  ·simp only [b_,e_,d_];omega
  ·refine ⟨by simp [mkS],by simp [mkS,keysM_len,intsD_append,intsD_one],by simp [mkS,O.refsLt],?_⟩;simp [mkS,Abs.get,C.refsLtT,C.refsLt,C.refsLt1]
theorem goalVars_fn (t:Gl) (hs:t.shape=true) (hw:wtL t.enc≤9000000):Gives Tryz.prog 76 [.agg t.enc] (.d (.sl (intsD (ascOf t.vars)))):=by
 have h:=gv1_clo t.enc
 have hterms:∀x,x∈t.subs→∀u,u∈x.terms→tmOk u=true:=fun x hx=>Gl.shape_terms (Gl.shape_sub hs x hx)
 have hf:t.subs.foldl (fun ks x=>(Tm.varss x.terms).foldl addK ks) []=t.vars.foldl addK []:=by rw [Gl.vars_subs,foldl_flatMap]
 have hvw:=Gl.vars_wt t
 have hkl:=foldK_len (vs:=t.vars) (ks:=[])
 simp only [d_] at hkl
 have hkn:(t.vars.foldl addK []).Nodup:=foldK_nodup (by simp)
 have hka:ascOf (t.vars.foldl addK [])=ascOf t.vars:=ascOf_ext (fun x=>by rw [foldK_mem];simp)
 have e1:=eachGoal_fn h t [] hterms
 rw [hf] at e1
 refine aE_ Tryz.func76 ?_
 refine rS_ Tryz.func76 ?_
 simp only [go_sem,seval]
 repeat' (first
  | ((first
   | (refine ACalls.mono e1 ?_<;>(rintro c H' ⟨rfl,rfl⟩))
   | (refine (sortedInts_fn _ hkn (by omega)).at1 rfl 1 rfl rfl ?_<;>(rintro c o' ⟨rfl,ho⟩;cases ho;refine ⟨rfl,rfl,?_⟩)))<;>(try simp only [go_sem,seval,C.at1]))
  | fail)
 all_goals rw [hka]
theorem l02Insert_fn (l:List Int) (n:Int) (ha:Asc l) (hl:l.length≤9000000):Gives Tryz.prog 92 [.sl (intsD l),.int .i64 n] (.d (.sl (intsD (insA l n)))):=by
 have hat:=fun k=>insA_at (n:=n) (k:=k) ha
 have hmx:maxLen=9223372036854775807:=rfl
 generalize insA l n=N at hat ⊢
 refine aE_ Tryz.func92 ?_
 refine rS_ Tryz.func92 ?_
 simp only [go_sem,seval]
 refine AW.lp [0,1] (fun k:Nat=>[(5,.d (.int .i64 k))]) (fun H _=>H) (fun k=>k≤l.length∧∀j x,k≤j→l[j]? = some x→n≤x) (fun k=>k) l.length ⟨Nat.le_refl _,fun j x hj hx=>by have:=(h_.1 hx).1;omega⟩ (by simp only [intsD_len];exact by refine ⟨by simp [mkS],by simp [mkS],by simp [mkS,O.refsLt,C.refsLt,C.refsLt1],?_⟩;simp [mkS,Abs.get,C.refsLtT,C.refsLt,C.refsLt1]) ?_
 rintro k ⟨hk,hge⟩ hnext
 have z0:((0:Nat):Int)=0:=rfl
 have fin:∀k,k≤l.length→(N=if l[k]? = some n then l else l.take k++([n]++l.drop k))→∀y,l[k]? = some y→(y=n→N=l)∧(y≠n→N=l.take k++([n]++l.drop k)):=fun k _ h y hy=>by
  rw [hy] at h
  exact ⟨fun e=>by rw [h,e,if_pos rfl],fun e=>by rw [h,if_neg (by simpa using e)]⟩
 have fin0:∀k,(N=if l[k]? = some n then l else l.take k++([n]++l.drop k))→(l.length:Int)≤k→N=l.take k++([n]++l.drop k):=fun k h hk=>by
  rw [h,if_neg (by rw [List.getElem?_eq_none (by omega)];simp)]
 by_cases h0:k=0
 ·subst h0
  have hN:=hat 0 hge (.inl rfl)
  have fa:=fin 0 (by omega) hN
  have fb:=fin0 0 hN
  clear hnext hat fin fin0 hN
  refine rS_ Tryz.func92 ?_
  simp only [go_sem,seval,z0]
  repeat' (first
   | ((first | (refine br_n (fun hq=>?_) (fun hq=>?_)) | (refine idx_intro (fun x hx=>have hq:=hx;?_)))<;>(try simp only [go_sem,seval,z0,hq]))
   | ((refine ⟨sd,?_⟩)<;>(try simp only [go_sem,seval,z0]))
   | fail)
  all_goals first
   | (rw [(fa _ (by assumption)).1 (by assumption)];done)
   | (rw [(fa _ (by assumption)).2 (by assumption)];simp [intsD];done)
   | (rw [fb (by omega)];simp [intsD];done)
 ·obtain ⟨k,rfl⟩:∃k',k=k'+1:=⟨k - 1,by omega⟩
  obtain ⟨x,hx⟩:∃x,l[k]? = some x:=⟨_,List.getElem?_eq_getElem (by omega)⟩
  have e1:(k:Int)+((1:Nat):Int) - 1=(k:Int):=by omega
  have e2:((k:Int)+((1:Nat):Int)).toNat=k+1:=by omega
  have e3:(k:Int)+1 - 1=(k:Int):=by omega
  have e4:((k:Int)+1).toNat=k+1:=by omega
  by_cases hxn:n≤x
  ·have hge':∀j y,k≤j→l[j]? = some y→n≤y:=fun j y hj hy=>by
    by_cases e:j=k
    ·subst e;rw [hx] at hy;cases hy;exact hxn
    ·exact hge j y (by omega) hy
   clear hat fin fin0
   refine rS_ Tryz.func92 ?_
   simp only [go_sem,seval,e1,e2,e3,e4,idx_of hx]
   repeat' (first
    | ((first | (refine br_n (fun hq=>?_) (fun hq=>?_)) | (refine idx_intro (fun x hx=>have hq:=hx;?_)))<;>(try simp only [go_sem,seval,e1,e2,e3,e4,idx_of hx,hq]))
    | (simp (disch:=omega) only [wrap_ok])
    | ((refine ⟨sd,?_⟩)<;>(try simp only [go_sem,seval,e1,e2,e3,e4,idx_of hx]))
    | fail)
   all_goals first
    | exact hnext k _ ⟨by omega,hge'⟩ (by omega) wk2_
    | (exfalso;omega)
  ·have hN:=hat (k+1) hge (.inr ⟨x,by simpa using hx,by omega⟩)
   have fa:=fin (k+1) (by omega) hN
   have fb:=fin0 (k+1) hN
   clear hnext hat fin fin0 hN
   refine rS_ Tryz.func92 ?_
   simp only [go_sem,seval,e1,e2,e3,e4,idx_of hx]
   repeat' (first
    | ((first | (refine br_n (fun hq=>?_) (fun hq=>?_)) | (refine idx_intro (fun x hx=>have hq:=hx;?_)))<;>(try simp only [go_sem,seval,e1,e2,e3,e4,idx_of hx,hq]))
    | (simp (disch:=omega) only [wrap_ok])
    | ((refine ⟨sd,?_⟩)<;>(try simp only [go_sem,seval,e1,e2,e3,e4,idx_of hx]))
    | fail)
   all_goals first
    | (rw [(fa _ (by assumption)).1 (by assumption)];done)
    | (rw [(fa _ (by assumption)).2 (by assumption)];simp [intsD];done)
    | (rw [fb (by omega)];simp [intsD];done)
    | (exfalso;omega)
theorem l02Vars_fn:∀(t:Tm) (l:List Int),Asc l→l.length+t.vars.length≤9000000→Gives Tryz.prog 69 [.agg t.enc,.sl (intsD l)] (.d (.sl (intsD (t.vars.foldl insA l)))):=by
 intro t
 induction t using Tm.ind' with
 | h t ih =>
  intro l ha hl
  have hv:=Tm.vars_eq t
  by_cases hk:t.kind=1
  ·rw [if_pos hk] at hv
   rw [hv] at hl ⊢
   simp only [e_,d_] at hl
   refine aE_ Tryz.func69 ?_
   refine rS_ Tryz.func69 ?_
   simp only [go_sem,seval]
   repeat' (first
    | ((refine br_n (fun hq=>?_) (fun hq=>?_))<;>(try simp only [go_sem,seval,hk,hq]))
    | ((refine (l02Insert_fn _ _ (by assumption) sd).calls rfl ?_)<;>(try simp only [go_sem,seval,hk]))
    | fail)
   all_goals try (exact absurd hk (by assumption))
   all_goals rfl
  ·rw [if_neg hk] at hv
   rw [hv] at hl ⊢
   refine aE_ Tryz.func69 ?_
   refine rS_ Tryz.func69 ?_
   simp only [go_sem,seval]
   repeat' (first
    | ((refine br_n (fun hq=>?_) (fun hq=>?_))<;>(try simp only [go_sem,seval,hq]))
    | ((refine (l02Insert_fn _ _ (by assumption) sd).calls rfl ?_)<;>(try simp only [go_sem,seval]))
    | fail)
   all_goals try (exact absurd (by assumption) hk)
   refine AW.rng t.args [15,16] 17 15 (fun acc:List Int=>[(1,.d (.sl (intsD acc)))]) (fun H _=>H) (fun r acc=>Asc acc∧acc.length+(Tm.varss r).length≤9000000∧(Tm.varss r).foldl insA acc=(Tm.varss t.args).foldl insA l) l rfl (by simp) ⟨ha,hl,rfl⟩ wk2_ (fun i x r acc hxi hdr hlt hm hinv hnext=>?_) (fun acc hinv=>?_)
   ·have hx:=f_ hxi
    obtain ⟨v1,v2,v3⟩:=hinv
    simp only [Tm.varss,b_,c_] at v2 v3
    have ihx:=ih x hx acc v1 (by omega)
    have hfl:=foldA_len (vs:=x.vars) (l:=acc)
    refine rS_ Tryz.func69 ?_
    simp only [go_sem,seval,hlt,idx_of hxi]
    repeat' (first
     | (simp (disch:=omega) only [wrap_ok])
     | (refine hnext (x.vars.foldl insA acc) _ ⟨foldA_asc v1,by omega,v3⟩ wk2_)
     | ((refine ihx.calls rfl ?_)<;>(try simp only [go_sem,seval]))
     | fail)
   ·obtain ⟨v1,v2,v3⟩:=hinv
    simp only [Tm.varss,g_] at v3
    refine rS_ Tryz.func69 ?_
    simp only [go_sem,seval]
    rw [v3]
theorem l13Vars_fn:∀(t:Gl) (l:List Int),Asc l→l.length+t.vars.length≤9000000→Gives Tryz.prog 66 [.agg t.enc,.sl (intsD l)] (.d (.sl (intsD (t.vars.foldl insA l)))):=by
 intro t
 induction t using Gl.ind' with
 | h t ih =>
  intro l ha hl
  have hv:=Gl.vars_eq t
  rw [hv] at hl ⊢
  rw [b_] at hl
  rw [c_]
  refine aE_ Tryz.func66 ?_
  refine rS_ Tryz.func66 ?_
  simp only [go_sem,seval]
  refine AW.rng t.terms [2,10,11] 12 10 (fun acc:List Int=>[(1,.d (.sl (intsD acc)))]) (fun H _=>H) (fun r acc=>Asc acc∧acc.length+(Tm.varss r).length+(Gl.varss t.goals).length≤9000000∧(Tm.varss r).foldl insA acc=(Tm.varss t.terms).foldl insA l) l rfl (by simp) ⟨ha,by omega,rfl⟩ wk2_ (fun i x r acc hxi hdr hlt hm hinv hnext=>?_) (fun acc hinv=>?_)
  ·obtain ⟨v1,v2,v3⟩:=hinv
   simp only [Tm.varss,b_,c_] at v2 v3
   have hfl:=foldA_len (vs:=x.vars) (l:=acc)
   refine rS_ Tryz.func66 ?_
   simp only [go_sem,seval,hlt,idx_of hxi]
   repeat' (first
    | (simp (disch:=omega) only [wrap_ok])
    | (refine hnext (x.vars.foldl insA acc) _ ⟨foldA_asc v1,by omega,v3⟩ wk2_)
    | ((refine (l02Vars_fn _ _ (by assumption) sd).calls rfl ?_)<;>(try simp only [go_sem,seval]))
    | fail)
  ·obtain ⟨v1,v2,v3⟩:=hinv
   simp only [Tm.varss,g_,d_] at v2 v3
   subst v3
   refine rS_ Tryz.func66 ?_
   simp only [go_sem,seval]
   refine AW.rng t.goals [21,22] 23 21 (fun acc:List Int=>[(1,.d (.sl (intsD acc)))]) (fun H _=>H) (fun r acc'=>Asc acc'∧acc'.length+(Gl.varss r).length≤9000000∧(Gl.varss r).foldl insA acc'=(Gl.varss t.goals).foldl insA ((Tm.varss t.terms).foldl insA l)) _ rfl (by simp) ⟨v1,by omega,rfl⟩ wk2_ (fun i x r acc hxi hdr hlt hm hinv hnext=>?_) (fun acc hinv=>?_)
   ·have hx:=f_ hxi
    obtain ⟨w1,w2,w3⟩:=hinv
    simp only [Gl.varss,b_,c_] at w2 w3
    have ihx:=ih x hx acc w1 (by omega)
    have hfl:=foldA_len (vs:=x.vars) (l:=acc)
    refine rS_ Tryz.func66 ?_
    simp only [go_sem,seval,hlt,idx_of hxi]
    repeat' (first
     | (simp (disch:=omega) only [wrap_ok])
     | (refine hnext (x.vars.foldl insA acc) _ ⟨foldA_asc w1,by omega,w3⟩ wk2_)
     | ((refine ihx.calls rfl ?_)<;>(try simp only [go_sem,seval]))
     | fail)
   ·obtain ⟨w1,w2,w3⟩:=hinv
    simp only [Gl.varss,g_] at w3
    refine rS_ Tryz.func66 ?_
    simp only [go_sem,seval]
    rw [w3]
end Go.Proofs.YtehkgphockcjdaaGreat

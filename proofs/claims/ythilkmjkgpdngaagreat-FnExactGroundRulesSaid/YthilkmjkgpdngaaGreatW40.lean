import Derived.Test.YthilkmjkgpdngaaGreatW6
import Derived.Test.YthilkmjkgpdngaaGreatW9
import Derived.Test.YthilkmjkgpdngaaGreatW22
import Derived.Test.YthilkmjkgpdngaaGreatP5
namespace Go.Proofs.YthilkmjkgpdngaaGreat
open Go.Abs
set_option maxRecDepth 100000
set_option maxHeartbeats 8000000
set_option linter.unusedSimpArgs false
set_option linter.unusedVariables false
theorem l02Pair_fn (a b:V):Gives Tryz.prog 109 [.agg a.enc,.agg b.enc] (.d (.agg (V.pair a b).enc)):=by
 rw [V.enc_pair]
 refine aE_ Tryz.func109 ?_
 refine rS_ Tryz.func109 ?_
 simp only [go_sem,seval]
def bdD (vs:List V):List (List D):=(bdsF 0 vs).map Bd.enc
theorem l04Get_fn (vs:List V) (n:Int) (h0:0≤n) (h1:n<vs.length):Gives Tryz.prog 108 [.sl (bdD vs),.int .i64 n] (.tup [.d (.agg (valAt vs n).enc),.d (.bool true)]):=by
 have hat:=valAt_at h0 h1
 have hbl:=bdsF_len vs 0
 unfold bdD
 generalize valAt vs n=w at hat ⊢
 refine aE_ Tryz.func108 ?_
 refine rS_ Tryz.func108 ?_
 simp only [go_sem,seval]
 refine AW.rng (bdsF 0 vs) [1,4,8,9] 10 8 (fun _:Unit=>[]) (fun H _=>H) (fun r _=>((vs.length - r.length:Nat):Int)≤n) () rfl (by simp) (by rw [hbl,Nat.sub_self];exact h0) wk1_ (fun i x r acc hxi hdr hlt hm hinv hnext=>?_) (fun acc hinv=>?_)
 ·obtain ⟨v,hv,rfl⟩:=bdsF_inv hxi
  have hdl:=congrArg List.length hdr
  simp only [List.length_drop,List.length_cons,hbl] at hdl
  simp only [List.length_cons] at hinv
  have hil:=(List.getElem?_eq_some_iff.1 hv).1
  have hve:v.tm.kind=v.kind∧v.tm.int=v.int∧v.tm.name=v.name∧v.tm.args.map Tm.enc=v.kids.map V.enc:=by cases v<;>exact ⟨rfl,rfl,rfl,rfl⟩
  by_cases hi:(i:Int)=n
  ·have hw:v=w:=by
    have:n.toNat=i:=by omega
    rw [this,hv] at hat;exact Option.some.inj hat
   subst hw
   rw [V.enc_eq v]
   have hz:((0+i:Nat):Int)=n:=by omega
   refine rS_ Tryz.func108 ?_
   simp only [go_sem,seval,hlt,idx_of hxi,Bd.enc_eq,hz,hve.1,hve.2.1,hve.2.2.1,hve.2.2.2]
   repeat' (first
    | ((refine br_n (fun hq=>?_) (fun hq=>?_))<;>(try simp only [go_sem,seval,hlt,idx_of hxi,Bd.enc_eq,hz,hve.1,hve.2.1,hve.2.2.1,hve.2.2.2,hq]))
    | (simp (disch:=omega) only [wrap_ok])
    | fail)
   all_goals (exfalso;omega)
  ·have hz:¬((0+i:Nat):Int)=n:=by omega
   refine rS_ Tryz.func108 ?_
   simp only [go_sem,seval,hlt,idx_of hxi]
   repeat' (first
    | ((refine br_n (fun hq=>?_) (fun hq=>?_))<;>(try simp only [go_sem,seval,hlt,idx_of hxi,hq]))
    | (simp (disch:=omega) only [wrap_ok])
    | fail)
   ·exact absurd (by omega) hz
   ·exact hnext () _ (by omega) wk1_
 ·simp only [List.length_nil] at hinv
  omega
theorem l04Put_fn (vs:List V):∀v:V,(∀n,n∈v.vars→0≤n∧n<vs.length)→Gives Tryz.prog 87 [.sl (bdD vs),.agg v.enc] (.d (.agg (v.sub (valAt vs)).enc)):=by
 intro v
 induction v with
 | pair x y ihx ihy =>
  intro hq
  have hx:=ihx (fun n hn=>hq n (by simp [V.vars,hn]))
  have hy:=ihy (fun n hn=>hq n (by simp [V.vars,hn]))
  simp only [V.sub]
  refine aE_ Tryz.func87 ?_
  refine run_sound Tryz.func87 mixed 12 _ _ (by kernel_rfl) ?_
  simp only [go_sem,seval,run.eq_1,V.kind,V.int,V.kids]
  refine AW.drawA mixed #[true,true,true,true,true,true,true,true,true,true,true,true,true,false] [(0,.box ((V.pair x y).enc.map .d))] [] [0,1,2,3,4,6,7,8,9,10,5,11,12] [13] none (by kernel_rfl) trivial (by simp [holdsB]) ?_
  simp only [go_sem,seval,V.kind,V.int,V.kids]
  repeat' (first
   | ((first
    | (refine hx.calls rfl ?_)
    | (refine hy.calls rfl ?_)
    | (refine (l02Pair_fn _ _).calls rfl ?_))<;>(try simp only [go_sem,seval,V.kind,V.int,V.kids]))
   | fail)
  refine rS_ Tryz.func87 ?_
  simp only [go_sem,seval]
 | var n =>
  intro hq
  have hn:=hq n (by simp [V.vars])
  simp only [V.sub]
  refine aE_ Tryz.func87 ?_
  refine rS_ Tryz.func87 ?_
  simp only [go_sem,seval,V.kind,V.int,V.kids]
  repeat' (first
   | ((refine (l04Get_fn vs n hn.1 hn.2).calls rfl ?_)<;>(try simp only [go_sem,seval,V.kind,V.int,V.kids]))
   | fail)
 | _ =>
  intro hq
  simp only [V.sub]
  refine aE_ Tryz.func87 ?_
  refine rS_ Tryz.func87 ?_
  simp only [go_sem,seval,V.kind,V.int,V.kids]
theorem l13Put_fn (vs:List V):∀g:Gl,g.inst vs.length→Gives Tryz.prog 55 [.agg g.enc,.sl (bdD vs)] (.d (.agg (g.ins (valAt vs)).enc)):=by
 intro g
 induction g using Gl.ind' with
 | h g ih =>
  intro hg
  have hmx:maxLen=9223372036854775807:=rfl
  have hln:=Gl.shape_len hg.1
  have hit:=Gl.inst_terms hg
  have higs:=Gl.inst_goals hg
  have hR:(g.ins (valAt vs)).enc=[.int .i64 g.kind,.str g.name,.sl ((g.terms.map fun t=>t.V.sub (valAt vs)).map V.enc),.sl ((g.goals.map (Gl.ins (valAt vs))).map Gl.enc)]:=by
   rw [Gl.ins_eq,Gl.enc_eq]
   simp only [Gl.kind,Gl.name,Gl.terms,Gl.goals,List.map_map]
   rfl
  rw [hR]
  refine aE_ Tryz.func55 ?_
  refine run_sound Tryz.func55 mixed 5 _ _ (by kernel_rfl) ?_
  simp only [go_sem,seval,run.eq_1]
  refine AW.adoptGB 2 2 4 74 (by decide) rfl rfl ?_
  refine AW.adoptGB 2 3 4 52 (by decide) rfl rfl ?_
  refine rS_ Tryz.func55 ?_
  simp only [go_sem,seval]
  refine AW.rng g.terms [1,2,4,5,16,17] 18 16 (fun p:List V=>[]) (fun _ p=>[.box (g.enc.map .d),.box [.d (.int .i64 0),.d (.str []),.nil0,.nil0],.box [.d (.int .i64 g.kind),.d (.str g.name),.own 3 p.length,.own 4 0],.grow p.length 4 74 (p.map V.enc),.grow 0 4 52 []]) (fun r p=>p++r.map (fun t=>t.V.sub (valAt vs))=g.terms.map fun t=>t.V.sub (valAt vs)) [] rfl (by simp) rfl wk1_ (fun i x r p hxi hdr hlt hm hinv hnext=>?_) (fun p hinv=>?_)
  ·have hxm:=List.mem_of_getElem? hxi
   obtain ⟨he,hv⟩:=hit x hxm
   have hw:=l04Put_fn vs x.V (fun n hn=>by have:=hv n hn;omega)
   rw [←he] at hw
   have hpl:p.length+(r.length+1)=g.terms.length:=by have:=congrArg List.length hinv;simpa using this
   refine run_sound Tryz.func55 mixed 9 _ _ (by kernel_rfl) ?_
   simp only [go_sem,seval,run.eq_1,hlt,idx_of hxi]
   refine AW.drawA mixed #[true,true,true,true,true,true,true,false,false] [(2,.box [.d (.int .i64 g.kind),.d (.str g.name),.own 3 p.length,.own 4 0]),(5,.box (x.enc.map .d))] [] [0,1,2,3,4,5,6] [7,8] none (by kernel_rfl) trivial (by simp [holdsB]) ?_
   simp only [go_sem,seval]
   repeat' (first
    | ((first
     | (refine hw.calls rfl ?_)
     | (refine ⟨sd,?_⟩))<;>(try simp only [go_sem,seval]))
    | fail)
   refine rS_ Tryz.func55 ?_
   simp only [go_sem,seval]
   repeat' (first
    | (simp (disch:=omega) only [wrap_ok])
    | fail)
   refine hnext (p++[x.V.sub (valAt vs)]) _ (by rw [←hinv];simp) wk1_
  ·simp only [List.map_nil,List.append_nil] at hinv
   subst hinv
   generalize (g.terms.map fun t=>t.V.sub (valAt vs))=L
   refine rS_ Tryz.func55 ?_
   simp only [go_sem,seval]
   refine AW.rng g.goals [1,4,5,32,33] 34 32 (fun p:List Gl=>[]) (fun _ p=>[.box (g.enc.map .d),.box [.d (.int .i64 0),.d (.str []),.nil0,.nil0],.box [.d (.int .i64 g.kind),.d (.str g.name),.own 3 L.length,.own 4 p.length],.grow L.length 4 74 (L.map V.enc),.grow p.length 4 52 (p.map Gl.enc)]) (fun r p=>p++r.map (Gl.ins (valAt vs))=g.goals.map (Gl.ins (valAt vs))) [] rfl (by simp) rfl wk1_ (fun i x r p hxi hdr hlt hm hinv hnext=>?_) (fun p hinv=>?_)
   ·have hxm:=List.mem_of_getElem? hxi
    have hw:=ih x hxm (higs x hxm)
    have hpl:p.length+(r.length+1)=g.goals.length:=by have:=congrArg List.length hinv;simpa using this
    refine run_sound Tryz.func55 mixed 9 _ _ (by kernel_rfl) ?_
    simp only [go_sem,seval,run.eq_1,hlt,idx_of hxi]
    refine AW.drawA mixed #[true,true,true,true,true,true,true,false,false] [(2,.box [.d (.int .i64 g.kind),.d (.str g.name),.own 3 L.length,.own 4 p.length]),(5,.box (x.enc.map .d))] [] [0,1,2,3,4,5,6] [7,8] none (by kernel_rfl) trivial (by simp [holdsB]) ?_
    simp only [go_sem,seval]
    repeat' (first
     | ((first
      | (refine hw.calls rfl ?_)
      | (refine ⟨sd,?_⟩))<;>(try simp only [go_sem,seval]))
     | fail)
    refine rS_ Tryz.func55 ?_
    simp only [go_sem,seval]
    repeat' (first
     | (simp (disch:=omega) only [wrap_ok])
     | fail)
    refine hnext (p++[x.ins (valAt vs)]) _ (by rw [←hinv];simp) wk1_
   ·simp only [List.map_nil,List.append_nil] at hinv
    subst hinv
    refine rS_ Tryz.func55 ?_
    simp only [go_sem,seval]
theorem testV_hiS {f:Int→V} {g:Gl} (h:7≤g.kind):g.testV f=false:=by
 unfold Gl.testV
 split<;>first | rfl | omega
theorem l13TestV_fn (g:Gl) (f:Int→V) (hs:g.shape=true):Gives Tryz.prog 56 [.agg (g.ins f).enc] (.d (.bool (g.testV f))):=by
 have hR:(g.ins f).enc=[.int .i64 g.kind,.str g.name,.sl ((g.terms.map fun t=>t.V.sub f).map V.enc),.sl ((g.goals.map (Gl.ins f)).map Gl.enc)]:=by
  rw [Gl.ins_eq,Gl.enc_eq]
  simp only [Gl.kind,Gl.name,Gl.terms,Gl.goals,List.map_map]
  rfl
 rw [hR]
 generalize (g.goals.map (Gl.ins f)).map Gl.enc=GS
 rcases Gl.shape_cases hs with ⟨hkk,ht⟩ | ⟨hkk,a,b,ht,ha,hb⟩ | ⟨hkk,a,ht,ha⟩ | h7
 ·have hL:(g.terms.map fun t=>t.V.sub f)=[]:=by rw [ht];rfl
  rcases hkk with hkk | hkk
  ·have hT:g.testV f=true:=by simp [Gl.testV,hkk]
   rw [hT]
   refine aE_ Tryz.func56 ?_
   refine rS_ Tryz.func56 ?_
   simp only [go_sem,seval,hkk,hL]
   all_goals first | rfl | (exfalso;omega) | (simp_all;done) | (simp_all;omega)
  ·have hT:g.testV f=false:=by simp [Gl.testV,hkk]
   rw [hT]
   refine aE_ Tryz.func56 ?_
   refine rS_ Tryz.func56 ?_
   simp only [go_sem,seval,hkk,hL]
   all_goals first | rfl | (exfalso;omega) | (simp_all;done) | (simp_all;omega)
 ·have hL:(g.terms.map fun t=>t.V.sub f)=[a.V.sub f,b.V.sub f]:=by rw [ht];rfl
  rcases hkk with hkk | hkk | hkk
  ·have hT:g.testV f=decide ((a.V.sub f).cmp (b.V.sub f)=0):=by simp [Gl.testV,hkk,ht]
   rw [hT]
   refine aE_ Tryz.func56 ?_
   refine rS_ Tryz.func56 ?_
   simp only [go_sem,seval,hkk,hL]
   repeat' (first
    | ((refine (l02Same_fn _ _).callQ rfl ?_)<;>(try simp only [go_sem,seval,hkk,hL]))
    | fail)
   all_goals first | rfl | (exfalso;omega) | (simp_all;done) | (simp_all;omega)
  ·have hT:g.testV f=!decide ((a.V.sub f).cmp (b.V.sub f)=0):=by simp [Gl.testV,hkk,ht]
   rw [hT]
   refine aE_ Tryz.func56 ?_
   refine rS_ Tryz.func56 ?_
   simp only [go_sem,seval,hkk,hL]
   repeat' (first
    | ((refine (l02Same_fn _ _).callQ rfl ?_)<;>(try simp only [go_sem,seval,hkk,hL]))
    | fail)
   all_goals first | rfl | (exfalso;omega) | (simp_all;done) | (simp_all;omega)
  ·have hT:g.testV f=!(b.V.sub f).has (a.V.sub f).name:=by simp [Gl.testV,hkk,ht]
   rw [hT]
   refine aE_ Tryz.func56 ?_
   refine rS_ Tryz.func56 ?_
   simp only [go_sem,seval,hkk,hL]
   repeat' (first
    | ((refine (l10Contains_fn _ _).callQ rfl ?_)<;>(try simp only [go_sem,seval,hkk,hL]))
    | fail)
   all_goals first | rfl | (exfalso;omega) | (simp_all;done) | (simp_all;omega)
 ·have hL:(g.terms.map fun t=>t.V.sub f)=[a.V.sub f]:=by rw [ht];rfl
  rcases hkk with hkk | hkk
  ·have hT:g.testV f=decide ((a.V.sub f).kind=2):=by simp [Gl.testV,hkk,ht]
   rw [hT]
   refine aE_ Tryz.func56 ?_
   refine rS_ Tryz.func56 ?_
   simp only [go_sem,seval,hkk,hL]
   all_goals first | rfl | (exfalso;omega) | (simp_all;done) | (simp_all;omega)
  ·have hT:g.testV f=decide ((a.V.sub f).kind=3):=by simp [Gl.testV,hkk,ht]
   rw [hT]
   refine aE_ Tryz.func56 ?_
   refine rS_ Tryz.func56 ?_
   simp only [go_sem,seval,hkk,hL]
   all_goals first | rfl | (exfalso;omega) | (simp_all;done) | (simp_all;omega)
 ·rw [testV_hiS h7]
  refine aE_ Tryz.func56 ?_
  refine rS_ Tryz.func56 ?_
  simp only [go_sem,seval]
  repeat' (first
   | ((first | (refine br_n (fun hq=>?_) (fun hq=>?_)) | (refine idx_intro (fun x hx=>have hq:=hx;?_)))<;>(try simp only [go_sem,seval,hq]))
   | ((first
    | (refine (l02Same_fn _ _).callQ rfl ?_)
    | (refine (l10Contains_fn _ _).callQ rfl ?_)
    | (refine ⟨sd,?_⟩))<;>(try simp only [go_sem,seval]))
   | fail)
  all_goals first | rfl | (exfalso;omega)
end Go.Proofs.YthilkmjkgpdngaaGreat

import Derived.Test.YtehcdhelbkjaeaaGreatDoorW4
import Derived.Test.YtehcdhelbkjaeaaGreatDoorA7
import Derived.Test.YtehcdhelbkjaeaaGreatDoorP2
import Derived.Test.YtehcdhelbkjaeaaGreatDoorW6
import Derived.Test.YtehcdhelbkjaeaaGreatDoorW9
import Derived.Test.YtehcdhelbkjaeaaGreatDoorA8
import Derived.Test.YtehcdhelbkjaeaaGreatDoorP5
open List renaming append_assoc→a_,mem_of_getElem?→b_
namespace Go.Proofs.YtehcdhelbkjaeaaGreatDoor
open Go.Abs
set_option maxRecDepth 100000
set_option maxHeartbeats 4000000
set_option linter.unusedSimpArgs false
set_option linter.unusedVariables false
def cpT (t:V):Prop:=ACalls Tryz.prog 155 [.d (.agg t.enc)] [.hole] fun c H'=>c=.agg [.d (.int .i64 t.kind),.d (.int .i64 t.int),.d (.str t.name),.own 0 1]∧∃e B,H'=[.tree 1 4 e (t.kids.map V.enc) B none]
theorem copyTerm_T:∀t:V,cpT t:=by
 intro t
 induction t with
 | pair x y ihx ihy =>
  unfold cpT
  refine aE_ Tryz.func155 ?_
  refine AW.hole ?_
  refine AW.hole ?_
  refine run_sound Tryz.func155 mixed 8 _ _ (by kernel_rfl) ?_
  simp only [go_sem,seval,run.eq_1,V.kind,V.int,V.kids]
  all_goals first | (exact absurd hq (by decide)) | skip
  have hk:(V.pair x y).kids=[x,y]:=rfl
  refine AW.drawA mixed #[true,true,true,true,true,true,true,true,true,true,true,true,false] [(3,.box ((V.pair x y).enc.map .d))] [] [0,1,2,3,5,6,7,8,4,9,10,11] [12] none (by kernel_rfl) trivial (by simp [holdsB]) ?_
  simp only [go_sem,seval,hk]
  repeat' (first
   | ((first
    | (refine ACalls.fresh (ds:=[.agg x.enc]) (m:=1) ihx [1] rfl rfl (by simp) (by simp) ?_<;>(rintro c H' ⟨rfl,e1,B1,rfl⟩ _;refine ⟨rfl,rfl,?_⟩))
    | (refine ACalls.fresh (ds:=[.agg y.enc]) (m:=1) ihy [2] rfl rfl (by simp) (by simp) ?_<;>(rintro c H' ⟨rfl,e2,B2,rfl⟩ _;refine ⟨rfl,rfl,?_⟩))
    | (refine all_intro (fun Bz=>?_)))<;>(try simp only [go_sem,seval,hk]))
   | fail)
  refine AW.placeB 4 3 5 0 rfl rfl rfl rfl (by decide) ?_
  refine rS_ Tryz.func155 ?_
  simp only [go_sem,seval]
  refine ⟨rfl,89,Bz,?_⟩
  rw [V.enc_eq x,V.enc_eq y]
 | nil =>
  unfold cpT
  refine aE_ Tryz.func155 ?_
  refine run_sound Tryz.func155 mixed 8 _ _ (by kernel_rfl) ?_
  simp only [go_sem,seval,run.eq_1,V.kind,V.int,V.kids]
  all_goals first | (exact absurd hq (by decide)) | skip
  refine AW.adoptTB 2 3 4 0 (by decide) rfl rfl ?_
  refine AW.placeB 2 3 3 0 rfl rfl rfl rfl (by decide) ?_
  refine rS_ Tryz.func155 ?_
  simp only [go_sem,seval]
  exact ⟨_,_,rfl⟩
 | var n =>
  unfold cpT
  refine aE_ Tryz.func155 ?_
  refine run_sound Tryz.func155 mixed 8 _ _ (by kernel_rfl) ?_
  simp only [go_sem,seval,run.eq_1,V.kind,V.int,V.kids]
  all_goals first | (exact absurd hq (by decide)) | skip
  refine AW.adoptTB 2 3 4 0 (by decide) rfl rfl ?_
  refine AW.placeB 2 3 3 0 rfl rfl rfl rfl (by decide) ?_
  refine rS_ Tryz.func155 ?_
  simp only [go_sem,seval]
  exact ⟨_,_,rfl⟩
 | sym s =>
  unfold cpT
  refine aE_ Tryz.func155 ?_
  refine run_sound Tryz.func155 mixed 8 _ _ (by kernel_rfl) ?_
  simp only [go_sem,seval,run.eq_1,V.kind,V.int,V.kids]
  all_goals first | (exact absurd hq (by decide)) | skip
  refine AW.adoptTB 2 3 4 0 (by decide) rfl rfl ?_
  refine AW.placeB 2 3 3 0 rfl rfl rfl rfl (by decide) ?_
  refine rS_ Tryz.func155 ?_
  simp only [go_sem,seval]
  exact ⟨_,_,rfl⟩
 | num n =>
  unfold cpT
  refine aE_ Tryz.func155 ?_
  refine run_sound Tryz.func155 mixed 8 _ _ (by kernel_rfl) ?_
  simp only [go_sem,seval,run.eq_1,V.kind,V.int,V.kids]
  all_goals first | (exact absurd hq (by decide)) | skip
  refine AW.adoptTB 2 3 4 0 (by decide) rfl rfl ?_
  refine AW.placeB 2 3 3 0 rfl rfl rfl rfl (by decide) ?_
  refine rS_ Tryz.func155 ?_
  simp only [go_sem,seval]
  exact ⟨_,_,rfl⟩
theorem copyTerm_fn (v:V):Gives Tryz.prog 155 [.agg v.enc] (.d (.agg v.enc)):=by
 have h:=copyTerm_T v
 unfold cpT at h
 refine ACalls.frozen (ds:=[.agg v.enc]) (m:=1) h (fun c H' ⟨h1,e,B,h2⟩ _=>?_)
 subst h1 h2
 rw [V.enc_eq v];rfl
theorem pair_fn (a b:V):Gives Tryz.prog 106 [.agg a.enc,.agg b.enc] (.d (.agg (V.pair a b).enc)):=by
 rw [V.enc_pair]
 refine aE_ Tryz.func106 ?_
 refine rS_ Tryz.func106 ?_
 simp only [go_sem,seval]
theorem mapVars_fn {g:FuncId} {caps:List C} {m:Nat} {H:List O} {Q:Int→Prop} {fv:Int→V} (h:CloR Tryz.prog g caps m (fun n:Int=>D.int .i64 n) H Q (fun n=>.tup [.d (.agg (fv n).enc),.d (.bool true)])) :
  ∀v:V,(∀n,n∈v.vars→Q n)→ACalls Tryz.prog 143 [.d (.agg v.enc),.fn g caps] H (fun c H'=>c=.d (.agg (v.sub fv).enc)∧H'=H):=by
 intro v
 induction v with
 | pair x y ihx ihy =>
  intro hq
  have hx:=ihx (fun n hn=>hq n (by simp [V.vars,hn]))
  have hy:=ihy (fun n hn=>hq n (by simp [V.vars,hn]))
  simp only [V.sub]
  refine aE_ Tryz.func143 ?_
  refine run_sound Tryz.func143 mixed 13 _ _ (by kernel_rfl) ?_
  simp only [go_sem,seval,run.eq_1,h.len,h.go,h.at0,h.atj,h.set0,h.setj,h.tk,h.tk0,h.tkj,h.refs,h.refsj,h.hcaps,h.capsj,a_,V.kind,V.int,V.kids]
  refine AW.drawA mixed #[true,true,true,true,true,true,true,true,true,true,true,true,true,false] [(m,.box ((V.pair x y).enc.map .d))] [] [0,1,2,3,4,6,7,8,9,10,5,11,12] [13] none (by kernel_rfl) trivial (by simp [holdsB,h.at0]) ?_
  simp only [go_sem,seval,h.len,h.go,h.at0,h.atj,h.set0,h.setj,h.tk,h.tk0,h.tkj,h.refs,h.refsj,h.hcaps,h.capsj,a_,V.kind,V.int,V.kids]
  repeat' (first
   | ((first
    | (refine h.sub hx ?_)
    | (refine h.sub hy ?_)
    | (refine (pair_fn _ _).calls rfl ?_))<;>(try simp only [go_sem,seval,h.len,h.go,h.at0,h.atj,h.set0,h.setj,h.tk,h.tk0,h.tkj,h.refs,h.refsj,h.hcaps,h.capsj,a_,V.kind,V.int,V.kids]))
   | fail)
  refine rS_ Tryz.func143 ?_
  simp only [go_sem,seval,h.len,h.go,h.at0,h.atj,h.set0,h.setj,h.tk,h.tk0,h.tkj,h.refs,h.refsj,h.hcaps,h.capsj,a_]
 | var n =>
  intro hq
  have hn:=hq n (by simp [V.vars])
  simp only [V.sub]
  refine aE_ Tryz.func143 ?_
  refine rS_ Tryz.func143 ?_
  simp only [go_sem,seval,h.len,h.go,h.at0,h.atj,h.set0,h.setj,h.tk,h.tk0,h.tkj,h.refs,h.refsj,h.hcaps,h.capsj,a_,V.kind,V.int,V.kids]
  repeat' (first
   | ((first
    | (refine h.on hn ?_)
    | (refine (copyTerm_fn _).calls rfl ?_))<;>(try simp only [go_sem,seval,h.len,h.go,h.at0,h.atj,h.set0,h.setj,h.tk,h.tk0,h.tkj,h.refs,h.refsj,h.hcaps,h.capsj,a_,V.kind,V.int,V.kids]))
   | fail)
 | _ =>
  intro hq
  simp only [V.sub]
  refine aE_ Tryz.func143 ?_
  refine rS_ Tryz.func143 ?_
  simp only [go_sem,seval,h.len,h.go,h.at0,h.atj,h.set0,h.setj,h.tk,h.tk0,h.tkj,h.refs,h.refsj,h.hcaps,h.capsj,a_,V.kind,V.int,V.kids]
theorem with1_clo (tb:List D) (vs:List V):CloR Tryz.prog 144 [.ptr 1 0] 3 (fun n:Int=>D.int .i64 n) [.box (tb.map .d),.box [.d (.sl (vs.map V.enc))],.box [.d (.int .i64 0),.d (.int .i64 0),.d (.str []),.nil0]] (fun n=>0≤n∧n<vs.length) (fun n=>.tup [.d (.agg (valAt vs n).enc),.d (.bool true)]):=by
 have e1:=fun n (h:0≤n∧n<(vs.length:Int))=>valAt_at h.1 h.2
 refine ⟨by kernel_rfl,rfl,rfl,by simp only [List.all_cons,List.all_nil,O.refsLt,all_dmap,C.refsLt,C.refsLt1];rfl,fun n hn=>?_⟩
 have hat:(vs.map V.enc)[n.toNat]? = some (valAt vs n).enc:=by rw [List.getElem?_map,e1 n hn];rfl
 have hl:=hn.2
 have h0:=hn.1
 refine aE_ Tryz.func144 ?_
 refine rS_ Tryz.func144 ?_
 simp only [go_sem,seval,idx_of hat]
 repeat' (first
  | ((refine ⟨sd,?_⟩)<;>(try simp only [go_sem,seval,idx_of hat]))
  | fail)
 all_goals simp only [all_dmap]
theorem with_fn (v:V) (vs:List V) (hv:∀n,n∈v.vars→0≤n∧n<vs.length):Gives Tryz.prog 118 [.agg v.enc,.sl (vs.map V.enc)] (.d (.agg (v.sub (valAt vs)).enc)):=by
 have e1:=mapVars_fn (with1_clo v.enc vs) v (fun n hn=>by have:=hv n hn;omega)
 refine aE_ Tryz.func118 ?_
 refine rS_ Tryz.func118 ?_
 simp only [go_sem,seval]
 repeat' (first
  | ((refine ACalls.mono e1 ?_<;>(rintro c H' ⟨rfl,rfl⟩))<;>(try simp only [go_sem,seval]))
  | fail)
theorem callFact_fn (g:Gl) (vs:List V) (hg:g.inst vs.length):Gives Tryz.prog 80 [.agg g.enc,.sl (vs.map V.enc)] (.d (.agg (FcV.fc (g.callV (valAt vs))).enc)):=by
 have hmx:maxLen=9223372036854775807:=rfl
 have hln:=(Gl.shape_len hg.1).1
 have hit:=Gl.inst_terms hg
 have hR:(FcV.fc (g.callV (valAt vs))).enc=[.str g.name,.sl ((g.terms.map fun t=>t.V.sub (valAt vs)).map V.enc)]:=by rw [Fc.enc_eq];simp only [FcV.fc,Gl.callV,enc_tms]
 rw [hR]
 refine aE_ Tryz.func80 ?_
 refine run_sound Tryz.func80 mixed 5 _ _ (by kernel_rfl) ?_
 simp only [go_sem,seval,run.eq_1]
 refine AW.adoptGB 2 1 4 89 (by decide) rfl rfl ?_
 refine rS_ Tryz.func80 ?_
 simp only [go_sem,seval]
 refine AW.rng g.terms [1,4,5,12,13] 14 12 (fun p:List V=>[]) (fun _ p=>[.box (g.enc.map .d),.box [.d (.str []),.nil0],.box [.d (.str g.name),.own 3 p.length],.grow p.length 4 89 (p.map V.enc)]) (fun r p=>p++r.map (fun t=>t.V.sub (valAt vs))=g.terms.map fun t=>t.V.sub (valAt vs)) [] rfl (by simp) rfl wk1_ (fun i x r p hxi hdr hlt hm hinv hnext=>?_) (fun p hinv=>?_)
 ·have hxm:=b_ hxi
  obtain ⟨he,hv⟩:=hit x hxm
  have hw:=with_fn x.V vs (fun n hn=>by have:=hv n hn;omega)
  rw [←he] at hw
  have hpl:p.length+(r.length+1)=g.terms.length:=by have:=congrArg List.length hinv;simpa using this
  refine run_sound Tryz.func80 mixed 9 _ _ (by kernel_rfl) ?_
  simp only [go_sem,seval,run.eq_1,hlt,idx_of hxi]
  refine AW.drawA mixed #[true,true,true,true,true,true,true,false,false] [(2,.box [.d (.str g.name),.own 3 p.length]),(4,.box (x.enc.map .d))] [] [0,1,2,3,4,5,6] [7,8] none (by kernel_rfl) trivial (by simp [holdsB]) ?_
  simp only [go_sem,seval]
  repeat' (first
   | ((first
    | (refine hw.calls rfl ?_)
    | (refine ⟨sd,?_⟩))<;>(try simp only [go_sem,seval]))
   | fail)
  refine rS_ Tryz.func80 ?_
  simp only [go_sem,seval]
  repeat' (first
   | (simp (disch:=omega) only [wrap_ok])
   | fail)
  refine hnext (p++[x.V.sub (valAt vs)]) _ (by rw [←hinv];simp) wk1_
 ·simp only [List.map_nil,List.append_nil] at hinv
  rw [←hinv]
  refine rS_ Tryz.func80 ?_
  simp only [go_sem,seval]
theorem testV_hi {f:Int→V} {g:Gl} (h:7≤g.kind):g.testV f=false:=by
 unfold Gl.testV
 split<;>first | rfl | omega
theorem trueWith_fn (g:Gl) (vs:List V) (hg:g.inst vs.length):Gives Tryz.prog 81 [.agg g.enc,.sl (vs.map V.enc)] (.d (.bool (g.testV (valAt vs)))):=by
 have hmx:maxLen=9223372036854775807:=rfl
 have hln:=(Gl.shape_len hg.1).1
 have hit:=Gl.inst_terms hg
 refine aE_ Tryz.func81 ?_
 refine run_sound Tryz.func81 mixed 5 _ _ (by kernel_rfl) ?_
 simp only [go_sem,seval,run.eq_1]
 refine AW.adoptGB 1 2 4 89 (by decide) rfl rfl ?_
 refine rS_ Tryz.func81 ?_
 simp only [go_sem,seval]
 refine AW.rng g.terms [1,2,5,12,13] 14 12 (fun p:List V=>[]) (fun _ p=>[.box (g.enc.map .d),.box [.d (.int .i64 g.kind),.d (.str []),.own 2 p.length,.nil0],.grow p.length 4 89 (p.map V.enc)]) (fun r p=>p++r.map (fun t=>t.V.sub (valAt vs))=g.terms.map fun t=>t.V.sub (valAt vs)) [] rfl (by simp) rfl wk1_ (fun i x r p hxi hdr hlt hm hinv hnext=>?_) (fun p hinv=>?_)
 ·have hxm:=b_ hxi
  obtain ⟨he,hv⟩:=hit x hxm
  have hw:=with_fn x.V vs (fun n hn=>by have:=hv n hn;omega)
  rw [←he] at hw
  have hpl:p.length+(r.length+1)=g.terms.length:=by have:=congrArg List.length hinv;simpa using this
  refine run_sound Tryz.func81 mixed 9 _ _ (by kernel_rfl) ?_
  simp only [go_sem,seval,run.eq_1,hlt,idx_of hxi]
  refine AW.drawA mixed #[true,true,true,true,true,true,true,false,false] [(1,.box [.d (.int .i64 g.kind),.d (.str []),.own 2 p.length,.nil0]),(3,.box (x.enc.map .d))] [] [0,1,2,3,4,5,6] [7,8] none (by kernel_rfl) trivial (by simp [holdsB]) ?_
  simp only [go_sem,seval]
  repeat' (first
   | ((first
    | (refine hw.calls rfl ?_)
    | (refine ⟨sd,?_⟩))<;>(try simp only [go_sem,seval]))
   | fail)
  refine rS_ Tryz.func81 ?_
  simp only [go_sem,seval]
  repeat' (first
   | (simp (disch:=omega) only [wrap_ok])
   | fail)
  refine hnext (p++[x.V.sub (valAt vs)]) _ (by rw [←hinv];simp) wk1_
 ·simp only [List.map_nil,List.append_nil] at hinv
  subst hinv
  rcases Gl.shape_cases hg.1 with ⟨hkk,ht⟩ | ⟨hkk,a,b,ht,ha,hb⟩ | ⟨hkk,a,ht,ha⟩ | h7
  ·have hL:(g.terms.map fun t=>t.V.sub (valAt vs))=[]:=by rw [ht];rfl
   rcases hkk with hkk | hkk
   ·have hT:g.testV (valAt vs)=true:=by simp [Gl.testV,hkk]
    rw [hT]
    refine rS_ Tryz.func81 ?_
    simp only [go_sem,seval,hkk,hL]
    all_goals first | rfl | (exfalso;omega) | (simp_all;done) | (simp_all;omega)
   ·have hT:g.testV (valAt vs)=false:=by simp [Gl.testV,hkk]
    rw [hT]
    refine rS_ Tryz.func81 ?_
    simp only [go_sem,seval,hkk,hL]
    all_goals first | rfl | (exfalso;omega) | (simp_all;done) | (simp_all;omega)
  ·have hL:(g.terms.map fun t=>t.V.sub (valAt vs))=[a.V.sub (valAt vs),b.V.sub (valAt vs)]:=by rw [ht];rfl
   rcases hkk with hkk | hkk | hkk
   ·have hT:g.testV (valAt vs)=decide ((a.V.sub (valAt vs)).cmp (b.V.sub (valAt vs))=0):=by simp [Gl.testV,hkk,ht]
    rw [hT]
    refine rS_ Tryz.func81 ?_
    simp only [go_sem,seval,hkk,hL]
    repeat' (first
     | ((refine (equalTerms_fn _ _).callQ rfl ?_)<;>(try simp only [go_sem,seval,hkk,hL]))
     | fail)
    all_goals first | rfl | (exfalso;omega) | (simp_all;done) | (simp_all;omega)
   ·have hT:g.testV (valAt vs)=!decide ((a.V.sub (valAt vs)).cmp (b.V.sub (valAt vs))=0):=by simp [Gl.testV,hkk,ht]
    rw [hT]
    refine rS_ Tryz.func81 ?_
    simp only [go_sem,seval,hkk,hL]
    repeat' (first
     | ((refine (equalTerms_fn _ _).callQ rfl ?_)<;>(try simp only [go_sem,seval,hkk,hL]))
     | fail)
    all_goals first | rfl | (exfalso;omega) | (simp_all;done) | (simp_all;omega)
   ·have hT:g.testV (valAt vs)=!(b.V.sub (valAt vs)).has (a.V.sub (valAt vs)).name:=by simp [Gl.testV,hkk,ht]
    rw [hT]
    refine rS_ Tryz.func81 ?_
    simp only [go_sem,seval,hkk,hL]
    repeat' (first
     | ((refine (hasSymbol_fn _ _).callQ rfl ?_)<;>(try simp only [go_sem,seval,hkk,hL]))
     | fail)
    all_goals first | rfl | (exfalso;omega) | (simp_all;done) | (simp_all;omega)
  ·have hL:(g.terms.map fun t=>t.V.sub (valAt vs))=[a.V.sub (valAt vs)]:=by rw [ht];rfl
   rcases hkk with hkk | hkk
   ·have hT:g.testV (valAt vs)=decide ((a.V.sub (valAt vs)).kind=2):=by simp [Gl.testV,hkk,ht]
    rw [hT]
    refine rS_ Tryz.func81 ?_
    simp only [go_sem,seval,hkk,hL]
    all_goals first | rfl | (exfalso;omega) | (simp_all;done) | (simp_all;omega)
   ·have hT:g.testV (valAt vs)=decide ((a.V.sub (valAt vs)).kind=3):=by simp [Gl.testV,hkk,ht]
    rw [hT]
    refine rS_ Tryz.func81 ?_
    simp only [go_sem,seval,hkk,hL]
    all_goals first | rfl | (exfalso;omega) | (simp_all;done) | (simp_all;omega)
  ·rw [testV_hi h7]
   refine rS_ Tryz.func81 ?_
   simp only [go_sem,seval]
   repeat' (first
    | ((first | (refine br_n (fun hq=>?_) (fun hq=>?_)) | (refine idx_intro (fun x hx=>have hq:=hx;?_)))<;>(try simp only [go_sem,seval,hq]))
    | ((first
     | (refine (equalTerms_fn _ _).callQ rfl ?_)
     | (refine (hasSymbol_fn _ _).callQ rfl ?_)
     | (refine ⟨sd,?_⟩))<;>(try simp only [go_sem,seval]))
    | fail)
   all_goals first | rfl | (exfalso;omega)
theorem proofFact_fn (p:Pg) (hok:pgOk p=true) (t:Pf) (ht:p.prf t=true):Gives Tryz.prog 79 [.agg p.enc,.agg t.enc] (.d (.agg (FcV.fc (p.headV t.rel t.values)).enc)):=by
 obtain ⟨h0,r,hr,hl,hg,hh⟩:=Pg.prf_head ht
 obtain ⟨_,ha,hb,_⟩:=Pg.body_inst hok (b_ hr) (m:=t.values.length) hl
 have hR:(FcV.fc (p.headV t.rel t.values)).enc=[.str t.rel,.sl ((t.values.take r.arity.toNat).map Tm.enc)]:=by
  rw [Fc.enc_eq,hh]
  simp only [FcV.fc,List.map_take]
  rw [←grounds_V hg]
 rw [hR]
 have hre:(p.rels.map Rl.enc)[(p.find t.rel).toNat]? = some r.enc:=by simp [hr]
 have hrel:=relation_fn p t.rel
 have hrg:=Pg.find_range p t.rel
 generalize p.find t.rel=f at *
 refine aE_ Tryz.func79 ?_
 refine run_sound Tryz.func79 mixed 3 _ _ (by kernel_rfl) ?_
 simp only [go_sem,seval,run.eq_1]
 refine AW.drawA mixed #[true,true,true,true,true,true,true,true,true,true,true,true,true,true,true,false] [(0,.box (p.enc.map .d)),(1,.box (t.enc.map .d))] [] [0,1,2,3,4,5,6,7,8,9,10,11,12,13,14] [15] none (by kernel_rfl) trivial (by simp [holdsB]) ?_
 simp only [go_sem,seval,idx_of hre]
 repeat' (first
  | ((refine idx_intro (fun x hx=>have hq:=hx;?_))<;>(try simp only [go_sem,seval,idx_of hre,hq]))
  | ((first
   | (refine hrel.calls rfl ?_)
   | (refine ⟨sd,?_⟩))<;>(try simp only [go_sem,seval,idx_of hre]))
  | fail)
 obtain rfl:r=x:=by rw [hr] at hx;exact Option.some.inj hx
 refine ⟨ha,by omega,?_⟩
 refine rS_ Tryz.func79 ?_
 simp only [go_sem,seval]
end Go.Proofs.YtehcdhelbkjaeaaGreatDoor

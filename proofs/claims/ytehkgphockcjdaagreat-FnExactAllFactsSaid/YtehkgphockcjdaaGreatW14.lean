import Derived.Test.YtehkgphockcjdaaGreatW4
import Derived.Test.YtehkgphockcjdaaGreatA7
import Derived.Test.YtehkgphockcjdaaGreatP2
namespace Go.Proofs.YtehkgphockcjdaaGreat
open Go.Abs
set_option maxRecDepth 100000
set_option maxHeartbeats 4000000
set_option linter.unusedSimpArgs false
set_option linter.unusedVariables false
def cpT (t:V):Prop:=ACalls Tryz.prog 31 [.d (.agg t.enc)] [.hole] fun c H'=>c=.agg [.d (.int .i64 t.kind),.d (.int .i64 t.int),.d (.str t.name),.own 0 1]∧∃e B,H'=[.tree 1 4 e (t.kids.map V.enc) B none]
theorem copyTerm_T:∀t:V,cpT t:=by
 intro t
 induction t with
 | pair x y ihx ihy =>
  unfold cpT
  refine aE_ Tryz.func31 ?_
  refine AW.hole ?_
  refine AW.hole ?_
  refine run_sound Tryz.func31 mixed 8 _ _ (by kernel_rfl) ?_
  simp only [go_sem,seval,run.eq_1,V.kind,V.int,V.kids]
  all_goals first | (exact absurd hq (by decide)) | skip
  have hk:(V.pair x y).kids=[x,y]:=rfl
  refine AW.drawA mixed #[true,true,true,true,true,true,true,true,true,true,true,true,false] [(3,.box ((V.pair x y).enc.map .d))] [] [0,1,2,3,5,6,7,8,4,9,10,11] [12] none (by kernel_rfl) trivial (by simp [holdsB]) ?_
  simp only [go_sem,seval,hk]
  repeat' (first
   | ((first
    | (refine ACalls.fresh (ds:=[.agg x.enc]) (m:=1) ihx [1] rfl rfl (by simp) (by simp) ?_<;>(rintro c H' ⟨rfl,e1,B1,rfl⟩ _;refine ⟨rfl,rfl,?_⟩))
    | (refine ACalls.fresh (ds:=[.agg y.enc]) (m:=1) ihy [2] rfl rfl (by simp) (by simp) ?_<;>(rintro c H' ⟨rfl,e2,B2,rfl⟩ _;refine ⟨rfl,rfl,?_⟩))
    | (refine all_intro (fun Bz=>?_)))<;>(try simp only [go_sem,seval,hk]))
   | fail)
  refine AW.placeB 4 3 5 0 rfl rfl rfl rfl (by decide) ?_
  refine rS_ Tryz.func31 ?_
  simp only [go_sem,seval]
  refine ⟨rfl,62,Bz,?_⟩
  rw [V.enc_eq x,V.enc_eq y]
 | nil =>
  unfold cpT
  refine aE_ Tryz.func31 ?_
  refine run_sound Tryz.func31 mixed 8 _ _ (by kernel_rfl) ?_
  simp only [go_sem,seval,run.eq_1,V.kind,V.int,V.kids]
  all_goals first | (exact absurd hq (by decide)) | skip
  refine AW.adoptTB 2 3 4 0 (by decide) rfl rfl ?_
  refine AW.placeB 2 3 3 0 rfl rfl rfl rfl (by decide) ?_
  refine rS_ Tryz.func31 ?_
  simp only [go_sem,seval]
  exact ⟨_,_,rfl⟩
 | var n =>
  unfold cpT
  refine aE_ Tryz.func31 ?_
  refine run_sound Tryz.func31 mixed 8 _ _ (by kernel_rfl) ?_
  simp only [go_sem,seval,run.eq_1,V.kind,V.int,V.kids]
  all_goals first | (exact absurd hq (by decide)) | skip
  refine AW.adoptTB 2 3 4 0 (by decide) rfl rfl ?_
  refine AW.placeB 2 3 3 0 rfl rfl rfl rfl (by decide) ?_
  refine rS_ Tryz.func31 ?_
  simp only [go_sem,seval]
  exact ⟨_,_,rfl⟩
 | sym s =>
  unfold cpT
  refine aE_ Tryz.func31 ?_
  refine run_sound Tryz.func31 mixed 8 _ _ (by kernel_rfl) ?_
  simp only [go_sem,seval,run.eq_1,V.kind,V.int,V.kids]
  all_goals first | (exact absurd hq (by decide)) | skip
  refine AW.adoptTB 2 3 4 0 (by decide) rfl rfl ?_
  refine AW.placeB 2 3 3 0 rfl rfl rfl rfl (by decide) ?_
  refine rS_ Tryz.func31 ?_
  simp only [go_sem,seval]
  exact ⟨_,_,rfl⟩
 | num n =>
  unfold cpT
  refine aE_ Tryz.func31 ?_
  refine run_sound Tryz.func31 mixed 8 _ _ (by kernel_rfl) ?_
  simp only [go_sem,seval,run.eq_1,V.kind,V.int,V.kids]
  all_goals first | (exact absurd hq (by decide)) | skip
  refine AW.adoptTB 2 3 4 0 (by decide) rfl rfl ?_
  refine AW.placeB 2 3 3 0 rfl rfl rfl rfl (by decide) ?_
  refine rS_ Tryz.func31 ?_
  simp only [go_sem,seval]
  exact ⟨_,_,rfl⟩
end Go.Proofs.YtehkgphockcjdaaGreat

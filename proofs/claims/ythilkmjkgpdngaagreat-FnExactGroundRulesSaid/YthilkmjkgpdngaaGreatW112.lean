import Derived.Test.YthilkmjkgpdngaaGreatW107
import Derived.Test.YthilkmjkgpdngaaGreatW8
import Derived.Test.YthilkmjkgpdngaaGreatW9
import Derived.Test.YthilkmjkgpdngaaGreatW108
open List renaming mem_append→a_
namespace Go.Proofs.YthilkmjkgpdngaaGreat
open Go.Abs
set_option maxRecDepth 100000
set_option maxHeartbeats 8000000
set_option linter.unusedSimpArgs false
set_option linter.unusedVariables false
def vcOpL0 (P:Program) (s:St) (o:Oper) (K:C→List O→Prop):Prop:=
 match o.op with
 | .buildSlice _ 0 _=>vcOpT P s o K
 | _=>vcOpL P s o K
def vcRL0 (P:Program) (n:Nat) (K:St→Prop):List Oper→St→Prop
 | [],⟨σ,H⟩=>K ⟨σ,H⟩
 | o :: rest,⟨σ,H⟩=>okDst n o=true∧o.guard=none∧vcOpL0 P ⟨σ,H⟩ o (kR (vcRL0 P n K rest) ⟨σ,H⟩ o.dst)
attribute [go_sem] vcOpL0.eq_def vcRL0.eq_1 vcRL0.eq_2
def stgD (rs:List RV) (m:Nat):List (List D):=(List.range m).map fun i=>[.sl ((stg rs i).map fcE)]
theorem stgD_1 (rs:List RV):stgD rs 1=[[.sl []]]:=rfl
theorem copyFact_T (rel:List UInt8) (vs:List V) (hl:vs.length≤100000000):ACalls Tryz.prog 33 [.d (.agg [.str rel,.sl (vs.map V.enc)])] [.hole] (fun c H'=>c=.agg [.d (.str rel),.own 0 1]∧∃e B,H'=[.tree 1 4 e (vs.map V.enc) B none]):=by
 have hct:=copyTerms_T vs hl
 unfold cpTs at hct
 refine aE_ Tryz.func33 ?_
 refine run_sound Tryz.func33 mixed 3 _ _ (by kernel_rfl) ?_
 simp only [go_sem,seval,run.eq_1]
 refine AW.drawA mixed #[true,true,true,true,true,true,false] [(1,.box [.d (.str rel),.d (.sl (vs.map V.enc))])] [] [0,1,2,3,4,5] [6] none (by kernel_rfl) trivial (by simp [holdsB]) ?_
 simp only [go_sem,seval]
 repeat' (first
  | ((refine ACalls.fresh (ds:=[.sl (vs.map V.enc)]) (m:=1) hct [0] rfl rfl (by simp) (by simp) ?_<;>(rintro c H' ⟨rfl,e1,B1,rfl⟩ _;refine ⟨rfl,rfl,?_⟩))<;>(try simp only [go_sem,seval]))
  | fail)
 refine rS_ Tryz.func33 ?_
 simp only [go_sem,seval]
 repeat' (first
  | (exact ⟨_,_,rfl⟩)
  | fail)
theorem rvsC_mem {u:List V} {x:Rl} {i:Int} {c:List Gl} {r:RV}:∀m k,r∈rvsC u x i c k m→∃w,rvFine u c (gVals u (x.arity+x.locals).toNat w)=true∧r=rvOf x i c (gVals u (x.arity+x.locals).toNat w)
 | 0,k,h=>by simp [rvsC] at h
 | m+1,k,h=>by
  rw [rvsC_s] at h
  rcases a_.1 h with h | h
  ·unfold rvK at h
   split at h
   ·rename_i hf
    simp at h
    exact ⟨k,hf,h⟩
   ·simp at h
  ·exact rvsC_mem m (k+1) h
theorem rvsB_mem {u:List V} {x:Rl} {n:Nat} {r:RV}:∀(cs:List (List Gl)) (i:Int),r∈rvsB u x n i cs→∃c,c∈cs∧∃j w,rvFine u c (gVals u (x.arity+x.locals).toNat w)=true∧r=rvOf x j c (gVals u (x.arity+x.locals).toNat w)
 | [],i,h=>by simp [rvsB] at h
 | c :: cs,i,h=>by
  rw [rvsB_s] at h
  rcases a_.1 h with h | h
  ·obtain ⟨w,h1,h2⟩:=rvsC_mem _ _ h
   exact ⟨c,by simp,i,w,h1,h2⟩
  ·obtain ⟨c',h1,h2⟩:=rvsB_mem cs (i+1) h
   exact ⟨c',by simp [h1],h2⟩
theorem gnd_mem {u:List V} {r:RV}:∀rels:List Rl,r∈Pg.gnd u rels→∃x,x∈rels∧∃c,c∈x.body.clsS∧∃j w,rvFine u c (gVals u (x.arity+x.locals).toNat w)=true∧r=rvOf x j c (gVals u (x.arity+x.locals).toNat w)
 | [],h=>by simp [Pg.gnd] at h
 | x :: xs,h=>by
  rw [show Pg.gnd u (x :: xs)=rvsB u x (x.ways u) 0 x.body.clsS++Pg.gnd u xs from rfl] at h
  rcases a_.1 h with h | h
  ·obtain ⟨c,h1,h2⟩:=rvsB_mem _ _ h
   exact ⟨x,by simp,c,h1,h2⟩
  ·obtain ⟨y,h1,h2⟩:=gnd_mem xs h
   exact ⟨y,by simp [h1],h2⟩
theorem gr_mem {p:Pg} {u:List V} {rs:List RV} (h:p.gr u=some rs):rs=Pg.gnd u p.rels∧rs.length≤2000:=by
 unfold Pg.gr at h
 split at h
 ·rename_i h2
  obtain rfl:=Option.some.inj h
  exact ⟨rfl,h2.2⟩
 ·cases h
def csC (o:Option (List FcV)):C:=match o with | some l=>.tup [.d (.sl (l.map fcE)),.d (.bool true)] | none=>.tup [.d (.sl []),.d (.bool false)]
theorem csC_none:csC none=.tup [.d (.sl []),.d (.bool false)]:=rfl
theorem csC_some (l:List FcV):csC (some l)=.tup [.d (.sl (l.map fcE)),.d (.bool true)]:=rfl
theorem wtR_mem {l:List (List D)} {x:List D} (h:x∈l):wtL x≤wtR l:=by
 have:=wtL_lt l x h;omega
theorem wtR_len (l:List (List D)):l.length≤wtR l:=by
 have:=sumW_le l 0;simp [sumW] at this;omega
end Go.Proofs.YthilkmjkgpdngaaGreat

import Derived.Test.YtockpdkdnlkkfaaGreatW102
import Derived.Test.YtockpdkdnlkkfaaGreatW4
import Derived.Test.YtockpdkdnlkkfaaGreatP12
import Derived.Test.YtockpdkdnlkkfaaGreatShelf
namespace Go.Proofs.YtockpdkdnlkkfaaGreat
open Go.Abs
set_option maxRecDepth 100000
set_option maxHeartbeats 4000000
set_option linter.unusedSimpArgs false
set_option linter.unusedVariables false
def fcE (f:FcV):List D:=f.fc.enc
@[go_sem] theorem fcE_len (f:FcV):(fcE f).length=2:=Fc.enc_len _
theorem fcE_eq (f:FcV):fcE f=[.str f.1,.sl (f.2.map V.enc)]:=by unfold fcE;rw [Fc.enc_eq];simp only [FcV.fc,enc_tms]
theorem orderF_fn (a b:FcV):Gives Tryz.prog 69 [.agg (fcE a),.agg (fcE b)] (.d (.int .i64 (a.cmp b))):=orderFacts_fn a.1 b.1 a.2 b.2
noncomputable def infF:TypeInfo:=(Tryz.prog.info? 48).get (by kernel_rfl)
noncomputable def infFS:TypeInfo:=(Tryz.prog.info? 37).get (by kernel_rfl)
theorem infF_K (n:Nat) (h2:2≤n):Lib.swapperK n infF 25=9:=by
 have a:infF.hasPointers=true:=by kernel_rfl
 have b:infF.bytes=40:=by kernel_rfl
 have c:(n == 0)=false:=by simp;omega
 have d:(n == 1)=false:=by simp;omega
 simp [Lib.swapperK,a,b,c,d]
theorem sortFacts1_fn (xs:List (List D)) (a b:FcV) (i j:Nat) (hi:xs[i]? = some (fcE a)) (hj:xs[j]? = some (fcE b)):ACalls Tryz.prog 68 [.d (.int .i64 i),.d (.int .i64 j),.cptr [.sl xs]] [] (fun c _=>c=.d (.bool (decide (a.cmp b<0)))):=by
 have h1:=(List.getElem?_eq_some_iff.1 hi).1
 have h2:=(List.getElem?_eq_some_iff.1 hj).1
 have n1:(i:Int)<(xs.length:Int):=by omega
 have n2:(j:Int)<(xs.length:Int):=by omega
 have ho:=orderF_fn a b
 refine ACalls.enter (fn:=Tryz.f68) Tryz.func68 rfl (by show 3≤_;decide) ?_
 refine run_sound Tryz.func68 mixed 200 _ _ (by kernel_rfl) ?_
 simp only [go_sem,seval,n1,n2,idx_of hi,idx_of hj]
 repeat' (first
  | ((refine ho.callQ rfl ?_)<;>(try simp only [go_sem,seval,n1,n2,idx_of hi,idx_of hj]))
  | fail)
theorem sliceStableF {H:List O} {rb r q e:Nat} {xs:List FcV} (hb:H[rb]? = some (.box [.own r q])) (hr:H[r]? = some (.buf q 2 e (xs.map fcE))) (hne:rb≠r) (hrefs:H.all (O.refsLt H.length)=true) (hn:xs.length≤1000000000000) :
  ACalls Tryz.prog 67 [.ifc 37 (.own r q),.fn 68 [.ptr rb 0]] H (fun c H'=>c=.tup []∧∃ys:List FcV,ys.Perm xs∧ys.Pairwise (fun a b=>decide (b.cmp a<0)=false)∧H'=H.set r (.buf q 2 e (ys.map fcE))):=by
 have hz:infF.size=2:=by kernel_rfl
 have hw:Wk (fun a b:FcV=>decide (a.cmp b<0)):=FcV.cmp_lin.wk
 have hbl:=(List.getElem?_eq_some_iff.1 hb).1
 have hrl:=(List.getElem?_eq_some_iff.1 hr).1
 have h:=sliceStable_calls Tryz.laysGt8 37 48 infFS infF (by kernel_rfl) (by kernel_rfl) (by kernel_rfl) (by kernel_rfl) 25 (fun _=>by kernel_rfl) (fun _=>by kernel_rfl) 143 144 151
  (by kernel_rfl) (by kernel_rfl) (fun n h2=>by rw [infF_K n h2];kernel_rfl) false (fun args W=>run_callFunc_extern Tryz.func151 (by kernel_rfl) (by kernel_rfl) (by kernel_rfl) (e:=Extern.ReflectliteSwapper.swap false) (by kernel_rfl) args W)
  fcE (fun x=>(fcE_len x).trans hz.symm) (fun a b=>decide (a.cmp b<0)) (g:=68) (caps:=[.ptr rb 0]) (H:=H) (r:=r) (q:=q) (e:=e) (xs:=xs) (by kernel_rfl) (by simp [C.refsLt1,hbl]) hrefs (by rw [hz];exact hr) hn
  (fun caps2 n m Hs h1 S f0=>stable_R hw h1 S f0)
  (fun f X i j hi hj=>lessB hb hne hrl X (sortFacts1_fn _ (f i) (f j) i j (getD_map_range fcE f hi) (getD_map_range fcE f hj)))
 rw [hz] at h
 exact h
end Go.Proofs.YtockpdkdnlkkfaaGreat

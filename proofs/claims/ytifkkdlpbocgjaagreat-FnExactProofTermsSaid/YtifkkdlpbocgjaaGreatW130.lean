import Derived.Test.YtifkkdlpbocgjaaGreatW102
import Derived.Test.YtifkkdlpbocgjaaGreatW6
import Derived.Test.YtifkkdlpbocgjaaGreatW14
import Derived.Test.YtifkkdlpbocgjaaGreatP12
import Derived.Test.YtifkkdlpbocgjaaGreatShelf
namespace Go.Proofs.YtifkkdlpbocgjaaGreat
open Go.Abs
set_option maxRecDepth 100000
set_option maxHeartbeats 4000000
set_option linter.unusedSimpArgs false
set_option linter.unusedVariables false
noncomputable def infT:TypeInfo:=(Tryz.prog.info? 60).get (by kernel_rfl)
noncomputable def infTS:TypeInfo:=(Tryz.prog.info? 31).get (by kernel_rfl)
theorem infT_K (n:Nat) (h2:2≤n):Lib.swapperK n infT 25=9:=by
 have a:infT.hasPointers=true:=by kernel_rfl
 have b:infT.bytes=56:=by kernel_rfl
 have c:(n == 0)=false:=by simp;omega
 have d:(n == 1)=false:=by simp;omega
 simp [Lib.swapperK,a,b,c,d]
theorem orderT_fn (a b:V):Gives Tryz.prog 49 [.agg a.enc,.agg b.enc] (.d (.int .i64 (a.cmp b))):=orderTerms_fn _ a b (Nat.le_refl _)
theorem ascending1_fn (xs:List (List D)) (a b:V) (i j:Nat) (hi:xs[i]? = some a.enc) (hj:xs[j]? = some b.enc):ACalls Tryz.prog 48 [.d (.int .i64 i),.d (.int .i64 j),.cptr [.sl xs]] [] (fun c _=>c=.d (.bool (decide (a.cmp b<0)))):=by
 have h1:=(List.getElem?_eq_some_iff.1 hi).1
 have h2:=(List.getElem?_eq_some_iff.1 hj).1
 have n1:(i:Int)<(xs.length:Int):=by omega
 have n2:(j:Int)<(xs.length:Int):=by omega
 have ho:=orderT_fn a b
 refine ACalls.enter (fn:=Tryz.f48) Tryz.func48 rfl (by show 3≤_;decide) ?_
 refine run_sound Tryz.func48 mixed 200 _ _ (by kernel_rfl) ?_
 simp only [go_sem,seval,n1,n2,idx_of hi,idx_of hj]
 repeat' (first
  | ((refine ho.callQ rfl ?_)<;>(try simp only [go_sem,seval,n1,n2,idx_of hi,idx_of hj]))
  | fail)
theorem sliceStableT {H:List O} {rb r q e:Nat} {xs:List V} (hb:H[rb]? = some (.box [.own r q])) (hr:H[r]? = some (.buf q 4 e (xs.map V.enc))) (hne:rb≠r) (hrefs:H.all (O.refsLt H.length)=true) (hn:xs.length≤1000000000000) :
  ACalls Tryz.prog 47 [.ifc 31 (.own r q),.fn 48 [.ptr rb 0]] H (fun c H'=>c=.tup []∧∃ys:List V,ys.Perm xs∧ys.Pairwise (fun a b=>decide (b.cmp a<0)=false)∧H'=H.set r (.buf q 4 e (ys.map V.enc))):=by
 have hz:infT.size=4:=by kernel_rfl
 have hw:Wk (fun a b:V=>decide (a.cmp b<0)):=V.cmp_lin.wk
 have hbl:=(List.getElem?_eq_some_iff.1 hb).1
 have hrl:=(List.getElem?_eq_some_iff.1 hr).1
 have h:=sliceStable_calls Tryz.laysGt8 31 60 infTS infT (by kernel_rfl) (by kernel_rfl) (by kernel_rfl) (by kernel_rfl) 25 (fun _=>by kernel_rfl) (fun _=>by kernel_rfl) 112 113 120
  (by kernel_rfl) (by kernel_rfl) (fun n h2=>by rw [infT_K n h2];kernel_rfl) false (fun args W=>run_callFunc_extern Tryz.func120 (by kernel_rfl) (by kernel_rfl) (by kernel_rfl) (e:=Extern.ReflectliteSwapper.swap false) (by kernel_rfl) args W)
  V.enc (fun x=>(V.enc_len x).trans hz.symm) (fun a b=>decide (a.cmp b<0)) (g:=48) (caps:=[.ptr rb 0]) (H:=H) (r:=r) (q:=q) (e:=e) (xs:=xs) (by kernel_rfl) (by simp [C.refsLt1,hbl]) hrefs (by rw [hz];exact hr) hn
  (fun caps2 n m Hs h1 S f0=>stable_R hw h1 S f0)
  (fun f X i j hi hj=>lessB hb hne hrl X (ascending1_fn _ (f i) (f j) i j (getD_map_range V.enc f hi) (getD_map_range V.enc f hj)))
 rw [hz] at h
 exact h
theorem ddC_len {α:Type} {c:α→α→Int}:∀(q:List α) (o:Option α),(ddC c o q).length≤q.length:=fun q=>by
 induction q with
 | nil=>intro o;simp [ddC]
 | cons z q ih =>
  intro o
  cases o with
  | none=>simp only [ddC,List.length_cons];have:=ih (some z);omega
  | some w=>simp only [ddC];split<;>simp only [List.length_cons]<;>have:=ih (some z)<;>omega
theorem ascending_T (l:List V) (hl:l.length≤2000000):ACalls Tryz.prog 28 [.d (.sl (l.map V.enc))] [.hole] (fun c H'=>c=.own 0 1∧∃e B,H'=[.tree 1 4 e ((sortC V.cmp l).map V.enc) B none]):=by
 have hmx:maxLen=9223372036854775807:=rfl
 have hmap:∀x:List V,(x.map V.enc).length=x.length:=fun x=>List.length_map _
 refine ACalls.enter (fn:=Tryz.f28) Tryz.func28 rfl (by show 1≤_;decide) ?_
 refine run_sound Tryz.func28 mixed 3 _ _ (by kernel_rfl) ?_
 simp only [go_sem,seval,run.eq_1]
 refine AW.regS ?_
 simp only [go_sem,seval,hmap]
 refine ⟨by omega,by omega,?_⟩
 have hst:ACalls Tryz.prog 47 [.ifc 31 (.own 1 1),.fn 48 [.ptr 2 0]] [.hole,.buf 1 4 60 (l.map V.enc),.box [.own 1 1]] _:=sliceStableT rfl rfl (by decide) rfl (by omega)
 refine run_sound Tryz.func28 mixed 2 _ _ (by kernel_rfl) ?_
 simp only [go_sem,seval,run.eq_1]
 refine hst.mono ?_
 rintro c H' ⟨rfl,ys,hp,hs,rfl⟩
 simp only [go_sem,seval,run.eq_1]
 refine AW.frzBox 2 0 1 rfl rfl rfl (by decide) ?_
 refine run_sound Tryz.func28 mixed 2 _ _ (by kernel_rfl) ?_
 simp only [go_sem,seval,run.eq_1]
 refine AW.adoptT 4 4 60 (by decide) rfl ?_
 have hyl:ys.length=l.length:=hp.length_eq
 have hR:ddC V.cmp none ys=sortC V.cmp l:=ddC_sort V.cmp_lin (fun z=>hp.mem_iff) (hs.imp (fun h=>by simpa using h))
 rw [←hR]
 refine run_sound Tryz.func28 mixed 200 _ _ (by kernel_rfl) ?_
 simp only [go_sem,seval,hmap]
 refine AW.rng ys [3,15,16] 17 15 (fun p:List V×(Nat→Prop)=>[(4,.own 3 (ddC V.cmp none p.1).length)]) (fun _ p=>[.hole,.dead,.box [.d (.sl (ys.map V.enc))],.tree (ddC V.cmp none p.1).length 4 60 ((ddC V.cmp none p.1).map V.enc) p.2 none]) (fun r p=>ys=p.1++r) ([],fun _=>False) rfl (by simp) rfl (by refine ⟨by simp [mkS,ddC],by simp [mkS,ddC],by simp only [mkS,List.all_cons,List.all_nil,O.refsLt,C.refsLt,C.refsLt1,all_dmap];first | done | rfl | (simp;done),?_⟩;simp [mkS,Abs.get,C.refsLtT,C.refsLt,C.refsLt1,ddC]) (fun i x r p hxi hdr hlt hm hinv hnext=>?_) (fun p hinv=>?_)
 ·obtain ⟨p,B⟩:=p
  dsimp only at hinv hnext ⊢
  have hdl:=congrArg List.length hdr
  have hil:=congrArg List.length hinv
  simp only [List.length_drop,List.length_cons,List.length_append] at hdl hil
  have hip:i=p.length:=by omega
  have hnx:=fun B' s'=>hnext (p++[x],B') s' (by rw [hinv];simp)
  clear hnext
  have hx:=copyTerm_T x
  unfold cpT at hx
  have hX:=V.enc_eq x
  have hdd:=ddC_snoc (c:=V.cmp) p none x
  have hddl:=ddC_len (c:=V.cmp) p none
  dsimp only at hnx
  rcases List.eq_nil_or_concat p with rfl | ⟨p',y,rfl⟩
  ·obtain rfl:i=0:=by simpa using hip
   have hd1:ddC V.cmp none ([]++[x])=[x]:=rfl
   have hd0:ddC V.cmp none ([]:List V)=[]:=rfl
   rw [hd1] at hnx
   rw [hd0]
   have z0:((0:Nat):Int)=0:=rfl
   have hlt0:(0:Int)<(ys.length:Int):=by omega
   rw [z0] at hnx
   refine AW.hole ?_
   refine run_sound Tryz.func28 mixed 12 _ _ (by kernel_rfl) ?_
   simp only [go_sem,seval,run.eq_1,hlt0,idx_of hxi,z0]
   refine AW.regT ?_
   simp only [go_sem,seval]
   repeat' (first
    | ((first
     | (refine ACalls.fresh (ds:=[.agg x.enc]) (m:=1) hx [4] rfl rfl (by simp) (by simp) ?_<;>(rintro c H' ⟨rfl,e1,B1,rfl⟩ _;refine ⟨rfl,rfl,?_⟩))
     | (refine all_intro (fun Bz=>?_))
     | (refine ⟨sd,?_⟩))<;>(try simp only [go_sem,seval,hlt0,idx_of hxi]))
    | fail)
   refine run_sound Tryz.func28 mixed 200 _ _ (by kernel_rfl) ?_
   simp only [go_sem,seval]
   try simp (disch:=omega) only [wrap_ok]
   refine hnx Bz _ (by refine ⟨by simp [mkS,V.enc_eq x],by simp [mkS,V.enc_eq x],by simp only [mkS,List.all_cons,List.all_nil,O.refsLt,C.refsLt,C.refsLt1,all_dmap];first | done | rfl | (simp;done),?_⟩;simp [mkS,Abs.get,C.refsLtT,C.refsLt,C.refsLt1])
  ·rw [List.concat_eq_append] at *
   have hi0:¬(i:Int)=0:=by rw [hip];simp;omega
   have hw1:IntKind.i64.wrap ((i:Int) - 1)=((i - 1:Nat):Int):=by rw [wrap_ok (by omega) (by omega)];omega
   have n2:((i - 1:Nat):Int)<(ys.length:Int):=by omega
   have hyi:ys[i - 1]? = some y:=by
    rw [hinv,hip]
    simp
   have ho:=equalTerms_fn y x
   have hlast:(((none:Option V).toList++(p'++[y])).getLast?)=some y:=by simp
   rw [hlast] at hdd
   dsimp only at hdd
   by_cases e:y.cmp x=0
   ·rw [if_pos e,List.append_nil] at hdd
    rw [decide_eq_true e] at ho
    rw [hdd] at hnx
    refine run_sound Tryz.func28 mixed 200 _ _ (by kernel_rfl) ?_
    simp only [go_sem,seval,hlt,idx_of hxi,hi0,hw1,n2,idx_of hyi,hmap]
    repeat' (first
     | (simp (disch:=omega) only [wrap_ok])
     | ((refine ho.callQ rfl ?_)<;>(try simp only [go_sem,seval,hlt,idx_of hxi,hi0,hw1,n2,idx_of hyi,hmap]))
     | fail)
    all_goals refine hnx B _ (by refine ⟨by simp [mkS],by simp [mkS],by simp only [mkS,List.all_cons,List.all_nil,O.refsLt,C.refsLt,C.refsLt1,all_dmap];first | done | rfl | (simp;done),?_⟩;simp [mkS,Abs.get,C.refsLtT,C.refsLt,C.refsLt1])
   ·rw [if_neg e] at hdd
    rw [decide_eq_false e] at ho
    rw [hdd] at hnx
    refine AW.hole ?_
    refine run_sound Tryz.func28 mixed 12 _ _ (by kernel_rfl) ?_
    simp only [go_sem,seval,run.eq_1,hlt,idx_of hxi,hi0,hw1,n2,idx_of hyi,hmap]
    repeat' (first
     | ((refine ho.callQ rfl ?_)<;>(try simp only [go_sem,seval,hlt,idx_of hxi,hi0,hw1,n2,idx_of hyi,hmap,run.eq_1]))
     | fail)
    refine AW.regT ?_
    simp only [go_sem,seval]
    repeat' (first
     | ((first
      | (refine ACalls.fresh (ds:=[.agg x.enc]) (m:=1) hx [4] rfl rfl (by simp) (by simp) ?_<;>(rintro c H' ⟨rfl,e1,B1,rfl⟩ _;refine ⟨rfl,rfl,?_⟩))
      | (refine all_intro (fun Bz=>?_))
      | (refine ⟨sd,?_⟩))<;>(try simp only [go_sem,seval,hlt,idx_of hxi]))
     | fail)
    refine run_sound Tryz.func28 mixed 200 _ _ (by kernel_rfl) ?_
    simp only [go_sem,seval]
    try simp (disch:=omega) only [wrap_ok]
    refine hnx Bz _ (by refine ⟨by simp [mkS,V.enc_eq x],by simp [mkS,V.enc_eq x],by simp only [mkS,List.all_cons,List.all_nil,O.refsLt,C.refsLt,C.refsLt1,all_dmap];first | done | rfl | (simp;done),?_⟩;simp [mkS,Abs.get,C.refsLtT,C.refsLt,C.refsLt1])
 ·obtain ⟨p,B⟩:=p
  dsimp only at hinv ⊢
  rw [List.append_nil] at hinv
  rw [hinv]
  refine run_sound Tryz.func28 mixed 7 _ _ (by kernel_rfl) ?_
  simp only [go_sem,seval,run.eq_1]
  refine AW.place 2 3 0 rfl rfl rfl (by decide) ?_
  refine run_sound Tryz.func28 mixed 200 _ _ (by kernel_rfl) ?_
  simp only [go_sem,seval]
  all_goals exact ⟨_,_,rfl⟩
end Go.Proofs.YtifkkdlpbocgjaaGreat

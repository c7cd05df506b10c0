import Derived.Test.YtehkgphockcjdaaGreatW101
import Derived.Test.YtehkgphockcjdaaGreatW4
import Derived.Test.YtehkgphockcjdaaGreatP12
import Derived.Test.YtehkgphockcjdaaGreatShelf
open List renaming append_assoc→a_,getElem?_eq_some_iff→b_
open Nat renaming le_refl→c_,zero_le→d_,min_eq_left→e_
namespace Go.Proofs.YtehkgphockcjdaaGreat
open Go.Abs
set_option maxRecDepth 100000
set_option maxHeartbeats 8000000
set_option linter.unusedSimpArgs false
set_option linter.unusedVariables false
section
variable {α:Type} {g sf:FuncId} {cs ds:List C} {n m:Nat} {Hs:(Nat→α)→List O} {lt:α→α→Bool}
theorem stable_R (hw:Wk lt) (hn:n≤1000000000000) (h:Srtr Tryz.prog g cs sf ds n m Hs lt) (f:Nat→α) :
  ACalls Tryz.prog 84 [.agg [.fn g cs,.xfn sf ds],.d (.int .i64 n)] (Hs f) (fun c H'=>c=.tup []∧∃f1,((List.range n).map f1).Perm ((List.range n).map f)∧srt lt f1 0 n∧H'=Hs f1):=by
 have hX:=h.ext [.box [.fn g cs,.xfn sf ds]] (by simp [O.refsLt,C.refsLt,h.capsj,h.capsj2,-List.all_eq_true])
 refine aE_ Tryz.func84 ?_
 refine rS_ Tryz.func84 ?_
 simp only [go_sem,seval,h.len,h.gog,h.at0,h.atj,h.set0,h.setj,h.tk,h.tk0,h.tkj,h.refs,h.refsj,h.hcaps,h.capsj,h.hcaps2,h.capsj2,a_]
 refine AW.lp [1,2,4] (fun u:Nat×Nat×(Nat→α)=>[(5,.d (.int .i64 (u.1:Int))),(6,.d (.int .i64 ((u.1:Int)+20)))]) (fun _ u=>Hs u.2.2++[.box [.fn g cs,.xfn sf ds]]) (fun u=>u.1=u.2.1 * 20∧u.1≤n∧Mv n 0 n f u.2.2∧blks lt u.2.2 20 n (u.2.1 * 20)) (fun u=>n - u.1) (0,0,f) ⟨by simp,d_ _,.refl _ _ _ _,by simp [blks_0]⟩ wk1_ ?_
 rintro ⟨a,t,f1⟩ ⟨h1,h2,h3,h4⟩ hnext
 dsimp only at h1 h2 h3 h4 hnext ⊢
 have hnx:=fun a' t' f' s'=>hnext (a',t',f') s'
 clear hnext
 by_cases hc:a+20≤n
 ·have n1:(a:Int)+20≤(n:Int):=by omega
  have w1:IntKind.i64.wrap ((a:Int)+20+20)=(a:Int)+20+20:=wrap_ok (by omega) (by omega)
  have hi:=insertionSort_R hX hw (by omega) a (a+20) f1 (by omega) hc
  rw [Int.natCast_add] at hi
  refine rS_ Tryz.func84 ?_
  simp only [go_sem,seval,n1,h.len,h.gog,h.at0,h.atj,h.set0,h.setj,h.tk,h.tk0,h.tkj,h.refs,h.refsj,h.hcaps,h.capsj,h.hcaps2,h.capsj2,a_]
  repeat' (first
   | ((refine hi.mono ?_<;>(rintro c H' ⟨rfl,f2,m2,s2,rfl⟩))<;>(try simp only [go_sem,seval,n1,w1,h.len,h.gog,h.at0,h.atj,h.set0,h.setj,h.tk,h.tk0,h.tkj,h.refs,h.refsj,h.hcaps,h.capsj,h.hcaps2,h.capsj2,a_]))
   | fail)
  refine hnx (a+20) (t+1) f2 _ ⟨by dsimp only;omega,hc,h3.trans (m2.mono (d_ _) hc),?_⟩ (by dsimp only;omega) wk1_
  rw [h1] at m2 s2
  exact blks_s (by omega) h4 m2 (by rw [e_ (by omega)];exact s2)
 ·have n1:¬(a:Int)+20≤(n:Int):=by omega
  have hi:=insertionSort_R hX hw (by omega) a n f1 h2 (c_ _)
  clear hnx
  refine run_sound Tryz.func84 mixed 12 _ _ (by kernel_rfl) ?_
  simp only [go_sem,seval,run.eq_1,n1,h.len,h.gog,h.at0,h.atj,h.set0,h.setj,h.tk,h.tk0,h.tkj,h.refs,h.refsj,h.hcaps,h.capsj,h.hcaps2,h.capsj2,a_]
  repeat' (first
   | ((refine hi.mono ?_<;>(rintro c H' ⟨rfl,f2,m2,s2,rfl⟩))<;>(try simp only [go_sem,seval,n1,run.eq_1,h.len,h.gog,h.at0,h.atj,h.set0,h.setj,h.tk,h.tk0,h.tkj,h.refs,h.refsj,h.hcaps,h.capsj,h.hcaps2,h.capsj2,a_]))
   | fail)
  have hb2:blks lt f2 20 n n:=by
   rw [h1] at m2 s2
   exact blks_all (by omega) h4 m2 s2 (by omega)
  have hM2:=h3.trans (m2.mono (d_ _) (c_ _))
  clear m2 s2 h1 h2 h3 h4 hc n1 hi
  refine AW.lp [1,2] (fun u:Nat×(Nat→α)=>[(4,.d (.int .i64 (u.1:Int)))]) (fun _ u=>Hs u.2++[.box [.fn g cs,.xfn sf ds]]) (fun u=>20≤u.1∧Mv n 0 n f u.2∧blks lt u.2 u.1 n n) (fun u=>n - u.1) (20,f2) ⟨c_ _,hM2,hb2⟩ wk1_ ?_
  rintro ⟨bs,f3⟩ ⟨b1,b2,b3⟩ hnext
  dsimp only at b1 b2 b3 hnext ⊢
  have hny:=fun b' f' s'=>hnext (b',f') s'
  clear hnext
  by_cases hc:bs<n
  ·have n1:(bs:Int)<(n:Int):=by omega
   have w1:IntKind.i64.wrap (2 * (bs:Int))=2 * (bs:Int):=wrap_ok (by omega) (by omega)
   have w2:IntKind.i64.wrap ((bs:Int) * 2)=((bs * 2:Nat):Int):=wrapN _ (by omega) (by omega)
   refine rS_ Tryz.func84 ?_
   simp only [go_sem,seval,n1,w1,h.len,h.gog,h.at0,h.atj,h.set0,h.setj,h.tk,h.tk0,h.tkj,h.refs,h.refsj,h.hcaps,h.capsj,h.hcaps2,h.capsj2,a_]
   refine AW.lp [1,2,4] (fun u:Nat×Nat×(Nat→α)=>[(5,.d (.int .i64 (u.1:Int))),(6,.d (.int .i64 ((u.1:Int)+2 * (bs:Int))))]) (fun _ u=>Hs u.2.2++[.box [.fn g cs,.xfn sf ds]]) (fun u=>u.1=u.2.1 * (2 * bs)∧u.1≤n∧Mv n 0 n f u.2.2∧blks lt u.2.2 (2 * bs) n (u.2.1 * (2 * bs))∧rest lt u.2.2 bs n (2 * u.2.1)) (fun u=>n - u.1) (0,0,f3) ⟨by simp,d_ _,b2,by simp [blks_0],rest_of b3⟩ wk1_ ?_
   rintro ⟨a,t,f4⟩ ⟨h5,h6,h7,h8,h9⟩ hnext
   dsimp only at h5 h6 h7 h8 h9 hnext ⊢
   have hnz:=fun a' t' f' s'=>hnext (a',t',f') s'
   clear hnext
   have w3:IntKind.i64.wrap ((a:Int)+(bs:Int))=((a+bs:Nat):Int):=wrapN _ (by omega) (by omega)
   by_cases hd:a+2 * bs≤n
   ·have n2:(a:Int)+2 * (bs:Int)≤(n:Int):=by omega
    have w4:IntKind.i64.wrap ((a:Int)+2 * (bs:Int)+2 * (bs:Int))=(a:Int)+2 * (bs:Int)+2 * (bs:Int):=wrap_ok (by omega) (by omega)
    obtain ⟨r1,r2⟩:=rest_two h9 (by rw [←h5];omega)
    rw [←h5] at r1 r2
    rw [e_ hd] at r2
    have hs:=symMerge_R hw (by omega) (a+2 * bs - a) _ _ hX a (a+bs) (a+2 * bs) f4 (c_ _) (by omega) (by omega) hd r1 r2
    have hcast:((a+2 * bs:Nat):Int)=(a:Int)+2 * (bs:Int):=by omega
    rw [hcast] at hs
    refine rS_ Tryz.func84 ?_
    simp only [go_sem,seval,n2,w1,w3,h.len,h.gog,h.at0,h.atj,h.set0,h.setj,h.tk,h.tk0,h.tkj,h.refs,h.refsj,h.hcaps,h.capsj,h.hcaps2,h.capsj2,a_]
    repeat' (first
     | ((refine hs.mono ?_<;>(rintro c H' ⟨rfl,f5,m5,s5,rfl⟩))<;>(try simp only [go_sem,seval,n2,w1,w3,w4,h.len,h.gog,h.at0,h.atj,h.set0,h.setj,h.tk,h.tk0,h.tkj,h.refs,h.refsj,h.hcaps,h.capsj,h.hcaps2,h.capsj2,a_]))
     | fail)
    refine hnz (a+2 * bs) (t+1) f5 _ ⟨by dsimp only;rw [Nat.add_mul t 1 (2 * bs),Nat.one_mul,←h5],hd,h7.trans (m5.mono (d_ _) hd),?_,?_⟩ (by dsimp only;omega) (by dsimp only;rw [hcast];exact by refine ⟨by simp [mkS,h.len],by simp only [mkS,List.length_append,List.length_cons,List.length_nil,h.len,h.tkj,h.tk0,h.tk];first | done | rfl | (simp;done),by simp [mkS,O.refsLt,C.refsLt,C.refsLt1,h.len,h.refs,h.refsj,h.hcaps,h.capsj,h.hcaps2,h.capsj2,all_dmap,all_dcomp,-List.all_eq_true],?_⟩;simp [mkS,Abs.get,C.refsLtT,C.refsLt,C.refsLt1,h.len,h.hcaps,h.capsj,h.hcaps2,h.capsj2,-List.all_eq_true])
    ·rw [h5] at m5 s5
     exact blks_s (by omega) h8 m5 (by rw [e_ (by rw [←h5];omega)];exact s5)
    ·exact rest_s h9 (t':=2 * (t+1)) (by omega) m5 (by rw [show 2 * (t+1)=2 * t+2 by omega,two_mul_blk2,←h5];exact c_ _)
   ·have n2:¬(a:Int)+2 * (bs:Int)≤(n:Int):=by omega
    clear hnz
    by_cases he:a+bs<n
    ·have n3:((a+bs:Nat):Int)<(n:Int):=by omega
     have n3':(a:Int)+(bs:Int)<(n:Int):=by omega
     obtain ⟨r1,r2⟩:=rest_two h9 (by rw [←h5];omega)
     rw [←h5] at r1 r2
     rw [Nat.min_eq_right (by omega)] at r2
     have hs:=symMerge_R hw (by omega) (n - a) _ _ hX a (a+bs) n f4 (c_ _) (by omega) he (c_ _) r1 r2
     refine rS_ Tryz.func84 ?_
     simp only [go_sem,seval,n2,w3,n3,n3',h.len,h.gog,h.at0,h.atj,h.set0,h.setj,h.tk,h.tk0,h.tkj,h.refs,h.refsj,h.hcaps,h.capsj,h.hcaps2,h.capsj2,a_]
     repeat' (first
      | ((refine hs.mono ?_<;>(rintro c H' ⟨rfl,f5,m5,s5,rfl⟩))<;>(try simp only [go_sem,seval,n2,w2,w3,n3,n3',h.len,h.gog,h.at0,h.atj,h.set0,h.setj,h.tk,h.tk0,h.tkj,h.refs,h.refsj,h.hcaps,h.capsj,h.hcaps2,h.capsj2,a_]))
      | fail)
     have hM5:=h7.trans (m5.mono (d_ _) (c_ _))
     rw [h5] at m5 s5
     have hbl:=blks_all (k:=2 * bs) (by omega) h8 m5 s5 (by rw [←h5];omega)
     all_goals refine hny (bs * 2) f5 _ ⟨by omega,hM5,by dsimp only;rw [Nat.mul_comm bs 2];exact hbl⟩ (by dsimp only;omega) wk1_
    ·have n3:¬((a+bs:Nat):Int)<(n:Int):=by omega
     have n3':¬(a:Int)+(bs:Int)<(n:Int):=by omega
     have hl:=rest_last h9 (by rw [←h5];omega)
     refine rS_ Tryz.func84 ?_
     simp only [go_sem,seval,n2,w3,n3,n3',h.len,h.gog,h.at0,h.atj,h.set0,h.setj,h.tk,h.tk0,h.tkj,h.refs,h.refsj,h.hcaps,h.capsj,h.hcaps2,h.capsj2,a_]
     repeat' (first
      | (simp (disch:=omega) only [wrap_ok])
      | fail)
     have hbl:=blks_all (k:=2 * bs) (by omega) h8 (.refl _ _ _ _) hl (by rw [←h5];omega)
     all_goals refine hny (bs * 2) f4 _ ⟨by omega,h7,by dsimp only;rw [Nat.mul_comm bs 2];exact hbl⟩ (by dsimp only;omega) wk1_
  ·have n1:¬(bs:Int)<(n:Int):=by omega
   have hP:=b2.perm
   have hS:=blks_done b3 (by omega)
   refine rS_ Tryz.func84 ?_
   simp only [go_sem,seval,n1,h.len,h.gog,h.at0,h.atj,h.set0,h.setj,h.tk,h.tk0,h.tkj,h.refs,h.refsj,h.hcaps,h.capsj,h.hcaps2,h.capsj2,a_]
   repeat' (first
    | ((first
     | (refine ⟨sd,?_⟩)
     | (refine ⟨by assumption,?_⟩))<;>(try simp only [go_sem,seval,n1,h.len,h.gog,h.at0,h.atj,h.set0,h.setj,h.tk,h.tk0,h.tkj,h.refs,h.refsj,h.hcaps,h.capsj,h.hcaps2,h.capsj2,a_]))
    | assumption)
   all_goals first | exact hS | exact ⟨hP,hS⟩ | exact ⟨_,hP,hS,rfl⟩
end
set_option maxHeartbeats 4000000
def fcE (f:FcV):List D:=f.fc.enc
@[go_sem] theorem fcE_len (f:FcV):(fcE f).length=2:=Fc.enc_len _
theorem fcE_eq (f:FcV):fcE f=[.str f.1,.sl (f.2.map V.enc)]:=by unfold fcE;rw [Fc.enc_eq];simp only [FcV.fc,enc_tms]
theorem orderF_fn (a b:FcV):Gives Tryz.prog 59 [.agg (fcE a),.agg (fcE b)] (.d (.int .i64 (a.cmp b))):=orderFacts_fn a.1 b.1 a.2 b.2
noncomputable def infF:TypeInfo:=(Tryz.prog.info? 57).get (by kernel_rfl)
noncomputable def infFS:TypeInfo:=(Tryz.prog.info? 28).get (by kernel_rfl)
theorem infF_K (n:Nat) (h2:2≤n):Lib.swapperK n infF 25=9:=by
 have a:infF.hasPointers=true:=by kernel_rfl
 have b:infF.bytes=40:=by kernel_rfl
 have c:(n == 0)=false:=by simp;omega
 have d:(n == 1)=false:=by simp;omega
 simp [Lib.swapperK,a,b,c,d]
theorem sortFacts1_fn (xs:List (List D)) (a b:FcV) (i j:Nat) (hi:xs[i]? = some (fcE a)) (hj:xs[j]? = some (fcE b)):ACalls Tryz.prog 58 [.d (.int .i64 i),.d (.int .i64 j),.cptr [.sl xs]] [] (fun c _=>c=.d (.bool (decide (a.cmp b<0)))):=by
 have h1:=(b_.1 hi).1
 have h2:=(b_.1 hj).1
 have n1:(i:Int)<(xs.length:Int):=by omega
 have n2:(j:Int)<(xs.length:Int):=by omega
 have ho:=orderF_fn a b
 refine aE_ Tryz.func58 ?_
 refine rS_ Tryz.func58 ?_
 simp only [go_sem,seval,n1,n2,idx_of hi,idx_of hj]
 repeat' (first
  | ((refine ho.callQ rfl ?_)<;>(try simp only [go_sem,seval,n1,n2,idx_of hi,idx_of hj]))
  | fail)
theorem sliceStableF {H:List O} {rb r q e:Nat} {xs:List FcV} (hb:H[rb]? = some (.box [.own r q])) (hr:H[r]? = some (.buf q 2 e (xs.map fcE))) (hne:rb≠r) (hrefs:H.all (O.refsLt H.length)=true) (hn:xs.length≤1000000000000) :
  ACalls Tryz.prog 57 [.ifc 28 (.own r q),.fn 58 [.ptr rb 0]] H (fun c H'=>c=.tup []∧∃ys:List FcV,ys.Perm xs∧ys.Pairwise (fun a b=>decide (b.cmp a<0)=false)∧H'=H.set r (.buf q 2 e (ys.map fcE))):=by
 have hz:infF.size=2:=by kernel_rfl
 have hw:Wk (fun a b:FcV=>decide (a.cmp b<0)):=FcV.cmp_lin.wk
 have hbl:=(b_.1 hb).1
 have hrl:=(b_.1 hr).1
 have h:=sliceStable_calls Tryz.laysGt8 28 57 infFS infF (by kernel_rfl) (by kernel_rfl) (by kernel_rfl) (by kernel_rfl) 25 (fun _=>by kernel_rfl) (fun _=>by kernel_rfl) 100 101 108
  (by kernel_rfl) (by kernel_rfl) (fun n h2=>by rw [infF_K n h2];kernel_rfl) false (fun args W=>run_callFunc_extern Tryz.func108 (by kernel_rfl) (by kernel_rfl) (by kernel_rfl) (e:=Extern.ReflectliteSwapper.swap false) (by kernel_rfl) args W)
  fcE (fun x=>(fcE_len x).trans hz.symm) (fun a b=>decide (a.cmp b<0)) (g:=58) (caps:=[.ptr rb 0]) (H:=H) (r:=r) (q:=q) (e:=e) (xs:=xs) (by kernel_rfl) (by simp [C.refsLt1,hbl]) hrefs (by rw [hz];exact hr) hn
  (fun caps2 n m Hs h1 S f0=>stable_R hw h1 S f0)
  (fun f X i j hi hj=>lessB hb hne hrl X (sortFacts1_fn _ (f i) (f j) i j (getD_map_range fcE f hi) (getD_map_range fcE f hj)))
 rw [hz] at h
 exact h
end Go.Proofs.YtehkgphockcjdaaGreat

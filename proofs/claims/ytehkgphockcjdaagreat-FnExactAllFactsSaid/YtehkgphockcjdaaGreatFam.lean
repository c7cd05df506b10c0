import Derived.Test.YtehkgphockcjdaaGreatFx
open Int renaming toNat_natCast→a_,not_lt→e_
open List renaming getElem?_eq_getElem→b_,mem_of_getElem?→c_
open Nat renaming lt_succ_self→d_
namespace Go.Proofs.YtehkgphockcjdaaGreat
open Go.Abs
set_option maxRecDepth 100000
set_option maxHeartbeats 4000000
set_option linter.unusedSimpArgs false
set_option linter.unusedVariables false
theorem lv47:leaves Tryz.prog 6 47=some [.int .i64,.int .i64,.str,.sl 47]:=by kernel_rfl
theorem inv47 {x:List D} (h:Sh Tryz.prog 47 x):∃a0 a1 a2 a3,x=[.int .i64 a0,.int .i64 a1,.str a2,.sl a3]∧(Lit.int .i64 a0).wf=true∧(Lit.int .i64 a1).wf=true∧a2.length≤maxLen∧(a3.length≤maxLen∧∀x,x∈a3→Sh Tryz.prog 47 x):=by
 obtain ⟨ls,h1,h2,h3⟩:=h
 rw [lv47] at h1
 cases h1
 match x,h2,h3 with
 | [c0,c1,c2,c3],_,h3 =>
  have g0:=h3 0 _ _ rfl rfl
  have g1:=h3 1 _ _ rfl rfl
  have g2:=h3 2 _ _ rfl rfl
  have g3:=h3 3 _ _ rfl rfl
  obtain ⟨b0,rfl,q0⟩:=g0.int_inv
  obtain ⟨b1,rfl,q1⟩:=g1.int_inv
  obtain ⟨b2,rfl,q2⟩:=g2.str_inv
  obtain ⟨b3,rfl,q3⟩:=g3.elems
  exact ⟨_,_,_,_,rfl,q0,q1,q2,q3⟩
theorem sz5 (xs:List (List D)) (hm:xs.length≤maxLen) (hx:∀x,x∈xs→x.length=4∧∀n:Int,0≤n→n≤1048576→Gives Tryz.prog 18 [.agg x,.int .i64 n] (.d (.int .i64 (szr n (wtL x)))))
  (n:Int) (h0:0≤n) (h1:n≤1048576):Gives Tryz.prog 5 [.sl xs,.int .i64 n] (.d (.int .i64 (szr n (wtR xs)))):=by
 have hm':(xs.length:Int)≤9223372036854775807:=by simp only [maxLen] at hm;omega
 have hs:=sumW_all xs
 have hs0:=sumW_le xs 0
 simp only [sumW] at hs0
 refine aE_ Tryz.func5 ?_
 refine run_sound Tryz.func5 mixed 100 _ _ (by kernel_rfl) ?_
 simp only [go_sem,seval]
 rw [wrap_ok (by omega) (by omega)]
 refine br_intro (fun h=>?_) (fun h=>?_)
 ·simp only [decide_eq_true_eq] at h
  simp only [go_sem,seval]
  rw [szr_neg (by omega)]
 simp only [decide_eq_false_iff_not,e_] at h
 simp only [go_sem,seval]
 refine AW.loop_ind (fun i:Nat=>⟨[(5,.d (.int .i64 i)),(0,.d (.sl xs)),(1,.d (.int .i64 (n - xs.length - sumW xs i))),(4,.d (.int .i64 0))],[]⟩) (fun i=>i≤xs.length∧(sumW xs i:Int)≤n - xs.length) (fun i=>xs.length - i) 0 ⟨by omega,by simp only [sumW];omega⟩ ?_ ?_
 ·refine Weak.of (by simp) rfl ?_
  simp [Abs.get,sumW,C.refsLtT,C.refsLt,C.refsLt1]
 ·intro i hi hnext
  obtain ⟨hi1,hi2⟩:=hi
  refine run_sound Tryz.func5 mixed 100 _ _ (by kernel_rfl) ?_
  simp only [go_sem,seval]
  refine br_intro (fun h=>?_) (fun h=>?_)
  ·simp only [decide_eq_true_eq] at h
   have hi:i<xs.length:=by omega
   obtain ⟨x,hxi⟩:∃x,xs[i]? = some x:=⟨_,b_ hi⟩
   have hsum:=sumW_at hxi
   have hle:=sumW_le xs (i+1)
   obtain ⟨e1,e2⟩:=hx x (c_ hxi)
   simp only [go_sem,seval,a_,hxi,idx_of hxi,e1]
   repeat refine And.intro (by omega) ?_
   refine (e2 _ (by omega) (by omega)).calls rfl ?_
   simp only [go_sem,seval]
   refine br_intro (fun h=>?_) (fun h=>?_)
   ·simp only [decide_eq_true_eq] at h
    have hg:=szr_lt h
    simp only [go_sem,seval]
    rw [szr_neg (by omega)]
   ·simp only [decide_eq_false_iff_not] at h
    have hg:=szr_ge h
    rw [szr_pos hg]
    simp only [go_sem,seval]
    rw [wrap_ok (by omega) (by omega)]
    refine hnext (i+1) _ ⟨by omega,by omega⟩ (by omega) ?_
    refine Weak.of (by simp) rfl ?_
    simp [Abs.get,C.refsLtT,C.refsLt,C.refsLt1]
    omega
  ·simp only [decide_eq_false_iff_not] at h
   have:i=xs.length:=by omega
   subst this
   simp only [go_sem,seval]
   rw [szr_pos (by omega)]
   all_goals (congr 2<;>omega)
theorem sz18 (a0:Int) (a1:Int) (a2:List UInt8) (a3:List (List D)) (h2:a2.length≤maxLen) (h3:∀n:Int,0≤n→n≤1048576→Gives Tryz.prog 5 [.sl a3,.int .i64 n] (.d (.int .i64 (szr n (wtR a3)))))
  (n:Int) (g0:0≤n) (g1:n≤1048576):Gives Tryz.prog 18 [.agg [.int .i64 a0,.int .i64 a1,.str a2,.sl a3],.int .i64 n] (.d (.int .i64 (szr n (wtL [.int .i64 a0,.int .i64 a1,.str a2,.sl a3])))):=by
 have hw:wtL [.int .i64 a0,.int .i64 a1,.str a2,.sl a3]=a2.length+wtR a3:=by simp only [wtL,D.wt]<;>omega
 simp only [maxLen] at h2
 rw [hw]
 refine aE_ Tryz.func18 ?_
 refine run_sound Tryz.func18 mixed 100 _ _ (by kernel_rfl) ?_
 simp only [go_sem,seval]
 rw [wrap_ok (by omega) (by omega)]
 refine br_intro (fun h=>?_) (fun h=>?_)
 ·simp only [decide_eq_true_eq] at h
  simp only [go_sem,seval]
  rw [szr_neg (by omega)]
 simp only [decide_eq_false_iff_not,e_] at h
 simp only [go_sem,seval]
 refine (h3 _ (by omega) (by omega)).calls rfl ?_
 simp only [go_sem,seval]
 refine br_intro (fun h=>?_) (fun h=>?_)
 ·simp only [decide_eq_true_eq] at h
  have hg:=szr_lt h
  simp only [go_sem,seval]
  rw [szr_neg (by omega)]
 simp only [decide_eq_false_iff_not] at h
 have hg:=szr_ge h
 rw [szr_pos hg]
 clear h
 simp only [go_sem,seval]
 all_goals rw [szr_pos (by omega)]
 all_goals (congr 2<;>omega)
theorem to8 (xs:List (List D)) (hl:xs.length≤1048576) (hx:∀x,x∈xs→x.length=4∧Gives Tryz.prog 26 [.agg x] (.d (.agg x))):Gives Tryz.prog 8 [.sl xs] (.d (.sl xs)):=by
 refine aE_ Tryz.func8 ?_
 refine run_sound Tryz.func8 mixed 100 _ _ (by kernel_rfl) ?_
 simp only [go_sem,seval,a_]
 repeat refine And.intro (by first | omega | (simp only [maxLen];omega)) ?_
 refine AW.loop_ind (fun i:Nat=>⟨[(4,.d (.int .i64 i)),(0,.d (.sl xs)),(3,.rsl 0 xs.length),(2,.nil0)],[.row 4 62 (xs.take i++List.replicate (xs.length - i) [.int .i64 0,.int .i64 0,.str [],.sl []])]⟩) (fun i=>i≤xs.length) (fun i=>xs.length - i) 0 (by omega) ?_ ?_
 ·refine Weak.of (by simp) rfl ?_
  simp [Abs.get,C.refsLtT,C.refsLt,C.refsLt1]
 ·intro i hi hnext
  by_cases h:i<xs.length
  ·obtain ⟨x,hxi⟩:∃x,xs[i]? = some x:=⟨_,b_ h⟩
   obtain ⟨e1,e2⟩:=hx x (c_ hxi)
   have hlt:((i:Int)<(xs.length:Int))=True:=by simp;omega
   refine run_sound Tryz.func8 mixed 100 _ _ (by kernel_rfl) ?_
   simp only [go_sem,seval,a_,hlt,hxi,idx_of hxi,e1]
   repeat refine And.intro (by omega) ?_
   refine e2.calls rfl ?_
   simp only [go_sem,seval,a_,hlt,hxi,idx_of hxi,e1]
   repeat refine And.intro (by first | omega | (simp;omega) | (simp_all;done)) ?_
   rw [wrap_ok (by omega) (by omega)]
   first | rw [row_step (k:=4) hxi (by rfl)] | rw [row_step1 hxi (by rfl)]
   refine hnext (i+1) _ (by omega) (by omega) ?_
   refine Weak.of (by simp) rfl ?_
   simp [Abs.get,C.refsLtT,C.refsLt,C.refsLt1]
  ·have hlt:((i:Int)<(xs.length:Int))=False:=by simp;omega
   refine run_sound Tryz.func8 mixed 6 _ _ (by kernel_rfl) ?_
   simp only [go_sem,seval,a_,hlt]
   obtain rfl:i=xs.length:=by omega
   rw [row_all]
   refine AW.freeze 3 0 rfl rfl rfl ?_
   refine run_sound Tryz.func8 mixed 100 _ _ (by kernel_rfl) ?_
   simp only [go_sem,seval]
theorem to26 (a0:Int) (a1:Int) (a2:List UInt8) (a3:List (List D)) (h3:Gives Tryz.prog 8 [.sl a3] (.d (.sl a3))):Gives Tryz.prog 26 [.agg [.int .i64 a0,.int .i64 a1,.str a2,.sl a3]] (.d (.agg [.int .i64 a0,.int .i64 a1,.str a2,.sl a3])):=by
 refine aE_ Tryz.func26 ?_
 refine run_sound Tryz.func26 mixed 100 _ _ (by kernel_rfl) ?_
 simp only [go_sem,seval]
 refine h3.calls rfl ?_
 simp only [go_sem,seval]
theorem eq12 (xs:List (List D)) (hm:xs.length≤maxLen) (hx:∀x,x∈xs→x.length=4∧Gives Tryz.prog 35 [.agg x,.agg x] (.d (.bool true))):Gives Tryz.prog 12 [.sl xs,.sl xs] (.d (.bool true)):=by
 have hm':(xs.length:Int)≤9223372036854775807:=by simp only [maxLen] at hm;omega
 refine aE_ Tryz.func12 ?_
 refine run_sound Tryz.func12 mixed 100 _ _ (by kernel_rfl) ?_
 simp only [go_sem,seval,bne_self_eq_false]
 refine AW.loop_ind (fun i:Nat=>⟨[(5,.d (.int .i64 i)),(0,.d (.sl xs)),(1,.d (.sl xs)),(4,.d (.bool false))],[]⟩) (fun i=>i≤xs.length) (fun i=>xs.length - i) 0 (by omega) ?_ ?_
 ·refine Weak.of (by simp) rfl ?_
  simp [Abs.get,C.refsLtT,C.refsLt,C.refsLt1]
 ·intro i hi hnext
  by_cases h:i<xs.length
  ·obtain ⟨x,hxi⟩:∃x,xs[i]? = some x:=⟨_,b_ h⟩
   obtain ⟨e1,e2⟩:=hx x (c_ hxi)
   have hlt:((i:Int)<(xs.length:Int))=True:=by simp;omega
   have h00:(0≤(i:Int))=True:=by simp
   refine run_sound Tryz.func12 mixed 100 _ _ (by kernel_rfl) ?_
   simp only [go_sem,seval,a_,hlt,hxi,idx_of hxi,e1,h00,bne_self_eq_false]
   refine e2.callQ rfl ?_
   simp only [go_sem,seval]
   rw [wrap_ok (by omega) (by omega)]
   refine hnext (i+1) _ (by omega) (by omega) ?_
   refine Weak.of (by simp) rfl ?_
   simp [Abs.get,C.refsLtT,C.refsLt,C.refsLt1]
  ·have hlt:((i:Int)<(xs.length:Int))=False:=by simp;omega
   refine run_sound Tryz.func12 mixed 100 _ _ (by kernel_rfl) ?_
   simp only [go_sem,seval,hlt]
theorem eq35 (a0:Int) (a1:Int) (a2:List UInt8) (a3:List (List D)) (h3:Gives Tryz.prog 12 [.sl a3,.sl a3] (.d (.bool true))):Gives Tryz.prog 35 [.agg [.int .i64 a0,.int .i64 a1,.str a2,.sl a3],.agg [.int .i64 a0,.int .i64 a1,.str a2,.sl a3]] (.d (.bool true)):=by
 refine aE_ Tryz.func35 ?_
 refine run_sound Tryz.func35 mixed 100 _ _ (by kernel_rfl) ?_
 simp only [go_sem,seval,bne_self_eq_false]
 refine h3.calls rfl ?_
 simp only [go_sem,seval,bne_self_eq_false]
theorem len47 {x:List D} (h:Sh Tryz.prog 47 x):x.length=4:=by
 obtain ⟨_,_,_,_,rfl,_⟩:=inv47 h
 rfl
theorem szc47:∀(m:Nat) (x:List D),wtL x<m→Sh Tryz.prog 47 x→∀n:Int,0≤n→n≤1048576→Gives Tryz.prog 18 [.agg x,.int .i64 n] (.d (.int .i64 (szr n (wtL x))))
 | 0,_,hm,_=>by omega
 | m+1,x,hm,h=>by
  obtain ⟨a0,a1,a2,a3,rfl,q0,q1,q2,q3⟩:=inv47 h
  have hw:wtL [.int .i64 a0,.int .i64 a1,.str a2,.sl a3]=a2.length+wtR a3:=by simp only [wtL,D.wt]<;>omega
  exact fun n g0 g1=>sz18 a0 a1 a2 a3 q2 (fun n g0 g1=>sz5 a3 q3.1 (fun x hx=>⟨len47 (q3.2 x hx),szc47 m x (by have:=wtL_lt a3 x hx;omega) (q3.2 x hx)⟩) n g0 g1) n g0 g1
theorem toc47:∀(m:Nat) (x:List D),wtL x<m→wtL x≤1048576→Sh Tryz.prog 47 x→Gives Tryz.prog 26 [.agg x] (.d (.agg x))
 | 0,_,hm,_,_=>by omega
 | m+1,x,hm,hb,h=>by
  obtain ⟨a0,a1,a2,a3,rfl,q0,q1,q2,q3⟩:=inv47 h
  have hw:wtL [.int .i64 a0,.int .i64 a1,.str a2,.sl a3]=a2.length+wtR a3:=by simp only [wtL,D.wt]<;>omega
  exact to26 a0 a1 a2 a3 (to8 a3 (by have:=sumW_le a3 0;omega) (fun x hx=>⟨len47 (q3.2 x hx),toc47 m x (by have:=wtL_lt a3 x hx;omega) (by have:=wtL_lt a3 x hx;omega) (q3.2 x hx)⟩))
theorem eqc47:∀(m:Nat) (x:List D),wtL x<m→Sh Tryz.prog 47 x→Gives Tryz.prog 35 [.agg x,.agg x] (.d (.bool true))
 | 0,_,hm,_=>by omega
 | m+1,x,hm,h=>by
  obtain ⟨a0,a1,a2,a3,rfl,q0,q1,q2,q3⟩:=inv47 h
  have hw:wtL [.int .i64 a0,.int .i64 a1,.str a2,.sl a3]=a2.length+wtR a3:=by simp only [wtL,D.wt]<;>omega
  exact eq35 a0 a1 a2 a3 (eq12 a3 q3.1 (fun x hx=>⟨len47 (q3.2 x hx),eqc47 m x (by have:=wtL_lt a3 x hx;omega) (q3.2 x hx)⟩))
theorem sh_Tm (x:List D) (h:Sh Tryz.prog 47 x):∃t,x=Tm.enc t:=Tm.of_sh lv47 x h
theorem sl_25 {x:D} (h:Sh Tryz.prog 25 [x]):∃l:List Tm,x=.sl (l.map Tm.enc):=shL (by kernel_rfl) sh_Tm h
theorem szs25 (xs:List (List D)) (hm:xs.length≤maxLen) (h:∀x,x∈xs→Sh Tryz.prog 47 x) (n:Int) (g0:0≤n) (g1:n≤1048576):Gives Tryz.prog 5 [.sl xs,.int .i64 n] (.d (.int .i64 (szr n (wtR xs)))):=
 sz5 xs hm (fun x hx=>⟨len47 (h x hx),szc47 _ x (d_ _) (h x hx)⟩) n g0 g1
theorem tos25 (xs:List (List D)) (hb:wtR xs≤1048576) (h:∀x,x∈xs→Sh Tryz.prog 47 x):Gives Tryz.prog 8 [.sl xs] (.d (.sl xs)):=
 to8 xs (by have:=sumW_le xs 0;omega) (fun x hx=>⟨len47 (h x hx),toc47 _ x (d_ _) (by have:=wtL_lt xs x hx;omega) (h x hx)⟩)
theorem eqs25 (xs:List (List D)) (hm:xs.length≤maxLen) (h:∀x,x∈xs→Sh Tryz.prog 47 x):Gives Tryz.prog 12 [.sl xs,.sl xs] (.d (.bool true)):=
 eq12 xs hm (fun x hx=>⟨len47 (h x hx),eqc47 _ x (d_ _) (h x hx)⟩)
theorem lv80:leaves Tryz.prog 6 80=some [.int .i64,.str,.sl 47,.sl 80]:=by kernel_rfl
theorem inv80 {x:List D} (h:Sh Tryz.prog 80 x):∃a0 a1 a2 a3,x=[.int .i64 a0,.str a1,.sl a2,.sl a3]∧(Lit.int .i64 a0).wf=true∧a1.length≤maxLen∧(a2.length≤maxLen∧∀x,x∈a2→Sh Tryz.prog 47 x)∧(a3.length≤maxLen∧∀x,x∈a3→Sh Tryz.prog 80 x):=by
 obtain ⟨ls,h1,h2,h3⟩:=h
 rw [lv80] at h1
 cases h1
 match x,h2,h3 with
 | [c0,c1,c2,c3],_,h3 =>
  have g0:=h3 0 _ _ rfl rfl
  have g1:=h3 1 _ _ rfl rfl
  have g2:=h3 2 _ _ rfl rfl
  have g3:=h3 3 _ _ rfl rfl
  obtain ⟨b0,rfl,q0⟩:=g0.int_inv
  obtain ⟨b1,rfl,q1⟩:=g1.str_inv
  obtain ⟨b2,rfl,q2⟩:=g2.elems
  obtain ⟨b3,rfl,q3⟩:=g3.elems
  exact ⟨_,_,_,_,rfl,q0,q1,q2,q3⟩
theorem sz88 (xs:List (List D)) (hm:xs.length≤maxLen) (hx:∀x,x∈xs→x.length=4∧∀n:Int,0≤n→n≤1048576→Gives Tryz.prog 62 [.agg x,.int .i64 n] (.d (.int .i64 (szr n (wtL x)))))
  (n:Int) (h0:0≤n) (h1:n≤1048576):Gives Tryz.prog 88 [.sl xs,.int .i64 n] (.d (.int .i64 (szr n (wtR xs)))):=by
 have hm':(xs.length:Int)≤9223372036854775807:=by simp only [maxLen] at hm;omega
 have hs:=sumW_all xs
 have hs0:=sumW_le xs 0
 simp only [sumW] at hs0
 refine aE_ Tryz.func88 ?_
 refine run_sound Tryz.func88 mixed 100 _ _ (by kernel_rfl) ?_
 simp only [go_sem,seval]
 rw [wrap_ok (by omega) (by omega)]
 refine br_intro (fun h=>?_) (fun h=>?_)
 ·simp only [decide_eq_true_eq] at h
  simp only [go_sem,seval]
  rw [szr_neg (by omega)]
 simp only [decide_eq_false_iff_not,e_] at h
 simp only [go_sem,seval]
 refine AW.loop_ind (fun i:Nat=>⟨[(5,.d (.int .i64 i)),(0,.d (.sl xs)),(1,.d (.int .i64 (n - xs.length - sumW xs i))),(4,.d (.int .i64 0))],[]⟩) (fun i=>i≤xs.length∧(sumW xs i:Int)≤n - xs.length) (fun i=>xs.length - i) 0 ⟨by omega,by simp only [sumW];omega⟩ ?_ ?_
 ·refine Weak.of (by simp) rfl ?_
  simp [Abs.get,sumW,C.refsLtT,C.refsLt,C.refsLt1]
 ·intro i hi hnext
  obtain ⟨hi1,hi2⟩:=hi
  refine run_sound Tryz.func88 mixed 100 _ _ (by kernel_rfl) ?_
  simp only [go_sem,seval]
  refine br_intro (fun h=>?_) (fun h=>?_)
  ·simp only [decide_eq_true_eq] at h
   have hi:i<xs.length:=by omega
   obtain ⟨x,hxi⟩:∃x,xs[i]? = some x:=⟨_,b_ hi⟩
   have hsum:=sumW_at hxi
   have hle:=sumW_le xs (i+1)
   obtain ⟨e1,e2⟩:=hx x (c_ hxi)
   simp only [go_sem,seval,a_,hxi,idx_of hxi,e1]
   repeat refine And.intro (by omega) ?_
   refine (e2 _ (by omega) (by omega)).calls rfl ?_
   simp only [go_sem,seval]
   refine br_intro (fun h=>?_) (fun h=>?_)
   ·simp only [decide_eq_true_eq] at h
    have hg:=szr_lt h
    simp only [go_sem,seval]
    rw [szr_neg (by omega)]
   ·simp only [decide_eq_false_iff_not] at h
    have hg:=szr_ge h
    rw [szr_pos hg]
    simp only [go_sem,seval]
    rw [wrap_ok (by omega) (by omega)]
    refine hnext (i+1) _ ⟨by omega,by omega⟩ (by omega) ?_
    refine Weak.of (by simp) rfl ?_
    simp [Abs.get,C.refsLtT,C.refsLt,C.refsLt1]
    omega
  ·simp only [decide_eq_false_iff_not] at h
   have:i=xs.length:=by omega
   subst this
   simp only [go_sem,seval]
   rw [szr_pos (by omega)]
   all_goals (congr 2<;>omega)
theorem sz62 (a0:Int) (a1:List UInt8) (a2:List (List D)) (a3:List (List D)) (h1:a1.length≤maxLen) (h2:∀n:Int,0≤n→n≤1048576→Gives Tryz.prog 5 [.sl a2,.int .i64 n] (.d (.int .i64 (szr n (wtR a2))))) (h3:∀n:Int,0≤n→n≤1048576→Gives Tryz.prog 88 [.sl a3,.int .i64 n] (.d (.int .i64 (szr n (wtR a3)))))
  (n:Int) (g0:0≤n) (g1:n≤1048576):Gives Tryz.prog 62 [.agg [.int .i64 a0,.str a1,.sl a2,.sl a3],.int .i64 n] (.d (.int .i64 (szr n (wtL [.int .i64 a0,.str a1,.sl a2,.sl a3])))):=by
 have hw:wtL [.int .i64 a0,.str a1,.sl a2,.sl a3]=a1.length+wtR a2+wtR a3:=by simp only [wtL,D.wt]<;>omega
 simp only [maxLen] at h1
 rw [hw]
 refine aE_ Tryz.func62 ?_
 refine run_sound Tryz.func62 mixed 100 _ _ (by kernel_rfl) ?_
 simp only [go_sem,seval]
 rw [wrap_ok (by omega) (by omega)]
 refine br_intro (fun h=>?_) (fun h=>?_)
 ·simp only [decide_eq_true_eq] at h
  simp only [go_sem,seval]
  rw [szr_neg (by omega)]
 simp only [decide_eq_false_iff_not,e_] at h
 simp only [go_sem,seval]
 refine (h2 _ (by omega) (by omega)).calls rfl ?_
 simp only [go_sem,seval]
 refine br_intro (fun h=>?_) (fun h=>?_)
 ·simp only [decide_eq_true_eq] at h
  have hg:=szr_lt h
  simp only [go_sem,seval]
  rw [szr_neg (by omega)]
 simp only [decide_eq_false_iff_not] at h
 have hg:=szr_ge h
 rw [szr_pos hg]
 clear h
 simp only [go_sem,seval]
 refine (h3 _ (by omega) (by omega)).calls rfl ?_
 simp only [go_sem,seval]
 refine br_intro (fun h=>?_) (fun h=>?_)
 ·simp only [decide_eq_true_eq] at h
  have hg:=szr_lt h
  simp only [go_sem,seval]
  rw [szr_neg (by omega)]
 simp only [decide_eq_false_iff_not] at h
 have hg:=szr_ge h
 rw [szr_pos hg]
 clear h
 simp only [go_sem,seval]
 all_goals rw [szr_pos (by omega)]
 all_goals (congr 2<;>omega)
theorem to93 (xs:List (List D)) (hl:xs.length≤1048576) (hx:∀x,x∈xs→x.length=4∧Gives Tryz.prog 73 [.agg x] (.d (.agg x))):Gives Tryz.prog 93 [.sl xs] (.d (.sl xs)):=by
 refine aE_ Tryz.func93 ?_
 refine run_sound Tryz.func93 mixed 100 _ _ (by kernel_rfl) ?_
 simp only [go_sem,seval,a_]
 repeat refine And.intro (by first | omega | (simp only [maxLen];omega)) ?_
 refine AW.loop_ind (fun i:Nat=>⟨[(4,.d (.int .i64 i)),(0,.d (.sl xs)),(3,.rsl 0 xs.length),(2,.nil0)],[.row 4 52 (xs.take i++List.replicate (xs.length - i) [.int .i64 0,.str [],.sl [],.sl []])]⟩) (fun i=>i≤xs.length) (fun i=>xs.length - i) 0 (by omega) ?_ ?_
 ·refine Weak.of (by simp) rfl ?_
  simp [Abs.get,C.refsLtT,C.refsLt,C.refsLt1]
 ·intro i hi hnext
  by_cases h:i<xs.length
  ·obtain ⟨x,hxi⟩:∃x,xs[i]? = some x:=⟨_,b_ h⟩
   obtain ⟨e1,e2⟩:=hx x (c_ hxi)
   have hlt:((i:Int)<(xs.length:Int))=True:=by simp;omega
   refine run_sound Tryz.func93 mixed 100 _ _ (by kernel_rfl) ?_
   simp only [go_sem,seval,a_,hlt,hxi,idx_of hxi,e1]
   repeat refine And.intro (by omega) ?_
   refine e2.calls rfl ?_
   simp only [go_sem,seval,a_,hlt,hxi,idx_of hxi,e1]
   repeat refine And.intro (by first | omega | (simp;omega) | (simp_all;done)) ?_
   rw [wrap_ok (by omega) (by omega)]
   first | rw [row_step (k:=4) hxi (by rfl)] | rw [row_step1 hxi (by rfl)]
   refine hnext (i+1) _ (by omega) (by omega) ?_
   refine Weak.of (by simp) rfl ?_
   simp [Abs.get,C.refsLtT,C.refsLt,C.refsLt1]
  ·have hlt:((i:Int)<(xs.length:Int))=False:=by simp;omega
   refine run_sound Tryz.func93 mixed 6 _ _ (by kernel_rfl) ?_
   simp only [go_sem,seval,a_,hlt]
   obtain rfl:i=xs.length:=by omega
   rw [row_all]
   refine AW.freeze 3 0 rfl rfl rfl ?_
   refine run_sound Tryz.func93 mixed 100 _ _ (by kernel_rfl) ?_
   simp only [go_sem,seval]
theorem to73 (a0:Int) (a1:List UInt8) (a2:List (List D)) (a3:List (List D)) (h2:Gives Tryz.prog 8 [.sl a2] (.d (.sl a2))) (h3:Gives Tryz.prog 93 [.sl a3] (.d (.sl a3))):Gives Tryz.prog 73 [.agg [.int .i64 a0,.str a1,.sl a2,.sl a3]] (.d (.agg [.int .i64 a0,.str a1,.sl a2,.sl a3])):=by
 refine aE_ Tryz.func73 ?_
 refine run_sound Tryz.func73 mixed 100 _ _ (by kernel_rfl) ?_
 simp only [go_sem,seval]
 refine h2.calls rfl ?_
 simp only [go_sem,seval]
 refine h3.calls rfl ?_
 simp only [go_sem,seval]
theorem eq111 (xs:List (List D)) (hm:xs.length≤maxLen) (hx:∀x,x∈xs→x.length=4∧Gives Tryz.prog 87 [.agg x,.agg x] (.d (.bool true))):Gives Tryz.prog 111 [.sl xs,.sl xs] (.d (.bool true)):=by
 have hm':(xs.length:Int)≤9223372036854775807:=by simp only [maxLen] at hm;omega
 refine aE_ Tryz.func111 ?_
 refine run_sound Tryz.func111 mixed 100 _ _ (by kernel_rfl) ?_
 simp only [go_sem,seval,bne_self_eq_false]
 refine AW.loop_ind (fun i:Nat=>⟨[(5,.d (.int .i64 i)),(0,.d (.sl xs)),(1,.d (.sl xs)),(4,.d (.bool false))],[]⟩) (fun i=>i≤xs.length) (fun i=>xs.length - i) 0 (by omega) ?_ ?_
 ·refine Weak.of (by simp) rfl ?_
  simp [Abs.get,C.refsLtT,C.refsLt,C.refsLt1]
 ·intro i hi hnext
  by_cases h:i<xs.length
  ·obtain ⟨x,hxi⟩:∃x,xs[i]? = some x:=⟨_,b_ h⟩
   obtain ⟨e1,e2⟩:=hx x (c_ hxi)
   have hlt:((i:Int)<(xs.length:Int))=True:=by simp;omega
   have h00:(0≤(i:Int))=True:=by simp
   refine run_sound Tryz.func111 mixed 100 _ _ (by kernel_rfl) ?_
   simp only [go_sem,seval,a_,hlt,hxi,idx_of hxi,e1,h00,bne_self_eq_false]
   refine e2.callQ rfl ?_
   simp only [go_sem,seval]
   rw [wrap_ok (by omega) (by omega)]
   refine hnext (i+1) _ (by omega) (by omega) ?_
   refine Weak.of (by simp) rfl ?_
   simp [Abs.get,C.refsLtT,C.refsLt,C.refsLt1]
  ·have hlt:((i:Int)<(xs.length:Int))=False:=by simp;omega
   refine run_sound Tryz.func111 mixed 100 _ _ (by kernel_rfl) ?_
   simp only [go_sem,seval,hlt]
theorem eq87 (a0:Int) (a1:List UInt8) (a2:List (List D)) (a3:List (List D)) (h2:Gives Tryz.prog 12 [.sl a2,.sl a2] (.d (.bool true))) (h3:Gives Tryz.prog 111 [.sl a3,.sl a3] (.d (.bool true))):Gives Tryz.prog 87 [.agg [.int .i64 a0,.str a1,.sl a2,.sl a3],.agg [.int .i64 a0,.str a1,.sl a2,.sl a3]] (.d (.bool true)):=by
 refine aE_ Tryz.func87 ?_
 refine run_sound Tryz.func87 mixed 100 _ _ (by kernel_rfl) ?_
 simp only [go_sem,seval,bne_self_eq_false]
 refine h2.calls rfl ?_
 simp only [go_sem,seval,bne_self_eq_false]
 refine h3.calls rfl ?_
 simp only [go_sem,seval,bne_self_eq_false]
theorem mk80 (a0:Int) (a1:List UInt8) (a2:List (List D)) (a3:List (List D)) (q0:(Lit.int .i64 a0).wf=true) (q1:a1.length≤maxLen) (q2:a2.length≤maxLen∧∀x,x∈a2→Sh Tryz.prog 47 x) (q3:a3.length≤maxLen∧∀x,x∈a3→Sh Tryz.prog 80 x):Sh Tryz.prog 80 [.int .i64 a0,.str a1,.sl a2,.sl a3]:=by
 refine ⟨_,lv80,rfl,fun i l c hl hc=>?_⟩
 match i with
 | 0=>simp at hl hc;subst hl hc;exact .int _ _ q0
 | 1=>simp at hl hc;subst hl hc;exact .str _ q1
 | 2=>simp at hl hc;subst hl hc;exact ShC.sl_of lv47 q2.1 q2.2
 | 3=>simp at hl hc;subst hl hc;exact ShC.sl_of lv80 q3.1 q3.2
 | i+4=>simp at hl
theorem len80 {x:List D} (h:Sh Tryz.prog 80 x):x.length=4:=by
 obtain ⟨_,_,_,_,rfl,_⟩:=inv80 h
 rfl
theorem szc80:∀(m:Nat) (x:List D),wtL x<m→Sh Tryz.prog 80 x→∀n:Int,0≤n→n≤1048576→Gives Tryz.prog 62 [.agg x,.int .i64 n] (.d (.int .i64 (szr n (wtL x))))
 | 0,_,hm,_=>by omega
 | m+1,x,hm,h=>by
  obtain ⟨a0,a1,a2,a3,rfl,q0,q1,q2,q3⟩:=inv80 h
  have hw:wtL [.int .i64 a0,.str a1,.sl a2,.sl a3]=a1.length+wtR a2+wtR a3:=by simp only [wtL,D.wt]<;>omega
  exact fun n g0 g1=>sz62 a0 a1 a2 a3 q1 (fun n g0 g1=>szs25 a2 q2.1 q2.2 n g0 g1) (fun n g0 g1=>sz88 a3 q3.1 (fun x hx=>⟨len80 (q3.2 x hx),szc80 m x (by have:=wtL_lt a3 x hx;omega) (q3.2 x hx)⟩) n g0 g1) n g0 g1
theorem toc80:∀(m:Nat) (x:List D),wtL x<m→wtL x≤1048576→Sh Tryz.prog 80 x→Gives Tryz.prog 73 [.agg x] (.d (.agg x))
 | 0,_,hm,_,_=>by omega
 | m+1,x,hm,hb,h=>by
  obtain ⟨a0,a1,a2,a3,rfl,q0,q1,q2,q3⟩:=inv80 h
  have hw:wtL [.int .i64 a0,.str a1,.sl a2,.sl a3]=a1.length+wtR a2+wtR a3:=by simp only [wtL,D.wt]<;>omega
  exact to73 a0 a1 a2 a3 (tos25 a2 (by omega) q2.2) (to93 a3 (by have:=sumW_le a3 0;omega) (fun x hx=>⟨len80 (q3.2 x hx),toc80 m x (by have:=wtL_lt a3 x hx;omega) (by have:=wtL_lt a3 x hx;omega) (q3.2 x hx)⟩))
theorem eqc80:∀(m:Nat) (x:List D),wtL x<m→Sh Tryz.prog 80 x→Gives Tryz.prog 87 [.agg x,.agg x] (.d (.bool true))
 | 0,_,hm,_=>by omega
 | m+1,x,hm,h=>by
  obtain ⟨a0,a1,a2,a3,rfl,q0,q1,q2,q3⟩:=inv80 h
  have hw:wtL [.int .i64 a0,.str a1,.sl a2,.sl a3]=a1.length+wtR a2+wtR a3:=by simp only [wtL,D.wt]<;>omega
  exact eq87 a0 a1 a2 a3 (eqs25 a2 q2.1 q2.2) (eq111 a3 q3.1 (fun x hx=>⟨len80 (q3.2 x hx),eqc80 m x (by have:=wtL_lt a3 x hx;omega) (q3.2 x hx)⟩))
theorem sh_Gl (x:List D) (h:Sh Tryz.prog 80 x):∃t,x=Gl.enc t:=Gl.of_sh lv80 sh_Tm x h
theorem lv82:leaves Tryz.prog 6 82=some [.str,.int .i64,.int .i64,.int .i64,.str,.sl 47,.sl 80]:=by kernel_rfl
theorem inv82 {x:List D} (h:Sh Tryz.prog 82 x):∃a0 a1 a2 a3 a4 a5 a6,x=[.str a0,.int .i64 a1,.int .i64 a2,.int .i64 a3,.str a4,.sl a5,.sl a6]∧a0.length≤maxLen∧(Lit.int .i64 a1).wf=true∧(Lit.int .i64 a2).wf=true∧(Lit.int .i64 a3).wf=true∧a4.length≤maxLen∧(a5.length≤maxLen∧∀x,x∈a5→Sh Tryz.prog 47 x)∧(a6.length≤maxLen∧∀x,x∈a6→Sh Tryz.prog 80 x):=by
 obtain ⟨ls,h1,h2,h3⟩:=h
 rw [lv82] at h1
 cases h1
 match x,h2,h3 with
 | [c0,c1,c2,c3,c4,c5,c6],_,h3 =>
  have g0:=h3 0 _ _ rfl rfl
  have g1:=h3 1 _ _ rfl rfl
  have g2:=h3 2 _ _ rfl rfl
  have g3:=h3 3 _ _ rfl rfl
  have g4:=h3 4 _ _ rfl rfl
  have g5:=h3 5 _ _ rfl rfl
  have g6:=h3 6 _ _ rfl rfl
  obtain ⟨b0,rfl,q0⟩:=g0.str_inv
  obtain ⟨b1,rfl,q1⟩:=g1.int_inv
  obtain ⟨b2,rfl,q2⟩:=g2.int_inv
  obtain ⟨b3,rfl,q3⟩:=g3.int_inv
  obtain ⟨b4,rfl,q4⟩:=g4.str_inv
  obtain ⟨b5,rfl,q5⟩:=g5.elems
  obtain ⟨b6,rfl,q6⟩:=g6.elems
  exact ⟨_,_,_,_,_,_,_,rfl,q0,q1,q2,q3,q4,q5,q6⟩
theorem sz17 (xs:List (List D)) (hm:xs.length≤maxLen) (hx:∀x,x∈xs→x.length=7∧∀n:Int,0≤n→n≤1048576→Gives Tryz.prog 39 [.agg x,.int .i64 n] (.d (.int .i64 (szr n (wtL x)))))
  (n:Int) (h0:0≤n) (h1:n≤1048576):Gives Tryz.prog 17 [.sl xs,.int .i64 n] (.d (.int .i64 (szr n (wtR xs)))):=by
 have hm':(xs.length:Int)≤9223372036854775807:=by simp only [maxLen] at hm;omega
 have hs:=sumW_all xs
 have hs0:=sumW_le xs 0
 simp only [sumW] at hs0
 refine aE_ Tryz.func17 ?_
 refine run_sound Tryz.func17 mixed 100 _ _ (by kernel_rfl) ?_
 simp only [go_sem,seval]
 rw [wrap_ok (by omega) (by omega)]
 refine br_intro (fun h=>?_) (fun h=>?_)
 ·simp only [decide_eq_true_eq] at h
  simp only [go_sem,seval]
  rw [szr_neg (by omega)]
 simp only [decide_eq_false_iff_not,e_] at h
 simp only [go_sem,seval]
 refine AW.loop_ind (fun i:Nat=>⟨[(5,.d (.int .i64 i)),(0,.d (.sl xs)),(1,.d (.int .i64 (n - xs.length - sumW xs i))),(4,.d (.int .i64 0))],[]⟩) (fun i=>i≤xs.length∧(sumW xs i:Int)≤n - xs.length) (fun i=>xs.length - i) 0 ⟨by omega,by simp only [sumW];omega⟩ ?_ ?_
 ·refine Weak.of (by simp) rfl ?_
  simp [Abs.get,sumW,C.refsLtT,C.refsLt,C.refsLt1]
 ·intro i hi hnext
  obtain ⟨hi1,hi2⟩:=hi
  refine run_sound Tryz.func17 mixed 100 _ _ (by kernel_rfl) ?_
  simp only [go_sem,seval]
  refine br_intro (fun h=>?_) (fun h=>?_)
  ·simp only [decide_eq_true_eq] at h
   have hi:i<xs.length:=by omega
   obtain ⟨x,hxi⟩:∃x,xs[i]? = some x:=⟨_,b_ hi⟩
   have hsum:=sumW_at hxi
   have hle:=sumW_le xs (i+1)
   obtain ⟨e1,e2⟩:=hx x (c_ hxi)
   simp only [go_sem,seval,a_,hxi,idx_of hxi,e1]
   repeat refine And.intro (by omega) ?_
   refine (e2 _ (by omega) (by omega)).calls rfl ?_
   simp only [go_sem,seval]
   refine br_intro (fun h=>?_) (fun h=>?_)
   ·simp only [decide_eq_true_eq] at h
    have hg:=szr_lt h
    simp only [go_sem,seval]
    rw [szr_neg (by omega)]
   ·simp only [decide_eq_false_iff_not] at h
    have hg:=szr_ge h
    rw [szr_pos hg]
    simp only [go_sem,seval]
    rw [wrap_ok (by omega) (by omega)]
    refine hnext (i+1) _ ⟨by omega,by omega⟩ (by omega) ?_
    refine Weak.of (by simp) rfl ?_
    simp [Abs.get,C.refsLtT,C.refsLt,C.refsLt1]
    omega
  ·simp only [decide_eq_false_iff_not] at h
   have:i=xs.length:=by omega
   subst this
   simp only [go_sem,seval]
   rw [szr_pos (by omega)]
   all_goals (congr 2<;>omega)
theorem sz39 (a0:List UInt8) (a1:Int) (a2:Int) (a3:Int) (a4:List UInt8) (a5:List (List D)) (a6:List (List D)) (h0:a0.length≤maxLen) (h3:∀n:Int,0≤n→n≤1048576→Gives Tryz.prog 62 [.agg [.int .i64 a3,.str a4,.sl a5,.sl a6],.int .i64 n] (.d (.int .i64 (szr n (wtL [.int .i64 a3,.str a4,.sl a5,.sl a6])))))
  (n:Int) (g0:0≤n) (g1:n≤1048576):Gives Tryz.prog 39 [.agg [.str a0,.int .i64 a1,.int .i64 a2,.int .i64 a3,.str a4,.sl a5,.sl a6],.int .i64 n] (.d (.int .i64 (szr n (wtL [.str a0,.int .i64 a1,.int .i64 a2,.int .i64 a3,.str a4,.sl a5,.sl a6])))):=by
 have hw:wtL [.str a0,.int .i64 a1,.int .i64 a2,.int .i64 a3,.str a4,.sl a5,.sl a6]=a0.length+wtL [.int .i64 a3,.str a4,.sl a5,.sl a6]:=by simp only [wtL,D.wt]<;>omega
 simp only [maxLen] at h0
 rw [hw]
 refine aE_ Tryz.func39 ?_
 refine run_sound Tryz.func39 mixed 100 _ _ (by kernel_rfl) ?_
 simp only [go_sem,seval]
 rw [wrap_ok (by omega) (by omega)]
 refine br_intro (fun h=>?_) (fun h=>?_)
 ·simp only [decide_eq_true_eq] at h
  simp only [go_sem,seval]
  rw [szr_neg (by omega)]
 simp only [decide_eq_false_iff_not,e_] at h
 simp only [go_sem,seval]
 refine (h3 _ (by omega) (by omega)).calls rfl ?_
 simp only [go_sem,seval]
 refine br_intro (fun h=>?_) (fun h=>?_)
 ·simp only [decide_eq_true_eq] at h
  have hg:=szr_lt h
  simp only [go_sem,seval]
  rw [szr_neg (by omega)]
 simp only [decide_eq_false_iff_not] at h
 have hg:=szr_ge h
 rw [szr_pos hg]
 clear h
 simp only [go_sem,seval]
 all_goals rw [szr_pos (by omega)]
 all_goals (congr 2<;>omega)
theorem to25 (xs:List (List D)) (hl:xs.length≤1048576) (hx:∀x,x∈xs→x.length=7∧Gives Tryz.prog 49 [.agg x] (.d (.agg x))):Gives Tryz.prog 25 [.sl xs] (.d (.sl xs)):=by
 refine aE_ Tryz.func25 ?_
 refine run_sound Tryz.func25 mixed 100 _ _ (by kernel_rfl) ?_
 simp only [go_sem,seval,a_]
 repeat refine And.intro (by first | omega | (simp only [maxLen];omega)) ?_
 refine AW.loop_ind (fun i:Nat=>⟨[(4,.d (.int .i64 i)),(0,.d (.sl xs)),(3,.rsl 0 xs.length),(2,.nil0)],[.row 7 54 (xs.take i++List.replicate (xs.length - i) [.str [],.int .i64 0,.int .i64 0,.int .i64 0,.str [],.sl [],.sl []])]⟩) (fun i=>i≤xs.length) (fun i=>xs.length - i) 0 (by omega) ?_ ?_
 ·refine Weak.of (by simp) rfl ?_
  simp [Abs.get,C.refsLtT,C.refsLt,C.refsLt1]
 ·intro i hi hnext
  by_cases h:i<xs.length
  ·obtain ⟨x,hxi⟩:∃x,xs[i]? = some x:=⟨_,b_ h⟩
   obtain ⟨e1,e2⟩:=hx x (c_ hxi)
   have hlt:((i:Int)<(xs.length:Int))=True:=by simp;omega
   refine run_sound Tryz.func25 mixed 100 _ _ (by kernel_rfl) ?_
   simp only [go_sem,seval,a_,hlt,hxi,idx_of hxi,e1]
   repeat refine And.intro (by omega) ?_
   refine e2.calls rfl ?_
   simp only [go_sem,seval,a_,hlt,hxi,idx_of hxi,e1]
   repeat refine And.intro (by first | omega | (simp;omega) | (simp_all;done)) ?_
   rw [wrap_ok (by omega) (by omega)]
   first | rw [row_step (k:=7) hxi (by rfl)] | rw [row_step1 hxi (by rfl)]
   refine hnext (i+1) _ (by omega) (by omega) ?_
   refine Weak.of (by simp) rfl ?_
   simp [Abs.get,C.refsLtT,C.refsLt,C.refsLt1]
  ·have hlt:((i:Int)<(xs.length:Int))=False:=by simp;omega
   refine run_sound Tryz.func25 mixed 6 _ _ (by kernel_rfl) ?_
   simp only [go_sem,seval,a_,hlt]
   obtain rfl:i=xs.length:=by omega
   rw [row_all]
   refine AW.freeze 3 0 rfl rfl rfl ?_
   refine run_sound Tryz.func25 mixed 100 _ _ (by kernel_rfl) ?_
   simp only [go_sem,seval]
theorem to49 (a0:List UInt8) (a1:Int) (a2:Int) (a3:Int) (a4:List UInt8) (a5:List (List D)) (a6:List (List D)) (h3:Gives Tryz.prog 73 [.agg [.int .i64 a3,.str a4,.sl a5,.sl a6]] (.d (.agg [.int .i64 a3,.str a4,.sl a5,.sl a6]))):Gives Tryz.prog 49 [.agg [.str a0,.int .i64 a1,.int .i64 a2,.int .i64 a3,.str a4,.sl a5,.sl a6]] (.d (.agg [.str a0,.int .i64 a1,.int .i64 a2,.int .i64 a3,.str a4,.sl a5,.sl a6])):=by
 refine aE_ Tryz.func49 ?_
 refine run_sound Tryz.func49 mixed 100 _ _ (by kernel_rfl) ?_
 simp only [go_sem,seval]
 refine h3.calls rfl ?_
 simp only [go_sem,seval]
theorem eq34 (xs:List (List D)) (hm:xs.length≤maxLen) (hx:∀x,x∈xs→x.length=7∧Gives Tryz.prog 60 [.agg x,.agg x] (.d (.bool true))):Gives Tryz.prog 34 [.sl xs,.sl xs] (.d (.bool true)):=by
 have hm':(xs.length:Int)≤9223372036854775807:=by simp only [maxLen] at hm;omega
 refine aE_ Tryz.func34 ?_
 refine run_sound Tryz.func34 mixed 100 _ _ (by kernel_rfl) ?_
 simp only [go_sem,seval,bne_self_eq_false]
 refine AW.loop_ind (fun i:Nat=>⟨[(5,.d (.int .i64 i)),(0,.d (.sl xs)),(1,.d (.sl xs)),(4,.d (.bool false))],[]⟩) (fun i=>i≤xs.length) (fun i=>xs.length - i) 0 (by omega) ?_ ?_
 ·refine Weak.of (by simp) rfl ?_
  simp [Abs.get,C.refsLtT,C.refsLt,C.refsLt1]
 ·intro i hi hnext
  by_cases h:i<xs.length
  ·obtain ⟨x,hxi⟩:∃x,xs[i]? = some x:=⟨_,b_ h⟩
   obtain ⟨e1,e2⟩:=hx x (c_ hxi)
   have hlt:((i:Int)<(xs.length:Int))=True:=by simp;omega
   have h00:(0≤(i:Int))=True:=by simp
   refine run_sound Tryz.func34 mixed 100 _ _ (by kernel_rfl) ?_
   simp only [go_sem,seval,a_,hlt,hxi,idx_of hxi,e1,h00,bne_self_eq_false]
   refine e2.callQ rfl ?_
   simp only [go_sem,seval]
   rw [wrap_ok (by omega) (by omega)]
   refine hnext (i+1) _ (by omega) (by omega) ?_
   refine Weak.of (by simp) rfl ?_
   simp [Abs.get,C.refsLtT,C.refsLt,C.refsLt1]
  ·have hlt:((i:Int)<(xs.length:Int))=False:=by simp;omega
   refine run_sound Tryz.func34 mixed 100 _ _ (by kernel_rfl) ?_
   simp only [go_sem,seval,hlt]
theorem eq60 (a0:List UInt8) (a1:Int) (a2:Int) (a3:Int) (a4:List UInt8) (a5:List (List D)) (a6:List (List D)) (h3:Gives Tryz.prog 87 [.agg [.int .i64 a3,.str a4,.sl a5,.sl a6],.agg [.int .i64 a3,.str a4,.sl a5,.sl a6]] (.d (.bool true))):Gives Tryz.prog 60 [.agg [.str a0,.int .i64 a1,.int .i64 a2,.int .i64 a3,.str a4,.sl a5,.sl a6],.agg [.str a0,.int .i64 a1,.int .i64 a2,.int .i64 a3,.str a4,.sl a5,.sl a6]] (.d (.bool true)):=by
 refine aE_ Tryz.func60 ?_
 refine run_sound Tryz.func60 mixed 100 _ _ (by kernel_rfl) ?_
 simp only [go_sem,seval,bne_self_eq_false]
 refine h3.calls rfl ?_
 simp only [go_sem,seval,bne_self_eq_false]
theorem len82 {x:List D} (h:Sh Tryz.prog 82 x):x.length=7:=by
 obtain ⟨_,_,_,_,_,_,_,rfl,_⟩:=inv82 h
 rfl
theorem szc82:∀(m:Nat) (x:List D),wtL x<m→Sh Tryz.prog 82 x→∀n:Int,0≤n→n≤1048576→Gives Tryz.prog 39 [.agg x,.int .i64 n] (.d (.int .i64 (szr n (wtL x))))
 | 0,_,hm,_=>by omega
 | m+1,x,hm,h=>by
  obtain ⟨a0,a1,a2,a3,a4,a5,a6,rfl,q0,q1,q2,q3,q4,q5,q6⟩:=inv82 h
  have hw:wtL [.str a0,.int .i64 a1,.int .i64 a2,.int .i64 a3,.str a4,.sl a5,.sl a6]=a0.length+wtL [.int .i64 a3,.str a4,.sl a5,.sl a6]:=by simp only [wtL,D.wt]<;>omega
  exact fun n g0 g1=>sz39 a0 a1 a2 a3 a4 a5 a6 q0 (fun n g0 g1=>szc80 _ [.int .i64 a3,.str a4,.sl a5,.sl a6] (d_ _) (mk80 a3 a4 a5 a6 q3 q4 q5 q6) n g0 g1) n g0 g1
theorem toc82:∀(m:Nat) (x:List D),wtL x<m→wtL x≤1048576→Sh Tryz.prog 82 x→Gives Tryz.prog 49 [.agg x] (.d (.agg x))
 | 0,_,hm,_,_=>by omega
 | m+1,x,hm,hb,h=>by
  obtain ⟨a0,a1,a2,a3,a4,a5,a6,rfl,q0,q1,q2,q3,q4,q5,q6⟩:=inv82 h
  have hw:wtL [.str a0,.int .i64 a1,.int .i64 a2,.int .i64 a3,.str a4,.sl a5,.sl a6]=a0.length+wtL [.int .i64 a3,.str a4,.sl a5,.sl a6]:=by simp only [wtL,D.wt]<;>omega
  exact to49 a0 a1 a2 a3 a4 a5 a6 (toc80 _ [.int .i64 a3,.str a4,.sl a5,.sl a6] (d_ _) (by omega) (mk80 a3 a4 a5 a6 q3 q4 q5 q6))
theorem eqc82:∀(m:Nat) (x:List D),wtL x<m→Sh Tryz.prog 82 x→Gives Tryz.prog 60 [.agg x,.agg x] (.d (.bool true))
 | 0,_,hm,_=>by omega
 | m+1,x,hm,h=>by
  obtain ⟨a0,a1,a2,a3,a4,a5,a6,rfl,q0,q1,q2,q3,q4,q5,q6⟩:=inv82 h
  have hw:wtL [.str a0,.int .i64 a1,.int .i64 a2,.int .i64 a3,.str a4,.sl a5,.sl a6]=a0.length+wtL [.int .i64 a3,.str a4,.sl a5,.sl a6]:=by simp only [wtL,D.wt]<;>omega
  exact eq60 a0 a1 a2 a3 a4 a5 a6 (eqc80 _ [.int .i64 a3,.str a4,.sl a5,.sl a6] (d_ _) (mk80 a3 a4 a5 a6 q3 q4 q5 q6))
theorem sh_Rl (x:List D) (h:Sh Tryz.prog 82 x):∃t,x=Rl.enc t:=Rl.of_sh lv82 sh_Tm sh_Gl x h
theorem szs22 (xs:List (List D)) (hm:xs.length≤maxLen) (h:∀x,x∈xs→Sh Tryz.prog 82 x) (n:Int) (g0:0≤n) (g1:n≤1048576):Gives Tryz.prog 17 [.sl xs,.int .i64 n] (.d (.int .i64 (szr n (wtR xs)))):=
 sz17 xs hm (fun x hx=>⟨len82 (h x hx),szc82 _ x (d_ _) (h x hx)⟩) n g0 g1
theorem tos22 (xs:List (List D)) (hb:wtR xs≤1048576) (h:∀x,x∈xs→Sh Tryz.prog 82 x):Gives Tryz.prog 25 [.sl xs] (.d (.sl xs)):=
 to25 xs (by have:=sumW_le xs 0;omega) (fun x hx=>⟨len82 (h x hx),toc82 _ x (d_ _) (by have:=wtL_lt xs x hx;omega) (h x hx)⟩)
theorem eqs22 (xs:List (List D)) (hm:xs.length≤maxLen) (h:∀x,x∈xs→Sh Tryz.prog 82 x):Gives Tryz.prog 34 [.sl xs,.sl xs] (.d (.bool true)):=
 eq34 xs hm (fun x hx=>⟨len82 (h x hx),eqc82 _ x (d_ _) (h x hx)⟩)
theorem lv24:leaves Tryz.prog 6 24=some [.sl 82]:=by kernel_rfl
theorem inv24 {x:List D} (h:Sh Tryz.prog 24 x):∃a0,x=[.sl a0]∧(a0.length≤maxLen∧∀x,x∈a0→Sh Tryz.prog 82 x):=by
 obtain ⟨ls,h1,h2,h3⟩:=h
 rw [lv24] at h1
 cases h1
 match x,h2,h3 with
 | [c0],_,h3 =>
  have g0:=h3 0 _ _ rfl rfl
  obtain ⟨b0,rfl,q0⟩:=g0.elems
  exact ⟨_,rfl,q0⟩
theorem sz4 (a0:List (List D)) (h0:∀n:Int,0≤n→n≤1048576→Gives Tryz.prog 17 [.sl a0,.int .i64 n] (.d (.int .i64 (szr n (wtR a0)))))
  (n:Int) (g0:0≤n) (g1:n≤1048576):Gives Tryz.prog 4 [.agg [.sl a0],.int .i64 n] (.d (.int .i64 (szr n (wtL [.sl a0])))):=by
 have hw:wtL [.sl a0]=wtR a0:=by simp only [wtL,D.wt]<;>omega
 rw [hw]
 refine aE_ Tryz.func4 ?_
 refine run_sound Tryz.func4 mixed 100 _ _ (by kernel_rfl) ?_
 simp only [go_sem,seval]
 refine (h0 _ (by omega) (by omega)).calls rfl ?_
 simp only [go_sem,seval]
 refine br_intro (fun h=>?_) (fun h=>?_)
 ·simp only [decide_eq_true_eq] at h
  have hg:=szr_lt h
  simp only [go_sem,seval]
  rw [szr_neg (by omega)]
 simp only [decide_eq_false_iff_not] at h
 have hg:=szr_ge h
 rw [szr_pos hg]
 clear h
 simp only [go_sem,seval]
 all_goals rw [szr_pos (by omega)]
 all_goals (congr 2<;>omega)
theorem to7 (a0:List (List D)) (h0:Gives Tryz.prog 25 [.sl a0] (.d (.sl a0))):Gives Tryz.prog 7 [.agg [.sl a0]] (.d (.agg [.sl a0])):=by
 refine aE_ Tryz.func7 ?_
 refine run_sound Tryz.func7 mixed 100 _ _ (by kernel_rfl) ?_
 simp only [go_sem,seval]
 refine h0.calls rfl ?_
 simp only [go_sem,seval]
theorem eq11 (a0:List (List D)) (h0:Gives Tryz.prog 34 [.sl a0,.sl a0] (.d (.bool true))):Gives Tryz.prog 11 [.agg [.sl a0],.agg [.sl a0]] (.d (.bool true)):=by
 refine aE_ Tryz.func11 ?_
 refine run_sound Tryz.func11 mixed 100 _ _ (by kernel_rfl) ?_
 simp only [go_sem,seval,bne_self_eq_false]
 refine h0.calls rfl ?_
 simp only [go_sem,seval,bne_self_eq_false]
theorem szc24:∀(m:Nat) (x:List D),wtL x<m→Sh Tryz.prog 24 x→∀n:Int,0≤n→n≤1048576→Gives Tryz.prog 4 [.agg x,.int .i64 n] (.d (.int .i64 (szr n (wtL x))))
 | 0,_,hm,_=>by omega
 | m+1,x,hm,h=>by
  obtain ⟨a0,rfl,q0⟩:=inv24 h
  have hw:wtL [.sl a0]=wtR a0:=by simp only [wtL,D.wt]<;>omega
  exact fun n g0 g1=>sz4 a0 (fun n g0 g1=>szs22 a0 q0.1 q0.2 n g0 g1) n g0 g1
theorem toc24:∀(m:Nat) (x:List D),wtL x<m→wtL x≤1048576→Sh Tryz.prog 24 x→Gives Tryz.prog 7 [.agg x] (.d (.agg x))
 | 0,_,hm,_,_=>by omega
 | m+1,x,hm,hb,h=>by
  obtain ⟨a0,rfl,q0⟩:=inv24 h
  have hw:wtL [.sl a0]=wtR a0:=by simp only [wtL,D.wt]<;>omega
  exact to7 a0 (tos22 a0 (by omega) q0.2)
theorem eqc24:∀(m:Nat) (x:List D),wtL x<m→Sh Tryz.prog 24 x→Gives Tryz.prog 11 [.agg x,.agg x] (.d (.bool true))
 | 0,_,hm,_=>by omega
 | m+1,x,hm,h=>by
  obtain ⟨a0,rfl,q0⟩:=inv24 h
  have hw:wtL [.sl a0]=wtR a0:=by simp only [wtL,D.wt]<;>omega
  exact eq11 a0 (eqs22 a0 q0.1 q0.2)
theorem sh_Pg (x:List D) (h:Sh Tryz.prog 24 x):∃t,x=Pg.enc t:=Pg.of_sh lv24 sh_Rl x h
theorem eq10 (xs:List (List D)) (hm:xs.length≤maxLen) (hx:∀x,x∈xs→x.length=2∧Gives Tryz.prog 33 [.agg x,.agg x] (.d (.bool true))):Gives Tryz.prog 10 [.sl xs,.sl xs] (.d (.bool true)):=by
 have hm':(xs.length:Int)≤9223372036854775807:=by simp only [maxLen] at hm;omega
 refine aE_ Tryz.func10 ?_
 refine run_sound Tryz.func10 mixed 100 _ _ (by kernel_rfl) ?_
 simp only [go_sem,seval,bne_self_eq_false]
 refine AW.loop_ind (fun i:Nat=>⟨[(5,.d (.int .i64 i)),(0,.d (.sl xs)),(1,.d (.sl xs)),(4,.d (.bool false))],[]⟩) (fun i=>i≤xs.length) (fun i=>xs.length - i) 0 (by omega) ?_ ?_
 ·refine Weak.of (by simp) rfl ?_
  simp [Abs.get,C.refsLtT,C.refsLt,C.refsLt1]
 ·intro i hi hnext
  by_cases h:i<xs.length
  ·obtain ⟨x,hxi⟩:∃x,xs[i]? = some x:=⟨_,b_ h⟩
   obtain ⟨e1,e2⟩:=hx x (c_ hxi)
   have hlt:((i:Int)<(xs.length:Int))=True:=by simp;omega
   have h00:(0≤(i:Int))=True:=by simp
   refine run_sound Tryz.func10 mixed 100 _ _ (by kernel_rfl) ?_
   simp only [go_sem,seval,a_,hlt,hxi,idx_of hxi,e1,h00,bne_self_eq_false]
   refine e2.callQ rfl ?_
   simp only [go_sem,seval]
   rw [wrap_ok (by omega) (by omega)]
   refine hnext (i+1) _ (by omega) (by omega) ?_
   refine Weak.of (by simp) rfl ?_
   simp [Abs.get,C.refsLtT,C.refsLt,C.refsLt1]
  ·have hlt:((i:Int)<(xs.length:Int))=False:=by simp;omega
   refine run_sound Tryz.func10 mixed 100 _ _ (by kernel_rfl) ?_
   simp only [go_sem,seval,hlt]
theorem eq33 (a0:List UInt8) (a1:List (List D)) (h1:Gives Tryz.prog 12 [.sl a1,.sl a1] (.d (.bool true))):Gives Tryz.prog 33 [.agg [.str a0,.sl a1],.agg [.str a0,.sl a1]] (.d (.bool true)):=by
 refine aE_ Tryz.func33 ?_
 refine run_sound Tryz.func33 mixed 100 _ _ (by kernel_rfl) ?_
 simp only [go_sem,seval,bne_self_eq_false]
 refine h1.calls rfl ?_
 simp only [go_sem,seval,bne_self_eq_false]
end Go.Proofs.YtehkgphockcjdaaGreat

import Derived.Test.YtlajhmoomlgopaaGreatW91
import Derived.Test.YtlajhmoomlgopaaGreatP14
import Derived.Test.YtlajhmoomlgopaaGreatW143
import Derived.Test.YtlajhmoomlgopaaGreatW147
import Derived.Test.YtlajhmoomlgopaaGreatW8
import Derived.Test.YtlajhmoomlgopaaGreatP15
import Derived.Test.YtlajhmoomlgopaaGreatW152
namespace Go.Abs
def libN:Nat→List UInt8
 | 0=>[108,105,115,116,115]
 | 1=>[103,114,97,112,104]
 | 2=>[115,101,116,115]
 | _=>[103,97,109,101,115]
end Go.Abs
namespace Go.Proofs.YtlajhmoomlgopaaGreat
open Go.Abs
set_option maxRecDepth 100000
set_option maxHeartbeats 8000000
set_option linter.unusedSimpArgs false
set_option linter.unusedVariables false
theorem LibraryText_fn0:Gives Tryz.prog 26 [.str [108,105,115,116,115]] (.d (.str libT0)):=by
 have hmx:maxLen=9223372036854775807:=rfl
 refine aE_ Tryz.func26 ?_
 refine rS_ Tryz.func26 ?_
 simp only [go_sem,seval]
 repeat' (first
  | (simp (disch:=omega) only [wrap_ok])
  | ((first
   | (refine AW.loop ?_<;>(refine rS_ Tryz.func26 ?_))
   | (refine AW.round ?_<;>(refine rS_ Tryz.func26 ?_))
   | (refine ⟨sd,?_⟩))<;>(try simp only [go_sem,seval,hmx]))
  | fail)
 all_goals kernel_rfl
theorem LibraryText_fn1:Gives Tryz.prog 26 [.str [103,114,97,112,104]] (.d (.str libT1)):=by
 have hmx:maxLen=9223372036854775807:=rfl
 have d0:¬([103,114,97,112,104]:List UInt8)=[108,105,115,116,115]:=by decide
 refine aE_ Tryz.func26 ?_
 refine rS_ Tryz.func26 ?_
 simp only [go_sem,seval,d0]
 repeat' (first
  | (simp (disch:=omega) only [wrap_ok])
  | ((first
   | (refine AW.loop ?_<;>(refine rS_ Tryz.func26 ?_))
   | (refine AW.round ?_<;>(refine rS_ Tryz.func26 ?_))
   | (refine ⟨sd,?_⟩))<;>(try simp only [go_sem,seval,d0]))
  | fail)
 all_goals kernel_rfl
theorem LibraryText_fn2:Gives Tryz.prog 26 [.str [115,101,116,115]] (.d (.str libT2)):=by
 have hmx:maxLen=9223372036854775807:=rfl
 have d0:¬([115,101,116,115]:List UInt8)=[108,105,115,116,115]:=by decide
 have d1:¬([115,101,116,115]:List UInt8)=[103,114,97,112,104]:=by decide
 refine aE_ Tryz.func26 ?_
 refine rS_ Tryz.func26 ?_
 simp only [go_sem,seval,d0,d1]
 repeat' (first
  | (simp (disch:=omega) only [wrap_ok])
  | ((first
   | (refine AW.loop ?_<;>(refine rS_ Tryz.func26 ?_))
   | (refine AW.round ?_<;>(refine rS_ Tryz.func26 ?_))
   | (refine ⟨sd,?_⟩))<;>(try simp only [go_sem,seval,d0,d1]))
  | fail)
 all_goals kernel_rfl
theorem LibraryText_fn3:Gives Tryz.prog 26 [.str [103,97,109,101,115]] (.d (.str libT3)):=by
 have hmx:maxLen=9223372036854775807:=rfl
 have d0:¬([103,97,109,101,115]:List UInt8)=[108,105,115,116,115]:=by decide
 have d1:¬([103,97,109,101,115]:List UInt8)=[103,114,97,112,104]:=by decide
 have d2:¬([103,97,109,101,115]:List UInt8)=[115,101,116,115]:=by decide
 refine aE_ Tryz.func26 ?_
 refine rS_ Tryz.func26 ?_
 simp only [go_sem,seval,d0,d1,d2]
 repeat' (first
  | (simp (disch:=omega) only [wrap_ok])
  | ((first
   | (refine AW.loop ?_<;>(refine rS_ Tryz.func26 ?_))
   | (refine AW.round ?_<;>(refine rS_ Tryz.func26 ?_))
   | (refine ⟨sd,?_⟩))<;>(try simp only [go_sem,seval,d0,d1,d2]))
  | fail)
 all_goals kernel_rfl
theorem LibraryText_fn (k:Nat):Gives Tryz.prog 26 [.str (libN k)] (.d (.str (libT k))):=match k with
 | 0=>LibraryText_fn0
 | 1=>LibraryText_fn1
 | 2=>LibraryText_fn2
 | _+3=>LibraryText_fn3
end Go.Proofs.YtlajhmoomlgopaaGreat
namespace Go.Proofs.YtlajhmoomlgopaaGreat
open Go.Abs
set_option maxRecDepth 100000
set_option maxHeartbeats 8000000
set_option linter.unusedSimpArgs false
set_option linter.unusedVariables false
theorem l01Str_R (B:List UInt8) (hB:B.length≤1048576) (L:List (List UInt8)) (hL:1≤L.length) (hl:L.length≤100) (i h:Int) (h0:0≤i) (h1:i≤B.length):ACalls Tryz.prog 62 [.ptr 0 0,.d (.sl (strD L))] [cuO B i h] (fun c H'=>∃s i' h',c=.d (.str s)∧H'=[cuO B i' h']∧s∈L∧0≤i'∧i'≤B.length):=by
 have hb:=l01Below_R B i h hB h0 h1 (L.length:Int)
 refine aE_ Tryz.func62 ?_
 refine rS_ Tryz.func62 ?_
 simp only [go_sem,seval,strD_len]
 refine (ACalls.emb hb [0] rfl rfl rfl (by decide) rfl ?_)
 rintro c H' ⟨x,i2,h2,rfl,rfl,⟨b1,b2⟩,b3,b4⟩ _
 refine ⟨rfl,rfl,?_⟩
 obtain ⟨k,hk,hkl⟩:∃k:Nat,x=k∧k<L.length:=⟨x.toNat,by omega,by omega⟩
 subst hk
 obtain ⟨s,hs⟩:∃s,L[k]? = some s:=⟨L[k],List.getElem?_eq_getElem hkl⟩
 have hxx:=strD_at hs
 simp only [go_sem,seval,strD_len,idx_of hxx]
 repeat' (first
  | (exact ⟨s,_,_,rfl,rfl,List.mem_of_getElem? hs,b3,b4⟩)
  | ((refine ⟨sd,?_⟩)<;>(try simp only [go_sem,seval,strD_len,idx_of hxx]))
  | fail)
theorem l15Name_R (B:List UInt8) (hB:B.length≤1048576) (i h:Int) (h0:0≤i) (h1:i≤B.length):ACalls Tryz.prog 27 [.ptr 0 0] [cuO B i h] (fun c H'=>∃k i' h',c=.d (.str (libN k))∧H'=[cuO B i' h']∧0≤i'∧i'≤B.length):=by
 have hb:=l01Str_R B hB [libN 0,libN 1,libN 2,libN 3] (by decide) (by decide) i h h0 h1
 have hsd:strD [libN 0,libN 1,libN 2,libN 3]=[[.str [108,105,115,116,115]],[.str [103,114,97,112,104]],[.str [115,101,116,115]],[.str [103,97,109,101,115]]]:=rfl
 rw [hsd] at hb
 refine aE_ Tryz.func27 ?_
 refine rS_ Tryz.func27 ?_
 simp only [go_sem,seval]
 repeat' (first
  | ((refine (ACalls.emb hb [0] rfl rfl rfl (by decide) rfl ?_)<;>(rintro c H' ⟨s,i2,h2,rfl,rfl,hs,b3,b4⟩ _;refine ⟨rfl,rfl,?_⟩))<;>(try simp only [go_sem,seval]))
  | fail)
 obtain ⟨k,rfl⟩:∃k,s=libN k:=by
  simp only [List.mem_cons,List.not_mem_nil,or_false] at hs
  rcases hs with rfl | rfl | rfl | rfl<;>exact ⟨_,rfl⟩
 exact ⟨k,_,_,rfl,rfl,b3,b4⟩
end Go.Proofs.YtlajhmoomlgopaaGreat
namespace Go.Proofs.YtlajhmoomlgopaaGreat
open Go.Abs
set_option maxRecDepth 100000
set_option maxHeartbeats 8000000
set_option linter.unusedSimpArgs false
set_option linter.unusedVariables false
theorem all_pure {p:Pg} (h:p.all true=true):p.all false=true:=by
 unfold Pg.all at h ⊢
 rw [Bool.and_eq_true] at h ⊢
 refine ⟨h.1,List.all_eq_true.2 fun r hr=>?_⟩
 have:=List.all_eq_true.1 h.2 r hr
 unfold Gl.only at this ⊢
 refine List.all_eq_true.2 fun x hx=>?_
 have:=List.all_eq_true.1 this x hx
 unfold Gl.onlyK at this ⊢
 rw [Bool.and_eq_true] at this ⊢
 exact ⟨this.1,rfl⟩
theorem MakeProgram1_R (B:List UInt8) (hB:B.length≤1048576):ACalls Tryz.prog 7 [.d (.sl (bytesD B)),.d (.int .i64 0),.d (.int .i64 1)] [] (fun c H'=>∃p,c=.d (.agg (Pg.enc p))∧H'=[]∧p.fine 1∧Pg.gszL p.rels≤2000):=by
 have hmx:maxLen=9223372036854775807:=rfl
 have hw:=l43New_T B hB 0 (by omega)
 rw [show ((0:Nat):Int)=0 from rfl] at hw
 refine aE_ Tryz.func7 ?_
 refine AW.hole ?_
 refine run_sound Tryz.func7 mixed 5 _ _ (by kernel_rfl) ?_
 simp only [go_sem,seval,run.eq_1]
 repeat' (first
  | ((refine (ACalls.emb hw [0] rfl rfl rfl (by decide) rfl ?_)<;>(rintro c H' ⟨rfl,i,h,rfl,e1,e2⟩ _;refine ⟨rfl,rfl,?_⟩))<;>(try simp only [go_sem,seval,run.eq_1]))
  | fail)
 refine AW.unbox 7 0 (cs:=cuD B i h) rfl rfl ?_
 have hnm:=l15Name_R B hB i h e1 e2
 refine rS_ Tryz.func7 ?_
 simp only [go_sem,seval]
 repeat' (first
  | ((refine (ACalls.emb hnm [2] rfl rfl rfl (by decide) rfl ?_)<;>(rintro c H' ⟨k,i2,h2,rfl,rfl,b3,b4⟩ _;refine ⟨rfl,rfl,?_⟩))<;>(try simp only [go_sem,seval]))
  | fail)
 obtain ⟨T,rels,hT,hTl,hTm,hp,hok,hfine⟩:=lib_prog k
 have hlt:=LibraryText_fn k
 have hpp:=sParseProgram_fn (libT k) (by have:=libT_len k;omega) T rels hT (by omega) (fun t ht=>⟨((tokV_mem hT).2 t ht).1,by have:=hTm t ht;omega⟩) hp hok (by have:=hfine.wt;omega)
 have hPe:(Pg.mk rels).enc=[.sl (rels.map Rl.enc)]:=Pg.enc_eq _
 rw [hPe] at hpp
 have hgs:=lib_gsz hT hp
 have hip:=sIsPositive_fn ⟨rels⟩ (by have:=hfine.wt;omega)
 have hiu:=sIsPure_fn ⟨rels⟩ (by have:=hfine.wt;omega)
 have hfin1:(Pg.mk rels).all false=true→(Pg.mk rels).fine 1:=fun h=>⟨hfine.ok,hfine.wt,hfine.cls,hfine.one,fun _=>h⟩
 have hal:(Pg.mk rels).all true=true→(Pg.mk rels).all false=true:=all_pure
 rw [hPe] at hip hiu
 generalize (Pg.mk rels).all false=X1 at hip hfin1 hal
 generalize (Pg.mk rels).all true=X2 at hiu hal
 have hon:=l01Once_R B hB 8 i2 h2 b3 b4
 repeat' (first
  | ((refine br_n (fun hq=>?_) (fun hq=>?_))<;>(try simp only [go_sem,seval,hq]))
  | ((first
   | (refine hlt.calls rfl ?_)
   | (refine hip.calls rfl ?_)
   | (refine hiu.calls rfl ?_)
   | (refine hpp.calls rfl ?_)
   | (refine (ACalls.emb hon [2] rfl rfl rfl (by decide) rfl ?_)<;>(rintro c H' ⟨b,i3,h3,rfl,rfl,c3,c4⟩ _;cases b<;>refine ⟨rfl,rfl,?_⟩))
   | (refine (ACalls.emb (l14Draw_R B hB 1 i3 h3 c3 c4) [2] rfl rfl rfl (by decide) rfl ?_)<;>(rintro c H' ⟨p,i4,h4,rfl,rfl,dp,d3,d4⟩ _;refine ⟨rfl,rfl,?_⟩))
   | (refine ⟨by assumption,?_⟩))<;>(try simp only [go_sem,seval]))
  | fail)
 ·exact ⟨Pg.drP_fine dp,Pg.drP_gsz dp⟩
 ·exact ⟨⟨rels⟩,by rw [hPe],hfin1 (hal (by assumption)),hgs⟩
 ·exact ⟨Pg.drP_fine dp,Pg.drP_gsz dp⟩
 ·exact ⟨⟨rels⟩,by rw [hPe],hfin1 (by assumption),hgs⟩
end Go.Proofs.YtlajhmoomlgopaaGreat
namespace Go.Proofs.YtlajhmoomlgopaaGreat
open Go.Abs
set_option maxRecDepth 100000
set_option maxHeartbeats 8000000
set_option linter.unusedSimpArgs false
set_option linter.unusedVariables false
theorem within_of {a b:List FcV} (h:∀f,f∈a→f∈b):(a.all fun f=>decide (f∈b))=true:=List.all_eq_true.2 fun f hf=>decide_eq_true (h f hf)
theorem lawFnStages_R (B:List UInt8):ACalls Tryz.prog 3 [.d (.sl (bytesD B))] [] (fun c H'=>c=.d (.bool true)∧H'=[]):=by
 have hmx:maxLen=9223372036854775807:=rfl
 refine aE_ Tryz.func3 ?_
 refine run_sound Tryz.func3 mixed 10 _ _ (by kernel_rfl) ?_
 simp only [go_sem,seval,run.eq_1,bytesD_len]
 refine br_intro (fun hq=>?_) (fun hq=>?_)
 ·simp only [go_sem,seval]
 simp only [decide_eq_false_iff_not,Int.not_lt] at hq
 have hB:B.length≤1048576:=by omega
 clear hq
 have hmk:=MakeProgram1_R B hB
 have hmu:=MakeUniverse_R B hB 60 2 (by decide) (by decide) (by decide)
 have hms:=MakeSize_R B hB 80 0 3 (by decide) (by decide) (by decide) (by decide)
 simp only [go_sem,seval,bytesD_len]
 refine ACalls.emb hmk [] rfl rfl rfl (by decide) rfl ?_
 rintro c H' ⟨p,rfl,rfl,hf,hgs⟩ _
 refine ⟨rfl,rfl,?_⟩
 have hPe:=Pg.enc_eq p
 simp only [go_sem,seval,hPe,run.eq_1]
 refine rS_ Tryz.func3 ?_
 simp only [go_sem,seval]
 repeat' (first
  | ((first
   | (refine (ACalls.emb hmu [] rfl rfl rfl (by decide) rfl ?_)<;>(rintro c H' ⟨u,rfl,rfl,hu,hul,hud⟩ _;refine ⟨rfl,rfl,?_⟩))
   | (refine (ACalls.emb hms [] rfl rfl rfl (by decide) rfl ?_)<;>(rintro c H' ⟨x,rfl,rfl,hx0,hx3⟩ _;refine ⟨rfl,rfl,?_⟩)))<;>(try simp only [go_sem,seval]))
  | fail)
 obtain ⟨n,rfl⟩:∃n:Nat,x=n:=⟨x.toNat,by omega⟩
 have hM:=Made.of hf hgs hu hul hud
 have ha:=hf.nots (by decide)
 have hpo:=pos_made hM ha
 obtain ⟨a1,a2,a3⟩:=stg_all hM n
 obtain ⟨m1,m2,m3⟩:=stg_all hM (top (Pg.gnd u p.rels))
 have hlm:=lmM_fn hM ha
 have hs1:=stgM_fn hM ha n (by omega)
 have hs2:=stgM_fn hM ha (n+1) (by omega)
 have hc1:=csM_fn hM a1 a2 a3
 have hc2:=csM_fn hM m1 m2 m3
 have him:=imM_fn hM ha
 have hfh:=fun f hf=>fhM_fn hM ha (k:=n+1) (f:=f) hf
 rw [nextF_stg hpo] at hc1 hc2
 rw [(top_spec _).2.1] at hc2
 have hln:=stg_len_top (rs:=Pg.gnd u p.rels) (n:=n)
 have hw1:=within_of (stg_sub (Pg.gnd u p.rels) n)
 have hw2:=within_of (stg_in_top (rs:=Pg.gnd u p.rels) (n:=n+1))
 have hh:=fun f hf=>hgt_stage (rs:=Pg.gnd u p.rels) (f:=f) (n:=n) hf
 have hsl:∀k,(stg (Pg.gnd u p.rels) k).length≤2000:=fun k=>by
  have h1:=stg_len (Pg.gnd u p.rels) k
  have h2:=(gr_mem hM.gr).2
  omega
 have l1:=hsl n
 have l2:=hsl (n+1)
 have l3:=hsl (top (Pg.gnd u p.rels))
 generalize stg (Pg.gnd u p.rels) (top (Pg.gnd u p.rels))=M at *
 generalize stg (Pg.gnd u p.rels) n=A at *
 generalize stg (Pg.gnd u p.rels) (n+1)=Z at *
 generalize top (Pg.gnd u p.rels)=k at *
 generalize Pg.gnd u p.rels=rs at *
 have hwz:=within_of (a:=Z) (b:=Z) (fun _ h=>h)
 have hwm:=within_of (a:=M) (b:=M) (fun _ h=>h)
 have i1:=withinL_fn Z Z
 have i2:=withinL_fn A Z
 have i3:=withinL_fn Z M
 have i4:=withinL_fn M M
 rw [hwz] at i1
 rw [hw1] at i2
 rw [hw2] at i3
 rw [hwm] at i4
 rw [hPe] at hlm hs1 hs2 hc1 hc2 him
 simp only [hPe] at hfh
 have hmf:∀l:List FcV,(l.map fcE).length=l.length:=fun l=>List.length_map _
 have wn:IntKind.i64.wrap ((n:Int)+1)=(n:Int)+1:=by rw [wrap_ok (by omega) (by omega)]
 have hk0:¬(k:Int)<0:=by omega
 have hnk:decide ((k:Int)≤(n:Int))=decide ((A.length:Int)=(M.length:Int)):=by
  by_cases h:k≤n
  ·have:=hln.2 h
   rw [decide_eq_true (by omega),decide_eq_true (by omega)]
  ·have h2:¬A.length=M.length:=fun e=>h (hln.1 e)
   rw [decide_eq_false (by omega),decide_eq_false (by omega)]
 repeat' (first
  | (exact absurd hnk (by assumption))
  | ((refine br_n (fun hq=>?_) (fun hq=>?_))<;>(try simp only [go_sem,seval,wn,hk0,hmf,hq]))
  | ((first
   | (refine hlm.calls rfl ?_)
   | (refine hs1.calls rfl ?_)
   | (refine hs2.calls rfl ?_)
   | (refine hc1.calls rfl ?_)
   | (refine hc2.calls rfl ?_))<;>(try simp only [go_sem,seval,wn,hk0,hmf]))
  | fail)
 refine AW.rng Z [3,4,5,6,9,11,13,15,98,99] 100 98 (fun _:Unit=>[]) (fun H _=>H) (fun _ _=>True) () rfl (by simp) trivial wk1_ (fun ii f r v hxi hdr hlt hm hinv hnext=>?_) (fun v hinv=>?_)
 ·have hfm:=List.mem_of_getElem? hxi
  have hfh:=hfh f hfm
  obtain ⟨g1,g2,g3⟩:=hh f hfm
  have hin:=inL_fn A f
  rw [fcE_eq] at hfh hin
  generalize hgt rs f=y at *
  have g1':¬y<1:=by omega
  have g2':¬(n:Int)+1<y:=by omega
  have g3':decide (y≤(n:Int))=decide (f∈A):=by rw [Bool.eq_iff_iff,decide_eq_true_eq,decide_eq_true_eq];exact g3
  have wi:IntKind.i64.wrap ((ii:Int)+1)=(ii:Int)+1:=by rw [wrap_ok (by omega) (by omega)]
  refine rS_ Tryz.func3 ?_
  simp only [go_sem,seval,hlt,idx_of hxi,fcE_eq,wi,wn,g1',g2']
  repeat' (first
   | (exact absurd g3' (by assumption))
   | ((refine br_n (fun hq=>?_) (fun hq=>?_))<;>(try simp only [go_sem,seval,hlt,idx_of hxi,fcE_eq,wi,wn,g1',g2',hq]))
   | ((first
    | (refine hfh.calls rfl ?_)
    | (refine hin.calls rfl ?_))<;>(try simp only [go_sem,seval,hlt,idx_of hxi,fcE_eq,wi,wn,g1',g2']))
   | fail)
  all_goals refine hnext () _ trivial wk1_
 ·refine rS_ Tryz.func3 ?_
  simp only [go_sem,seval,hmf]
  repeat' (first
   | ((first
    | (refine i1.calls rfl ?_)
    | (refine i2.calls rfl ?_)
    | (refine i3.calls rfl ?_)
    | (refine i4.calls rfl ?_)
    | (refine him.calls rfl ?_))<;>(try simp only [go_sem,seval,hmf]))
   | fail)
theorem lawFnStages (B:List UInt8):Gives Tryz.prog 3 [.sl (bytesD B)] (.d (.bool true)):=
 ACalls.frozen (ds:=[.sl (bytesD B)]) (m:=0) (lawFnStages_R B) (fun c H' ⟨h1,h2⟩ _=>by subst h1 h2;rfl)
end Go.Proofs.YtlajhmoomlgopaaGreat

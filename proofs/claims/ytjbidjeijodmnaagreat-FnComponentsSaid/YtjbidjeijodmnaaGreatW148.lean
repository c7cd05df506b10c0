import Derived.Test.YtjbidjeijodmnaaGreatW91
import Derived.Test.YtjbidjeijodmnaaGreatP14
import Derived.Test.YtjbidjeijodmnaaGreatW143
import Derived.Test.YtjbidjeijodmnaaGreatW147
namespace Go.Abs
def libN:Nat→List UInt8
 | 0=>[108,105,115,116,115]
 | 1=>[103,114,97,112,104]
 | 2=>[115,101,116,115]
 | _=>[103,97,109,101,115]
end Go.Abs
namespace Go.Proofs.YtjbidjeijodmnaaGreat
open Go.Abs
set_option maxRecDepth 100000
set_option maxHeartbeats 8000000
set_option linter.unusedSimpArgs false
set_option linter.unusedVariables false
theorem LibraryText_fn0:Gives Tryz.prog 13 [.str [108,105,115,116,115]] (.d (.str libT0)):=by
 have hmx:maxLen=9223372036854775807:=rfl
 refine ACalls.enter (fn:=Tryz.f13) Tryz.func13 rfl (by show 1≤_;decide) ?_
 refine run_sound Tryz.func13 mixed 200 _ _ (by kernel_rfl) ?_
 simp only [go_sem,seval]
 repeat' (first
  | (simp (disch:=omega) only [wrap_ok])
  | ((first
   | (refine AW.loop ?_<;>(refine run_sound Tryz.func13 mixed 200 _ _ (by kernel_rfl) ?_))
   | (refine AW.round ?_<;>(refine run_sound Tryz.func13 mixed 200 _ _ (by kernel_rfl) ?_))
   | (refine ⟨sd,?_⟩))<;>(try simp only [go_sem,seval,hmx]))
  | fail)
 all_goals kernel_rfl
theorem LibraryText_fn1:Gives Tryz.prog 13 [.str [103,114,97,112,104]] (.d (.str libT1)):=by
 have hmx:maxLen=9223372036854775807:=rfl
 have d0:¬([103,114,97,112,104]:List UInt8)=[108,105,115,116,115]:=by decide
 refine ACalls.enter (fn:=Tryz.f13) Tryz.func13 rfl (by show 1≤_;decide) ?_
 refine run_sound Tryz.func13 mixed 200 _ _ (by kernel_rfl) ?_
 simp only [go_sem,seval,d0]
 repeat' (first
  | (simp (disch:=omega) only [wrap_ok])
  | ((first
   | (refine AW.loop ?_<;>(refine run_sound Tryz.func13 mixed 200 _ _ (by kernel_rfl) ?_))
   | (refine AW.round ?_<;>(refine run_sound Tryz.func13 mixed 200 _ _ (by kernel_rfl) ?_))
   | (refine ⟨sd,?_⟩))<;>(try simp only [go_sem,seval,d0]))
  | fail)
 all_goals kernel_rfl
theorem LibraryText_fn2:Gives Tryz.prog 13 [.str [115,101,116,115]] (.d (.str libT2)):=by
 have hmx:maxLen=9223372036854775807:=rfl
 have d0:¬([115,101,116,115]:List UInt8)=[108,105,115,116,115]:=by decide
 have d1:¬([115,101,116,115]:List UInt8)=[103,114,97,112,104]:=by decide
 refine ACalls.enter (fn:=Tryz.f13) Tryz.func13 rfl (by show 1≤_;decide) ?_
 refine run_sound Tryz.func13 mixed 200 _ _ (by kernel_rfl) ?_
 simp only [go_sem,seval,d0,d1]
 repeat' (first
  | (simp (disch:=omega) only [wrap_ok])
  | ((first
   | (refine AW.loop ?_<;>(refine run_sound Tryz.func13 mixed 200 _ _ (by kernel_rfl) ?_))
   | (refine AW.round ?_<;>(refine run_sound Tryz.func13 mixed 200 _ _ (by kernel_rfl) ?_))
   | (refine ⟨sd,?_⟩))<;>(try simp only [go_sem,seval,d0,d1]))
  | fail)
 all_goals kernel_rfl
theorem LibraryText_fn3:Gives Tryz.prog 13 [.str [103,97,109,101,115]] (.d (.str libT3)):=by
 have hmx:maxLen=9223372036854775807:=rfl
 have d0:¬([103,97,109,101,115]:List UInt8)=[108,105,115,116,115]:=by decide
 have d1:¬([103,97,109,101,115]:List UInt8)=[103,114,97,112,104]:=by decide
 have d2:¬([103,97,109,101,115]:List UInt8)=[115,101,116,115]:=by decide
 refine ACalls.enter (fn:=Tryz.f13) Tryz.func13 rfl (by show 1≤_;decide) ?_
 refine run_sound Tryz.func13 mixed 200 _ _ (by kernel_rfl) ?_
 simp only [go_sem,seval,d0,d1,d2]
 repeat' (first
  | (simp (disch:=omega) only [wrap_ok])
  | ((first
   | (refine AW.loop ?_<;>(refine run_sound Tryz.func13 mixed 200 _ _ (by kernel_rfl) ?_))
   | (refine AW.round ?_<;>(refine run_sound Tryz.func13 mixed 200 _ _ (by kernel_rfl) ?_))
   | (refine ⟨sd,?_⟩))<;>(try simp only [go_sem,seval,d0,d1,d2]))
  | fail)
 all_goals kernel_rfl
theorem LibraryText_fn (k:Nat):Gives Tryz.prog 13 [.str (libN k)] (.d (.str (libT k))):=match k with
 | 0=>LibraryText_fn0
 | 1=>LibraryText_fn1
 | 2=>LibraryText_fn2
 | _+3=>LibraryText_fn3
end Go.Proofs.YtjbidjeijodmnaaGreat
namespace Go.Proofs.YtjbidjeijodmnaaGreat
open Go.Abs
set_option maxRecDepth 100000
set_option maxHeartbeats 8000000
set_option linter.unusedSimpArgs false
set_option linter.unusedVariables false
theorem l01Str_R (B:List UInt8) (hB:B.length≤1048576) (L:List (List UInt8)) (hL:1≤L.length) (hl:L.length≤100) (i h:Int) (h0:0≤i) (h1:i≤B.length):ACalls Tryz.prog 32 [.ptr 0 0,.d (.sl (strD L))] [cuO B i h] (fun c H'=>∃s i' h',c=.d (.str s)∧H'=[cuO B i' h']∧s∈L∧0≤i'∧i'≤B.length):=by
 have hb:=l01Below_R B i h hB h0 h1 (L.length:Int)
 refine ACalls.enter (fn:=Tryz.f32) Tryz.func32 rfl (by show 2≤_;decide) ?_
 refine run_sound Tryz.func32 mixed 200 _ _ (by kernel_rfl) ?_
 simp only [go_sem,seval,strD_len]
 refine (ACalls.emb hb [0] rfl rfl rfl (by decide) rfl ?_)
 rintro c H' ⟨x,i2,h2,rfl,rfl,⟨b1,b2⟩,b3,b4⟩ _
 refine ⟨rfl,rfl,?_⟩
 obtain ⟨k,hk,hkl⟩:∃k:Nat,x=k∧k<L.length:=⟨x.toNat,by omega,by omega⟩
 subst hk
 obtain ⟨s,hs⟩:∃s,L[k]? = some s:=⟨L[k],List.getElem?_eq_getElem hkl⟩
 have hxx:=strD_at hs
 simp only [go_sem,seval,strD_len,idx_of hxx]
 repeat' (first
  | (exact ⟨s,_,_,rfl,rfl,List.mem_of_getElem? hs,b3,b4⟩)
  | ((refine ⟨sd,?_⟩)<;>(try simp only [go_sem,seval,strD_len,idx_of hxx]))
  | fail)
theorem l15Name_R (B:List UInt8) (hB:B.length≤1048576) (i h:Int) (h0:0≤i) (h1:i≤B.length):ACalls Tryz.prog 14 [.ptr 0 0] [cuO B i h] (fun c H'=>∃k i' h',c=.d (.str (libN k))∧H'=[cuO B i' h']∧0≤i'∧i'≤B.length):=by
 have hb:=l01Str_R B hB [libN 0,libN 1,libN 2,libN 3] (by decide) (by decide) i h h0 h1
 have hsd:strD [libN 0,libN 1,libN 2,libN 3]=[[.str [108,105,115,116,115]],[.str [103,114,97,112,104]],[.str [115,101,116,115]],[.str [103,97,109,101,115]]]:=rfl
 rw [hsd] at hb
 refine ACalls.enter (fn:=Tryz.f14) Tryz.func14 rfl (by show 1≤_;decide) ?_
 refine run_sound Tryz.func14 mixed 200 _ _ (by kernel_rfl) ?_
 simp only [go_sem,seval]
 repeat' (first
  | ((refine (ACalls.emb hb [0] rfl rfl rfl (by decide) rfl ?_)<;>(rintro c H' ⟨s,i2,h2,rfl,rfl,hs,b3,b4⟩ _;refine ⟨rfl,rfl,?_⟩))<;>(try simp only [go_sem,seval]))
  | fail)
 obtain ⟨k,rfl⟩:∃k,s=libN k:=by
  simp only [List.mem_cons,List.not_mem_nil,or_false] at hs
  rcases hs with rfl | rfl | rfl | rfl<;>exact ⟨_,rfl⟩
 exact ⟨k,_,_,rfl,rfl,b3,b4⟩
theorem MakeProgram_R (B:List UInt8) (hB:B.length≤1048576):ACalls Tryz.prog 4 [.d (.sl (bytesD B)),.d (.int .i64 0),.d (.int .i64 2)] [] (fun c H'=>∃p,c=.d (.agg (Pg.enc p))∧H'=[]∧p.fine 2):=by
 have hmx:maxLen=9223372036854775807:=rfl
 have hw:=l43New_T B hB 0 (by omega)
 rw [show ((0:Nat):Int)=0 from rfl] at hw
 refine ACalls.enter (fn:=Tryz.f4) Tryz.func4 rfl (by show 3≤_;decide) ?_
 refine AW.hole ?_
 refine run_sound Tryz.func4 mixed 5 _ _ (by kernel_rfl) ?_
 simp only [go_sem,seval,run.eq_1]
 repeat' (first
  | ((refine (ACalls.emb hw [0] rfl rfl rfl (by decide) rfl ?_)<;>(rintro c H' ⟨rfl,i,h,rfl,e1,e2⟩ _;refine ⟨rfl,rfl,?_⟩))<;>(try simp only [go_sem,seval,run.eq_1]))
  | fail)
 refine AW.unbox 7 0 (cs:=cuD B i h) rfl rfl ?_
 have hnm:=l15Name_R B hB i h e1 e2
 refine run_sound Tryz.func4 mixed 200 _ _ (by kernel_rfl) ?_
 simp only [go_sem,seval]
 repeat' (first
  | ((refine (ACalls.emb hnm [2] rfl rfl rfl (by decide) rfl ?_)<;>(rintro c H' ⟨k,i2,h2,rfl,rfl,b3,b4⟩ _;refine ⟨rfl,rfl,?_⟩))<;>(try simp only [go_sem,seval]))
  | fail)
 obtain ⟨T,rels,hT,hTl,hTm,hp,hok,hfine⟩:=lib_prog k
 have hlt:=LibraryText_fn k
 have hpp:=sParseProgram_fn (libT k) (by have:=libT_len k;omega) T rels hT (by omega) (fun t ht=>⟨((tokV_mem hT).2 t ht).1,by have:=hTm t ht;omega⟩) hp hok (by have:=hfine.wt;omega)
 have hPe:(Pg.mk rels).enc=[.sl (rels.map Rl.enc)]:=Pg.enc_eq _
 rw [hPe] at hpp
 have hon:=l01Once_R B hB 8 i2 h2 b3 b4
 repeat' (first
  | ((first
   | (refine hlt.calls rfl ?_)
   | (refine hpp.calls rfl ?_)
   | (refine (ACalls.emb hon [2] rfl rfl rfl (by decide) rfl ?_)<;>(rintro c H' ⟨b,i3,h3,rfl,rfl,c3,c4⟩ _;cases b<;>refine ⟨rfl,rfl,?_⟩))
   | (refine (ACalls.emb (l14Draw_R B hB 2 i3 h3 c3 c4) [2] rfl rfl rfl (by decide) rfl ?_)<;>(rintro c H' ⟨p,i4,h4,rfl,rfl,dp,d3,d4⟩ _;refine ⟨rfl,rfl,?_⟩))
   | (refine ⟨by assumption,?_⟩))<;>(try simp only [go_sem,seval]))
  | fail)
 ·exact Pg.drP_fine dp
 ·exact ⟨⟨rels⟩,by rw [hPe],hfine⟩
end Go.Proofs.YtjbidjeijodmnaaGreat

import Derived.Test.YtlajhmoomlgopaaGreatW91
import Derived.Test.YtlajhmoomlgopaaGreatP14
import Derived.Test.YtlajhmoomlgopaaGreatW143
import Derived.Test.YtlajhmoomlgopaaGreatW147
import Derived.Test.YtlajhmoomlgopaaGreatP15
import Derived.Test.YtlajhmoomlgopaaGreatW8
import Derived.Test.YtlajhmoomlgopaaGreatW63
import Derived.Test.YtlajhmoomlgopaaGreatW152
open List renaming all_eq_true→a_,mem_flatMap→d_,mem_map→e_,mem_cons→f_
open Bool renaming and_eq_true→b_,true_and→c_
namespace Go.Abs
def libN:Nat→List UInt8
 | 0=>[108,105,115,116,115]
 | 1=>[103,114,97,112,104]
 | 2=>[115,101,116,115]
 | _=>[103,97,109,101,115]
end Go.Abs
namespace Go.Proofs.YtlajhmoomlgopaaGreat
open Go.Abs
set_option maxRecDepth 100000
set_option maxHeartbeats 8000000
set_option linter.unusedSimpArgs false
set_option linter.unusedVariables false
theorem LibraryText_fn0:Gives Tryz.prog 26 [.str [108,105,115,116,115]] (.d (.str libT0)):=by
 have hmx:maxLen=9223372036854775807:=rfl
 refine aE_ Tryz.func26 ?_
 refine rS_ Tryz.func26 ?_
 simp only [go_sem,seval]
 repeat' (first
  | (simp (disch:=omega) only [wrap_ok])
  | ((first
   | (refine AW.loop ?_<;>(refine rS_ Tryz.func26 ?_))
   | (refine AW.round ?_<;>(refine rS_ Tryz.func26 ?_))
   | (refine ⟨sd,?_⟩))<;>(try simp only [go_sem,seval,hmx]))
  | fail)
 all_goals kernel_rfl
theorem LibraryText_fn1:Gives Tryz.prog 26 [.str [103,114,97,112,104]] (.d (.str libT1)):=by
 have hmx:maxLen=9223372036854775807:=rfl
 have d0:¬([103,114,97,112,104]:List UInt8)=[108,105,115,116,115]:=by decide
 refine aE_ Tryz.func26 ?_
 refine rS_ Tryz.func26 ?_
 simp only [go_sem,seval,d0]
 repeat' (first
  | (simp (disch:=omega) only [wrap_ok])
  | ((first
   | (refine AW.loop ?_<;>(refine rS_ Tryz.func26 ?_))
   | (refine AW.round ?_<;>(refine rS_ Tryz.func26 ?_))
   | (refine ⟨sd,?_⟩))<;>(try simp only [go_sem,seval,d0]))
  | fail)
 all_goals kernel_rfl
theorem LibraryText_fn2:Gives Tryz.prog 26 [.str [115,101,116,115]] (.d (.str libT2)):=by
 have hmx:maxLen=9223372036854775807:=rfl
 have d0:¬([115,101,116,115]:List UInt8)=[108,105,115,116,115]:=by decide
 have d1:¬([115,101,116,115]:List UInt8)=[103,114,97,112,104]:=by decide
 refine aE_ Tryz.func26 ?_
 refine rS_ Tryz.func26 ?_
 simp only [go_sem,seval,d0,d1]
 repeat' (first
  | (simp (disch:=omega) only [wrap_ok])
  | ((first
   | (refine AW.loop ?_<;>(refine rS_ Tryz.func26 ?_))
   | (refine AW.round ?_<;>(refine rS_ Tryz.func26 ?_))
   | (refine ⟨sd,?_⟩))<;>(try simp only [go_sem,seval,d0,d1]))
  | fail)
 all_goals kernel_rfl
theorem LibraryText_fn3:Gives Tryz.prog 26 [.str [103,97,109,101,115]] (.d (.str libT3)):=by
 have hmx:maxLen=9223372036854775807:=rfl
 have d0:¬([103,97,109,101,115]:List UInt8)=[108,105,115,116,115]:=by decide
 have d1:¬([103,97,109,101,115]:List UInt8)=[103,114,97,112,104]:=by decide
 have d2:¬([103,97,109,101,115]:List UInt8)=[115,101,116,115]:=by decide
 refine aE_ Tryz.func26 ?_
 refine rS_ Tryz.func26 ?_
 simp only [go_sem,seval,d0,d1,d2]
 repeat' (first
  | (simp (disch:=omega) only [wrap_ok])
  | ((first
   | (refine AW.loop ?_<;>(refine rS_ Tryz.func26 ?_))
   | (refine AW.round ?_<;>(refine rS_ Tryz.func26 ?_))
   | (refine ⟨sd,?_⟩))<;>(try simp only [go_sem,seval,d0,d1,d2]))
  | fail)
 all_goals kernel_rfl
theorem LibraryText_fn (k:Nat):Gives Tryz.prog 26 [.str (libN k)] (.d (.str (libT k))):=match k with
 | 0=>LibraryText_fn0
 | 1=>LibraryText_fn1
 | 2=>LibraryText_fn2
 | _+3=>LibraryText_fn3
theorem l01Str_R (B:List UInt8) (hB:B.length≤1048576) (L:List (List UInt8)) (hL:1≤L.length) (hl:L.length≤100) (i h:Int) (h0:0≤i) (h1:i≤B.length):ACalls Tryz.prog 62 [.ptr 0 0,.d (.sl (strD L))] [cuO B i h] (fun c H'=>∃s i' h',c=.d (.str s)∧H'=[cuO B i' h']∧s∈L∧0≤i'∧i'≤B.length):=by
 have hb:=l01Below_R B i h hB h0 h1 (L.length:Int)
 refine aE_ Tryz.func62 ?_
 refine rS_ Tryz.func62 ?_
 simp only [go_sem,seval,strD_len]
 refine (ACalls.emb hb [0] rfl rfl rfl (by decide) rfl ?_)
 rintro c H' ⟨x,i2,h2,rfl,rfl,⟨b1,b2⟩,b3,b4⟩ _
 refine ⟨rfl,rfl,?_⟩
 obtain ⟨k,hk,hkl⟩:∃k:Nat,x=k∧k<L.length:=⟨x.toNat,by omega,by omega⟩
 subst hk
 obtain ⟨s,hs⟩:∃s,L[k]? = some s:=⟨L[k],List.getElem?_eq_getElem hkl⟩
 have hxx:=strD_at hs
 simp only [go_sem,seval,strD_len,idx_of hxx]
 repeat' (first
  | (exact ⟨s,_,_,rfl,rfl,List.mem_of_getElem? hs,b3,b4⟩)
  | ((refine ⟨sd,?_⟩)<;>(try simp only [go_sem,seval,strD_len,idx_of hxx]))
  | fail)
theorem l15Name_R (B:List UInt8) (hB:B.length≤1048576) (i h:Int) (h0:0≤i) (h1:i≤B.length):ACalls Tryz.prog 27 [.ptr 0 0] [cuO B i h] (fun c H'=>∃k i' h',c=.d (.str (libN k))∧H'=[cuO B i' h']∧0≤i'∧i'≤B.length):=by
 have hb:=l01Str_R B hB [libN 0,libN 1,libN 2,libN 3] (by decide) (by decide) i h h0 h1
 have hsd:strD [libN 0,libN 1,libN 2,libN 3]=[[.str [108,105,115,116,115]],[.str [103,114,97,112,104]],[.str [115,101,116,115]],[.str [103,97,109,101,115]]]:=rfl
 rw [hsd] at hb
 refine aE_ Tryz.func27 ?_
 refine rS_ Tryz.func27 ?_
 simp only [go_sem,seval]
 repeat' (first
  | ((refine (ACalls.emb hb [0] rfl rfl rfl (by decide) rfl ?_)<;>(rintro c H' ⟨s,i2,h2,rfl,rfl,hs,b3,b4⟩ _;refine ⟨rfl,rfl,?_⟩))<;>(try simp only [go_sem,seval]))
  | fail)
 obtain ⟨k,rfl⟩:∃k,s=libN k:=by
  simp only [f_,List.not_mem_nil,or_false] at hs
  rcases hs with rfl | rfl | rfl | rfl<;>exact ⟨_,rfl⟩
 exact ⟨k,_,_,rfl,rfl,b3,b4⟩
theorem all_pure {p:Pg} (h:p.all true=true):p.all false=true:=by
 unfold Pg.all at h ⊢
 rw [b_] at h ⊢
 refine ⟨h.1,a_.2 fun r hr=>?_⟩
 have:=a_.1 h.2 r hr
 unfold Gl.only at this ⊢
 refine a_.2 fun x hx=>?_
 have:=a_.1 this x hx
 unfold Gl.onlyK at this ⊢
 rw [b_] at this ⊢
 exact ⟨this.1,rfl⟩
theorem MakeProgram1G_R (B:List UInt8) (hB:B.length≤1048576):ACalls Tryz.prog 7 [.d (.sl (bytesD B)),.d (.int .i64 0),.d (.int .i64 1)] [] (fun c H'=>∃p,c=.d (.agg (Pg.enc p))∧H'=[]∧p.made 1):=by
 have hmx:maxLen=9223372036854775807:=rfl
 have hw:=l43New_T B hB 0 (by omega)
 rw [show ((0:Nat):Int)=0 from rfl] at hw
 refine aE_ Tryz.func7 ?_
 refine AW.hole ?_
 refine run_sound Tryz.func7 mixed 5 _ _ (by kernel_rfl) ?_
 simp only [go_sem,seval,run.eq_1]
 repeat' (first
  | ((refine (ACalls.emb hw [0] rfl rfl rfl (by decide) rfl ?_)<;>(rintro c H' ⟨rfl,i,h,rfl,e1,e2⟩ _;refine ⟨rfl,rfl,?_⟩))<;>(try simp only [go_sem,seval,run.eq_1]))
  | fail)
 refine AW.unbox 7 0 (cs:=cuD B i h) rfl rfl ?_
 have hnm:=l15Name_R B hB i h e1 e2
 refine rS_ Tryz.func7 ?_
 simp only [go_sem,seval]
 repeat' (first
  | ((refine (ACalls.emb hnm [2] rfl rfl rfl (by decide) rfl ?_)<;>(rintro c H' ⟨k,i2,h2,rfl,rfl,b3,b4⟩ _;refine ⟨rfl,rfl,?_⟩))<;>(try simp only [go_sem,seval]))
  | fail)
 obtain ⟨T,rels,hT,hTl,hTm,hp,hok,hfine⟩:=lib_prog k
 have hlt:=LibraryText_fn k
 have hpp:=sParseProgram_fn (libT k) (by have:=libT_len k;omega) T rels hT (by omega) (fun t ht=>⟨((tokV_mem hT).2 t ht).1,by have:=hTm t ht;omega⟩) hp hok (by have:=hfine.wt;omega)
 have hPe:(Pg.mk rels).enc=[.sl (rels.map Rl.enc)]:=Pg.enc_eq _
 rw [hPe] at hpp
 have hip:=sIsPositive_fn ⟨rels⟩ (by have:=hfine.wt;omega)
 have hiu:=sIsPure_fn ⟨rels⟩ (by have:=hfine.wt;omega)
 have hfin1:(Pg.mk rels).all false=true→(Pg.mk rels).fine 1:=fun h=>⟨hfine.ok,hfine.wt,hfine.cls,hfine.one,fun _=>h⟩
 have hal:(Pg.mk rels).all true=true→(Pg.mk rels).all false=true:=all_pure
 rw [hPe] at hip hiu
 generalize (Pg.mk rels).all false=X1 at hip hfin1 hal
 generalize (Pg.mk rels).all true=X2 at hiu hal
 have hon:=l01Once_R B hB 8 i2 h2 b3 b4
 repeat' (first
  | ((refine br_n (fun hq=>?_) (fun hq=>?_))<;>(try simp only [go_sem,seval,hq]))
  | ((first
   | (refine hlt.calls rfl ?_)
   | (refine hip.calls rfl ?_)
   | (refine hiu.calls rfl ?_)
   | (refine hpp.calls rfl ?_)
   | (refine (ACalls.emb hon [2] rfl rfl rfl (by decide) rfl ?_)<;>(rintro c H' ⟨b,i3,h3,rfl,rfl,c3,c4⟩ _;cases b<;>refine ⟨rfl,rfl,?_⟩))
   | (refine (ACalls.emb (l14Draw_R B hB 1 i3 h3 c3 c4) [2] rfl rfl rfl (by decide) rfl ?_)<;>(rintro c H' ⟨p,i4,h4,rfl,rfl,dp,d3,d4⟩ _;refine ⟨rfl,rfl,?_⟩))
   | (refine ⟨by assumption,?_⟩))<;>(try simp only [go_sem,seval]))
  | fail)
 ·exact .inl dp
 ·exact ⟨⟨rels⟩,by rw [hPe],.inr ⟨k,T,_,hT,hp,hfin1 (hal (by assumption))⟩⟩
 ·exact .inl dp
 ·exact ⟨⟨rels⟩,by rw [hPe],.inr ⟨k,T,_,hT,hp,hfin1 (by assumption)⟩⟩
theorem body_glOk {p:Pg} (h:pgOk p=true) {r:Rl} (hr:r∈p.rels):glOk r.body=true:=by
 unfold pgOk at h
 rw [b_] at h
 obtain ⟨i,hi⟩:=okL_mem h.2 r hr
 unfold Pg.relOk at hi
 simp only [b_,decide_eq_true_eq] at hi
 have hc:=hi.1.1.1.2
 have hs:=hi.1.1.2
 unfold glOk
 rw [b_,decide_eq_true_eq]
 exact ⟨by omega,hs⟩
theorem mkC_cls {c:List Gl} (h:∀x,x∈c→x.leaf):(mkC c).clsS=[c]:=by
 rw [Gl.clsS_eq]
 show (if (7:Int)=0 then _ else if (7:Int)=1 then _ else if (7:Int)=8 then _ else if (7:Int)=7 then Gl.andS c [[]] else _)=_
 rw [if_neg (by decide),if_neg (by decide),if_neg (by decide),if_pos rfl,Gl.andS_row c [] h];rfl
theorem nfO_eq {r:Rl} (h:nfO r=true):nfG r.body=.mk 8 [] [] (r.body.clsS.map mkC)∧(nfR r).body.clsS=r.body.clsS:=by
 unfold nfO at h
 rw [b_] at h
 have h1:clsV r.body=r.body.clsS:=by
  have:=of_decide_eq_true h.1
  unfold clsV;rw [if_pos this]
 have h2:nfG r.body=.mk 8 [] [] (r.body.clsS.map mkC):=by
  unfold nfG cgK cgV
  rw [if_pos h.2,if_pos h.2,h1]
 refine ⟨h2,?_⟩
 show (nfG r.body).clsS=_
 rw [h2,Gl.clsS_eq]
 show (if (8:Int)=0 then _ else if (8:Int)=1 then _ else if (8:Int)=8 then Gl.orS (r.body.clsS.map mkC) [] else _)=_
 rw [if_neg (by decide),if_neg (by decide),if_pos rfl,Gl.orS_rows _ _ fun c hc=>mkC_cls (Gl.clsS_leaf _ c hc)];rfl
theorem drP_nfO {m:Int} {p:Pg} (h:p.drP m) {r:Rl} (hr:r∈p.rels):nfO r=true:=by
 have hf:=Pg.drP_fine h
 have hb:=(h.2 r hr).2.2.2.2
 have hc3:=Gl.drB_cls hb
 have hrow:=Gl.drB_row hb
 have hg:=body_glOk hf.ok hr
 have h1:clsB r.body=true:=decide_eq_true ⟨hg,by omega⟩
 have h2:clsV r.body=r.body.clsS:=by unfold clsV;rw [if_pos ⟨hg,by omega⟩]
 unfold nfO
 rw [h1,h2,c_]
 unfold cgOk
 rw [decide_eq_true (by omega),c_,a_]
 intro c hc
 obtain ⟨r1,r2⟩:=hrow c hc
 unfold okCl
 rw [decide_eq_true (by omega),c_,a_]
 intro x hx
 have hl:=Gl.clsS_leaf _ c hc x hx
 have ha:=r2 x hx
 unfold sgl glOk
 rw [ha.1,decide_eq_true (show x.cnt≤80 by have:=ha.2.2.2.2.1;omega),decide_eq_false hl.2.2.1,decide_eq_false hl.2.2.2];rfl
theorem drP_nf {m:Int} {p:Pg} (h:p.drP m):Pg.drP m ⟨p.rels.map nfR⟩:=by
 have hsg:Pg.sg ⟨p.rels.map nfR⟩=p.sg:=by unfold Pg.sg;rw [List.map_map];rfl
 refine ⟨?_,fun r hr=>?_⟩
 ·obtain ⟨k,k1,k3,hn⟩:=h.1
  exact ⟨k,k1,k3,by rw [List.map_map];exact hn⟩
 ·obtain ⟨x,hx,rfl⟩:=e_.1 hr
  obtain ⟨a1,a2,a3,a4,a5⟩:=h.2 x hx
  refine ⟨a1,a2,a3,a4,?_⟩
  have hb:(nfR x).body=.mk 8 [] [] (x.body.clsS.map mkC):=(nfO_eq (drP_nfO h hx)).1
  have hrow:=Gl.drB_row a5
  have hc3:=Gl.drB_cls a5
  rw [hsg]
  right
  rw [hb]
  refine ⟨rfl,rfl,rfl,by show (x.body.clsS.map mkC).length≤3;rw [List.length_map];exact hc3,fun y hy=>?_⟩
  obtain ⟨c,hc,rfl⟩:=e_.1 (show y∈x.body.clsS.map mkC from hy)
  exact ⟨rfl,rfl,rfl,(hrow c hc).1,(hrow c hc).2⟩
def libNf (s:List UInt8):Bool:=match tokV s with
 | some T=>(match ppT T [] 0 [] with
  | some (rels,d)=>nfB ⟨rels⟩ && decide (Pg.gszL (rels.map nfR)≤2000)
  | none=>false)
 | none=>false
theorem libNf0:libNf libT0=true:=by kernel_rfl
theorem libNf1:libNf libT1=true:=by kernel_rfl
theorem libNf2:libNf libT2=true:=by kernel_rfl
theorem libNf3:libNf libT3=true:=by kernel_rfl
theorem libNf_all (k:Nat):libNf (libT k)=true:=match k with
 | 0=>libNf0
 | 1=>libNf1
 | 2=>libNf2
 | _+3=>libNf3
theorem made_nf {m:Int} {p:Pg} (h:p.made m):nfB p=true∧Pg.gszL (p.rels.map nfR)≤2000:=by
 rcases h with h | ⟨k,T,d,h1,h2,h3⟩
 ·have hn:=drP_nf h
  refine ⟨?_,Pg.drP_gsz hn⟩
  unfold nfB
  rw [(Pg.drP_fine h).ok,(Pg.drP_fine hn).ok,c_,Bool.and_true,a_]
  exact fun r hr=>drP_nfO h hr
 ·have h0:=libNf_all k
  unfold libNf at h0
  rw [h1] at h0
  dsimp only at h0
  rw [h2] at h0
  dsimp only at h0
  rw [b_] at h0
  exact ⟨h0.1,of_decide_eq_true h0.2⟩
theorem gnd_nf (u:List V):∀l:List Rl,(∀r,r∈l→nfO r=true)→Pg.gnd u (l.map nfR)=Pg.gnd u l
 | [],_=>rfl
 | x :: q,h=>by
  have h1:=gnd_nf u q fun r hr=>h r (by simp [hr])
  have h2:=(nfO_eq (h x (by simp))).2
  have hr:∀(cs:List (List Gl)) (n:Nat) (i:Int),rvsB u (nfR x) n i cs=rvsB u x n i cs:=fun cs n=>by
   have hk:∀(c:List Gl) (m k:Nat) (i:Int),rvsC u (nfR x) i c k m=rvsC u x i c k m:=fun c m=>by
    induction m with
    | zero=>intro k i;rfl
    | succ m ih=>intro k i;rw [rvsC_s,rvsC_s,ih];rfl
   induction cs with
   | nil=>intro i;rfl
   | cons c cs ih=>intro i;rw [rvsB_s,rvsB_s,ih,hk]
  show rvsB u (nfR x) ((nfR x).ways u) 0 (nfR x).body.clsS++Pg.gnd u (q.map nfR)=rvsB u x (x.ways u) 0 x.body.clsS++Pg.gnd u q
  rw [h1,h2,hr];rfl
theorem subs_tr:∀g x y:Gl,x∈g.subs→y∈x.subs→y∈g.subs:=by
 intro g
 induction g using Gl.ind' with
 | h t ih =>
  intro x y hx hy
  rw [Gl.subs_eq,Gl.subss_eq] at hx
  rcases f_.1 hx with rfl | hx
  ·exact hy
  ·obtain ⟨z,hz,hxz⟩:=d_.1 hx
   rw [Gl.subs_eq,Gl.subss_eq]
   exact List.mem_cons_of_mem _ (d_.2 ⟨z,hz,ih z hz x y hxz hy⟩)
theorem nf_pos {p:Pg} (h:nfB p=true) (ha:p.all false=true):Pg.all false ⟨p.rels.map nfR⟩=true:=by
 unfold nfB at h
 simp only [b_] at h
 unfold Pg.all at ha ⊢
 rw [b_] at ha
 rw [h.2,c_,a_]
 intro r hr
 obtain ⟨x,hx,rfl⟩:=e_.1 hr
 have ho:=a_.1 ha.2 x hx
 have hb:(nfR x).body=.mk 8 [] [] (x.body.clsS.map mkC):=(nfO_eq (a_.1 h.1.2 x hx)).1
 rw [hb]
 unfold Gl.only at ho ⊢
 rw [a_] at ho ⊢
 intro y hy
 rw [Gl.subs_eq,Gl.subss_eq] at hy
 rcases f_.1 hy with rfl | hy
 ·rfl
 ·obtain ⟨z,hz,hyz⟩:=d_.1 hy
  obtain ⟨c,hc,rfl⟩:=e_.1 (show z∈x.body.clsS.map mkC from hz)
  rw [Gl.subs_eq,Gl.subss_eq] at hyz
  rcases f_.1 hyz with rfl | hyz
  ·rfl
  ·obtain ⟨w,hw,hyw⟩:=d_.1 hyz
   exact ho y (subs_tr _ _ _ (clsS_sub hc hw) hyw)
theorem within_of {a b:List FcV} (h:∀f,f∈a→f∈b):(a.all fun f=>decide (f∈b))=true:=a_.2 fun f hf=>decide_eq_true (h f hf)
theorem nfD (p:Pg) (hw:wtL p.enc≤1048576) (h:nfB p=true):Gives Tryz.prog 17 [.agg p.enc] (.tup [.d (.agg [.sl ((p.rels.map nfR).map Rl.enc)]),.d (.bool true)]):=by
 have h1:=iNormalProgram_T p hw
 have h2:nfL p=p.rels.map nfR:=if_pos h
 rw [h,h2] at h1
 refine ACalls.frozen (ds:=[.agg p.enc]) (m:=1) h1 (fun c H' ⟨h1,e,B,h2⟩ _=>?_)
 subst h1 h2;rfl
theorem lawFnClauses_R (B:List UInt8):ACalls Tryz.prog 4 [.d (.sl (bytesD B))] [] (fun c H'=>c=.d (.bool true)∧H'=[]):=by
 have hmx:maxLen=9223372036854775807:=rfl
 refine aE_ Tryz.func4 ?_
 refine run_sound Tryz.func4 mixed 10 _ _ (by kernel_rfl) ?_
 simp only [go_sem,seval,run.eq_1,bytesD_len]
 refine br_intro (fun hq=>?_) (fun hq=>?_)
 ·simp only [go_sem,seval]
 simp only [decide_eq_false_iff_not,Int.not_lt] at hq
 have hB:B.length≤1048576:=by omega
 clear hq
 have hmk:=MakeProgram1G_R B hB
 have hmu:=MakeUniverse_R B hB 60 2 (by decide) (by decide) (by decide)
 have hms:=MakeSize_R B hB 80 0 4 (by decide) (by decide) (by decide) (by decide)
 simp only [go_sem,seval,bytesD_len]
 refine ACalls.emb hmk [] rfl rfl rfl (by decide) rfl ?_
 rintro c H' ⟨p,rfl,rfl,hmd⟩ _
 refine ⟨rfl,rfl,?_⟩
 have hf:=Pg.made_fine hmd
 have hgs:=Pg.made_gsz hmd
 obtain ⟨hnf,hgs2⟩:=made_nf hmd
 have hPe:=Pg.enc_eq p
 simp only [go_sem,seval,hPe,run.eq_1]
 refine rS_ Tryz.func4 ?_
 simp only [go_sem,seval]
 repeat' (first
  | ((first
   | (refine (ACalls.emb hmu [] rfl rfl rfl (by decide) rfl ?_)<;>(rintro c H' ⟨u,rfl,rfl,hu,hul,hud⟩ _;refine ⟨rfl,rfl,?_⟩))
   | (refine (ACalls.emb hms [] rfl rfl rfl (by decide) rfl ?_)<;>(rintro c H' ⟨x,rfl,rfl,hx0,hx3⟩ _;refine ⟨rfl,rfl,?_⟩)))<;>(try simp only [go_sem,seval]))
  | fail)
 obtain ⟨n,rfl⟩:∃n:Nat,x=n:=⟨x.toNat,by omega⟩
 have hM:=Made.of hf hgs hu hul hud
 have ha:=hf.nots (by decide)
 have ha2:=nf_pos hnf ha
 have hgn:Pg.gnd u (p.rels.map nfR)=Pg.gnd u p.rels:=by
  have h:=hnf
  unfold nfB at h
  simp only [b_] at h
  exact gnd_nf u p.rels fun r hr=>a_.1 h.1.2 r hr
 have hok2:pgOk ⟨p.rels.map nfR⟩=true:=by
  have h:=hnf
  unfold nfB at h
  simp only [b_] at h
  exact h.2
 have hM2:Made ⟨p.rels.map nfR⟩ u:=⟨hok2,by
   have h1:=nfL_wt p.rels
   have h2:=hf.wt
   have h3:p.rels.length≤8:=by have h:=hf.ok;unfold pgOk at h;rw [b_] at h;exact of_decide_eq_true h.1
   rw [Pg.enc_eq] at h2 ⊢
   simp only [wtL,D.wt,Nat.add_zero] at h2 ⊢
   omega,Pg.gr_small hok2 (fun r hr=>by
   obtain ⟨x,hx,rfl⟩:=e_.1 hr
   have h:=hnf
   unfold nfB at h
   simp only [b_] at h
   rw [(nfO_eq (a_.1 h.1.2 x hx)).2]
   have:=hf.cls x hx
   omega) hul hgs2,hu,hM.uw⟩
 have hnd:=nfD p hM.wp hnf
 have hs1:=stgM_fn hM ha n (by omega)
 have hs2:=stgM_fn hM2 ha2 n (by omega)
 have hip:=iIsPositive_fn ⟨p.rels.map nfR⟩ hM2.wp
 rw [ha2] at hip
 rw [hPe] at hnd hs1
 rw [Pg.enc_eq] at hs2 hip
 dsimp only at hs2 hip
 rw [hgn] at hs2
 generalize stg (Pg.gnd u p.rels) n=A at *
 have i1:=withinL_fn A A
 rw [within_of (a:=A) (b:=A) (fun _ h=>h)] at i1
 have hmf:∀l:List FcV,(l.map fcE).length=l.length:=fun l=>List.length_map _
 repeat' (first
  | ((first
   | (refine hnd.calls rfl ?_)
   | (refine hs1.calls rfl ?_)
   | (refine hs2.calls rfl ?_)
   | (refine i1.calls rfl ?_)
   | (refine hip.calls rfl ?_))<;>(try simp only [go_sem,seval,hmf]))
  | fail)
theorem lawFnClauses (B:List UInt8):Gives Tryz.prog 4 [.sl (bytesD B)] (.d (.bool true)):=
 ACalls.frozen (ds:=[.sl (bytesD B)]) (m:=0) (lawFnClauses_R B) (fun c H' ⟨h1,h2⟩ _=>by subst h1 h2;rfl)
end Go.Proofs.YtlajhmoomlgopaaGreat

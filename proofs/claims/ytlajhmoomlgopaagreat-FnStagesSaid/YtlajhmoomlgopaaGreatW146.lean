import Derived.Test.YtlajhmoomlgopaaGreatW91
import Derived.Test.YtlajhmoomlgopaaGreatP14
import Derived.Test.YtlajhmoomlgopaaGreatA10
namespace Go.Proofs.YtlajhmoomlgopaaGreat
open Go.Abs
set_option maxRecDepth 100000
set_option maxHeartbeats 8000000
set_option linter.unusedSimpArgs false
set_option linter.unusedVariables false
theorem l13Make_fn (k:Int) (ts:List Tm) (gs:List Gl):Gives Tryz.prog 109 [.int .i64 k,.sl (ts.map Tm.enc),.sl (gs.map Gl.enc)] (.d (.agg (Gl.mk k [] ts gs).enc)):=by
 rw [Gl.enc_eq]
 refine aE_ Tryz.func109 ?_
 refine rS_ Tryz.func109 ?_
 simp only [go_sem,seval]
 all_goals rfl
def cuG (B:List UInt8) (Q:Gl→Prop) (c:C) (H:List O):Prop:=∃g i' h',c=.d (.agg (Gl.enc g))∧H=[cuO B i' h']∧Q g∧0≤i'∧i'≤B.length
theorem l13Make2_fn (k:Int) (u v:V):Gives Tryz.prog 109 [.int .i64 k,.sl [u.enc,v.enc],.sl []] (.d (.agg (Gl.mk k [] ([u,v].map V.tm) []).enc)):=by
 have h:=l13Make_fn k ([u,v].map V.tm) []
 rw [enc_tms] at h
 exact h
theorem l13Make1_fn (k:Int) (u:V):Gives Tryz.prog 109 [.int .i64 k,.sl [u.enc],.sl []] (.d (.agg (Gl.mk k [] ([u].map V.tm) []).enc)):=by
 have h:=l13Make_fn k ([u].map V.tm) []
 rw [enc_tms] at h
 exact h
theorem l13Make0_fn (k:Int):Gives Tryz.prog 109 [.int .i64 k,.sl [],.sl []] (.d (.agg (Gl.mk k [] [] []).enc)):=l13Make_fn k [] []
def smpG (n:Int) (g:Gl):Prop:=∀(S:List (List UInt8×Int)) (mode:Int),g.drA S n mode
theorem smp2 {n k:Int} {u v:V} (hu:drawn 7 n u) (hv:drawn 7 n v) (hk:k=2∨k=3):smpG n ⟨k,[],[u,v].map V.tm,[]⟩:=fun S mode=>by
 refine Gl.drA_of ?_ (fun x hx=>?_) (by simp) (by simp) (by omega) (by omega) (by omega) (fun h=>by omega)
 ·rcases hk with rfl | rfl<;>rfl
 ·simp at hx;rcases hx with rfl | rfl<;>assumption
theorem smp1 {n k:Int} {u:V} (hu:drawn 7 n u) (hk:k=4∨k=5):smpG n ⟨k,[],[u].map V.tm,[]⟩:=fun S mode=>by
 refine Gl.drA_of ?_ (fun x hx=>?_) (by simp) (by simp) (by omega) (by omega) (by omega) (fun h=>by omega)
 ·rcases hk with rfl | rfl<;>rfl
 ·simp at hx;subst hx;exact hu
theorem smp6 {n:Int} {v:V} (hv:drawn 7 n v):smpG n ⟨6,[],[V.sym [97],v].map V.tm,[]⟩:=fun S mode=>by
 refine Gl.drA_of ?_ (fun x hx=>?_) (by simp) (by simp) (by omega) (by omega) (by omega) (fun h=>by omega)
 ·rfl
 ·simp at hx;rcases hx with rfl | rfl
  ·exact ⟨by decide,by decide,rfl⟩
  ·exact hv
theorem smp0 {n k:Int} (hk:k=0∨k=1):smpG n ⟨k,[],[],[]⟩:=fun S mode=>by
 refine Gl.drA_of (vs:=[]) ?_ (fun x hx=>by cases hx) (by simp) (by simp) (by omega) (by omega) (by omega) (fun h=>by omega)
 rcases hk with rfl | rfl<;>rfl
theorem l13Simple_R (B:List UInt8) (hB:B.length≤1048576) (n:Int) (hn:n≤100) (pure:Bool) (i h:Int) (h0:0≤i) (h1:i≤B.length):ACalls Tryz.prog 108 [.ptr 0 0,.d (.int .i64 n),.d (.bool pure)] [cuO B i h] (cuG B (smpG n)):=by
 have hda:=l02Draw_R B hB n hn 1 i h (by omega) h0 h1
 refine aE_ Tryz.func108 ?_
 refine run_sound Tryz.func108 mixed 4 _ _ (by kernel_rfl) ?_
 simp only [go_sem,seval,run.eq_1]
 repeat' (first
  | ((refine (ACalls.emb hda [0] rfl rfl rfl (by decide) rfl ?_)<;>(rintro c H' ⟨u,i2,h2,rfl,rfl,du,b3,b4⟩ _;refine ⟨rfl,rfl,?_⟩))<;>(try simp only [go_sem,seval,run.eq_1]))
  | fail)
 have hdb:=l02Draw_R B hB n hn 4 i2 h2 (by omega) b3 b4
 refine run_sound Tryz.func108 mixed 2 _ _ (by kernel_rfl) ?_
 simp only [go_sem,seval,run.eq_1]
 repeat' (first
  | ((refine (ACalls.emb hdb [0] rfl rfl rfl (by decide) rfl ?_)<;>(rintro c H' ⟨v,i3,h3,rfl,rfl,dv,c3,c4⟩ _;refine ⟨rfl,rfl,?_⟩))<;>(try simp only [go_sem,seval,run.eq_1]))
  | fail)
 have hbl:=l01Below_R B i3 h3 hB c3 c4 16
 refine run_sound Tryz.func108 mixed 2 _ _ (by kernel_rfl) ?_
 simp only [go_sem,seval,run.eq_1]
 repeat' (first
  | ((refine (ACalls.emb hbl [0] rfl rfl rfl (by decide) rfl ?_)<;>(rintro c H' ⟨x,i4,h4,rfl,rfl,⟨x0,x1⟩,d3,d4⟩ _;refine ⟨rfl,rfl,?_⟩))<;>(try simp only [go_sem,seval,run.eq_1]))
  | fail)
 have du7:=drawn_le du (show drawS 1≤7 by decide)
 have dv7:=drawn_le dv (show drawS 4≤7 by decide)
 clear du dv
 have hb8:=l01Below_R B i4 h4 hB d3 d4 8
 have hue:=V.enc_eq u
 have hve:=V.enc_eq v
 have k2:=l13Make2_fn 2 u v
 have k3:=l13Make2_fn 3 u v
 have k4:=l13Make1_fn 4 u
 have k5:=l13Make1_fn 5 u
 have k6:=l13Make2_fn 6 (V.sym [97]) v
 have hsy:=l02SymV_fn [97]
 cases pure with
 | true =>
  refine rS_ Tryz.func108 ?_
  simp only [go_sem,seval]
  repeat' (first
   | (exact ⟨_,_,_,rfl,rfl,smp2 du7 dv7 (by simp),d3,d4⟩)
   | ((refine k2.calls rfl ?_)<;>(try simp only [go_sem,seval,hue]))
   | fail)
  all_goals first | (exfalso;omega) | skip
 | false =>
  by_cases h11:x=11
  ·subst h11
   refine run_sound Tryz.func108 mixed 19 _ _ (by kernel_rfl) ?_
   simp only [go_sem,seval,run.eq_1]
   refine AW.drawA mixed #[true,true,true,true,true] [(3,.box (v.enc.map .d))] [] [1,0,2,3,4] [] none (by kernel_rfl) trivial (by simp [holdsB]) ?_
   simp only [go_sem,seval]
   repeat' (first
    | ((first
     | (refine hsy.calls rfl ?_)
     | (refine ACalls.nilArg (pre:=[_,_]) (post:=[]) (k6.calls rfl ?_)))<;>(try simp only [go_sem,seval]))
    | fail)
   refine rS_ Tryz.func108 ?_
   simp only [go_sem,seval]
   repeat' (first
    | (exact ⟨_,_,_,rfl,rfl,smp6 dv7,d3,d4⟩)
    | fail)
  ·refine rS_ Tryz.func108 ?_
   simp only [go_sem,seval,h11]
   repeat' (first
    | (exact ⟨_,_,_,rfl,rfl,smp2 du7 dv7 (by simp),d3,d4⟩)
    | (exact ⟨_,_,_,rfl,rfl,smp1 du7 (by simp),d3,d4⟩)
    | (exact ⟨_,_,_,rfl,rfl,smp0 (by simp),e3,e4⟩)
    | ((refine br_n (fun hq=>?_) (fun hq=>?_))<;>(try simp only [go_sem,seval,h11,hq]))
    | (simp (disch:=omega) only [wrap_ok])
    | ((first
     | (refine k2.calls rfl ?_)
     | (refine k3.calls rfl ?_)
     | (refine k4.calls rfl ?_)
     | (refine k5.calls rfl ?_)
     | (refine (ACalls.emb hb8 [0] rfl rfl rfl (by decide) rfl ?_)<;>(rintro c H' ⟨y,i5,h5,rfl,rfl,⟨y0,y1⟩,e3,e4⟩ _;rcases (show y=0∨y=1∨y=2∨y=3∨y=4∨y=5∨y=6∨y=7 by omega) with rfl | rfl | rfl | rfl | rfl | rfl | rfl | rfl<;>refine ⟨rfl,rfl,?_⟩))
     | (refine (l13Make0_fn 0).calls rfl ?_)
     | (refine (l13Make0_fn 1).calls rfl ?_))<;>(try simp only [go_sem,seval,h11]))
    | fail)
   all_goals first | (exfalso;omega) | skip
end Go.Proofs.YtlajhmoomlgopaaGreat
namespace Go.Proofs.YtlajhmoomlgopaaGreat
open Go.Abs
set_option maxRecDepth 100000
set_option maxHeartbeats 8000000
set_option linter.unusedSimpArgs false
set_option linter.unusedVariables false
theorem l01Once_R (B:List UInt8) (hB:B.length≤1048576) (n:Int) (i h:Int) (h0:0≤i) (h1:i≤B.length):ACalls Tryz.prog 28 [.ptr 0 0,.d (.int .i64 n)] [cuO B i h] (fun c H'=>∃b i' h',c=.d (.bool b)∧H'=[cuO B i' h']∧0≤i'∧i'≤B.length):=by
 have hb:=l01Below_R B i h hB h0 h1 n
 refine aE_ Tryz.func28 ?_
 refine rS_ Tryz.func28 ?_
 simp only [go_sem,seval]
 repeat' (first
  | (exact ⟨_,_,_,rfl,rfl,b3,b4⟩)
  | ((refine (ACalls.emb hb [0] rfl rfl rfl (by decide) rfl ?_)<;>(rintro c H' ⟨x,i2,h2,rfl,rfl,⟨b1,b2⟩,b3,b4⟩ _;refine ⟨rfl,rfl,?_⟩))<;>(try simp only [go_sem,seval]))
  | fail)
def sgL (rels:List Rl):List (List UInt8×Int):=rels.map fun r=>(r.name,r.arity)
theorem l14Clause_R (B:List UInt8) (hB:B.length≤1048576) (rels:List Rl) (hr1:1≤rels.length) (hr3:rels.length≤3) (har:∀r,r∈rels→isRel r.name=true∧0≤r.arity∧r.arity≤4) (n:Int) (hn:n≤100) (calls:Nat) (hc:calls≤2) (mode:Int) (i h:Int) (h0:0≤i) (h1:i≤B.length) (q e:Nat) :
  ACalls Tryz.prog 64 [.ptr 0 0,.own 1 q,.d (.int .i64 n),.d (.int .i64 (calls:Int)),.d (.int .i64 mode)] [cuO B i h,.buf q 7 e (rels.map Rl.enc)] (fun c H'=>∃g i' h',c=.d (.agg (Gl.enc g))∧H'=[cuO B i' h',.buf q 7 e (rels.map Rl.enc)]∧g.drC (sgL rels) n mode∧0≤i'∧i'≤B.length):=by
 have hmx:maxLen=9223372036854775807:=rfl
 have hbl:=l01Below_R B i h hB h0 h1 2
 refine aE_ Tryz.func64 ?_
 refine run_sound Tryz.func64 mixed 4 _ _ (by kernel_rfl) ?_
 simp only [go_sem,seval,run.eq_1]
 refine AW.adoptGB 3 3 4 48 (by decide) rfl rfl ?_
 refine run_sound Tryz.func64 mixed 3 _ _ (by kernel_rfl) ?_
 simp only [go_sem,seval,run.eq_1]
 repeat' (first
  | (simp (disch:=omega) only [wrap_ok])
  | ((refine (ACalls.emb hbl [0] rfl rfl rfl (by decide) rfl ?_)<;>(rintro c H' ⟨x,i2,h2,rfl,rfl,⟨x0,x1⟩,b3,b4⟩ _;refine ⟨rfl,rfl,?_⟩))<;>(try simp only [go_sem,seval,run.eq_1]))
  | fail)
 obtain ⟨k0,hk0,hk2⟩:∃k0:Nat,(1:Int)+x=(k0:Int)∧k0≤2:=⟨(1+x).toNat,by omega,by omega⟩
 have wk:IntKind.i64.wrap (1+x)=(k0:Int):=by rw [wrap_ok (by omega) (by omega)];exact hk0
 try rw [wk]
 try rw [hk0]
 refine rS_ Tryz.func64 ?_
 simp only [go_sem,seval]
 refine AW.lp [0,1,2,3,4,10,11] (fun u:Nat×Nat×List Gl×Int×Int=>[(12,.d (.int .i64 (u.1:Int)))]) (fun _ u=>[cuO B u.2.2.2.1 u.2.2.2.2,.buf q 7 e (rels.map Rl.enc),.box [.d (.int .i64 0),.d (.str []),.nil0,.nil0],.box [.d (.int .i64 7),.d (.str []),.nil0,.own 4 u.2.1],.grow u.2.1 4 48 (u.2.2.1.map Gl.enc)]) (fun u=>u.1+u.2.2.1.length≤2∧(∀g,g∈u.2.2.1→g.drA (sgL rels) n mode)∧0≤u.2.2.2.1∧u.2.2.2.1≤B.length) (fun u=>u.1) (k0,0,[],i2,h2) ⟨by simpa using hk2,(fun g hg=>by cases hg),b3,b4⟩ (by refine ⟨by simp [mkS,cuO_eq],by simp [mkS,cuO_eq],by simp only [mkS,List.all_cons,List.all_nil,O.refsLt,C.refsLt,C.refsLt1,all_dmap];first | done | rfl | (simp;done),?_⟩;simp [mkS,Abs.get,C.refsLtT,C.refsLt,C.refsLt1]) ?_
 rintro ⟨k,q1,gs,i3,h3⟩ ⟨j1,j2,j3,j4⟩ hnext
 dsimp only at j1 j2 j3 j4 hnext ⊢
 have hnx:=fun a b c d e s'=>hnext (a,b,c,d,e) s'
 clear hnext
 by_cases hk:k=0
 ·subst hk
  clear hnx
  refine rS_ Tryz.func64 ?_
  simp only [go_sem,seval]
  refine AW.lp [0,1,2,4,10,11] (fun u:Nat×Nat×List Gl×Int×Int=>[(3,.d (.int .i64 (u.1:Int)))]) (fun _ u=>[cuO B u.2.2.2.1 u.2.2.2.2,.buf q 7 e (rels.map Rl.enc),.box [.d (.int .i64 0),.d (.str []),.nil0,.nil0],.box [.d (.int .i64 7),.d (.str []),.nil0,.own 4 u.2.1],.grow u.2.1 4 48 (u.2.2.1.map Gl.enc)]) (fun u=>u.1+u.2.2.1.length≤4∧(∀g,g∈u.2.2.1→g.drA (sgL rels) n mode)∧0≤u.2.2.2.1∧u.2.2.2.1≤B.length) (fun u=>u.1) (calls,q1,gs,i3,h3) ⟨by dsimp only;omega,j2,j3,j4⟩ (by refine ⟨by simp [mkS,cuO_eq],by simp [mkS,cuO_eq],by simp only [mkS,List.all_cons,List.all_nil,O.refsLt,C.refsLt,C.refsLt1,all_dmap];first | done | rfl | (simp;done),?_⟩;simp [mkS,Abs.get,C.refsLtT,C.refsLt,C.refsLt1]) ?_
  clear j1 j2 j3 j4
  rintro ⟨k,q1,gs,i4,h4⟩ ⟨j1,j2,j3,j4⟩ hnext
  dsimp only at j1 j2 j3 j4 hnext ⊢
  have hnx:=fun a b c d e s'=>hnext (a,b,c,d,e) s'
  clear hnext
  by_cases hk:k=0
  ·subst hk
   refine rS_ Tryz.func64 ?_
   simp only [go_sem,seval]
   repeat' (first
    | (exact ⟨⟨7,[],[],gs⟩,_,_,by rw [Gl.enc_eq];rfl,rfl,⟨rfl,rfl,rfl,by simpa [Gl.goals] using j1,j2⟩,j3,j4⟩)
    | fail)
  ·obtain ⟨k,rfl⟩:∃k',k=k'+1:=⟨k - 1,by omega⟩
   have m1:(0:Int)<((k+1:Nat):Int):=by omega
   have m1':(0:Int)<(k:Int)+1:=by omega
   have wk1:IntKind.i64.wrap ((k:Int)+1 - 1)=(k:Int):=by rw [wrap_ok (by omega) (by omega)];omega
   have hbl:=l01Below_R B i4 h4 hB j3 j4 (rels.length:Int)
   have hml:∀l:List Rl,(l.map Rl.enc).length=l.length:=fun l=>List.length_map _
   refine run_sound Tryz.func64 mixed 8 _ _ (by kernel_rfl) ?_
   simp only [go_sem,seval,run.eq_1,m1,m1',hml]
   refine AW.regA ?_
   simp only [go_sem,seval,hml]
   repeat' (first
    | ((refine idx_intro (fun x hx=>have hq:=hx;?_))<;>(try simp only [go_sem,seval,hml,hq]))
    | ((first
     | (refine (ACalls.emb hbl [0] rfl rfl rfl (by decide) rfl ?_)<;>(rintro c H' ⟨y,i5,h5,rfl,rfl,⟨y0,y1⟩,c3,c4⟩ _;refine ⟨rfl,rfl,?_⟩))
     | (refine ⟨sd,?_⟩))<;>(try simp only [go_sem,seval,hml]))
    | fail)
   have hxm:=List.mem_of_getElem? hx
   obtain ⟨n1,n2,n3⟩:=har x hxm
   refine run_sound Tryz.func64 mixed 3 _ _ (by kernel_rfl) ?_
   simp only [go_sem,seval,run.eq_1]
   refine AW.adoptGB 6 2 4 85 (by decide) rfl rfl ?_
   refine rS_ Tryz.func64 ?_
   simp only [go_sem,seval]
   refine AW.lp [0,1,2,3,4,10,11,13,14] (fun u:Nat×Nat×List V×Int×Int=>[(15,.d (.int .i64 (u.1:Int)))]) (fun _ u=>[cuO B u.2.2.2.1 u.2.2.2.2,.buf q 7 e (rels.map Rl.enc),.box [.d (.int .i64 0),.d (.str []),.nil0,.nil0],.box [.d (.int .i64 7),.d (.str []),.nil0,.own 4 q1],.grow q1 4 48 (gs.map Gl.enc),.box (x.enc.map .d),.box [.d (.int .i64 9),.d (.str x.name),.own 7 u.2.1,.nil0],.grow u.2.1 4 85 (u.2.2.1.map V.enc)]) (fun u=>u.1=u.2.2.1.length∧(u.1:Int)≤x.arity∧(∀v,v∈u.2.2.1→drawn 7 n v)∧0≤u.2.2.2.1∧u.2.2.2.1≤B.length) (fun u=>x.arity.toNat - u.1) (0,0,[],i5,h5) ⟨rfl,n2,(fun v hv=>by cases hv),c3,c4⟩ (by refine ⟨by simp [mkS,cuO_eq],by simp [mkS,cuO_eq],by simp only [mkS,List.all_cons,List.all_nil,O.refsLt,C.refsLt,C.refsLt1,all_dmap];first | done | rfl | (simp;done),?_⟩;simp [mkS,Abs.get,C.refsLtT,C.refsLt,C.refsLt1]) ?_
   rintro ⟨j,q2,ts,i6,h6⟩ ⟨p1,p2,p3,p4,p5⟩ hnext
   dsimp only at p1 p2 p3 p4 p5 hnext ⊢
   have hny:=fun a b c d e s'=>hnext (a,b,c,d,e) s'
   clear hnext
   have hj6:(j:Int)<6:=by omega
   by_cases hja:(j:Int)<x.arity
   ·have hb4:=l01Below_R B i6 h6 hB p4 p5 4
    refine run_sound Tryz.func64 mixed 7 _ _ (by kernel_rfl) ?_
    simp only [go_sem,seval,run.eq_1,hja,hj6]
    refine AW.drawA mixed #[true,true,true,true,true,true,true,true,true,true,true,true,true,false] [(6,.box [.d (.int .i64 9),.d (.str x.name),.own 7 q2,.nil0])] [] [0,1,2,3,8,4,5,6,7,9,10,11,12] [13] none (by kernel_rfl) trivial (by simp [holdsB]) ?_
    simp only [go_sem,seval]
    repeat' (first
     | ((refine (ACalls.emb hb4 [0] rfl rfl rfl (by decide) rfl ?_)<;>(rintro c H' ⟨z,i7,h7,rfl,rfl,⟨z0,z1⟩,d3,d4⟩ _;refine ⟨rfl,rfl,?_⟩))<;>(try simp only [go_sem,seval]))
     | fail)
    obtain ⟨s,hs1,hs2⟩:∃s:Nat,IntKind.i64.wrap (1+IntKind.i64.wrap (IntKind.i64.wrap (Int.tdiv z 3) * 2))=(s:Int)∧(s=1∨s=3):=by
     rcases (show z=0∨z=1∨z=2∨z=3 by omega) with rfl | rfl | rfl | rfl
     ·exact ⟨1,by decide,.inl rfl⟩
     ·exact ⟨1,by decide,.inl rfl⟩
     ·exact ⟨1,by decide,.inl rfl⟩
     ·exact ⟨3,by decide,.inr rfl⟩
    have hs5:drawS s≤7:=by rcases hs2 with rfl | rfl<;>decide
    rw [hs1]
    refine (ACalls.emb (l02Draw_R B hB n hn s i7 h7 (by omega) d3 d4) [0] rfl rfl rfl (by decide) rfl ?_)
    rintro c H' ⟨v,i8,h8,rfl,rfl,dv,e3,e4⟩ _
    refine ⟨rfl,rfl,?_⟩
    simp only [go_sem,seval]
    repeat' (first
     | ((refine ⟨sd,?_⟩)<;>(try simp only [go_sem,seval]))
     | fail)
    have dv7:=drawn_le dv hs5
    have hve:=V.enc_eq v
    have wj:IntKind.i64.wrap ((j:Int)+1)=((j+1:Nat):Int):=by rw [wrap_ok (by omega) (by omega)];omega
    refine rS_ Tryz.func64 ?_
    simp only [go_sem,seval,wj,hve]
    all_goals refine hny (j+1) (q2+1) (ts++[v]) i8 h8 _ ⟨by rw [List.length_append,←p1];rfl,by dsimp only;omega,fun w hw=>by
     rcases List.mem_append.1 hw with hw | hw
     ·exact p3 w hw
     ·simp at hw;subst hw;exact dv7,e3,e4⟩ (by dsimp only;omega) (by refine ⟨by simp [mkS,cuO_eq,hve],by simp [mkS,cuO_eq,hve],by simp only [mkS,List.all_cons,List.all_nil,O.refsLt,C.refsLt,C.refsLt1,all_dmap];first | done | rfl | (simp;done),?_⟩;simp [mkS,Abs.get,C.refsLtT,C.refsLt,C.refsLt1])
   ·have hje:(j:Int)=x.arity:=by omega
    obtain ⟨hX1,hX2,hX3⟩:=Gl.drA_call (S:=sgL rels) (n:=n) (mode:=mode) n1 p3 (by omega) (by
     rw [show ((ts.length:Nat):Int)=x.arity by omega];exact List.mem_map.2 ⟨x,hxm,rfl⟩)
    have hXe:(Gl.mk 9 x.name (ts.map V.tm) []).enc=[.int .i64 9,.str x.name,.sl (ts.map V.enc),.sl []]:=by rw [Gl.enc_eq];simp only [Gl.kind,Gl.name,Gl.terms,Gl.goals,enc_tms,List.map_nil]
    have hNe:(Gl.mk 10 [] [] [Gl.mk 9 x.name (ts.map V.tm) []]).enc=[.int .i64 10,.str [],.sl [],.sl [[.int .i64 9,.str x.name,.sl (ts.map V.enc),.sl []]]]:=by rw [Gl.enc_eq];simp only [Gl.kind,Gl.name,Gl.terms,Gl.goals,List.map_cons,List.map_nil,hXe]
    have hmk:=l13Make_fn 10 [] [Gl.mk 9 x.name (ts.map V.tm) []]
    simp only [List.map_cons,List.map_nil,hXe,hNe] at hmk
    by_cases hm2:mode=2
    ·subst hm2
     have hNA:=Gl.drA_not hX1 rfl hX2 hX3
     have ho:=l01Once_R B hB 3 i6 h6 p4 p5
     refine rS_ Tryz.func64 ?_
     simp only [go_sem,seval,hja]
     repeat' (first
      | ((first
       | (refine (ACalls.emb ho [0] rfl rfl rfl (by decide) rfl ?_)<;>(rintro c H' ⟨b,i7,h7,rfl,rfl,d3,d4⟩ _;cases b<;>refine ⟨rfl,rfl,?_⟩))
       | (refine hmk.calls rfl ?_)
       | (refine ⟨sd,?_⟩))<;>(try simp only [go_sem,seval,hja,wk1]))
      | fail)
     ·refine hnx k (q1+1) (gs++[Gl.mk 9 x.name (ts.map V.tm) []]) i7 h7 _ ⟨by rw [List.length_append];dsimp only [List.length_cons,List.length_nil];omega,fun w hw=>by
       rcases List.mem_append.1 hw with hw | hw
       ·exact j2 w hw
       ·simp at hw;subst hw;exact hX1,d3,d4⟩ (by dsimp only;omega) (by refine ⟨by simp [mkS,cuO_eq,hXe],by simp [mkS,cuO_eq,hXe],by simp only [mkS,List.all_cons,List.all_nil,O.refsLt,C.refsLt,C.refsLt1,all_dmap];first | done | rfl | (simp;done),?_⟩;simp [mkS,Abs.get,C.refsLtT,C.refsLt,C.refsLt1])
     ·refine hnx k (q1+1) (gs++[Gl.mk 10 [] [] [Gl.mk 9 x.name (ts.map V.tm) []]]) i7 h7 _ ⟨by rw [List.length_append];dsimp only [List.length_cons,List.length_nil];omega,fun w hw=>by
       rcases List.mem_append.1 hw with hw | hw
       ·exact j2 w hw
       ·simp at hw;subst hw;exact hNA,d3,d4⟩ (by dsimp only;omega) (by refine ⟨by simp [mkS,cuO_eq,hNe],by simp [mkS,cuO_eq,hNe],by simp only [mkS,List.all_cons,List.all_nil,O.refsLt,C.refsLt,C.refsLt1,all_dmap];first | done | rfl | (simp;done),?_⟩;simp [mkS,Abs.get,C.refsLtT,C.refsLt,C.refsLt1])
    ·refine rS_ Tryz.func64 ?_
     simp only [go_sem,seval,hja,hm2]
     repeat' (first
      | (simp (disch:=omega) only [wrap_ok])
      | ((refine ⟨sd,?_⟩)<;>(try simp only [go_sem,seval,hja,hm2,wk1]))
      | fail)
     all_goals refine hnx k (q1+1) (gs++[Gl.mk 9 x.name (ts.map V.tm) []]) i6 h6 _ ⟨by rw [List.length_append];dsimp only [List.length_cons,List.length_nil];omega,fun w hw=>by
       rcases List.mem_append.1 hw with hw | hw
       ·exact j2 w hw
       ·simp at hw;subst hw;exact hX1,p4,p5⟩ (by dsimp only;omega) (by refine ⟨by simp [mkS,cuO_eq,hXe],by simp [mkS,cuO_eq,hXe],by simp only [mkS,List.all_cons,List.all_nil,O.refsLt,C.refsLt,C.refsLt1,all_dmap];first | done | rfl | (simp;done),?_⟩;simp [mkS,Abs.get,C.refsLtT,C.refsLt,C.refsLt1])
 ·obtain ⟨k,rfl⟩:∃k',k=k'+1:=⟨k - 1,by omega⟩
  have m1:(0:Int)<((k+1:Nat):Int):=by omega
  have m1':(0:Int)<(k:Int)+1:=by omega
  have wk1:IntKind.i64.wrap ((k:Int)+1 - 1)=(k:Int):=by rw [wrap_ok (by omega) (by omega)];omega
  have hsm:=l13Simple_R B hB n hn (decide (mode=0)) i3 h3 j3 j4
  refine run_sound Tryz.func64 mixed 7 _ _ (by kernel_rfl) ?_
  simp only [go_sem,seval,run.eq_1,m1,m1']
  refine AW.drawA mixed #[true,true,true,true,true,true,true,true,true,true,false] [(3,.box [.d (.int .i64 7),.d (.str []),.nil0,.own 4 q1])] [] [0,1,2,3,4,5,6,7,8,9] [10] none (by kernel_rfl) trivial (by simp [holdsB]) ?_
  simp only [go_sem,seval]
  repeat' (first
   | ((first
    | (refine (ACalls.emb hsm [0] rfl rfl rfl (by decide) rfl ?_)<;>(rintro c H' ⟨g,i4,h4,rfl,rfl,dg,c3,c4⟩ _;refine ⟨rfl,rfl,?_⟩))
    | (refine ⟨sd,?_⟩))<;>(try simp only [go_sem,seval]))
   | fail)
  have hge:=Gl.enc_eq g
  refine rS_ Tryz.func64 ?_
  simp only [go_sem,seval,m1,m1',wk1,hge]
  all_goals refine hnx k (q1+1) (gs++[g]) i4 h4 _ ⟨by rw [List.length_append];dsimp only [List.length_cons,List.length_nil];omega,fun y hy=>by
   rcases List.mem_append.1 hy with hy | hy
   ·exact j2 y hy
   ·simp at hy;subst hy;exact dg _ _,c3,c4⟩ (by dsimp only;omega) (by refine ⟨by simp [mkS,cuO_eq,hge],by simp [mkS,cuO_eq,hge],by simp only [mkS,List.all_cons,List.all_nil,O.refsLt,C.refsLt,C.refsLt1,all_dmap];first | done | rfl | (simp;done),?_⟩;simp [mkS,Abs.get,C.refsLtT,C.refsLt,C.refsLt1])
end Go.Proofs.YtlajhmoomlgopaaGreat

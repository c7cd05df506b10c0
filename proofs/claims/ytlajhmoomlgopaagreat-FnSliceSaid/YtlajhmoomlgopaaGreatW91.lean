import Derived.Test.YtlajhmoomlgopaaGreatFx
import Derived.Test.YtlajhmoomlgopaaGreatA9
import Derived.Test.YtlajhmoomlgopaaGreatP11
open List renaming getElem?_eq_getElem→a_
namespace Go.Proofs.YtlajhmoomlgopaaGreat
open Go.Abs
set_option maxRecDepth 100000
set_option maxHeartbeats 4000000
set_option linter.unusedSimpArgs false
set_option linter.unusedVariables false
def cuD (B:List UInt8) (i h:Int):List D:=[.sl (bytesD B),.int .i64 i,.int .i64 h]
def cuO (B:List UInt8) (i h:Int):O:=.box [.d (.sl (bytesD B)),.d (.int .i64 i),.d (.int .i64 h)]
theorem cuO_eq (B:List UInt8) (i h:Int):cuO B i h=.box [.d (.sl (bytesD B)),.d (.int .i64 i),.d (.int .i64 h)]:=rfl
@[go_sem ↓ 10000] theorem cuO_refs (B:List UInt8) (i h:Int) (m:Nat):(cuO B i h).refsLt m=true:=rfl
theorem bytesD_at (B:List UInt8) (i:Nat):(bytesD B)[i]? = (B[i]?).map fun b=>[.int .u8 (b.toNat:Int)]:=by simp [bytesD]
def cuR (B:List UInt8) (Q:Int→Prop) (c:C) (H:List O):Prop:=∃x i' h',c=.d (.int .i64 x)∧H=[cuO B i' h']∧Q x∧0≤i'∧i'≤B.length
theorem l01Byte_R (B:List UInt8) (i h:Int) (hB:B.length≤1048576) (h0:0≤i) (h1:i≤B.length):ACalls Tryz.prog 58 [.ptr 0 0] [cuO B i h] (cuR B fun x=>0≤x∧x≤255):=by
 rw [cuO_eq]
 by_cases hi:i<B.length
 ·obtain ⟨b,hb⟩:∃b,B[i.toNat]? = some b:=⟨_,a_ (by omega)⟩
  have hbd:(bytesD B)[i.toNat]? = some [.int .u8 (b.toNat:Int)]:=by rw [bytesD_at,hb];rfl
  have hb2:b.toNat<256:=b.toNat_lt
  have hbw:IntKind.i64.wrap (b.toNat:Int)=(b.toNat:Int):=j6 (by omega) (by omega)
  refine aE_ Tryz.func58 ?_
  refine rS_ Tryz.func58 ?_
  simp only [go_sem,seval,hi,bytesD_len,j5 hbd,hbw]
  repeat' (first
   | (exact ⟨_,_,_,rfl,rfl,and255 _,by omega,by omega⟩)
   | (simp (disch:=omega) only [j6])
   | ((refine ⟨sd,?_⟩)<;>(try simp only [go_sem,seval,hi,bytesD_len,j5 hbd,hbw]))
   | fail)
 ·refine aE_ Tryz.func58 ?_
  refine rS_ Tryz.func58 ?_
  simp only [go_sem,seval,hi,bytesD_len]
  repeat' (first
   | (exact ⟨_,_,_,rfl,rfl,and255 _,by omega,by omega⟩)
   | fail)
theorem l01Below_R (B:List UInt8) (i h:Int) (hB:B.length≤1048576) (h0:0≤i) (h1:i≤B.length) (n:Int):ACalls Tryz.prog 33 [.ptr 0 0,.d (.int .i64 n)] [cuO B i h] (cuR B fun x=>0≤x∧(x<n∨x=0)):=by
 have hb:=l01Byte_R B i h hB h0 h1
 by_cases hn:n≤0
 ·refine aE_ Tryz.func33 ?_
  refine rS_ Tryz.func33 ?_
  simp only [go_sem,seval,hn]
  repeat' (first
   | (exact ⟨_,_,_,rfl,rfl,⟨by omega,by omega⟩,h0,h1⟩)
   | fail)
 ·have hn0:n≠0:=by omega
  refine aE_ Tryz.func33 ?_
  refine rS_ Tryz.func33 ?_
  simp only [go_sem,seval,hn,hn0]
  repeat' (first
   | (exact ⟨_,_,_,rfl,rfl,⟨(below_mod b1 (by omega)).1,.inl (below_mod b1 (by omega)).2⟩,b3,b4⟩)
   | ((refine (ACalls.emb hb [0] rfl rfl rfl (by decide) rfl ?_)<;>(rintro c H' ⟨x,i2,h2,rfl,rfl,⟨b1,b2⟩,b3,b4⟩ _;refine ⟨rfl,rfl,?_⟩))<;>(try simp only [go_sem,seval,hn,hn0]))
   | fail)
theorem l01New_T (B:List UInt8) (hB:B.length≤1048576):ACalls Tryz.prog 57 [.d (.sl (bytesD B))] [.hole] (fun c H'=>c=.own 0 1∧∃h,H'=[.pb (cuD B 0 h)]):=by
 refine aE_ Tryz.func57 ?_
 refine rS_ Tryz.func57 ?_
 simp only [go_sem,seval,bytesD_len]
 repeat' (first
  | (simp (disch:=omega) only [j6])
  | fail)
 refine AW.lp [0] (fun p:Nat×Int=>[(4,.d (.int .i64 (p.1:Int))),(3,.d (.int .i64 p.2))]) (fun H _=>H) (fun p=>p.1≤B.length) (fun p=>B.length - p.1) (0,90411+(B.length:Int)) (Nat.zero_le _) wk3_ ?_
 rintro ⟨j,h⟩ hj hnext
 dsimp only at hj hnext ⊢
 by_cases hc:j<B.length∧j<4000
 ·obtain ⟨b,hb⟩:∃b,B[j]? = some b:=⟨_,a_ hc.1⟩
  have hbd:(bytesD B)[j]? = some [.int .u8 (b.toNat:Int)]:=by rw [bytesD_at,hb];rfl
  have hb2:b.toNat<256:=b.toNat_lt
  have hbw:IntKind.i64.wrap (b.toNat:Int)=(b.toNat:Int):=j6 (by omega) (by omega)
  have n1:(j:Int)<(B.length:Int):=by omega
  have n2:(j:Int)<4000:=by omega
  refine rS_ Tryz.func57 ?_
  simp only [go_sem,seval,bytesD_len,n1,n2,j5 hbd,hbw]
  repeat' (first
   | (simp (disch:=omega) only [j6])
   | fail)
  refine hnext (j+1,andI .i64 (IntKind.i64.wrap (IntKind.i64.wrap (IntKind.i64.wrap (h * 131)+(b.toNat:Int))+7)) 1073741823) _ (by dsimp only;omega) (by dsimp only;omega) wk3_
 ·have n3:¬((j:Int)<(B.length:Int))∨((j:Int)<(B.length:Int)∧¬(j:Int)<4000):=by omega
  rcases n3 with n3 | ⟨n3,n4⟩
  ·refine run_sound Tryz.func57 mixed 7 _ _ (by kernel_rfl) ?_
   simp only [go_sem,seval,run.eq_1,bytesD_len,n3]
   refine AW.placeBox 2 1 0 (cs:=cuD B 0 h) rfl rfl rfl (by decide) ?_
   refine rS_ Tryz.func57 ?_
   simp only [go_sem,seval]
   exact ⟨_,rfl⟩
  ·refine run_sound Tryz.func57 mixed 7 _ _ (by kernel_rfl) ?_
   simp only [go_sem,seval,run.eq_1,bytesD_len,n3,n4]
   refine AW.placeBox 2 1 0 (cs:=cuD B 0 h) rfl rfl rfl (by decide) ?_
   refine rS_ Tryz.func57 ?_
   simp only [go_sem,seval]
   exact ⟨_,rfl⟩
theorem l43New_T (B:List UInt8) (hB:B.length≤1048576) (n:Nat) (hn:n≤100000):ACalls Tryz.prog 24 [.d (.sl (bytesD B)),.d (.int .i64 n)] [.hole] (fun c H'=>c=.own 0 1∧∃i h,H'=[.pb (cuD B i h)]∧0≤i∧i≤B.length):=by
 have hw:=l01New_T B hB
 refine aE_ Tryz.func24 ?_
 refine AW.hole ?_
 refine run_sound Tryz.func24 mixed 4 _ _ (by kernel_rfl) ?_
 simp only [go_sem,seval,run.eq_1]
 repeat' (first
  | ((refine (ACalls.emb hw [1] rfl rfl rfl (by decide) rfl ?_)<;>(rintro c H' ⟨rfl,h,rfl⟩ _;refine ⟨rfl,rfl,?_⟩))<;>(try simp only [go_sem,seval,run.eq_1]))
  | fail)
 refine AW.unbox 5 1 (cs:=cuD B 0 h) rfl rfl ?_
 refine rS_ Tryz.func24 ?_
 simp only [go_sem,seval]
 refine AW.lp [1,5] (fun p:Nat×Int×Int=>[(6,.d (.int .i64 (p.1:Int)))]) (fun _ p=>[.hole,.dead,cuO B p.2.1 p.2.2]) (fun p=>p.1≤n∧0≤p.2.1∧p.2.1≤B.length) (fun p=>n - p.1) (0,0,h) ⟨Nat.zero_le _,by simp,by simp⟩ (by refine ⟨by simp [mkS,cuO_eq,cuD],by simp [mkS,cuO_eq,cuD],by simp only [mkS,List.all_cons,List.all_nil,O.refsLt,C.refsLt,C.refsLt1,all_dmap];first | done | rfl | (simp;done),?_⟩;simp [mkS,Abs.get,C.refsLtT,C.refsLt,C.refsLt1]) ?_
 rintro ⟨j,i,h⟩ ⟨hj,hi0,hi1⟩ hnext
 dsimp only at hj hi0 hi1 hnext ⊢
 by_cases hc:j<n
 ·have n1:(j:Int)<(n:Int):=by omega
  have hb:=l01Byte_R B i h hB hi0 hi1
  refine rS_ Tryz.func24 ?_
  simp only [go_sem,seval,n1]
  repeat' (first
   | (simp (disch:=omega) only [j6])
   | ((refine (ACalls.emb hb [2] rfl rfl rfl (by decide) rfl ?_)<;>(rintro c H' ⟨x,i2,h2,rfl,rfl,⟨b1,b2⟩,b3,b4⟩ _;refine ⟨rfl,rfl,?_⟩))<;>(try simp only [go_sem,seval,n1]))
   | fail)
  refine hnext (j+1,i2,h2) _ ⟨by dsimp only;omega,b3,b4⟩ (by dsimp only;omega) (by refine ⟨by simp [mkS,cuO_eq],by simp [mkS,cuO_eq],by simp only [mkS,List.all_cons,List.all_nil,O.refsLt,C.refsLt,C.refsLt1,all_dmap];first | done | rfl | (simp;done),?_⟩;simp [mkS,Abs.get,C.refsLtT,C.refsLt,C.refsLt1])
 ·have n1:¬(j:Int)<(n:Int):=by omega
  refine run_sound Tryz.func24 mixed 7 _ _ (by kernel_rfl) ?_
  simp only [go_sem,seval,run.eq_1,n1]
  refine AW.placeBox 4 2 0 (cs:=cuD B i h) rfl rfl rfl (by decide) ?_
  refine rS_ Tryz.func24 ?_
  simp only [go_sem,seval]
  exact ⟨_,_,rfl,hi0,hi1⟩
def cuV (B:List UInt8) (Q:V→Prop) (c:C) (H:List O):Prop:=∃v i' h',c=.d (.agg (V.enc v))∧H=[cuO B i' h']∧Q v∧0≤i'∧i'≤B.length
theorem l02NumV_fn (n:Int):Gives Tryz.prog 147 [.int .i64 n] (.d (.agg (V.num n).enc)):=by
 rw [V.enc_num]
 refine aE_ Tryz.func147 ?_
 refine rS_ Tryz.func147 ?_
 simp only [go_sem,seval]
theorem l02VarV_fn (n:Int):Gives Tryz.prog 51 [.int .i64 n] (.d (.agg (V.var n).enc)):=by
 rw [V.enc_var]
 refine aE_ Tryz.func51 ?_
 refine rS_ Tryz.func51 ?_
 simp only [go_sem,seval]
theorem l02SymV_fn (s:List UInt8):Gives Tryz.prog 145 [.str s] (.d (.agg (V.sym s).enc)):=by
 rw [V.enc_sym]
 refine aE_ Tryz.func145 ?_
 refine rS_ Tryz.func145 ?_
 simp only [go_sem,seval]
theorem l02PairV_fn (a b:V):Gives Tryz.prog 112 [.agg a.enc,.agg b.enc] (.d (.agg (V.pair a b).enc)):=by
 rw [V.enc_pair]
 refine aE_ Tryz.func112 ?_
 refine rS_ Tryz.func112 ?_
 simp only [go_sem,seval]
theorem l02Atom_R (B:List UInt8) (i h:Int) (hB:B.length≤1048576) (h0:0≤i) (h1:i≤B.length) (vs:Int):ACalls Tryz.prog 113 [.ptr 0 0] [cuO B i h] (cuV B (drawn 1 vs)):=by
 have hb:=l01Below_R B i h hB h0 h1 7
 refine aE_ Tryz.func113 ?_
 refine rS_ Tryz.func113 ?_
 simp only [go_sem,seval]
 repeat' (first
  | (simp (disch:=omega) only [j6])
  | ((first
   | (refine (ACalls.emb hb [0] rfl rfl rfl (by decide) rfl ?_)<;>(rintro c H' ⟨x,i2,h2,rfl,rfl,⟨b1,b2⟩,b3,b4⟩ _;rcases (show x=0∨x=1∨x=2∨x=3∨x=4∨x=5∨x=6 by omega) with rfl | rfl | rfl | rfl | rfl | rfl | rfl<;>refine ⟨rfl,rfl,?_⟩))
   | (refine (l02SymV_fn _).calls rfl ?_)
   | (refine (l02NumV_fn _).calls rfl ?_)
   | (refine ⟨sd,?_⟩))<;>(try simp only [go_sem,seval]))
  | fail)
 all_goals first
  | exact ⟨.num 0,_,_,rfl,rfl,drawn_num (by decide) (by decide) (by decide),b3,b4⟩
  | exact ⟨.num 1,_,_,rfl,rfl,drawn_num (by decide) (by decide) (by decide),b3,b4⟩
  | exact ⟨.sym [97],_,_,rfl,rfl,⟨by decide,by decide,rfl⟩,b3,b4⟩
  | exact ⟨.sym [98],_,_,rfl,rfl,⟨by decide,by decide,rfl⟩,b3,b4⟩
  | exact ⟨.sym [99],_,_,rfl,rfl,⟨by decide,by decide,rfl⟩,b3,b4⟩
  | exact ⟨.nil,_,_,rfl,rfl,drawn_nil (by decide),b3,b4⟩
theorem l02Draw_R (B:List UInt8) (hB:B.length≤1048576) (vs:Int) (hvs:vs≤100):∀(s:Nat) (i h:Int),s≤1000→0≤i→i≤B.length→ACalls Tryz.prog 66 [.ptr 0 0,.d (.int .i64 s),.d (.int .i64 vs)] [cuO B i h] (cuV B (drawn (drawS s) vs)):=by
 intro s
 induction s using Nat.strongRecOn with
 | ind s ih =>
  intro i h hs h0 h1
  have hb:=l01Below_R B i h hB h0 h1 8
  have hat:=fun i h a b=>l02Atom_R B i h hB a b vs
  have hbv:=fun i h a b=>l01Below_R B i h hB a b vs
  have hqs:IntKind.i64.wrap ((s:Int).tdiv 2)=((s / 2:Nat):Int):=by rw [Int.tdiv_eq_ediv_of_nonneg (by omega),j6 (by omega) (by omega)];omega
  refine aE_ Tryz.func66 ?_
  refine run_sound Tryz.func66 mixed 4 _ _ (by kernel_rfl) ?_
  simp only [go_sem,seval,run.eq_1]
  repeat' (first
   | ((refine (ACalls.emb hb [0] rfl rfl rfl (by decide) rfl ?_)<;>(rintro c H' ⟨x,i2,h2,rfl,rfl,⟨b1,b2⟩,b3,b4⟩ _;refine ⟨rfl,rfl,?_⟩))<;>(try simp only [go_sem,seval,run.eq_1]))
   | fail)
  by_cases g:2<s∧3≤x
  ·obtain ⟨g1,g2⟩:=g
   have n1:(2:Int)<(s:Int):=by omega
   have hr:=fun i h a b=>ih (s / 2) (by omega) i h (by omega) a b
   refine run_sound Tryz.func66 mixed 7 _ _ (by kernel_rfl) ?_
   simp only [go_sem,seval,run.eq_1,n1,g2,hqs]
   repeat' (first
    | ((refine (ACalls.emb (hr i2 h2 b3 b4) [0] rfl rfl rfl (by decide) rfl ?_)<;>(rintro c H' ⟨v,i3,h3,rfl,rfl,k1,k2,k3⟩ _;refine ⟨rfl,rfl,?_⟩))<;>(try simp only [go_sem,seval,n1,g2,hqs,run.eq_1]))
    | fail)
   refine AW.drawA mixed #[true,true,true,true,true,true,true,false] [(2,.box (v.enc.map .d))] [] [0,1,2,3,4,5,6] [7] none (by kernel_rfl) trivial (by simp [holdsB]) ?_
   simp only [go_sem,seval,hqs]
   repeat' (first
    | ((first
     | (refine (ACalls.emb (hr i3 h3 k2 k3) [0] rfl rfl rfl (by decide) rfl ?_)<;>(rintro c H' ⟨u,i4,h4,rfl,rfl,m1,m2,m3⟩ _;refine ⟨rfl,rfl,?_⟩))
     | (refine (l02PairV_fn _ _).calls rfl ?_))<;>(try simp only [go_sem,seval,hqs]))
    | fail)
   refine rS_ Tryz.func66 ?_
   simp only [go_sem,seval]
   repeat' (first
    | (exact ⟨_,_,_,rfl,rfl,drawn_pair k1 m1 (drawS_half g1),m2,m3⟩)
    | fail)
  ·have hbv:=l01Below_R B i2 h2 hB b3 b4 vs
   have hat:=l02Atom_R B i2 h2 hB b3 b4 vs
   have hdp:=drawS_pos s
   rcases (show ¬(2:Int)<(s:Int)∨((2:Int)<(s:Int)∧¬3≤x) by omega) with n1 | ⟨n1,n2⟩
   ·refine rS_ Tryz.func66 ?_
    simp only [go_sem,seval,n1]
    repeat' (first
     | (exact ⟨_,_,_,rfl,rfl,drawn_le k1 hdp,k2,k3⟩)
     | (exact ⟨_,_,_,rfl,rfl,drawn_var c1 (by omega) hvs hdp,c3,c4⟩)
     | ((refine br_n (fun hq=>?_) (fun hq=>?_))<;>(try simp only [go_sem,seval,hq]))
     | ((first
      | (refine (ACalls.emb hbv [0] rfl rfl rfl (by decide) rfl ?_)<;>(rintro c H' ⟨y,i3,h3,rfl,rfl,⟨c1,c2⟩,c3,c4⟩ _;refine ⟨rfl,rfl,?_⟩))
      | (refine (ACalls.emb hat [0] rfl rfl rfl (by decide) rfl ?_)<;>(rintro c H' ⟨v,i3,h3,rfl,rfl,k1,k2,k3⟩ _;refine ⟨rfl,rfl,?_⟩))
      | (refine (l02VarV_fn _).calls rfl ?_))<;>(try simp only [go_sem,seval]))
     | fail)
   ·refine rS_ Tryz.func66 ?_
    simp only [go_sem,seval,n1,n2]
    repeat' (first
     | (exact ⟨_,_,_,rfl,rfl,drawn_le k1 hdp,k2,k3⟩)
     | (exact ⟨_,_,_,rfl,rfl,drawn_var c1 (by omega) hvs hdp,c3,c4⟩)
     | ((refine br_n (fun hq=>?_) (fun hq=>?_))<;>(try simp only [go_sem,seval,hq]))
     | ((first
      | (refine (ACalls.emb hbv [0] rfl rfl rfl (by decide) rfl ?_)<;>(rintro c H' ⟨y,i3,h3,rfl,rfl,⟨c1,c2⟩,c3,c4⟩ _;refine ⟨rfl,rfl,?_⟩))
      | (refine (ACalls.emb hat [0] rfl rfl rfl (by decide) rfl ?_)<;>(rintro c H' ⟨v,i3,h3,rfl,rfl,k1,k2,k3⟩ _;refine ⟨rfl,rfl,?_⟩))
      | (refine (l02VarV_fn _).calls rfl ?_))<;>(try simp only [go_sem,seval]))
     | fail)
end Go.Proofs.YtlajhmoomlgopaaGreat

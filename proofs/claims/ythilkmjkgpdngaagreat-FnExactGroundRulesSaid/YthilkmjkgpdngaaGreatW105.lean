import Derived.Test.YthilkmjkgpdngaaGreatFx
import Derived.Test.YthilkmjkgpdngaaGreatA10
import Derived.Test.YthilkmjkgpdngaaGreatW4
import Derived.Test.YthilkmjkgpdngaaGreatP12
import Derived.Test.YthilkmjkgpdngaaGreatShelf
import Derived.Test.YthilkmjkgpdngaaGreatW6
import Derived.Test.YthilkmjkgpdngaaGreatW9
import Derived.Test.YthilkmjkgpdngaaGreatW41
open List renaming length_cons→a_,mem_of_getElem?→b_
open Nat renaming lt_irrefl→c_
namespace Go.Proofs.YthilkmjkgpdngaaGreat
open Go.Abs
set_option maxRecDepth 100000
set_option maxHeartbeats 4000000
set_option linter.unusedSimpArgs false
set_option linter.unusedVariables false
section
variable {α:Type} {g sf:FuncId} {cs ds:List C} {n m:Nat} {Hs:(Nat→α)→List O} {lt:α→α→Bool}
end
set_option maxHeartbeats 8000000
section
variable {α:Type} {g sf:FuncId} {cs ds:List C} {n:Nat} {lt:α→α→Bool}
end
section
variable {α:Type} {g sf:FuncId} {cs ds:List C} {n m:Nat} {Hs:(Nat→α)→List O} {lt:α→α→Bool}
end
set_option maxHeartbeats 4000000
def fcE (f:FcV):List D:=f.fc.enc
@[go_sem] theorem fcE_len (f:FcV):(fcE f).length=2:=Fc.enc_len _
theorem fcE_eq (f:FcV):fcE f=[.str f.1,.sl (f.2.map V.enc)]:=by unfold fcE;rw [Fc.enc_eq];simp only [FcV.fc,enc_tms]
theorem uniL_inv {s r:List Tm} {x:Tm} {i:Nat} (hdr:s.drop i=x :: r):i=s.length - (r.length+1)∧r.length+1≤s.length∧i<s.length:=by
 have:=congrArg List.length hdr
 simp only [List.length_drop,a_] at this
 omega
theorem iUniverseOk_fn (s:List Tm) (hw:∀t,t∈s→wtL t.enc≤1048576) (hl:s.length≤9000000):Gives Tryz.prog 31 [.sl (s.map Tm.enc)] (.d (.bool (uniOk s))):=by
 have hmap:(s.map Tm.enc).length=s.length:=List.length_map _
 by_cases h1:1≤s.length
 ·have n1:¬(s.length:Int)<1:=by omega
  by_cases h2:s.length≤8
  ·have n2:¬(8:Int)<(s.length:Int):=by omega
   have hu:uniOk s=uniL none s:=by unfold uniOk;simp [h1,h2]
   rw [hu]
   refine aE_ Tryz.func31 ?_
   refine rS_ Tryz.func31 ?_
   simp only [go_sem,seval,hmap,n1,n2]
   refine AW.rng s [0,13,14] 15 13 (fun _:Option V=>[]) (fun H _=>H) (fun r p=>uniL p r=uniL none s∧(r.length=s.length→p=none)∧(r.length<s.length→∃y:Tm,s[s.length - r.length - 1]? = some y∧p=some y.V∧tmOk y=true)) none rfl (by simp) ⟨rfl,fun _=>rfl,fun h=>absurd h (c_ _)⟩ wk2_ (fun i x r p hxi hdr hlt hm hinv hnext=>?_) (fun p hinv=>?_)
   ·obtain ⟨i1,i2,i3⟩:=hinv
    obtain ⟨hi1,hi2,hi3⟩:=uniL_inv hdr
    have hto:Gives Tryz.prog 65 [.agg x.enc] (.d (.bool x.ground)):=iIsGround_fn x (hw x (b_ hxi))
    have ho:=hto
    simp only [a_,uniL] at i1 i2 i3
    cases hg:x.ground with
    | false =>
     rw [hg] at hto ho
     have c3:True:=trivial
     have hf:uniL none s=false:=by rw [←i1];simp [hg]
     rw [hf]
     refine rS_ Tryz.func31 ?_
     simp only [go_sem,seval,hlt,idx_of hxi,hmap]
     repeat' (first
      | ((refine hto.callQ rfl ?_)<;>(try simp only [go_sem,seval,hlt,idx_of hxi,hmap]))
      | fail)
     all_goals first | (exfalso;omega) | (exfalso;exact absurd (by assumption) c3) | rfl
    | true =>
     rw [hg] at hto
     clear ho
     have hxV:=Tm.enc_V (ground_ok hg)
     by_cases hi0:i=0
     ·obtain rfl:=i2 (by omega)
      have n0:¬(0:Int)<(i:Int):=by omega
      have ho:=hto
      refine rS_ Tryz.func31 ?_
      simp only [go_sem,seval,hlt,idx_of hxi,n0]
      repeat' (first
       | (simp (disch:=omega) only [wrap_ok])
       | (refine hnext (some x.V) _ ⟨by rw [←i1];simp [hi0,hg],fun h=>by omega,fun _=>⟨x,by rw [show s.length - r.length - 1=i by omega];exact hxi,rfl,ground_ok hg⟩⟩ wk2_)
       | ((refine hto.callQ rfl ?_)<;>(try simp only [go_sem,seval,hlt,idx_of hxi,n0]))
       | fail)
      all_goals (exfalso;omega)
     ·obtain ⟨y,hy,rfl,hyo⟩:=i3 (by omega)
      have n0:(0:Int)<(i:Int):=by omega
      have hw1:IntKind.i64.wrap ((i:Int) - 1)=((i - 1:Nat):Int):=by rw [wrap_ok (by omega) (by omega)];omega
      have n2:((i - 1:Nat):Int)<(s.length:Int):=by omega
      have hyi:s[i - 1]? = some y:=by rw [←hy];congr 1;omega
      have ho:Gives Tryz.prog 66 [.agg y.enc,.agg x.enc] (.d (.int .i64 (y.V.cmp x.V))):=by
       rw [Tm.enc_V hyo,hxV]
       exact orderTerms_fn _ _ _ (Nat.le_refl _)
      by_cases c3:y.V.cmp x.V<0
      ·have c4:¬0≤y.V.cmp x.V:=by omega
       refine rS_ Tryz.func31 ?_
       simp only [go_sem,seval,hlt,idx_of hxi,n0,hw1,n2,idx_of hyi,hmap,c3,c4]
       repeat' (first
        | (simp (disch:=omega) only [wrap_ok])
        | (refine hnext (some x.V) _ ⟨by rw [←i1];simp [c3,hg],fun h=>by omega,fun _=>⟨x,by rw [show s.length - r.length - 1=i by omega];exact hxi,rfl,ground_ok hg⟩⟩ wk2_)
        | ((first
         | (refine hto.callQ rfl ?_)
         | (refine ho.callQ rfl ?_))<;>(try simp only [go_sem,seval,hlt,idx_of hxi,n0,hw1,n2,idx_of hyi,hmap,c3,c4]))
        | fail)
       all_goals (exfalso;omega)
      ·have c4:0≤y.V.cmp x.V:=by omega
       have hf:uniL none s=false:=by rw [←i1];simp [c3]
       rw [hf]
       refine rS_ Tryz.func31 ?_
       simp only [go_sem,seval,hlt,idx_of hxi,n0,hw1,n2,idx_of hyi,hmap,c4]
       repeat' (first
        | ((first
         | (refine hto.callQ rfl ?_)
         | (refine ho.callQ rfl ?_))<;>(try simp only [go_sem,seval,hlt,idx_of hxi,n0,hw1,n2,idx_of hyi,hmap,c4]))
        | fail)
       all_goals first | (exfalso;omega) | (exfalso;exact absurd (by assumption) c3) | rfl
   rw [←hinv.1]
   refine rS_ Tryz.func31 ?_
   simp only [go_sem,seval]
   all_goals rfl
  ·have n2:(8:Int)<(s.length:Int):=by omega
   have hu:uniOk s=false:=by unfold uniOk;simp [h2]
   rw [hu]
   refine aE_ Tryz.func31 ?_
   refine rS_ Tryz.func31 ?_
   simp only [go_sem,seval,hmap,n1,n2]
 ·have n1:(s.length:Int)<1:=by omega
  have hu:uniOk s=false:=by unfold uniOk;simp [h1]
  rw [hu]
  refine aE_ Tryz.func31 ?_
  refine rS_ Tryz.func31 ?_
  simp only [go_sem,seval,hmap,n1]
theorem sUniverseOk_fn (s:List Tm) (hw:∀t,t∈s→wtL t.enc≤1048576) (hl:s.length≤9000000):Gives Tryz.prog 20 [.sl (s.map Tm.enc)] (.d (.bool (uniOk s))):=by
 have hmap:(s.map Tm.enc).length=s.length:=List.length_map _
 cases hun:uniL none s with
 | false =>
  have hu:uniOk s=uniL none s:=by unfold uniOk;rw [hun];simp
  rw [hu]
  refine aE_ Tryz.func20 ?_
  refine rS_ Tryz.func20 ?_
  simp only [go_sem,seval,hmap]
  refine AW.rng s [0,5,6] 7 5 (fun _:Option V=>[]) (fun H _=>H) (fun r p=>uniL p r=uniL none s∧(r.length=s.length→p=none)∧(r.length<s.length→∃y:Tm,s[s.length - r.length - 1]? = some y∧p=some y.V∧tmOk y=true)) none rfl (by simp) ⟨rfl,fun _=>rfl,fun h=>absurd h (c_ _)⟩ wk2_ (fun i x r p hxi hdr hlt hm hinv hnext=>?_) (fun p hinv=>?_)
  ·obtain ⟨i1,i2,i3⟩:=hinv
   obtain ⟨hi1,hi2,hi3⟩:=uniL_inv hdr
   have hto:Gives Tryz.prog 50 [.agg x.enc] (.d (.bool x.ground)):=sIsGround_fn x (hw x (b_ hxi))
   have ho:=hto
   simp only [a_,uniL] at i1 i2 i3
   cases hg:x.ground with
   | false =>
    rw [hg] at hto ho
    have c3:True:=trivial
    have hf:uniL none s=false:=by rw [←i1];simp [hg]
    rw [hf]
    refine rS_ Tryz.func20 ?_
    simp only [go_sem,seval,hlt,idx_of hxi,hmap]
    repeat' (first
     | ((refine hto.callQ rfl ?_)<;>(try simp only [go_sem,seval,hlt,idx_of hxi,hmap]))
     | fail)
    all_goals first | (exfalso;omega) | (exfalso;exact absurd (by assumption) c3) | rfl
   | true =>
    rw [hg] at hto
    clear ho
    have hxV:=Tm.enc_V (ground_ok hg)
    by_cases hi0:i=0
    ·obtain rfl:=i2 (by omega)
     have n0:¬(0:Int)<(i:Int):=by omega
     have ho:=hto
     refine rS_ Tryz.func20 ?_
     simp only [go_sem,seval,hlt,idx_of hxi,n0]
     repeat' (first
      | (simp (disch:=omega) only [wrap_ok])
      | (refine hnext (some x.V) _ ⟨by rw [←i1];simp [hi0,hg],fun h=>by omega,fun _=>⟨x,by rw [show s.length - r.length - 1=i by omega];exact hxi,rfl,ground_ok hg⟩⟩ wk2_)
      | ((refine hto.callQ rfl ?_)<;>(try simp only [go_sem,seval,hlt,idx_of hxi,n0]))
      | fail)
     all_goals (exfalso;omega)
    ·obtain ⟨y,hy,rfl,hyo⟩:=i3 (by omega)
     have n0:(0:Int)<(i:Int):=by omega
     have hw1:IntKind.i64.wrap ((i:Int) - 1)=((i - 1:Nat):Int):=by rw [wrap_ok (by omega) (by omega)];omega
     have n2:((i - 1:Nat):Int)<(s.length:Int):=by omega
     have hyi:s[i - 1]? = some y:=by rw [←hy];congr 1;omega
     have ho:Gives Tryz.prog 51 [.agg y.enc,.agg x.enc] (.d (.int .i64 (y.V.cmp x.V))):=by
      rw [Tm.enc_V hyo,hxV]
      exact l02Cmp_fn _ _ _ (Nat.le_refl _)
     by_cases c3:y.V.cmp x.V<0
     ·have c4:¬0≤y.V.cmp x.V:=by omega
      refine rS_ Tryz.func20 ?_
      simp only [go_sem,seval,hlt,idx_of hxi,n0,hw1,n2,idx_of hyi,hmap,c3,c4]
      repeat' (first
       | (simp (disch:=omega) only [wrap_ok])
       | (refine hnext (some x.V) _ ⟨by rw [←i1];simp [c3,hg],fun h=>by omega,fun _=>⟨x,by rw [show s.length - r.length - 1=i by omega];exact hxi,rfl,ground_ok hg⟩⟩ wk2_)
       | ((first
        | (refine hto.callQ rfl ?_)
        | (refine ho.callQ rfl ?_))<;>(try simp only [go_sem,seval,hlt,idx_of hxi,n0,hw1,n2,idx_of hyi,hmap,c3,c4]))
       | fail)
      all_goals (exfalso;omega)
     ·have c4:0≤y.V.cmp x.V:=by omega
      have hf:uniL none s=false:=by rw [←i1];simp [c3]
      rw [hf]
      refine rS_ Tryz.func20 ?_
      simp only [go_sem,seval,hlt,idx_of hxi,n0,hw1,n2,idx_of hyi,hmap,c4]
      repeat' (first
       | ((first
        | (refine hto.callQ rfl ?_)
        | (refine ho.callQ rfl ?_))<;>(try simp only [go_sem,seval,hlt,idx_of hxi,n0,hw1,n2,idx_of hyi,hmap,c4]))
       | fail)
      all_goals first | (exfalso;omega) | (exfalso;exact absurd (by assumption) c3) | rfl
  exfalso
  rw [←hinv.1] at hun
  simp [uniL] at hun
 | true =>
  have hu:uniOk s=(decide ((1:Int)≤(s.length:Int)) && decide ((s.length:Int)≤8)):=by unfold uniOk;rw [hun,Bool.and_true,Bool.eq_iff_iff];simp;omega
  rw [hu]
  obtain ⟨RES,hRES⟩:∃RES,(decide ((1:Int)≤(s.length:Int)) && decide ((s.length:Int)≤8))=RES:=⟨_,rfl⟩
  rw [hRES]
  have hin:=l01In_fn (s.length:Int) 1 8
  rw [hRES] at hin
  refine aE_ Tryz.func20 ?_
  refine rS_ Tryz.func20 ?_
  simp only [go_sem,seval,hmap]
  refine AW.rng s [0,5,6] 7 5 (fun _:Option V=>[]) (fun H _=>H) (fun r p=>uniL p r=uniL none s∧(r.length=s.length→p=none)∧(r.length<s.length→∃y:Tm,s[s.length - r.length - 1]? = some y∧p=some y.V∧tmOk y=true)) none rfl (by simp) ⟨rfl,fun _=>rfl,fun h=>absurd h (c_ _)⟩ wk2_ (fun i x r p hxi hdr hlt hm hinv hnext=>?_) (fun p hinv=>?_)
  ·obtain ⟨i1,i2,i3⟩:=hinv
   obtain ⟨hi1,hi2,hi3⟩:=uniL_inv hdr
   have hto:Gives Tryz.prog 50 [.agg x.enc] (.d (.bool x.ground)):=sIsGround_fn x (hw x (b_ hxi))
   have ho:=hto
   simp only [a_,uniL] at i1 i2 i3
   cases hg:x.ground with
   | false =>
    rw [hg] at hto ho
    have c3:True:=trivial
    have hf:uniL none s=false:=by rw [←i1];simp [hg]
    exact absurd (hf.symm.trans hun) (by simp)
   | true =>
    rw [hg] at hto
    clear ho
    have hxV:=Tm.enc_V (ground_ok hg)
    by_cases hi0:i=0
    ·obtain rfl:=i2 (by omega)
     have n0:¬(0:Int)<(i:Int):=by omega
     have ho:=hto
     refine rS_ Tryz.func20 ?_
     simp only [go_sem,seval,hlt,idx_of hxi,n0]
     repeat' (first
      | (simp (disch:=omega) only [wrap_ok])
      | (refine hnext (some x.V) _ ⟨by rw [←i1];simp [hi0,hg],fun h=>by omega,fun _=>⟨x,by rw [show s.length - r.length - 1=i by omega];exact hxi,rfl,ground_ok hg⟩⟩ wk2_)
      | ((refine hto.callQ rfl ?_)<;>(try simp only [go_sem,seval,hlt,idx_of hxi,n0]))
      | fail)
     all_goals (exfalso;omega)
    ·obtain ⟨y,hy,rfl,hyo⟩:=i3 (by omega)
     have n0:(0:Int)<(i:Int):=by omega
     have hw1:IntKind.i64.wrap ((i:Int) - 1)=((i - 1:Nat):Int):=by rw [wrap_ok (by omega) (by omega)];omega
     have n2:((i - 1:Nat):Int)<(s.length:Int):=by omega
     have hyi:s[i - 1]? = some y:=by rw [←hy];congr 1;omega
     have ho:Gives Tryz.prog 51 [.agg y.enc,.agg x.enc] (.d (.int .i64 (y.V.cmp x.V))):=by
      rw [Tm.enc_V hyo,hxV]
      exact l02Cmp_fn _ _ _ (Nat.le_refl _)
     by_cases c3:y.V.cmp x.V<0
     ·have c4:¬0≤y.V.cmp x.V:=by omega
      refine rS_ Tryz.func20 ?_
      simp only [go_sem,seval,hlt,idx_of hxi,n0,hw1,n2,idx_of hyi,hmap,c3,c4]
      repeat' (first
       | (simp (disch:=omega) only [wrap_ok])
       | (refine hnext (some x.V) _ ⟨by rw [←i1];simp [c3,hg],fun h=>by omega,fun _=>⟨x,by rw [show s.length - r.length - 1=i by omega];exact hxi,rfl,ground_ok hg⟩⟩ wk2_)
       | ((first
        | (refine hto.callQ rfl ?_)
        | (refine ho.callQ rfl ?_))<;>(try simp only [go_sem,seval,hlt,idx_of hxi,n0,hw1,n2,idx_of hyi,hmap,c3,c4]))
       | fail)
      all_goals (exfalso;omega)
     ·have c4:0≤y.V.cmp x.V:=by omega
      have hf:uniL none s=false:=by rw [←i1];simp [c3]
      exact absurd (hf.symm.trans hun) (by simp)
  refine rS_ Tryz.func20 ?_
  simp only [go_sem,seval,hmap]
  repeat' (first
   | ((refine hin.calls rfl ?_)<;>(try simp only [go_sem,seval,hmap]))
   | fail)
theorem ways_fn (b n L:Nat) (hb8:b≤8) (hL:L≤1000000) (hn:n≤1000000):Gives Tryz.prog 68 [.int .i64 b,.int .i64 n,.int .i64 L] (.d (.int .i64 (min (sways b L n 1) (L+1):Nat))):=by
 obtain ⟨W,hW⟩:∃W,sways b L n 1=W:=⟨_,rfl⟩
 rw [hW]
 have w3:IntKind.i64.wrap ((L:Int)+1)=(L:Int)+1:=wrap_ok (by omega) (by omega)
 have hmin:∀k:Nat,(if (L:Int)+1<(k:Int) then (L:Int)+1 else (k:Int))=((min k (L+1):Nat):Int):=fun k=>by split<;>omega
 refine aE_ Tryz.func68 ?_
 refine rS_ Tryz.func68 ?_
 simp only [go_sem,seval]
 refine AW.lp [0,1,2] (fun u:Nat×Nat=>[(8,.d (.int .i64 (u.1:Int))),(7,.d (.int .i64 (u.2:Int)))]) (fun H _=>H) (fun u=>u.1≤n∧u.2≤(L+1) * 8∧sways b L (n - u.1) u.2=W) (fun u=>n - u.1) (0,1) ⟨Nat.zero_le _,by dsimp only;omega,hW⟩ wk2_ ?_
 rintro ⟨i,k⟩ ⟨h1,h2,h3⟩ hnext
 dsimp only at h1 h2 h3 hnext ⊢
 have hnx:=fun i' k' s'=>hnext (i',k') s'
 clear hnext
 have w2:IntKind.i64.wrap ((i:Int)+1)=((i+1:Nat):Int):=by rw [wrap_ok (by omega) (by omega)];omega
 by_cases hi:i<n
 ·have n1:(i:Int)<(n:Int):=by omega
  by_cases hk:k≤L
  ·have n2:(k:Int)≤(L:Int):=by omega
   have hkb:k * b≤(L+1) * 8:=Nat.mul_le_mul (by omega) hb8
   have w1:IntKind.i64.wrap ((k:Int) * (b:Int))=((k * b:Nat):Int):=by rw [←Int.natCast_mul,wrap_ok (by omega) (by omega)]
   have h4:sways b L (n - (i+1)) (k * b)=W:=by
    rw [show n - i=(n - (i+1))+1 by omega] at h3
    unfold sways at h3
    rw [if_pos hk] at h3;exact h3
   refine rS_ Tryz.func68 ?_
   simp only [go_sem,seval,n1,n2,w1,w2]
   refine hnx (i+1) (k * b) _ ⟨by omega,hkb,h4⟩ (by dsimp only;omega) wk2_
  ·have n2:¬(k:Int)≤(L:Int):=by omega
   rw [sways_ge hk] at h3
   subst h3
   refine rS_ Tryz.func68 ?_
   simp only [go_sem,seval,n1,n2,w3]
   all_goals first | rfl | (exfalso;omega) | exact congrArg (fun x=>C.d (D.int IntKind.i64 x)) (hmin _)
 ·have n1:¬(i:Int)<(n:Int):=by omega
  rw [show n - i=0 by omega] at h3
  unfold sways at h3
  subst h3
  refine rS_ Tryz.func68 ?_
  simp only [go_sem,seval,n1,w3]
  all_goals first | rfl | (exfalso;omega) | exact congrArg (fun x=>C.d (D.int IntKind.i64 x)) (hmin _)
theorem l08Ways_fn (b n L:Nat) (hb8:b≤8) (hL:L≤1000000) (hn:n≤1000000):Gives Tryz.prog 22 [.int .i64 b,.int .i64 n,.int .i64 L] (.d (.int .i64 (sways b L n 1:Nat))):=by
 obtain ⟨W,hW⟩:∃W,sways b L n 1=W:=⟨_,rfl⟩
 rw [hW]
 have w3:IntKind.i64.wrap ((L:Int)+1)=(L:Int)+1:=wrap_ok (by omega) (by omega)
 have hmin:∀k:Nat,(if (L:Int)+1<(k:Int) then (L:Int)+1 else (k:Int))=((min k (L+1):Nat):Int):=fun k=>by split<;>omega
 refine aE_ Tryz.func22 ?_
 refine rS_ Tryz.func22 ?_
 simp only [go_sem,seval]
 refine AW.lp [0,1,2] (fun u:Nat×Nat=>[(8,.d (.int .i64 (u.1:Int))),(7,.d (.int .i64 (u.2:Int)))]) (fun H _=>H) (fun u=>u.1≤n∧u.2≤(L+1) * 8∧sways b L (n - u.1) u.2=W) (fun u=>n - u.1) (0,1) ⟨Nat.zero_le _,by dsimp only;omega,hW⟩ wk2_ ?_
 rintro ⟨i,k⟩ ⟨h1,h2,h3⟩ hnext
 dsimp only at h1 h2 h3 hnext ⊢
 have hnx:=fun i' k' s'=>hnext (i',k') s'
 clear hnext
 have w2:IntKind.i64.wrap ((i:Int)+1)=((i+1:Nat):Int):=by rw [wrap_ok (by omega) (by omega)];omega
 by_cases hi:i<n
 ·have n1:(i:Int)<(n:Int):=by omega
  by_cases hk:k≤L
  ·have n2:(k:Int)≤(L:Int):=by omega
   have hkb:k * b≤(L+1) * 8:=Nat.mul_le_mul (by omega) hb8
   have w1:IntKind.i64.wrap ((k:Int) * (b:Int))=((k * b:Nat):Int):=by rw [←Int.natCast_mul,wrap_ok (by omega) (by omega)]
   have h4:sways b L (n - (i+1)) (k * b)=W:=by
    rw [show n - i=(n - (i+1))+1 by omega] at h3
    unfold sways at h3
    rw [if_pos hk] at h3;exact h3
   refine rS_ Tryz.func22 ?_
   simp only [go_sem,seval,n1,n2,w1,w2]
   refine hnx (i+1) (k * b) _ ⟨by omega,hkb,h4⟩ (by dsimp only;omega) wk2_
  ·have n2:¬(k:Int)≤(L:Int):=by omega
   rw [sways_ge hk] at h3
   subst h3
   refine rS_ Tryz.func22 ?_
   simp only [go_sem,seval,n1,n2,w3]
   all_goals first | rfl | (exfalso;omega) | exact congrArg (fun x=>C.d (D.int IntKind.i64 x)) (hmin _)
 ·have n1:¬(i:Int)<(n:Int):=by omega
  rw [show n - i=0 by omega] at h3
  unfold sways at h3
  subst h3
  refine rS_ Tryz.func22 ?_
  simp only [go_sem,seval,n1,w3]
  all_goals first | rfl | (exfalso;omega) | exact congrArg (fun x=>C.d (D.int IntKind.i64 x)) (hmin _)
end Go.Proofs.YthilkmjkgpdngaaGreat

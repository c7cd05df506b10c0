import Derived.Test.YtlajhmoomlgopaaGreatW80
import Derived.Test.YtlajhmoomlgopaaGreatW2
import Derived.Test.YtlajhmoomlgopaaGreatW77
namespace Go.Proofs.YtlajhmoomlgopaaGreat
open Go.Abs
set_option maxRecDepth 100000
set_option maxHeartbeats 4000000
set_option linter.unusedSimpArgs false
set_option linter.unusedVariables false
theorem l02Sym_fn (s:List UInt8):Gives Tryz.prog 145 [.str s] (.d (.agg (V.sym s).enc)):=by
 rw [V.enc_sym]
 refine aE_ Tryz.func145 ?_
 refine rS_ Tryz.func145 ?_
 simp only [go_sem,seval]
theorem l02Pair_fn (a b:V):Gives Tryz.prog 112 [.agg a.enc,.agg b.enc] (.d (.agg (V.pair a b).enc)):=by
 rw [V.enc_pair]
 refine aE_ Tryz.func112 ?_
 refine rS_ Tryz.func112 ?_
 simp only [go_sem,seval]
def atomC (o:Option V):C:=match o with | some v=>.tup [.d (.agg v.enc),.d (.bool true)] | none=>.tup [.d (.agg [.int .i64 0,.int .i64 0,.str [],.sl []]),.d (.bool false)]
theorem atomC_none:atomC none=.tup [.d (.agg [.int .i64 0,.int .i64 0,.str [],.sl []]),.d (.bool false)]:=rfl
theorem atomC_var (n:Int):atomC (some (.var n))=.tup [.d (.agg [.int .i64 1,.int .i64 n,.str [],.sl []]),.d (.bool true)]:=rfl
theorem atomC_num (n:Int):atomC (some (.num n))=.tup [.d (.agg [.int .i64 3,.int .i64 n,.str [],.sl []]),.d (.bool true)]:=rfl
theorem shape_var (n:Int):(Tm.mk 1 n [] []).v?.isSome=decide (0≤n∧n≤100000):=by
 rw [Tm.v?_mk]
 unfold mkV
 by_cases h:0≤n∧n≤100000
 ·simp [h]
 ·have h2:0≤n→¬n≤100000:=fun a b=>h ⟨a,b⟩
  simp [h]
theorem shape_num (n:Int):(Tm.mk 3 n [] []).v?.isSome=decide (-1000000000≤n∧n≤1000000000):=by
 rw [Tm.v?_mk]
 unfold mkV
 by_cases h:-1000000000≤n∧n≤1000000000
 ·simp [h]
 ·have h2:-1000000000≤n→¬n≤1000000000:=fun a b=>h ⟨a,b⟩
  simp [h]
theorem mk_wt (k n:Int):wtL (Tm.mk k n [] []).enc=0:=by rw [Tm.enc_eq];simp [wtL,D.wt,wtR,Tm.args,Tm.name]
theorem mk_enc (k n:Int):(Tm.mk k n [] []).enc=[.int .i64 k,.int .i64 n,.str [],.sl []]:=by rw [Tm.enc_eq];rfl
theorem l03Atom_fn (t:List UInt8) (hl:t.length≤1048576):Gives Tryz.prog 171 [.str t] (atomC (atom false t)):=by
 have hn:=sIsName_fn t (by omega)
 by_cases h1:isName t=true
 ·rw [h1] at hn
  rw [show atom false t=some (.sym t) from by unfold atom;rw [if_pos h1]]
  unfold atomC
  refine aE_ Tryz.func171 ?_
  refine rS_ Tryz.func171 ?_
  simp only [go_sem,seval]
  repeat' (first
   | ((first
    | (refine hn.calls rfl ?_)
    | (refine (l02Sym_fn _).calls rfl ?_))<;>(try simp only [go_sem,seval]))
   | fail)
 ·have h1f:isName t=false:=by simpa using h1
  rw [h1f] at hn
  cases t with
  | nil =>
   have hp:=sParseInt_fn [] (by simp)
   have hpn:pInt []=none:=by rfl
   rw [pIC_none hpn] at hp
   rw [show atom false []=none from by unfold atom;rw [if_neg h1];simp [hpn]]
   unfold atomC
   refine aE_ Tryz.func171 ?_
   refine rS_ Tryz.func171 ?_
   simp only [go_sem,seval]
   repeat' (first
    | ((first
     | (refine hn.calls rfl ?_)
     | (refine hp.calls rfl ?_))<;>(try simp only [go_sem,seval]))
    | fail)
  | cons c r =>
   obtain ⟨l,hll⟩:∃l,(c :: r)=l:=⟨_,rfl⟩
   have g1:(0:Int)<(l.length:Int):=by rw [←hll,List.length_cons];omega
   have g3:l.drop 1=r:=by rw [←hll];rfl
   have g4:(((l[0]?).getD 0).toNat:Int)=c.toNat:=by rw [←hll];rfl
   have hrl:r.length≤1048576:=by rw [←g3,List.length_drop];simp only [List.length_cons] at hl;rw [←hll,List.length_cons];omega
   have hhd:l.head? = some c:=by rw [←hll];rfl
   have htl:l.tail=r:=by rw [←hll];rfl
   rw [hll] at hn h1 ⊢
   have hl:l.length≤1048576:=by rw [←hll];exact hl
   clear hll
   by_cases h63:c=63
   ·have g2:(((l[0]?).getD 0).toNat:Int)=63:=by rw [g4,h63];rfl
    have hp:=sParseInt_fn r hrl
    have hat:atom false l=(match pInt r with | some n=>if 0≤n∧n≤100000 then some (.var n) else none | none=>none):=by
     unfold atom;rw [if_neg h1,if_pos (by rw [hhd,h63]),htl];rfl
    rw [hat]
    cases hpr:pInt r with
    | none =>
     rw [pIC_none hpr] at hp
     dsimp only
     rw [atomC_none]
     refine aE_ Tryz.func171 ?_
     refine rS_ Tryz.func171 ?_
     simp only [go_sem,seval,g1,g2,g3]
     repeat' (first
      | ((first
       | (refine hn.calls rfl ?_)
       | (refine hp.calls rfl ?_)
       | (refine ⟨sd,?_⟩))<;>(try simp only [go_sem,seval,g1,g2,g3]))
      | fail)
    | some n =>
     rw [pIC_some hpr] at hp
     have hsh:=l02Shape_fn (Tm.mk 1 n [] []) (by rw [mk_wt];omega)
     rw [mk_enc,shape_var] at hsh
     dsimp only
     by_cases hb:0≤n∧n≤100000
     ·rw [if_pos hb,atomC_var]
      rw [decide_eq_true hb] at hsh
      refine aE_ Tryz.func171 ?_
      refine rS_ Tryz.func171 ?_
      simp only [go_sem,seval,g1,g2,g3]
      repeat' (first
       | ((first
        | (refine hn.calls rfl ?_)
        | (refine hp.calls rfl ?_)
        | (refine hsh.calls rfl ?_)
        | (refine ⟨sd,?_⟩))<;>(try simp only [go_sem,seval,g1,g2,g3]))
       | fail)
     ·rw [if_neg hb,atomC_none]
      rw [decide_eq_false hb] at hsh
      refine aE_ Tryz.func171 ?_
      refine rS_ Tryz.func171 ?_
      simp only [go_sem,seval,g1,g2,g3]
      repeat' (first
       | ((first
        | (refine hn.calls rfl ?_)
        | (refine hp.calls rfl ?_)
        | (refine hsh.calls rfl ?_)
        | (refine ⟨sd,?_⟩))<;>(try simp only [go_sem,seval,g1,g2,g3]))
       | fail)
   ·have g2:¬(((l[0]?).getD 0).toNat:Int)=63:=fun h=>h63 ((u8_is (n:=63) (by omega)).2 (by rw [←g4];exact h))
    have hp:=sParseInt_fn l hl
    have hat:atom false l=(match pInt l with | some n=>if false=true∨(-1000000000≤n∧n≤1000000000) then some (.num n) else none | none=>none):=by
     unfold atom;rw [if_neg h1,if_neg (by rw [hhd];intro h;exact h63 (Option.some.inj h))];rfl
    rw [hat]
    cases hpr:pInt l with
    | none =>
     rw [pIC_none hpr] at hp
     dsimp only
     rw [atomC_none]
     refine aE_ Tryz.func171 ?_
     refine rS_ Tryz.func171 ?_
     simp only [go_sem,seval,g1,g2]
     repeat' (first
      | ((first
       | (refine hn.calls rfl ?_)
       | (refine hp.calls rfl ?_))<;>(try simp only [go_sem,seval,g1,g2]))
      | fail)
    | some n =>
     rw [pIC_some hpr] at hp
     have hsh:=l02Shape_fn (Tm.mk 3 n [] []) (by rw [mk_wt];omega)
     rw [mk_enc,shape_num] at hsh
     dsimp only
     by_cases hb:-1000000000≤n∧n≤1000000000
     ·rw [if_pos (.inr hb),atomC_num]
      rw [decide_eq_true hb] at hsh
      refine aE_ Tryz.func171 ?_
      refine rS_ Tryz.func171 ?_
      simp only [go_sem,seval,g1,g2]
      repeat' (first
       | ((first
        | (refine hn.calls rfl ?_)
        | (refine hp.calls rfl ?_)
        | (refine hsh.calls rfl ?_))<;>(try simp only [go_sem,seval,g1,g2]))
       | fail)
     ·rw [if_neg (fun h=>h.elim (fun h=>by cases h) hb),atomC_none]
      rw [decide_eq_false hb] at hsh
      refine aE_ Tryz.func171 ?_
      refine rS_ Tryz.func171 ?_
      simp only [go_sem,seval,g1,g2]
      repeat' (first
       | ((first
        | (refine hn.calls rfl ?_)
        | (refine hp.calls rfl ?_)
        | (refine hsh.calls rfl ?_))<;>(try simp only [go_sem,seval,g1,g2]))
       | fail)
theorem l02List_fn (l:List V) (t:V) (hl:l.length≤1048576):Gives Tryz.prog 172 [.sl (l.map V.enc),.agg t.enc] (.d (.agg (lst l t).enc)):=by
 refine aE_ Tryz.func172 ?_
 refine rS_ Tryz.func172 ?_
 simp only [go_sem,seval]
 repeat' (first
  | (simp (disch:=omega) only [wrap_ok])
  | fail)
 refine AW.lp [0,3,4] (fun j:Nat=>[(5,.d (.int .i64 ((j:Int) - 1)))]) (fun _ j=>[.box ((lst (l.drop j) t).enc.map .d),.box [.d (.int .i64 0),.d (.int .i64 0),.d (.str []),.nil0]]) (fun j=>j≤l.length) (fun j=>j) l.length (Nat.le_refl _) (by refine ⟨by simp [mkS,lst],by simp [mkS,lst],by simp only [mkS,List.all_cons,List.all_nil,O.refsLt,C.refsLt,C.refsLt1,all_dmap];first | done | rfl | (simp;done),?_⟩;simp [mkS,Abs.get,C.refsLtT,C.refsLt,C.refsLt1]) ?_
 rintro j hj hnext
 cases j with
 | zero =>
  refine rS_ Tryz.func172 ?_
  simp only [go_sem,seval]
  all_goals (rw [List.drop_zero])
 | succ m =>
  have hm1:(m:Int)+1 - 1=m:=by omega
  obtain ⟨x,hx⟩:∃x,l[m]? = some x:=⟨l[m],List.getElem?_eq_getElem hj⟩
  have hdr:lst (l.drop m) t=.pair x (lst (l.drop (m+1)) t):=by
   obtain ⟨h1,h2⟩:=List.getElem?_eq_some_iff.1 hx
   rw [List.drop_eq_getElem_cons h1,h2];rfl
  have hw:IntKind.i64.wrap ((m:Int) - 1)=(m:Int) - 1:=by simp (disch:=omega) only [wrap_ok]
  have hxe:(l.map V.enc)[m]? = some x.enc:=by rw [List.getElem?_map,hx];rfl
  refine run_sound Tryz.func172 mixed 7 _ _ (by kernel_rfl) ?_
  simp only [go_sem,seval,run.eq_1,hm1]
  refine AW.drawA mixed #[true,true,true,true,true,true,false] [(0,.box ((lst (l.drop (m+1)) t).enc.map .d))] [] [0,1,2,3,4,5] [6] none (by kernel_rfl) trivial (by simp [holdsB]) ?_
  simp only [go_sem,seval,hm1,idx_of hxe]
  repeat' (first
   | ((first
    | (refine (l02Pair_fn _ _).calls rfl ?_)
    | (refine ⟨sd,?_⟩))<;>(try simp only [go_sem,seval,hm1,idx_of hxe]))
   | fail)
  refine rS_ Tryz.func172 ?_
  simp only [go_sem,seval]
  repeat' (first
   | (simp (disch:=omega) only [wrap_ok])
   | fail)
  refine hnext m _ (by omega) (by omega) (by refine ⟨by simp [mkS,hdr],by simp [mkS,hdr],by simp only [mkS,List.all_cons,List.all_nil,O.refsLt,C.refsLt,C.refsLt1,all_dmap];first | done | rfl | (simp;done),?_⟩;simp [mkS,Abs.get,C.refsLtT,C.refsLt,C.refsLt1])
def nilD:List D:=[.int .i64 0,.int .i64 0,.str [],.sl []]
def rdC (o:Option (V×Nat)):C:=match o with | some (v,j)=>.tup [.d (.agg v.enc),.d (.int .i64 j),.d (.bool true)] | none=>.tup [.d (.agg [.int .i64 0,.int .i64 0,.str [],.sl []]),.d (.int .i64 0),.d (.bool false)]
theorem rdC_none:rdC none=.tup [.d (.agg [.int .i64 0,.int .i64 0,.str [],.sl []]),.d (.int .i64 0),.d (.bool false)]:=rfl
theorem rdC_some (v:V) (j:Nat):rdC (some (v,j))=.tup [.d (.agg v.enc),.d (.int .i64 j),.d (.bool true)]:=rfl
def rdG (T:List (List UInt8)) (n i:Nat):Prop:=match rdT false T n i with
 | some (v,j)=>Gives Tryz.prog 140 [.sl (strD T),.int .i64 i] (.tup [.d (.agg v.enc),.d (.int .i64 j),.d (.bool true)])
 | none=>∃k:Int,Gives Tryz.prog 140 [.sl (strD T),.int .i64 i] (.tup [.d (.agg [.int .i64 0,.int .i64 0,.str [],.sl []]),.d (.int .i64 k),.d (.bool false)])
theorem rdG_some {T:List (List UInt8)} {n i:Nat} {v:V} {j:Nat} (h:rdT false T n i=some (v,j)) (g:rdG T n i):Gives Tryz.prog 140 [.sl (strD T),.int .i64 i] (.tup [.d (.agg v.enc),.d (.int .i64 j),.d (.bool true)]):=by
 unfold rdG at g;rw [h] at g;exact g
theorem rdG_none {T:List (List UInt8)} {n i:Nat} (h:rdT false T n i=none) (g:rdG T n i):∃k:Int,Gives Tryz.prog 140 [.sl (strD T),.int .i64 i] (.tup [.d (.agg [.int .i64 0,.int .i64 0,.str [],.sl []]),.d (.int .i64 k),.d (.bool false)]):=by
 unfold rdG at g;rw [h] at g;exact g
theorem l03Read_list (T:List (List UInt8)) (hTl:T.length≤20000) (n i:Nat) (hi:T[i]? = some [40]) (hn:2 * (T.length - i)+1≤n+1) (ih:∀m,m≤n→∀i,i≤T.length→2 * (T.length - i)+1≤m→rdG T m i) :
  Gives Tryz.prog 140 [.sl (strD T),.int .i64 i] (rdC (rdL false T n (i+1) [])):=by
 have hmx:maxLen=9223372036854775807:=rfl
 have hil:=(List.getElem?_eq_some_iff.1 hi).1
 have n0:¬(T.length:Int)≤(i:Int):=by omega
 have hix:=strD_at hi
 have hw:IntKind.i64.wrap ((i:Int)+1)=((i+1:Nat):Int):=by simp (disch:=omega) only [wrap_ok];omega
 obtain ⟨R,hR⟩:∃R,rdL false T n (i+1) []=R:=⟨_,rfl⟩
 rw [hR]
 refine aE_ Tryz.func140 ?_
 refine rS_ Tryz.func140 ?_
 simp only [go_sem,seval,n0,strD_len,idx_of hix,hw]
 repeat' (first
  | ((refine ⟨sd,?_⟩)<;>(try simp only [go_sem,seval,n0,strD_len,idx_of hix,hw]))
  | fail)
 refine AW.adopt 9 4 85 (by decide) rfl ?_
 refine AW.lp [0,4] (fun u:Nat×Nat×Nat×List V=>[(1,.d (.int .i64 u.2.1)),(9,.own 1 u.2.2.1)]) (fun _ u=>[.box [.d (.int .i64 0),.d (.int .i64 0),.d (.str []),.nil0],.grow u.2.2.1 4 85 (u.2.2.2.map V.enc)]) (fun u=>u.1≤n∧u.2.1≤T.length∧2 * (T.length - u.2.1)+2≤u.1∧rdL false T u.1 u.2.1 u.2.2.2=R∧u.2.2.2.length≤u.2.1) (fun u=>T.length - u.2.1) (n,i+1,0,[]) ⟨Nat.le_refl _,by dsimp only;omega,by dsimp only;omega,hR,by simp⟩ wk1_ ?_
 rintro ⟨m,j,q,L⟩ ⟨hm,hj,hf,hi2,hL⟩ hnext
 dsimp only at hm hj hf hi2 hL hnext ⊢
 obtain ⟨m,rfl⟩:∃m',m=m'+1:=⟨m - 1,by omega⟩
 have hwj:IntKind.i64.wrap ((j:Int)+1)=((j+1:Nat):Int):=by simp (disch:=omega) only [wrap_ok];omega
 have hmap:∀x:List V,(x.map V.enc).length=x.length:=fun x=>List.length_map _
 cases hTj:T[j]? with
 | none =>
  rw [rdL_none hTj] at hi2
  have hjl:=List.getElem?_eq_none_iff.1 hTj
  have n1:¬(j:Int)<(T.length:Int):=by omega
  have n2:(T.length:Int)≤(j:Int):=by omega
  rw [←hi2,rdC_none]
  refine rS_ Tryz.func140 ?_
  simp only [go_sem,seval,n1,n2,strD_len]
 | some t =>
  have hjl:=(List.getElem?_eq_some_iff.1 hTj).1
  have n1:(j:Int)<(T.length:Int):=by omega
  have n2:¬(T.length:Int)≤(j:Int):=by omega
  have hjx:=strD_at hTj
  by_cases h41:t=[41]
  ·subst h41
   rw [rdL_end hTj] at hi2
   refine AW.readG 9 1 rfl rfl ?_
   have hl:=l02List_fn L .nil (by omega)
   rw [V.enc_nil] at hl
   rw [←hi2,rdC_some]
   refine rS_ Tryz.func140 ?_
   simp only [go_sem,seval,n1,n2,strD_len,idx_of hjx,hwj]
   repeat' (first
    | ((refine hl.calls rfl ?_)<;>(try simp only [go_sem,seval,n1,n2,strD_len,idx_of hjx,hwj]))
    | fail)
  ·by_cases h46:t=[46]
   ·subst h46
    rw [rdL_dot hTj] at hi2
    refine AW.readG 9 1 rfl rfl ?_
    have hg:=ih m (by omega) (j+1) (by omega) (by omega)
    cases hr:rdT false T m (j+1) with
    | none =>
     rw [hr] at hi2
     obtain ⟨k,hk⟩:=rdG_none hr hg
     rw [←hi2,rdC_none]
     refine rS_ Tryz.func140 ?_
     simp only [go_sem,seval,n1,n2,strD_len,idx_of hjx,hwj]
     repeat' (first
      | ((refine hk.calls rfl ?_)<;>(try simp only [go_sem,seval,n1,n2,strD_len,idx_of hjx,hwj]))
      | fail)
    | some x =>
     obtain ⟨v,j2⟩:=x
     rw [hr] at hi2
     dsimp only at hi2
     have hk:=rdG_some hr hg
     have hb:=(rd_len false T m).1 _ _ _ hr
     have hl:=l02List_fn L v (by omega)
     have hw2:IntKind.i64.wrap ((j2:Int)+1)=((j2+1:Nat):Int):=by simp (disch:=omega) only [wrap_ok];omega
     by_cases hL0:L=[]
     ·rw [if_neg (fun h=>h.1 hL0)] at hi2
      have hl0:(L.length:Int)=0:=by rw [hL0];rfl
      rw [←hi2,rdC_none]
      refine rS_ Tryz.func140 ?_
      simp only [go_sem,seval,n1,n2,strD_len,idx_of hjx,hwj]
      repeat' (first
       | ((refine hk.calls rfl ?_)<;>(try simp only [go_sem,seval,n1,n2,strD_len,idx_of hjx,hwj,hl0,hmap]))
       | fail)
     ·have hl0:¬(L.length:Int)=0:=fun h=>hL0 (List.eq_nil_of_length_eq_zero (by omega))
      cases hT2:T[j2]? with
      | none =>
       rw [if_neg (fun h=>by rw [hT2] at h;cases h.2)] at hi2
       have hjl2:=List.getElem?_eq_none_iff.1 hT2
       have n3:(T.length:Int)≤(j2:Int):=by omega
       rw [←hi2,rdC_none]
       refine rS_ Tryz.func140 ?_
       simp only [go_sem,seval,n1,n2,n3,strD_len,idx_of hjx,hwj]
       repeat' (first
        | ((refine hk.calls rfl ?_)<;>(try simp only [go_sem,seval,n1,n2,n3,strD_len,idx_of hjx,hwj,hl0,hmap]))
        | fail)
      | some t2 =>
       have hjl2:=(List.getElem?_eq_some_iff.1 hT2).1
       have n3:¬(T.length:Int)≤(j2:Int):=by omega
       have n4:(j2:Int)<(T.length:Int):=by omega
       have hjx2:=strD_at hT2
       by_cases h2:t2=[41]
       ·subst h2
        rw [if_pos ⟨hL0,hT2⟩] at hi2
        rw [←hi2,rdC_some]
        refine rS_ Tryz.func140 ?_
        simp only [go_sem,seval,n1,n2,n3,strD_len,idx_of hjx,hwj,idx_of hjx2]
        repeat' (first
         | ((first
          | (refine hk.calls rfl ?_)
          | (refine hl.calls rfl ?_)
          | (refine ⟨sd,?_⟩))<;>(try simp only [go_sem,seval,n1,n2,n3,strD_len,idx_of hjx,hwj,hl0,hmap,idx_of hjx2,hw2]))
         | fail)
        all_goals omega
       ·rw [if_neg (fun h=>by rw [hT2] at h;exact h2 (Option.some.inj h.2))] at hi2
        rw [←hi2,rdC_none]
        refine rS_ Tryz.func140 ?_
        simp only [go_sem,seval,n1,n2,n3,strD_len,idx_of hjx,hwj,idx_of hjx2]
        repeat' (first
         | ((refine hk.calls rfl ?_)<;>(try simp only [go_sem,seval,n1,n2,n3,strD_len,idx_of hjx,hwj,hl0,hmap,idx_of hjx2,hw2,h2]))
         | assumption)
   ·rw [rdL_item hTj h41 h46] at hi2
    have hg:=ih m (by omega) j (by omega) (by omega)
    cases hr:rdT false T m j with
    | none =>
     rw [hr] at hi2
     obtain ⟨k,hk⟩:=rdG_none hr hg
     rw [←hi2,rdC_none]
     refine rS_ Tryz.func140 ?_
     simp only [go_sem,seval,n1,n2,strD_len,idx_of hjx,h41,h46]
     repeat' (first
      | ((refine hk.calls rfl ?_)<;>(try simp only [go_sem,seval,n1,n2,strD_len,idx_of hjx,h41,h46]))
      | fail)
    | some x =>
     obtain ⟨v,j2⟩:=x
     rw [hr] at hi2
     dsimp only at hi2
     have hk:=rdG_some hr hg
     have hb:=(rd_len false T m).1 _ _ _ hr
     refine rS_ Tryz.func140 ?_
     simp only [go_sem,seval,n1,n2,strD_len,idx_of hjx,h41,h46]
     repeat' (first
      | ((first
       | (refine hk.calls rfl ?_)
       | (refine ⟨sd,?_⟩))<;>(try simp only [go_sem,seval,n1,n2,strD_len,idx_of hjx,h41,h46,hmap]))
      | fail)
     refine hnext (m,j2,q+1,L++[v]) _ ⟨by dsimp only;omega,by dsimp only;omega,by dsimp only;omega,hi2,by simp;omega⟩ (by dsimp only;omega) wk1_
theorem l03Read_fn (T:List (List UInt8)) (hTl:T.length≤20000) (hTm:∀t,t∈T→t.length≤100000):∀n i,i≤T.length→2 * (T.length - i)+1≤n→rdG T n i:=by
 intro n
 induction n using Nat.strongRecOn with
 | ind n ih =>
  intro i hi hf
  obtain ⟨n,rfl⟩:∃n',n=n'+1:=⟨n - 1,by omega⟩
  have hmx:maxLen=9223372036854775807:=rfl
  unfold rdG
  cases hTi:T[i]? with
  | none =>
   rw [rdT_none hTi]
   have hil:=List.getElem?_eq_none_iff.1 hTi
   have n0:(T.length:Int)≤(i:Int):=by omega
   refine ⟨0,?_⟩
   refine aE_ Tryz.func140 ?_
   refine rS_ Tryz.func140 ?_
   simp only [go_sem,seval,n0,strD_len]
  | some t =>
   have hil:=(List.getElem?_eq_some_iff.1 hTi).1
   have n0:¬(T.length:Int)≤(i:Int):=by omega
   have hix:=strD_at hTi
   by_cases h41:t=[41]
   ·rw [rdT_bad hTi (.inl h41)]
    subst h41
    refine ⟨0,?_⟩
    refine aE_ Tryz.func140 ?_
    refine rS_ Tryz.func140 ?_
    simp only [go_sem,seval,n0,strD_len,idx_of hix]
    all_goals omega
   ·by_cases h46:t=[46]
    ·rw [rdT_bad hTi (.inr h46)]
     subst h46
     refine ⟨0,?_⟩
     refine aE_ Tryz.func140 ?_
     refine rS_ Tryz.func140 ?_
     simp only [go_sem,seval,n0,strD_len,idx_of hix]
     all_goals omega
    ·by_cases h40:t=[40]
     ·subst h40
      rw [rdT_open hTi]
      have h:=l03Read_list T hTl n i hTi hf (fun m hm i hi hf=>ih m (by omega) i hi hf)
      cases hR:rdL false T n (i+1) [] with
      | none=>rw [hR] at h;exact ⟨0,h⟩
      | some x=>obtain ⟨v,j⟩:=x;rw [hR] at h;exact h
     ·rw [rdT_atom hTi (fun h=>h.elim h41 h46) h40]
      have ha:=l03Atom_fn t (by have:=hTm t (List.mem_of_getElem? hTi);omega)
      have hw:IntKind.i64.wrap ((i:Int)+1)=((i+1:Nat):Int):=by simp (disch:=omega) only [wrap_ok];omega
      cases hat:atom false t with
      | none =>
       rw [hat,atomC_none] at ha
       refine ⟨((i+1:Nat):Int),?_⟩
       refine aE_ Tryz.func140 ?_
       refine rS_ Tryz.func140 ?_
       simp only [go_sem,seval,n0,strD_len,idx_of hix,h41,h46,h40,hw]
       repeat' (first
        | ((first
         | (refine ha.calls rfl ?_)
         | (refine ⟨sd,?_⟩))<;>(try simp only [go_sem,seval,n0,strD_len,idx_of hix,h41,h46,h40,hw]))
        | fail)
      | some v =>
       rw [hat] at ha
       unfold atomC at ha
       dsimp only at ha
       dsimp only
       refine aE_ Tryz.func140 ?_
       refine rS_ Tryz.func140 ?_
       simp only [go_sem,seval,n0,strD_len,idx_of hix,h41,h46,h40,hw]
       repeat' (first
        | ((first
         | (refine ha.calls rfl ?_)
         | (refine ⟨sd,?_⟩))<;>(try simp only [go_sem,seval,n0,strD_len,idx_of hix,h41,h46,h40,hw]))
        | fail)
end Go.Proofs.YtlajhmoomlgopaaGreat

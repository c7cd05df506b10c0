import Derived.Test.YtehcdhelbkjaeaaGreatDoorW84
namespace Go.Proofs.YtehcdhelbkjaeaaGreatDoor
open Go.Abs
set_option maxRecDepth 100000
set_option maxHeartbeats 4000000
set_option linter.unusedSimpArgs false
set_option linter.unusedVariables false
def tmP (x:C):C:=.tup [x,.d (.bool true)]
def tmR (T:List (List UInt8)) (lo:List O) (o:Option (V×Nat)) (c:C) (H:List O):Prop:=match o with
 | some (v,j)=>tmO tmP v (.box [.d (.sl (strD T)),.d (.int .i64 (j:Int))] :: lo) c H
 | none=>∃(v:V) (k:Nat),c=.tup [.d (.agg v.enc),.d (.bool false)]∧H=.hole :: .box [.d (.sl (strD T)),.d (.int .i64 (k:Int))] :: lo∧k≤T.length
theorem name_head {t:List UInt8} (h:isName t=true):t.head?≠some 63:=by
 intro h2
 cases t with
 | nil=>cases h2
 | cons c r =>
  simp only [List.head?_cons,Option.some.injEq] at h2
  subst h2
  rw [isName_bad (i:=0) (by simp) (by rfl)] at h
  cases h
theorem atom_41:atom true [41]=none:=by rfl
theorem atom_46:atom true [46]=none:=by rfl
theorem rdT_atom' {T:List (List UInt8)} {n i:Nat} {t:List UInt8} (h:T[i]? = some t) (h2:t≠[40]):rdT true T (n+1) i=match atom true t with | some v=>some (v,i+1) | none=>none:=by
 by_cases h1:t=[41]∨t=[46]
 ·rw [rdT_bad h h1]
  rcases h1 with rfl | rfl
  ·rw [atom_41]
  ·rw [atom_46]
 ·exact rdT_atom h h1 h2
def tmG (T:List (List UInt8)) (n i:Nat):Prop:=∀(te tr:TypeId) (pe pr:Value),ACalls Tryz.prog 68 [.ptr 1 0] [.hole,.box [.d (.sl (strD T)),.d (.int .i64 (i:Int))],tabO,synO te pe,ranO tr pr] (tmR T [tabO,synO te pe,ranO tr pr] (rdT true T n i))
theorem term_atom (T:List (List UInt8)) (hTl:T.length≤20000) (n i:Nat) (t:List UInt8) (hT:T[i]? = some t) (ht:t≠[]∧t.length≤100000) (h40:t≠[40]):tmG T (n+1) i:=by
 intro te tr pe pr
 have hil:=(List.getElem?_eq_some_iff.1 hT).1
 have hdn:=done_R T i hTl
 have hnd:decide ((i:Int)=(T.length:Int))=false:=by simp;omega
 rw [hnd] at hdn
 have hpk:=peek_R T i hTl
 rw [hT] at hpk
 rw [show ((some t).getD ([]:List UInt8))=t from rfl] at hpk
 have hw:IntKind.i64.wrap ((i:Int)+1)=((i+1:Nat):Int):=by simp (disch:=omega) only [wrap_ok];omega
 rw [rdT_atom' hT h40]
 have hpos:(0:Int)<(t.length:Int):=by
  have:=List.length_pos_iff.2 ht.1;omega
 obtain ⟨c,hc⟩:∃c,t.head? = some c:=by
  cases t with
  | nil=>exact absurd rfl ht.1
  | cons c r=>exact ⟨c,rfl⟩
 have h0:(((t[0]?).getD 0).toNat:Int)=c.toNat:=by
  cases t with
  | nil=>cases hc
  | cons c' r=>simp at hc;subst hc;rfl
 have hin:=iIsName_fn t (by omega)
 by_cases h63:c=63
 ·have hnn:isName t=false:=by
   cases h:isName t with
   | false=>rfl
   | true=>exact absurd (by rw [hc,h63]) (name_head h)
  have g2:(((t[0]?).getD 0).toNat:Int)=63:=by rw [h0,h63];rfl
  have hat:atom true t=(match pInt t.tail with | some n=>if 0≤n∧n≤100000 then some (.var n) else none | none=>none):=by
   unfold atom;rw [hnn,if_neg (by simp),if_pos (by rw [hc,h63])];rfl
  have htl:t.drop 1=t.tail:=by cases t<;>rfl
  have hp:=iParseInt_R t.tail (by rw [List.length_tail];omega) te tr pe pr
  unfold loO at hp
  rw [hat]
  cases hpi:pInt t.tail with
  | none =>
   rw [pIC_none hpi] at hp
   have hv:=variable_fn 0
   refine aE_ Tryz.func68 ?_
   refine rS_ Tryz.func68 ?_
   simp only [go_sem,seval,g2,htl,hw,h40]
   repeat' (first
    | (exact ⟨.var 0,i+1,rfl,rfl,by omega⟩)
    | ((first
     | (refine (ACalls.emb hdn [1] rfl rfl rfl (by decide) rfl ?_)<;>(rintro c H' ⟨rfl,rfl⟩ _;refine ⟨rfl,rfl,?_⟩))
     | (refine (ACalls.emb hpk [1] rfl rfl rfl (by decide) rfl ?_)<;>(rintro c H' ⟨rfl,rfl⟩ _;refine ⟨rfl,rfl,?_⟩))
     | (refine (ACalls.emb hp [2,3,4] rfl rfl rfl (by decide) rfl ?_)<;>(rintro c H' ⟨rfl,rfl⟩ _;refine ⟨rfl,rfl,?_⟩))
     | (refine hv.calls rfl ?_)
     | (refine ⟨sd,?_⟩))<;>(try simp only [go_sem,seval,g2,htl,hw,h40]))
    | fail)
  | some k =>
   rw [pIC_some hpi] at hp
   have hv:=variable_fn k
   dsimp only
   by_cases hk:0≤k∧k≤100000
   ·rw [if_pos hk]
    have hk0:=hk.1
    have hk1:=hk.2
    refine aE_ Tryz.func68 ?_
    refine rS_ Tryz.func68 ?_
    simp only [go_sem,seval,g2,htl,hw,h40,hk0,hk1]
    repeat' (first
     | (exact .inr ⟨rfl,rfl,rfl⟩)
     | ((first
      | (refine (ACalls.emb hdn [1] rfl rfl rfl (by decide) rfl ?_)<;>(rintro c H' ⟨rfl,rfl⟩ _;refine ⟨rfl,rfl,?_⟩))
      | (refine (ACalls.emb hpk [1] rfl rfl rfl (by decide) rfl ?_)<;>(rintro c H' ⟨rfl,rfl⟩ _;refine ⟨rfl,rfl,?_⟩))
      | (refine (ACalls.emb hp [2,3,4] rfl rfl rfl (by decide) rfl ?_)<;>(rintro c H' ⟨rfl,rfl⟩ _;refine ⟨rfl,rfl,?_⟩))
      | (refine hv.calls rfl ?_)
      | (refine ⟨sd,?_⟩))<;>(try simp only [go_sem,seval,g2,htl,hw,h40,hk0,hk1]))
     | fail)
   ·rw [if_neg hk]
    by_cases hk0:0≤k
    ·have hk1:¬k≤100000:=fun h=>hk ⟨hk0,h⟩
     refine aE_ Tryz.func68 ?_
     refine rS_ Tryz.func68 ?_
     simp only [go_sem,seval,g2,htl,hw,h40,hk0,hk1]
     repeat' (first
      | (exact ⟨.var k,i+1,rfl,rfl,by omega⟩)
      | ((first
       | (refine (ACalls.emb hdn [1] rfl rfl rfl (by decide) rfl ?_)<;>(rintro c H' ⟨rfl,rfl⟩ _;refine ⟨rfl,rfl,?_⟩))
       | (refine (ACalls.emb hpk [1] rfl rfl rfl (by decide) rfl ?_)<;>(rintro c H' ⟨rfl,rfl⟩ _;refine ⟨rfl,rfl,?_⟩))
       | (refine (ACalls.emb hp [2,3,4] rfl rfl rfl (by decide) rfl ?_)<;>(rintro c H' ⟨rfl,rfl⟩ _;refine ⟨rfl,rfl,?_⟩))
       | (refine hv.calls rfl ?_)
       | (refine ⟨sd,?_⟩))<;>(try simp only [go_sem,seval,g2,htl,hw,h40,hk0,hk1]))
      | fail)
    ·refine aE_ Tryz.func68 ?_
     refine rS_ Tryz.func68 ?_
     simp only [go_sem,seval,g2,htl,hw,h40,hk0]
     repeat' (first
      | (exact ⟨.var k,i+1,rfl,rfl,by omega⟩)
      | ((first
       | (refine (ACalls.emb hdn [1] rfl rfl rfl (by decide) rfl ?_)<;>(rintro c H' ⟨rfl,rfl⟩ _;refine ⟨rfl,rfl,?_⟩))
       | (refine (ACalls.emb hpk [1] rfl rfl rfl (by decide) rfl ?_)<;>(rintro c H' ⟨rfl,rfl⟩ _;refine ⟨rfl,rfl,?_⟩))
       | (refine (ACalls.emb hp [2,3,4] rfl rfl rfl (by decide) rfl ?_)<;>(rintro c H' ⟨rfl,rfl⟩ _;refine ⟨rfl,rfl,?_⟩))
       | (refine hv.calls rfl ?_)
       | (refine ⟨sd,?_⟩))<;>(try simp only [go_sem,seval,g2,htl,hw,h40,hk0]))
      | fail)
 ·have g2:¬(((t[0]?).getD 0).toNat:Int)=63:=fun h=>h63 ((u8_is (n:=63) (by omega)).2 (by rw [←h0];exact h))
  by_cases hnm:isName t=true
  ·rw [hnm] at hin
   have hat:atom true t=some (.sym t):=by unfold atom;rw [if_pos hnm]
   have hv:=symbol_fn t
   rw [hat]
   refine aE_ Tryz.func68 ?_
   refine rS_ Tryz.func68 ?_
   simp only [go_sem,seval,g2,hw,h40]
   repeat' (first
    | (exact .inr ⟨rfl,rfl,rfl⟩)
    | ((first
     | (refine (ACalls.emb hdn [1] rfl rfl rfl (by decide) rfl ?_)<;>(rintro c H' ⟨rfl,rfl⟩ _;refine ⟨rfl,rfl,?_⟩))
     | (refine (ACalls.emb hpk [1] rfl rfl rfl (by decide) rfl ?_)<;>(rintro c H' ⟨rfl,rfl⟩ _;refine ⟨rfl,rfl,?_⟩))
     | (refine hin.calls rfl ?_)
     | (refine hv.calls rfl ?_)
     | (refine ⟨sd,?_⟩))<;>(try simp only [go_sem,seval,g2,hw,h40]))
    | fail)
  ·have hnn:isName t=false:=by simpa using hnm
   rw [hnn] at hin
   have hat:atom true t=(match pInt t with | some n=>some (.num n) | none=>none):=by
    unfold atom
    rw [if_neg hnm,if_neg (by rw [hc];intro h;exact h63 (Option.some.inj h))]
    cases pInt t<;>simp
   have hp:=iParseInt_R t (by omega) te tr pe pr
   unfold loO at hp
   rw [hat]
   cases hpi:pInt t with
   | none =>
    rw [pIC_none hpi] at hp
    have hv:=number_fn 0
    refine aE_ Tryz.func68 ?_
    refine rS_ Tryz.func68 ?_
    simp only [go_sem,seval,g2,hw,h40]
    repeat' (first
     | (exact ⟨.num 0,i+1,rfl,rfl,by omega⟩)
     | ((first
      | (refine (ACalls.emb hdn [1] rfl rfl rfl (by decide) rfl ?_)<;>(rintro c H' ⟨rfl,rfl⟩ _;refine ⟨rfl,rfl,?_⟩))
      | (refine (ACalls.emb hpk [1] rfl rfl rfl (by decide) rfl ?_)<;>(rintro c H' ⟨rfl,rfl⟩ _;refine ⟨rfl,rfl,?_⟩))
      | (refine (ACalls.emb hp [2,3,4] rfl rfl rfl (by decide) rfl ?_)<;>(rintro c H' ⟨rfl,rfl⟩ _;refine ⟨rfl,rfl,?_⟩))
      | (refine hin.calls rfl ?_)
      | (refine hv.calls rfl ?_)
      | (refine ⟨sd,?_⟩))<;>(try simp only [go_sem,seval,g2,hw,h40]))
     | fail)
   | some k =>
    rw [pIC_some hpi] at hp
    have hv:=number_fn k
    refine aE_ Tryz.func68 ?_
    refine rS_ Tryz.func68 ?_
    simp only [go_sem,seval,g2,hw,h40]
    repeat' (first
     | (exact .inr ⟨rfl,rfl,rfl⟩)
     | ((first
      | (refine (ACalls.emb hdn [1] rfl rfl rfl (by decide) rfl ?_)<;>(rintro c H' ⟨rfl,rfl⟩ _;refine ⟨rfl,rfl,?_⟩))
      | (refine (ACalls.emb hpk [1] rfl rfl rfl (by decide) rfl ?_)<;>(rintro c H' ⟨rfl,rfl⟩ _;refine ⟨rfl,rfl,?_⟩))
      | (refine (ACalls.emb hp [2,3,4] rfl rfl rfl (by decide) rfl ?_)<;>(rintro c H' ⟨rfl,rfl⟩ _;refine ⟨rfl,rfl,?_⟩))
      | (refine hin.calls rfl ?_)
      | (refine hv.calls rfl ?_)
      | (refine ⟨sd,?_⟩))<;>(try simp only [go_sem,seval,g2,hw,h40]))
     | fail)
end Go.Proofs.YtehcdhelbkjaeaaGreatDoor

import Derived.Test.YtehkgphockcjdaaGreatP5
import Derived.Test.YtehkgphockcjdaaGreatP13
import Derived.Test.YtehkgphockcjdaaGreatP11
open List renaming pairwise_cons→a_,mem_cons→b_,mem_map→d_,length_cons→e_,getElem?_eq_some_iff→g_
open Bool renaming and_eq_true→c_,or_eq_true→f_,and_eq_false_imp→h_
set_option linter.unusedVariables false
set_option linter.unusedSimpArgs false
namespace Go.Abs
open Go
structure Lin {α:Type} (c:α→α→Int):Prop where
 zero:∀a b,c a b=0↔a=b
 neg:∀a b,c a b<0↔0<c b a
 tr:∀a b d,c a b<0→c b d<0→c a d<0
theorem bl_asym:∀a b:List UInt8,Op.bytesLess a b=true→Op.bytesLess b a=false
 | _,[],h=>by simp [Op.bytesLess] at h
 | [],_ :: _,_=>rfl
 | a :: r,b :: q,h=>by
  simp only [Op.bytesLess,f_,decide_eq_true_eq,c_,beq_iff_eq,Bool.or_eq_false_iff,decide_eq_false_iff_not,h_] at h ⊢
  rcases h with h | ⟨h,h2⟩
  ·exact ⟨fun h'=>by rw [UInt8.lt_iff_toNat_lt] at h h';omega,fun e=>by subst e;exact absurd h (by rw [UInt8.lt_iff_toNat_lt];omega)⟩
  ·subst h
   exact ⟨by rw [UInt8.lt_iff_toNat_lt];omega,fun _=>bl_asym r q h2⟩
theorem bl_tot:∀a b:List UInt8,a≠b→Op.bytesLess a b=false→Op.bytesLess b a=true
 | [],[],h,_=>absurd rfl h
 | _ :: _,[],_,_=>rfl
 | [],_ :: _,_,h=>by simp [Op.bytesLess] at h
 | a :: r,b :: q,h,h2=>by
  simp only [Op.bytesLess,f_,decide_eq_true_eq,c_,beq_iff_eq,Bool.or_eq_false_iff,decide_eq_false_iff_not,h_] at h2 ⊢
  by_cases e:a=b
  ·subst e
   exact .inr ⟨rfl,bl_tot r q (fun e=>h (by rw [e])) (h2.2 rfl)⟩
  ·left
   have h1:=h2.1
   rw [UInt8.lt_iff_toNat_lt] at h1 ⊢
   have:a.toNat≠b.toNat:=fun e'=>e (UInt8.toNat_inj.1 e')
   omega
theorem bl_tr:∀a b c:List UInt8,Op.bytesLess a b=true→Op.bytesLess b c=true→Op.bytesLess a c=true
 | _,[],_,h,_=>by simp [Op.bytesLess] at h
 | _,_ :: _,[],_,h=>by simp [Op.bytesLess] at h
 | [],_ :: _,_ :: _,_,_=>rfl
 | a :: r,b :: q,c :: s,h1,h2=>by
  simp only [Op.bytesLess,f_,decide_eq_true_eq,c_,beq_iff_eq] at h1 h2 ⊢
  rcases h1 with h1 | ⟨e1,h1⟩<;>rcases h2 with h2 | ⟨e2,h2⟩
  ·left;rw [UInt8.lt_iff_toNat_lt] at h1 h2 ⊢;omega
  ·subst e2;exact .inl h1
  ·subst e1;exact .inl h2
  ·subst e1;subst e2;exact .inr ⟨rfl,bl_tr r q s h1 h2⟩
def V.k3 (a b:V):Int:=if a.kind≠b.kind then (if a.kind<b.kind then -1 else 1) else if a.int≠b.int then (if a.int<b.int then -1 else 1) else if a.name≠b.name then (if Op.bytesLess a.name b.name then -1 else 1) else 0
def V.r3:V→V→Int
 | .pair a1 a2,.pair b1 b2=>if V.cmp a1 b1≠0 then V.cmp a1 b1 else V.cmp a2 b2
 | _,_=>0
theorem V.cmp_k3 (a b:V):V.cmp a b=if V.k3 a b≠0 then V.k3 a b else V.r3 a b:=by
 rw [V.cmp.eq_def]
 unfold V.k3 V.r3
 by_cases h1:a.kind=b.kind
 ·by_cases h2:a.int=b.int
  ·by_cases h3:a.name=b.name
   ·simp only [h1,h2,h3,ne_eq,not_true,if_false,reduceIte]
    rfl
   ·simp only [h1,h2,h3,ne_eq,not_true,not_false_eq_true,if_false,if_true,reduceIte]
    split<;>simp
  ·simp only [h1,h2,ne_eq,not_true,not_false_eq_true,if_false,if_true,reduceIte]
   split<;>simp
 ·simp only [h1,ne_eq,not_false_eq_true,if_true,reduceIte]
  split<;>simp
theorem V.k3_zero (a b:V):V.k3 a b=0↔a.kind=b.kind∧a.int=b.int∧a.name=b.name:=by
 unfold V.k3
 by_cases h1:a.kind=b.kind
 ·by_cases h2:a.int=b.int
  ·by_cases h3:a.name=b.name
   ·simp [h1,h2,h3]
   ·simp only [h1,h2,h3,ne_eq,not_true,not_false_eq_true,if_false,if_true,reduceIte]
    split<;>simp
  ·simp only [h1,h2,ne_eq,not_true,not_false_eq_true,if_false,if_true,reduceIte]
   split<;>simp
 ·simp only [h1,ne_eq,not_false_eq_true,if_true,reduceIte]
  split<;>simp
theorem V.k3_neg (a b:V):V.k3 a b<0↔a.kind<b.kind∨(a.kind=b.kind∧(a.int<b.int∨(a.int=b.int∧a.name≠b.name∧Op.bytesLess a.name b.name=true))):=by
 unfold V.k3
 repeat' split
 all_goals simp_all
 all_goals omega
theorem V.k3_pos (a b:V):0<V.k3 a b↔b.kind<a.kind∨(a.kind=b.kind∧(b.int<a.int∨(a.int=b.int∧a.name≠b.name∧Op.bytesLess a.name b.name=false))):=by
 unfold V.k3
 repeat' split
 all_goals simp_all
 all_goals omega
theorem V.k3_lin (a b:V):V.k3 a b<0↔0<V.k3 b a:=by
 rw [V.k3_neg,V.k3_pos]
 constructor
 ·rintro (h | ⟨h1,h | ⟨h2,h3,h4⟩⟩)
  ·exact .inl h
  ·exact .inr ⟨h1.symm,.inl h⟩
  ·exact .inr ⟨h1.symm,.inr ⟨h2.symm,fun e=>h3 e.symm,bl_asym _ _ h4⟩⟩
 ·rintro (h | ⟨h1,h | ⟨h2,h3,h4⟩⟩)
  ·exact .inl h
  ·exact .inr ⟨h1.symm,.inl h⟩
  ·exact .inr ⟨h1.symm,.inr ⟨h2.symm,fun e=>h3 e.symm,bl_tot _ _ h3 h4⟩⟩
theorem V.k3_tr (a b d:V) (h1:V.k3 a b<0) (h2:V.k3 b d<0):V.k3 a d<0:=by
 rw [V.k3_neg] at h1 h2 ⊢
 rcases h1 with h1 | ⟨e1,h1 | ⟨f1,g1,h1⟩⟩<;>rcases h2 with h2 | ⟨e2,h2 | ⟨f2,g2,h2⟩⟩
 all_goals first
  | (left;omega)
  | (right;refine ⟨by omega,?_⟩;left;omega)
  | skip
 refine .inr ⟨by omega,.inr ⟨by omega,fun e=>?_,bl_tr _ _ _ h1 h2⟩⟩
 rw [←e] at h2
 rw [bl_asym _ _ h1] at h2;cases h2
theorem V.k3_eq {a b:V} (h:V.k3 a b=0) (d:V):V.k3 a d=V.k3 b d∧V.k3 d a=V.k3 d b:=by
 obtain ⟨h1,h2,h3⟩:=(V.k3_zero a b).1 h
 unfold V.k3
 rw [h1,h2,h3]
 exact ⟨rfl,rfl⟩
theorem V.cmp_zero:∀a b:V,V.cmp a b=0↔a=b:=by
 intro a
 induction a with
 | pair a1 a2 ih1 ih2 =>
  intro b
  rw [V.cmp_k3]
  by_cases hk:V.k3 (.pair a1 a2) b=0
  ·rw [if_neg (by simpa using hk)]
   obtain ⟨h1,_,_⟩:=(V.k3_zero _ _).1 hk
   cases b with
   | pair b1 b2 =>
    simp only [V.r3]
    by_cases h:V.cmp a1 b1=0
    ·rw [if_neg (by simpa using h),ih2 b2]
     have:=(ih1 b1).1 h
     subst this
     simp
    ·rw [if_pos h]
     have:¬a1=b1:=fun e=>h ((ih1 b1).2 e)
     simp [h,this]
   | _=>simp [V.kind] at h1
  ·rw [if_pos hk]
   refine ⟨fun h=>absurd h hk,fun e=>?_⟩
   subst e
   exact absurd ((V.k3_zero _ _).2 ⟨rfl,rfl,rfl⟩) hk
 | _ =>
  intro b
  rw [V.cmp_k3]
  split
  ·rename_i hk
   refine ⟨fun h=>absurd h hk,fun e=>?_⟩
   subst e
   exact absurd ((V.k3_zero _ _).2 ⟨rfl,rfl,rfl⟩) hk
  ·rename_i hk
   have hk:=(V.k3_zero _ _).1 (Decidable.not_not.1 hk)
   cases b<;>simp_all [V.kind,V.int,V.name,V.r3]
theorem V.cmp_neg:∀a b:V,V.cmp a b<0↔0<V.cmp b a:=by
 intro a
 induction a with
 | pair a1 a2 ih1 ih2 =>
  intro b
  rw [V.cmp_k3,V.cmp_k3 b]
  have hl:=V.k3_lin (.pair a1 a2) b
  have hl2:=V.k3_lin b (.pair a1 a2)
  by_cases hk:V.k3 (.pair a1 a2) b=0
  ·have hk2:V.k3 b (.pair a1 a2)=0:=by omega
   rw [if_neg (by simpa using hk),if_neg (by simpa using hk2)]
   obtain ⟨h1,_,_⟩:=(V.k3_zero _ _).1 hk
   cases b with
   | pair b1 b2 =>
    simp only [V.r3]
    have i1:=ih1 b1
    have i2:=ih2 b2
    by_cases h:V.cmp a1 b1=0
    ·have e:=(V.cmp_zero _ _).1 h
     subst e
     rw [if_neg (by simpa using h),if_neg (by simpa using h)]
     exact i2
    ·have h':V.cmp b1 a1≠0:=fun e=>h ((V.cmp_zero _ _).2 ((V.cmp_zero _ _).1 e).symm)
     rw [if_pos h,if_pos h']
     exact i1
   | _=>simp [V.kind] at h1
  ·have hk2:V.k3 b (.pair a1 a2)≠0:=by omega
   rw [if_pos hk,if_pos hk2]
   exact hl
 | _ =>
  intro b
  rw [V.cmp_k3,V.cmp_k3 b]
  first
   | (have hl:=V.k3_lin V.nil b;have hl2:=V.k3_lin b V.nil)
   | skip
  split
  ·rename_i hk
   rw [if_pos (by have h1:=(V.k3_lin b);intro e;have:=(V.k3_zero _ _).1 e;exact hk ((V.k3_zero _ _).2 ⟨this.1.symm,this.2.1.symm,this.2.2.symm⟩))]
   exact V.k3_lin _ _
  ·rename_i hk
   have hk:=(V.k3_zero _ _).1 (Decidable.not_not.1 hk)
   rw [if_neg (by have:=(V.k3_zero b _).2 ⟨hk.1.symm,hk.2.1.symm,hk.2.2.symm⟩;simpa using this)]
   cases b<;>simp_all [V.kind,V.int,V.name,V.r3]
theorem V.cmp_tr:∀a b d:V,V.cmp a b<0→V.cmp b d<0→V.cmp a d<0:=by
 intro a
 induction a with
 | pair a1 a2 ih1 ih2 =>
  intro b d h1 h2
  rw [V.cmp_k3] at h1 h2 ⊢
  by_cases k1:V.k3 (.pair a1 a2) b=0
  ·rw [if_neg (by simpa using k1)] at h1
   rw [(V.k3_eq k1 d).1]
   by_cases k2:V.k3 b d=0
   ·rw [if_neg (by simpa using k2)] at h2 ⊢
    obtain ⟨e1,_,_⟩:=(V.k3_zero _ _).1 k1
    obtain ⟨e2,_,_⟩:=(V.k3_zero _ _).1 k2
    cases b with
    | pair b1 b2 =>
     cases d with
     | pair d1 d2 =>
      simp only [V.r3] at h1 h2 ⊢
      by_cases c1:V.cmp a1 b1=0
      ·have:=(V.cmp_zero _ _).1 c1
       subst this
       rw [if_neg (by simpa using c1)] at h1
       by_cases c2:V.cmp a1 d1=0
       ·rw [if_neg (by simpa using c2)] at h2 ⊢
        exact ih2 _ _ h1 h2
       ·rw [if_pos c2] at h2 ⊢;exact h2
      ·rw [if_pos c1] at h1
       by_cases c2:V.cmp b1 d1=0
       ·have:=(V.cmp_zero _ _).1 c2
        subst this
        rw [if_pos c1];exact h1
       ·rw [if_pos c2] at h2
        have h3:=ih1 _ _ h1 h2
        rw [if_pos (by omega)];exact h3
     | _=>simp [V.kind] at e2
    | _=>simp [V.kind] at e1
   ·rw [if_pos k2] at h2 ⊢;exact h2
  ·rw [if_pos k1] at h1
   by_cases k2:V.k3 b d=0
   ·rw [←(V.k3_eq k2 (.pair a1 a2)).2,if_pos k1];exact h1
   ·rw [if_pos k2] at h2
    have h3:=V.k3_tr _ _ _ h1 h2
    rw [if_pos (by omega)];exact h3
 | _ =>
  intro b d h1 h2
  rw [V.cmp_k3] at h1 h2 ⊢
  split at h1
  ·rename_i k1
   split at h2
   ·rename_i k2
    have h3:=V.k3_tr _ _ _ h1 h2
    rw [if_pos (by omega)];exact h3
   ·rename_i k2
    have k2:=Decidable.not_not.1 k2
    rw [←(V.k3_eq k2 _).2,if_pos k1];exact h1
  ·rename_i k1
   have hk:=(V.k3_zero _ _).1 (Decidable.not_not.1 k1)
   cases b<;>simp_all [V.kind,V.int,V.name,V.r3]
theorem V.cmp_lin:Lin V.cmp:=⟨V.cmp_zero,V.cmp_neg,V.cmp_tr⟩
theorem V.cmpL_lin:Lin V.cmpL:=by
 have z:∀a b:List V,V.cmpL a b=0↔a=b:=by
  intro a
  induction a with
  | nil =>
   intro b
   rw [V.cmpL_nil_left];unfold ordInt
   cases b with
   | nil=>simp
   | cons x r=>simp
  | cons x r ih =>
   intro b
   cases b with
   | nil=>rw [V.cmpL_nil_right];unfold ordInt;simp;split<;>omega
   | cons y q =>
    rw [V.cmpL_cons]
    by_cases h:V.cmp x y=0
    ·have:=(V.cmp_zero _ _).1 h
     subst this
     rw [if_neg (by simpa using h),ih q];simp
    ·rw [if_pos h]
     have:¬x=y:=fun e=>h ((V.cmp_zero _ _).2 e)
     simp [h,this]
 refine ⟨z,?_,?_⟩
 ·intro a
  induction a with
  | nil =>
   intro b
   rw [V.cmpL_nil_left,V.cmpL_nil_right];unfold ordInt
   repeat' split
   all_goals omega
  | cons x r ih =>
   intro b
   cases b with
   | nil =>
    rw [V.cmpL_nil_left,V.cmpL_nil_right];unfold ordInt
    repeat' split
    all_goals omega
   | cons y q =>
    rw [V.cmpL_cons,V.cmpL_cons]
    by_cases h:V.cmp x y=0
    ·have:=(V.cmp_zero _ _).1 h
     subst this
     rw [if_neg (by simpa using h),if_neg (by simpa using h)]
     exact ih q
    ·have h':V.cmp y x≠0:=fun e=>h ((V.cmp_zero _ _).2 ((V.cmp_zero _ _).1 e).symm)
     rw [if_pos h,if_pos h']
     exact V.cmp_neg x y
 ·intro a
  induction a with
  | nil =>
   intro b d h1 h2
   rw [V.cmpL_nil_left] at h1 ⊢
   cases d with
   | nil =>
    rw [V.cmpL_nil_right] at h2
    unfold ordInt at h1 h2
    exfalso
    revert h1 h2
    repeat' split
    all_goals omega
   | cons=>unfold ordInt;rw [if_pos (by simp)];omega
  | cons x r ih =>
   intro b d h1 h2
   cases b with
   | nil =>
    rw [V.cmpL_nil_right] at h1
    exfalso;revert h1;unfold ordInt
    repeat' split
    all_goals simp_all
    all_goals omega
   | cons y q =>
    cases d with
    | nil =>
     rw [V.cmpL_nil_right] at h2
     exfalso;revert h2;unfold ordInt
     repeat' split
     all_goals simp_all
     all_goals omega
    | cons w s =>
     rw [V.cmpL_cons] at h1 h2 ⊢
     by_cases c1:V.cmp x y=0
     ·have:=(V.cmp_zero _ _).1 c1
      subst this
      rw [if_neg (by simpa using c1)] at h1
      by_cases c2:V.cmp x w=0
      ·rw [if_neg (by simpa using c2)] at h2 ⊢
       exact ih _ _ h1 h2
      ·rw [if_pos c2] at h2 ⊢;exact h2
     ·rw [if_pos c1] at h1
      by_cases c2:V.cmp y w=0
      ·have:=(V.cmp_zero _ _).1 c2
       subst this
       rw [if_pos c1];exact h1
      ·rw [if_pos c2] at h2
       have h3:=V.cmp_tr _ _ _ h1 h2
       rw [if_pos (by omega)];exact h3
def FcV.cmp (a b:FcV):Int:=cmpFact a.1 a.2 b.1 b.2
theorem FcV.cmp_lin:Lin FcV.cmp:=by
 have hL:=V.cmpL_lin
 refine ⟨fun a b=>?_,fun a b=>?_,fun a b d h1 h2=>?_⟩
 ·obtain ⟨r,l⟩:=a
  obtain ⟨q,m⟩:=b
  unfold FcV.cmp cmpFact
  by_cases h:r=q
  ·subst h
   simp [hL.zero]
  ·rw [if_pos h]
   simp only [Prod.mk.injEq,h,false_and,iff_false]
   split<;>omega
 ·obtain ⟨r,l⟩:=a
  obtain ⟨q,m⟩:=b
  unfold FcV.cmp cmpFact
  by_cases h:r=q
  ·subst h
   simp only [ne_eq,not_true,if_false,reduceIte]
   exact hL.neg l m
  ·rw [if_pos h,if_pos (fun e=>h e.symm)]
   dsimp only
   cases hb:Op.bytesLess r q with
   | true=>rw [bl_asym _ _ hb];simp
   | false=>rw [bl_tot _ _ h hb];simp
 ·obtain ⟨r,l⟩:=a
  obtain ⟨q,m⟩:=b
  obtain ⟨s,k⟩:=d
  unfold FcV.cmp cmpFact at *
  by_cases e1:r=q
  ·subst e1
   by_cases e2:r=s
   ·subst e2
    simp only [ne_eq,not_true,if_false,reduceIte] at *
    exact hL.tr _ _ _ h1 h2
   ·rw [if_pos e2] at h2 ⊢;exact h2
  ·rw [if_pos e1] at h1
   by_cases e2:q=s
   ·subst e2;rw [if_pos e1];exact h1
   ·rw [if_pos e2] at h2
    have b1:Op.bytesLess r q=true:=by
     cases hb:Op.bytesLess r q with
     | true=>rfl
     | false=>rw [hb] at h1;simp at h1
    have b2:Op.bytesLess q s=true:=by
     cases hb:Op.bytesLess q s with
     | true=>rfl
     | false=>rw [hb] at h2;simp at h2
    have b3:=bl_tr _ _ _ b1 b2
    have e3:r≠s:=fun e=>by subst e;rw [bl_asym _ _ b1] at b2;cases b2
    rw [if_pos e3,b3];simp
section
variable {α:Type} {c:α→α→Int}
theorem Lin.irr (h:Lin c) (a:α):c a a=0:=(h.zero a a).2 rfl
theorem Lin.pos (h:Lin c) {a b:α}:0<c a b↔c b a<0:=(h.neg b a).symm
theorem Lin.wk (h:Lin c):Wk (fun a b=>decide (c a b<0)):=by
 refine ⟨fun a b hab=>?_,fun a b d h1 h2=>?_⟩
 ·simp only [decide_eq_true_eq,decide_eq_false_iff_not] at hab ⊢
  have:=(h.neg a b).1 hab;omega
 ·simp only [decide_eq_false_iff_not] at h1 h2 ⊢
  intro h3
  by_cases e:c b a=0
  ·have:=(h.zero _ _).1 e;subst this;exact h2 h3
  ·by_cases e2:c d b=0
   ·have:=(h.zero _ _).1 e2;subst this;exact h1 h3
   ·have k1:c a b<0:=(h.neg a b).2 (by omega)
    have k2:c b d<0:=(h.neg b d).2 (by omega)
    have k3:=h.tr _ _ _ k1 k2
    have:=(h.neg a d).1 k3;omega
def ascC (c:α→α→Int) (l:List α):Prop:=l.Pairwise fun a b=>c a b<0
def insC (c:α→α→Int):List α→α→List α
 | [],x=>[x]
 | y :: r,x=>if c y x<0 then y :: insC c r x else if c y x=0 then y :: r else x :: y :: r
def sortC (c:α→α→Int) (l:List α):List α:=l.foldl (insC c) []
theorem insC_mem (h:Lin c):∀(l:List α) (x z:α),z∈insC c l x↔z=x∨z∈l
 | [],x,z=>by simp [insC]
 | y :: r,x,z=>by
  unfold insC
  split
  ·simp only [b_,insC_mem h r x z]
   constructor
   ·rintro (h | h | h)<;>simp [h]
   ·rintro (h | h | h)<;>simp [h]
  ·split
   ·rename_i e
    have:=(h.zero _ _).1 e
    subst this
    simp
   ·simp
theorem insC_asc (h:Lin c):∀(l:List α) (x:α),ascC c l→ascC c (insC c l x)
 | [],x,_=>List.pairwise_singleton _ _
 | y :: r,x,ha=>by
  unfold ascC at ha ⊢
  rw [a_] at ha
  unfold insC
  split
  ·rename_i hy
   rw [a_]
   refine ⟨fun z hz=>?_,insC_asc h r x ha.2⟩
   rcases (insC_mem h r x z).1 hz with rfl | hz
   ·exact hy
   ·exact ha.1 z hz
  ·split
   ·exact a_.2 ha
   ·rename_i h1 h2
    have hxy:c x y<0:=(h.neg x y).2 (by omega)
    rw [a_]
    refine ⟨fun z hz=>?_,a_.2 ha⟩
    rcases b_.1 hz with rfl | hz
    ·exact hxy
    ·exact h.tr _ _ _ hxy (ha.1 z hz)
theorem foldl_insC (h:Lin c):∀(l acc:List α),ascC c acc→ascC c (l.foldl (insC c) acc)∧∀z,z∈l.foldl (insC c) acc↔z∈acc∨z∈l
 | [],acc,ha=>⟨ha,fun z=>by simp⟩
 | x :: r,acc,ha=>by
  obtain ⟨h1,h2⟩:=foldl_insC h r (insC c acc x) (insC_asc h acc x ha)
  refine ⟨h1,fun z=>?_⟩
  rw [List.foldl_cons,h2,insC_mem h]
  simp only [b_]
  constructor
  ·rintro ((h | h) | h)<;>simp [h]
  ·rintro (h | h | h)<;>simp [h]
theorem sortC_asc (h:Lin c) (l:List α):ascC c (sortC c l):=(foldl_insC h l [] List.Pairwise.nil).1
theorem sortC_mem (h:Lin c) (l:List α) (z:α):z∈sortC c l↔z∈l:=by
 have:=(foldl_insC h l [] List.Pairwise.nil).2 z
 unfold sortC
 simpa using this
theorem ascC_ext (h:Lin c):∀(l m:List α),ascC c l→ascC c m→(∀z,z∈l↔z∈m)→l=m
 | [],[],_,_,_=>rfl
 | [],y :: q,_,_,he=>by have:=(he y).2 (by simp);simp at this
 | x :: r,[],_,_,he=>by have:=(he x).1 (by simp);simp at this
 | x :: r,y :: q,hl,hm,he=>by
  unfold ascC at hl hm
  rw [a_] at hl hm
  have hxy:x=y:=by
   rcases b_.1 ((he x).1 (by simp)) with e | e
   ·exact e
   ·rcases b_.1 ((he y).2 (by simp)) with e' | e'
    ·exact e'.symm
    ·have h1:=hm.1 x e
     have h2:=hl.1 y e'
     have:=(h.neg x y).1 h2;omega
  subst hxy
  congr 1
  refine ascC_ext h r q hl.2 hm.2 (fun z=>⟨fun hz=>?_,fun hz=>?_⟩)
  ·rcases b_.1 ((he z).1 (by simp [hz])) with e | e
   ·subst e;have:=hl.1 z hz;rw [h.irr] at this;omega
   ·exact e
  ·rcases b_.1 ((he z).2 (by simp [hz])) with e | e
   ·subst e;have:=hm.1 z hz;rw [h.irr] at this;omega
   ·exact e
def ddC (c:α→α→Int):Option α→List α→List α
 | _,[]=>[]
 | none,x :: r=>x :: ddC c (some x) r
 | some y,x :: r=>if c y x=0 then ddC c (some x) r else x :: ddC c (some x) r
theorem ddC_some (h:Lin c):∀(l:List α) (y:α),l.Pairwise (fun a b=>¬c b a<0)→(∀z,z∈l→¬c z y<0)→ascC c (ddC c (some y) l)∧(∀z,z∈ddC c (some y) l→c y z<0)∧∀z,z∈ddC c (some y) l∨z=y↔z∈l∨z=y
 | [],y,_,_=>⟨List.Pairwise.nil,fun z hz=>by simp [ddC] at hz,fun z=>by simp [ddC]⟩
 | x :: r,y,hp,hy=>by
  rw [a_] at hp
  have hyx:=hy x (by simp)
  obtain ⟨i1,i2,i3⟩:=ddC_some h r x hp.2 hp.1
  unfold ddC
  split
  ·rename_i e
   have:=(h.zero _ _).1 e
   subst this
   refine ⟨i1,i2,fun z=>?_⟩
   rw [i3 z]
   simp only [b_]
   constructor
   ·rintro (h | h)<;>simp [h]
   ·rintro ((h | h) | h)<;>simp [h]
  ·rename_i e
   have hlt:c y x<0:=by
    have:=(h.neg x y)
    have:=(h.pos (a:=y) (b:=x))
    omega
   refine ⟨a_.2 ⟨i2,i1⟩,fun z hz=>?_,fun z=>?_⟩
   ·rcases b_.1 hz with rfl | hz
    ·exact hlt
    ·exact h.tr _ _ _ hlt (i2 z hz)
   ·have:=i3 z
    simp only [b_]
    constructor
    ·rintro ((e | e) | e)
     ·exact .inl (.inl e)
     ·rcases this.1 (.inl e) with e' | e'
      ·exact .inl (.inr e')
      ·exact .inl (.inl e')
     ·exact .inr e
    ·rintro ((e | e) | e)
     ·exact .inl (.inl e)
     ·rcases this.2 (.inl e) with e' | e'
      ·exact .inl (.inr e')
      ·exact .inl (.inl e')
     ·exact .inr e
theorem ddC_sort (h:Lin c) {l s:List α} (hm:∀z,z∈s↔z∈l) (hs:s.Pairwise (fun a b=>¬c b a<0)):ddC c none s=sortC c l:=by
 refine ascC_ext h _ _ ?_ (sortC_asc h l) (fun z=>?_)
 ·cases s with
  | nil=>exact List.Pairwise.nil
  | cons x r =>
   rw [a_] at hs
   obtain ⟨i1,i2,_⟩:=ddC_some h r x hs.2 hs.1
   exact a_.2 ⟨i2,i1⟩
 ·rw [sortC_mem h,←hm z]
  cases s with
  | nil=>simp [ddC]
  | cons x r =>
   rw [a_] at hs
   obtain ⟨_,_,i3⟩:=ddC_some h r x hs.2 hs.1
   have:=i3 z
   show z∈x :: ddC c (some x) r↔_
   simp only [b_]
   constructor
   ·rintro (e | e)
    ·exact .inl e
    ·rcases this.1 (.inl e) with e' | e'
     ·exact .inr e'
     ·exact .inl e'
   ·rintro (e | e)
    ·exact .inl e
    ·rcases this.2 (.inl e) with e' | e'
     ·exact .inr e'
     ·exact .inl e'
theorem ddC_snoc (l:List α) (p:Option α) (x:α):ddC c p (l++[x])=ddC c p l++(match (p.toList++l).getLast? with | some y=>if c y x=0 then [] else [x] | none=>[x]):=by
 induction l generalizing p with
 | nil=>cases p with
  | none=>rfl
  | some y=>simp only [List.nil_append,ddC,Option.toList_some,List.append_nil,List.getLast?_singleton]
 | cons y r ih =>
  have hl:((some y).toList++r).getLast? = (p.toList++y :: r).getLast?:=by
   cases p with
   | none=>rfl
   | some w=>exact (List.getLast?_cons_cons ..).symm
  cases p with
  | none =>
   simp only [List.cons_append,ddC]
   rw [ih (some y),hl]
   try simp
  | some w =>
   simp only [List.cons_append,ddC]
   split
   ·rw [ih (some y),hl]
   ·rw [ih (some y),hl]
    rfl
theorem ascC_at {l:List α} (ha:ascC c l) {i j:Nat} {a b:α} (hij:i<j) (h1:l[i]? = some a) (h2:l[j]? = some b):c a b<0:=by
 obtain ⟨k1,rfl⟩:=g_.1 h1
 obtain ⟨k2,rfl⟩:=g_.1 h2
 exact List.pairwise_iff_getElem.1 ha i j k1 k2 hij
def eqAt (c:α→α→Int) (l:List α) (k:Nat) (x:α):Bool:=match l[k]? with | some y=>decide (c y x=0) | none=>false
theorem insC_at (h:Lin c):∀(l:List α) (x:α) (k:Nat),ascC c l→k≤l.length→(∀i y,i<k→l[i]? = some y→c y x<0)→(∀i y,k≤i→l[i]? = some y→¬c y x<0) →
  insC c l x=if eqAt c l k x then l else l.take k++x :: l.drop k
 | [],x,k,_,hk,_,_=>by
  have:k=0:=by simpa using hk
  subst this
  simp [insC,eqAt]
 | y :: r,x,0,ha,hk,h1,h2=>by
  have:=h2 0 y (Nat.le_refl _) rfl
  unfold insC
  rw [if_neg this]
  simp [eqAt]
 | y :: r,x,k+1,ha,hk,h1,h2=>by
  have hy:=h1 0 y (by omega) rfl
  unfold insC
  rw [if_pos hy]
  unfold ascC at ha
  rw [a_] at ha
  rw [insC_at h r x k ha.2 (by simpa using hk) (fun i z hi hz=>h1 (i+1) z (by omega) (by simpa using hz)) (fun i z hi hz=>h2 (i+1) z (by omega) (by simpa using hz))]
  have e:eqAt c (y :: r) (k+1) x=eqAt c r k x:=rfl
  rw [e]
  cases eqAt c r k x<;>rfl
end
def uniL:Option V→List Tm→Bool
 | _,[]=>true
 | p,t :: r=>t.ground && (match p with | some q=>decide (q.cmp t.V<0) | none=>true) && uniL (some t.V) r
def uniOk (u:List Tm):Bool:=decide (1≤u.length) && decide (u.length≤8) && uniL none u
theorem uniL_asc:∀(u:List Tm) (p:Option V),uniL p u=true→ascC V.cmp (u.map Tm.V)∧(∀q,p=some q→∀t,t∈u→q.cmp t.V<0)∧u.all Tm.ground=true
 | [],_,_=>⟨List.Pairwise.nil,fun _ _ t ht=>by simp at ht,rfl⟩
 | t :: r,p,h=>by
  simp only [uniL,c_] at h
  obtain ⟨i1,i2,i3⟩:=uniL_asc r _ h.2
  refine ⟨a_.2 ⟨fun z hz=>?_,i1⟩,fun q hq x hx=>?_,by simp [h.1.1,i3]⟩
  ·obtain ⟨x,hx,rfl⟩:=d_.1 hz
   exact i2 _ rfl x hx
  ·subst hq
   have h0:=h.1.2
   simp only [decide_eq_true_eq] at h0
   rcases b_.1 hx with rfl | hx
   ·exact h0
   ·exact V.cmp_tr _ _ _ h0 (i2 _ rfl x hx)
structure Uni (u:List V):Prop where
 pos:1≤u.length
 le:u.length≤8
 ok:∀v,v∈u→v.ok=true
 gr:∀v,v∈u→v.vars=[]
 asc:ascC V.cmp u
theorem Uni.of {u:List Tm} (h:uniOk u=true):Uni (u.map Tm.V)∧u=(u.map Tm.V).map V.tm:=by
 unfold uniOk at h
 simp only [c_,decide_eq_true_eq] at h
 obtain ⟨h1,_,h3⟩:=uniL_asc u none h.2
 have hg:∀t,t∈u→t.ground=true:=List.all_eq_true.1 h3
 refine ⟨⟨by simpa using h.1.1,by simpa using h.1.2,fun v hv=>?_,fun v hv=>?_,h1⟩,grounds_V h3⟩
 ·obtain ⟨t,ht,rfl⟩:=d_.1 hv
  obtain ⟨v,e1,e2⟩:=tmOk_of (ground_ok (hg t ht))
  rw [e1]
  have:(V.tm v).V=v:=by
   unfold V.ok at e2
   rw [c_] at e2
   simp [Tm.V,V.v?_tm v e2.1]
  rw [this];exact e2
 ·obtain ⟨t,ht,rfl⟩:=d_.1 hv
  have hk:=ground_ok (hg t ht)
  have h4:=hg t ht
  unfold Tm.ground at h4
  simp only [c_,decide_eq_true_eq] at h4
  rw [←Tm.vars_V hk];exact h4.2
structure RV where
 head:FcV
 clause:Int
 values:List V
 pos:List FcV
 neg:List FcV
def RV.ru (r:RV):Ru:=⟨r.head.fc,r.clause,r.values.map V.tm,r.pos.map FcV.fc,r.neg.map FcV.fc⟩
def gVals (u:List V):Nat→Nat→List V
 | 0,_=>[]
 | n+1,k=>u.getD (k % u.length) .nil :: gVals u n (k / u.length)
theorem gVals_len (u:List V):∀n k,(gVals u n k).length=n
 | 0,_=>rfl
 | n+1,k=>by simp [gVals,gVals_len u n]
theorem gVals_mem {u:List V} (h:1≤u.length):∀n k v,v∈gVals u n k→v∈u
 | 0,_,_,hv=>by simp [gVals] at hv
 | n+1,k,v,hv=>by
  rcases b_.1 hv with rfl | hv
  ·have hlt:k % u.length<u.length:=Nat.mod_lt _ (by omega)
   rw [List.getD_eq_getElem?_getD,List.getElem?_eq_getElem hlt]
   exact List.getElem_mem _
  ·exact gVals_mem h n _ v hv
def inUV (u:List V) (f:FcV):Bool:=f.2.all fun t=>decide (t∈u)
def rvOf (r:Rl) (i:Int) (c:List Gl) (vs:List V):RV:=⟨(r.name,vs.take r.arity.toNat),i,vs,clsPos (valAt vs) c,clsNeg (valAt vs) c⟩
def rvFine (u:List V) (c:List Gl) (vs:List V):Bool:=clsHolds (valAt vs) c && (clsPos (valAt vs) c).all (inUV u) && (clsNeg (valAt vs) c).all (inUV u)
def rvK (u:List V) (r:Rl) (i:Int) (c:List Gl) (k:Nat):Option RV:=
 if rvFine u c (gVals u (r.arity+r.locals).toNat k)=true then some (rvOf r i c (gVals u (r.arity+r.locals).toNat k)) else none
def rvsC (u:List V) (r:Rl) (i:Int) (c:List Gl):Nat→Nat→List RV
 | _,0=>[]
 | k,m+1=>(rvK u r i c k).toList++rvsC u r i c (k+1) m
def rvsB (u:List V) (r:Rl) (n:Nat):Int→List (List Gl)→List RV
 | _,[]=>[]
 | i,c :: cs=>rvsC u r i c 0 n++rvsB u r n (i+1) cs
def Rl.ways (u:List V) (r:Rl):Nat:=u.length ^ (r.arity+r.locals).toNat
def Pg.gnd (u:List V):List Rl→List RV
 | []=>[]
 | r :: rs=>rvsB u r (r.ways u) 0 r.body.clsS++Pg.gnd u rs
def Rl.gOk (u:List V) (r:Rl):Bool:=decide (r.body.clsS.length≤64) && decide (r.ways u≤4096)
def Pg.gr (p:Pg) (u:List V):Option (List RV):=if p.rels.all (Rl.gOk u)=true∧(Pg.gnd u p.rels).length≤2000 then some (Pg.gnd u p.rels) else none
def RV.fires (F G:List FcV) (r:RV):Bool:=r.pos.all (fun f=>decide (f∈F)) && r.neg.all fun f=>!decide (f∈G)
def nextF (rs:List RV) (F G:List FcV):List FcV:=sortC FcV.cmp ((rs.filter (RV.fires F G)).map RV.head)
theorem nextF_mem {rs:List RV} {F G:List FcV} {f:FcV}:f∈nextF rs F G↔∃r,r∈rs∧r.fires F G=true∧r.head=f:=by
 unfold nextF
 rw [sortC_mem FcV.cmp_lin,d_]
 constructor
 ·rintro ⟨r,h1,h2⟩
  rw [List.mem_filter] at h1
  exact ⟨r,h1.1,h1.2,h2⟩
 ·rintro ⟨r,h1,h2,h3⟩
  exact ⟨r,List.mem_filter.2 ⟨h1,h2⟩,h3⟩
theorem nextF_asc (rs:List RV) (F G:List FcV):ascC FcV.cmp (nextF rs F G):=sortC_asc FcV.cmp_lin _
theorem nextF_sub {rs:List RV} {F F':List FcV} (h:∀f,f∈F→f∈F'):∀f,f∈nextF rs F []→f∈nextF rs F' []:=fun f hf=>by
 rw [nextF_mem] at hf ⊢
 obtain ⟨r,h1,h2,h3⟩:=hf
 refine ⟨r,h1,?_,h3⟩
 unfold RV.fires at h2 ⊢
 simp only [c_,List.all_eq_true,decide_eq_true_eq] at h2 ⊢
 exact ⟨fun x hx=>h x (h2.1 x hx),h2.2⟩
theorem ascC_len {α:Type} {c:α→α→Int} (h:Lin c):∀(l m:List α),ascC c l→ascC c m→(∀z,z∈l→z∈m)→l.length≤m.length∧(l.length=m.length→l=m)
 | [],m,_,_,_=>⟨by simp,fun e=>by cases m with | nil=>rfl | cons=>simp at e⟩
 | x :: r,[],_,_,hs=>by have:=hs x (by simp);simp at this
 | x :: r,y :: q,hl,hm,hs=>by
  have hl':=hl
  have hm':=hm
  unfold ascC at hl' hm'
  rw [a_] at hl' hm'
  rcases b_.1 (hs x (by simp)) with e | e
  ·subst e
   obtain ⟨i1,i2⟩:=ascC_len h r q hl'.2 hm'.2 (fun z hz=>by
    rcases b_.1 (hs z (by simp [hz])) with e | e
    ·subst e;have:=hl'.1 z hz;rw [h.irr] at this;omega
    ·exact e)
   exact ⟨by simp only [e_];omega,fun e=>by rw [i2 (by simpa using e)]⟩
  ·have h1:=hm'.1 x e
   obtain ⟨i1,i2⟩:=ascC_len h (x :: r) q hl hm'.2 (fun z hz=>by
    rcases b_.1 (hs z hz) with e' | e'
    ·subst e'
     rcases b_.1 hz with e2 | e2
     ·subst e2;rw [h.irr] at h1;omega
     ·have h2:=hl'.1 z e2
      have:=h.tr _ _ _ h1 h2;rw [h.irr] at this;omega
    ·exact e')
   refine ⟨by simp only [e_] at i1 ⊢;omega,fun e'=>?_⟩
   exfalso;simp only [e_] at i1 e';omega
def stg (rs:List RV):Nat→List FcV
 | 0=>[]
 | k+1=>nextF rs (stg rs k) []
theorem stg_asc (rs:List RV):∀k,ascC FcV.cmp (stg rs k)
 | 0=>List.Pairwise.nil
 | k+1=>nextF_asc _ _ _
theorem stg_sub (rs:List RV):∀k f,f∈stg rs k→f∈stg rs (k+1)
 | 0,f,h=>by simp [stg] at h
 | k+1,f,h=>nextF_sub (stg_sub rs k) f h
theorem stg_eq_len {rs:List RV} {k:Nat}:(stg rs (k+1)).length=(stg rs k).length↔stg rs (k+1)=stg rs k:=
 ⟨fun h=>((ascC_len FcV.cmp_lin _ _ (stg_asc rs k) (stg_asc rs (k+1)) (stg_sub rs k)).2 h.symm).symm,fun h=>by rw [h]⟩
def top (rs:List RV):Nat:=srch (fun k=>decide (stg rs (k+1)=stg rs k)) (rs.length+1)
def sways (b L:Nat):Nat→Nat→Nat
 | 0,k=>k
 | n+1,k=>if k≤L then sways b L n (k * b) else k
theorem sways_spec {b L:Nat} (hb:1≤b):∀n k,(k * b ^ n≤L→sways b L n k=k * b ^ n)∧(L<k * b ^ n→L<sways b L n k)
 | 0,k=>by simp [sways]
 | n+1,k=>by
  have e:k * b ^ (n+1)=k * b * b ^ n:=by rw [Nat.pow_succ,Nat.mul_comm (b ^ n) b,Nat.mul_assoc]
  obtain ⟨h1,h2⟩:=sways_spec (L:=L) hb n (k * b)
  have hp:1≤b ^ (n+1):=Nat.one_le_pow _ _ hb
  have hk:k≤k * b ^ (n+1):=Nat.le_mul_of_pos_right _ hp
  unfold sways
  rw [e] at hk ⊢
  split
  ·exact ⟨h1,h2⟩
  ·exact ⟨fun h=>by omega,fun h=>by omega⟩
theorem sways_ge {b L n k:Nat} (h:¬k≤L):sways b L n k=k:=by
 cases n with
 | zero=>rfl
 | succ n=>unfold sways;rw [if_neg h]
theorem sways_1 {b L n:Nat} (hb:1≤b):(b ^ n≤L↔sways b L n 1≤L)∧(b ^ n≤L→sways b L n 1=b ^ n):=by
 obtain ⟨h1,h2⟩:=sways_spec (L:=L) hb n 1
 rw [Nat.one_mul] at h1 h2
 refine ⟨⟨fun h=>by rw [h1 h];exact h,fun h=>?_⟩,h1⟩
 rcases Nat.lt_or_ge L (b ^ n) with h3 | h3
 ·have:=h2 h3;omega
 ·exact h3
theorem rvsC_s (u:List V) (r:Rl) (i:Int) (c:List Gl) (k m:Nat):rvsC u r i c k (m+1)=(rvK u r i c k).toList++rvsC u r i c (k+1) m:=rfl
theorem rvsB_s (u:List V) (r:Rl) (n:Nat) (i:Int) (c:List Gl) (cs:List (List Gl)):rvsB u r n i (c :: cs)=rvsC u r i c 0 n++rvsB u r n (i+1) cs:=rfl
theorem Pg.dims {p:Pg} (h:pgOk p=true) {r:Rl} (hr:r∈p.rels):0≤r.arity∧r.arity≤4∧0≤r.locals∧r.locals≤8:=by
 unfold pgOk at h
 simp only [c_] at h
 obtain ⟨i,hi⟩:=okL_mem h.2 r hr
 unfold Pg.relOk at hi
 simp only [c_,decide_eq_true_eq] at hi
 obtain ⟨⟨⟨⟨⟨⟨⟨_,_⟩,ha⟩,hl⟩,_⟩,_⟩,_⟩,_⟩:=hi
 exact ⟨ha.1,ha.2,hl.1,hl.2⟩
end Go.Abs

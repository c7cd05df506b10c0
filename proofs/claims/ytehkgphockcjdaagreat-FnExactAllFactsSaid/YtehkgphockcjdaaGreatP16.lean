import Derived.Test.YtehkgphockcjdaaGreatP10
import Derived.Test.YtehkgphockcjdaaGreatP8
import Derived.Test.YtehkgphockcjdaaGreatP9
import Derived.Test.YtehkgphockcjdaaGreatP12
open List renaming length_cons→a_,getElem?_eq_getElem→b_,foldl_cons→c_,getD_eq_getElem?_getD→d_,pairwise_iff_getElem→e_,mem_flatMap→f_,mem_map→g_,flatMap_cons→h_,eq_nil_of_length_eq_zero→k_
open Nat renaming pow_succ→i_,zero_add→l_
open Bool renaming and_eq_true→j_
set_option linter.unusedVariables false
set_option linter.unusedSimpArgs false
namespace Go.Abs
def dyk:Nat→List (List UInt8)→Option Nat
 | d,[]=>some d
 | d,t :: r=>if t=[40] then dyk (d+1) r else if t=[41] then (match d with | 0=>none | d+1=>dyk d r) else dyk d r
def clo:Nat→List (List UInt8)→Option Nat
 | _,[]=>none
 | d,t :: r=>if t=[40] then (clo (d+1) r).map (·+1) else if t=[41] then (match d with | 0=>some 0 | d+1=>(clo d r).map (·+1)) else (clo d r).map (·+1)
def asgF (u:List V):Nat→List (List V)
 | 0=>[[]]
 | n+1=>(asgF u n).flatMap fun r=>u.map fun t=>r++[t]
theorem asgF_mem (u:List V):∀(n:Nat) (x:List V),x∈asgF u n↔x.length=n∧∀v,v∈x→v∈u
 | 0,x=>by
  simp only [asgF,List.mem_singleton]
  constructor
  ·rintro rfl;exact ⟨rfl,fun v hv=>by cases hv⟩
  ·rintro ⟨h,_⟩;exact k_ h
 | n+1,x=>by
  simp only [asgF,f_,g_]
  constructor
  ·rintro ⟨r,hr,t,ht,rfl⟩
   obtain ⟨h1,h2⟩:=(asgF_mem u n r).1 hr
   refine ⟨by simp [h1],fun v hv=>?_⟩
   rcases List.mem_append.1 hv with hv | hv
   ·exact h2 v hv
   ·rw [List.mem_singleton] at hv;subst hv;exact ht
  ·rintro ⟨h1,h2⟩
   rcases List.eq_nil_or_concat x with rfl | ⟨r,t,rfl⟩
   ·simp at h1
   ·rw [List.concat_eq_append] at *
    refine ⟨r,(asgF_mem u n r).2 ⟨by simpa using h1,fun v hv=>h2 v (by simp [hv])⟩,t,h2 t (by simp),rfl⟩
theorem asgF_len (u:List V):∀n:Nat,(asgF u n).length=u.length ^ n
 | 0=>rfl
 | n+1=>by
  rw [asgF,List.length_flatMap]
  have h:(asgF u n).map (fun r=>(u.map fun t=>r++[t]).length)=(asgF u n).map (fun _=>u.length):=List.map_congr_left (fun r _=>by simp)
  rw [h,i_,←asgF_len u n]
  generalize asgF u n=l
  induction l with
  | nil=>simp
  | cons a r ih=>simp only [List.map_cons,List.sum_cons,ih,a_,Nat.add_mul,Nat.one_mul];omega
theorem nodup_at {α:Type} {l:List α} (hn:l.Nodup) {i j:Nat} (hi:i<l.length) (hj:j<l.length) (h:l[i]=l[j]):i=j:=by
 have hp:=e_.1 hn
 rcases Nat.lt_trichotomy i j with hlt | he | hlt
 ·exact absurd h (hp i j hi hj hlt)
 ·exact he
 ·exact absurd h.symm (hp j i hj hi hlt)
theorem gVals_has {u:List V} (h:1≤u.length):∀(n:Nat) (x:List V),x.length=n→(∀v,v∈x→v∈u)→∃k,k<u.length ^ n∧gVals u n k=x
 | 0,x,h1,_=>⟨0,by simp,by rw [k_ h1];rfl⟩
 | n+1,[],h1,_=>by simp at h1
 | n+1,v :: r,h1,h2=>by
  obtain ⟨k,hk,hg⟩:=gVals_has h n r (by simpa using h1) (fun w hw=>h2 w (by simp [hw]))
  obtain ⟨i,hi⟩:=List.getElem?_of_mem (h2 v (by simp))
  have hil:=(List.getElem?_eq_some_iff.1 hi).1
  have e1:(i+u.length * k) % u.length=i:=by rw [Nat.add_mul_mod_self_left,Nat.mod_eq_of_lt hil]
  have e2:(i+u.length * k) / u.length=k:=by rw [Nat.add_mul_div_left _ _ (by omega),Nat.div_eq_of_lt hil,l_]
  refine ⟨i+u.length * k,?_,?_⟩
  ·have h3:u.length * (k+1)≤u.length * u.length ^ n:=Nat.mul_le_mul_left _ hk
   rw [i_,Nat.mul_comm (u.length ^ n)]
   rw [Nat.mul_add] at h3;omega
  ·rw [gVals,e1,e2,hg,d_,hi];rfl
theorem gVals_inj {u:List V} (hn:u.Nodup) (h:1≤u.length):∀(n k k':Nat),k<u.length ^ n→k'<u.length ^ n→gVals u n k=gVals u n k'→k=k'
 | 0,k,k',h1,h2,_=>by simp at h1 h2;omega
 | n+1,k,k',h1,h2,he=>by
  rw [gVals,gVals,List.cons.injEq] at he
  have hd:∀x,x<u.length ^ (n+1)→x / u.length<u.length ^ n:=fun x hx=>by
   rw [Nat.div_lt_iff_lt_mul (by omega),←i_];exact hx
  have hq:=gVals_inj hn h n _ _ (hd k h1) (hd k' h2) he.2
  have m1:k % u.length<u.length:=Nat.mod_lt _ (by omega)
  have m2:k' % u.length<u.length:=Nat.mod_lt _ (by omega)
  have he1:=he.1
  rw [d_,d_,b_ m1,b_ m2] at he1
  simp only [Option.getD_some] at he1
  have hm:k % u.length=k' % u.length:=nodup_at hn m1 m2 he1
  rw [←Nat.div_add_mod k u.length,←Nat.div_add_mod k' u.length,hq,hm]
theorem sways_pow {b L:Nat} (hb:1≤b):∀n k,sways b L n k≤k * b ^ n
 | 0,k=>by simp [sways]
 | n+1,k=>by
  have e:k * b ^ (n+1)=k * b * b ^ n:=by rw [i_,Nat.mul_comm (b ^ n) b,Nat.mul_assoc]
  unfold sways
  split
  ·rw [e];exact sways_pow hb n (k * b)
  ·exact Nat.le_mul_of_pos_right _ (Nat.one_le_pow _ _ hb)
def relF (u:List V) (r:Rl):List FcV:=(asgF u r.arity.toNat).map fun x=>(r.name,x)
def seqF (u:List V) (r:Rl):List FcV:=(List.range (sways u.length 2000 r.arity.toNat 1)).map fun k=>(r.name,gVals u r.arity.toNat k)
def nF (u:List V):List Rl→Nat
 | []=>0
 | r :: q=>min (sways u.length 2000 r.arity.toNat 1) 2001+nF u q
def allI (p:Pg) (u:List V):Option (List FcV):=if nF u p.rels≤2000 then some (sortC FcV.cmp (p.rels.flatMap (relF u))) else none
def addF (F:List FcV) (x:FcV):List FcV:=if F.length≤2000 then insC FcV.cmp F x else F
def allS (p:Pg) (u:List V):Option (List FcV):=if ((p.rels.flatMap (seqF u)).foldl addF []).length≤2000 then some ((p.rels.flatMap (seqF u)).foldl addF []) else none
theorem seqF_len (u:List V) (r:Rl):(seqF u r).length=sways u.length 2000 r.arity.toNat 1:=by simp [seqF]
theorem seqF_nodup {u:List V} (hn:u.Nodup) (h:1≤u.length) (r:Rl):(seqF u r).Nodup:=by
 unfold seqF
 have hw:=sways_pow (b:=u.length) (L:=2000) h r.arity.toNat 1
 rw [Nat.one_mul] at hw
 unfold List.Nodup
 rw [List.pairwise_map,e_]
 intro i j hi hj hij he
 simp only [List.length_range] at hi hj
 simp only [List.getElem_range] at he
 have:=gVals_inj hn h _ _ _ (by omega) (by omega) (Prod.mk.inj he).2
 omega
theorem seqF_mem {u:List V} (h:1≤u.length) {r:Rl} (hw:sways u.length 2000 r.arity.toNat 1≤2000) (f:FcV):f∈seqF u r↔f∈relF u r:=by
 have e:=(sways_1 (L:=2000) (n:=r.arity.toNat) h)
 have e2:=e.2 (e.1.2 hw)
 unfold seqF relF
 rw [e2]
 simp only [g_,List.mem_range]
 constructor
 ·rintro ⟨k,_,rfl⟩
  exact ⟨_,(asgF_mem u _ _).2 ⟨gVals_len u _ k,gVals_mem h _ k⟩,rfl⟩
 ·rintro ⟨x,hx,rfl⟩
  obtain ⟨h1,h2⟩:=(asgF_mem u _ _).1 hx
  obtain ⟨k,hk,hg⟩:=gVals_has h _ x h1 h2
  exact ⟨k,hk,by rw [hg]⟩
theorem nF_le {u:List V}:∀l:List Rl,nF u l≤2000→(∀r,r∈l→sways u.length 2000 r.arity.toNat 1≤2000)∧(l.flatMap (seqF u)).length=nF u l
 | [],_=>⟨fun r hr=>(by cases hr),rfl⟩
 | r :: q,h=>by
  simp only [nF] at h
  obtain ⟨h1,h2⟩:=nF_le (u:=u) q (by omega)
  refine ⟨fun x hx=>?_,?_⟩
  ·rcases List.mem_cons.1 hx with rfl | hx
   ·omega
   ·exact h1 x hx
  ·rw [h_,List.length_append,h2,seqF_len,nF];omega
theorem nF_gt {u:List V}:∀l:List Rl,nF u l≤(l.flatMap (seqF u)).length
 | []=>Nat.le_refl _
 | r :: q=>by
  have:=nF_gt (u:=u) q
  rw [h_,List.length_append,seqF_len,nF];omega
theorem insF_new {l:List FcV} {x:FcV} (h:x∉l):(insC FcV.cmp l x).length=l.length+1:=by
 induction l with
 | nil=>rfl
 | cons y r ih =>
  simp only [List.mem_cons,not_or] at h
  unfold insC
  split
  ·simp only [a_,ih h.2]
  ·split
   ·rename_i e
    exact absurd ((FcV.cmp_lin.zero _ _).1 e).symm h.1
   ·simp
theorem insF_up {l:List FcV} {x:FcV}:(insC FcV.cmp l x).length≤l.length+1:=by
 induction l with
 | nil=>simp [insC]
 | cons y q ih =>
  unfold insC
  split
  ·simp only [a_];omega
  ·split<;>simp only [a_]<;>omega
theorem addF_few:∀(S F:List FcV),F.length+S.length≤2001→S.foldl addF F=S.foldl (insC FcV.cmp) F
 | [],F,_=>rfl
 | x :: S,F,h=>by
  simp only [a_] at h
  have e:addF F x=insC FcV.cmp F x:=if_pos (by omega)
  rw [c_,c_,e]
  exact addF_few S _ (by have:=insF_up (l:=F) (x:=x);omega)
theorem addF_stop:∀(S F:List FcV),¬F.length≤2000→S.foldl addF F=F
 | [],F,_=>rfl
 | x :: S,F,h=>by
  have e:addF F x=F:=if_neg h
  rw [c_,e]
  exact addF_stop S F h
theorem addF_many:∀(S F:List FcV),S.Nodup→(∀x,x∈S→x∉F)→F.length≤2001→(S.foldl addF F).length=min (F.length+S.length) 2001
 | [],F,_,_,h=>by simp only [List.foldl_nil,List.length_nil];omega
 | x :: S,F,hn,hx,h=>by
  obtain ⟨n1,n2⟩:=List.nodup_cons.1 hn
  by_cases hF:F.length≤2000
  ·have e:addF F x=insC FcV.cmp F x:=if_pos hF
   have hl:=insF_new (hx x (by simp))
   rw [c_,e,addF_many S _ n2 (fun y hy hm=>?_) (by omega),hl,a_]
   ·congr 1;omega
   ·rcases (insC_mem FcV.cmp_lin F x y).1 hm with rfl | hm
    ·exact n1 hy
    ·exact hx y (by simp [hy]) hm
  ·rw [addF_stop _ _ hF,a_];omega
theorem sortF_len:∀(S F:List FcV),(S.foldl (insC FcV.cmp) F).length≤F.length+S.length
 | [],F=>by simp
 | x :: S,F=>by
  have h1:=sortF_len S (insC FcV.cmp F x)
  have h2:=insF_up (l:=F) (x:=x)
  simp only [c_,a_];omega
theorem okL_at {p:Pg}:∀(l:List Rl),p.okL l=true→l.length≤p.rels.length→∀(i:Nat) (r:Rl),l[i]? = some r→p.relOk (p.rels.length - l.length+i) r=true
 | [],_,_,i,r,hr=>by simp at hr
 | x :: q,ho,hl,i,r,hr=>by
  simp only [Pg.okL,j_] at ho
  simp only [a_] at hl ⊢
  match i with
  | 0=>simp at hr;subst hr;exact ho.1
  | i+1 =>
   have:=okL_at q ho.2 (by omega) i r (by simpa using hr)
   rw [show p.rels.length - (q.length+1)+(i+1)=p.rels.length - q.length+i by omega]
   exact this
theorem names_pw {p:Pg} (hp:pgOk p=true):p.rels.Pairwise (fun a b=>a.name≠b.name):=by
 unfold pgOk at hp
 simp only [j_] at hp
 have hf:∀(i:Nat) (r:Rl),p.rels[i]? = some r→p.find r.name=(i:Int):=fun i r hr=>by
  have:=okL_at p.rels hp.2 (Nat.le_refl _) i r hr
  rw [Nat.sub_self,l_] at this
  unfold Pg.relOk at this
  simp only [j_,decide_eq_true_eq] at this
  exact this.1.1.1.1.1.1.1
 rw [e_]
 intro i j hi hj hij he
 have h1:=hf i _ (b_ hi)
 have h2:=hf j _ (b_ hj)
 rw [he,h2] at h1
 omega
theorem all_nodup {u:List V} (hn:u.Nodup) (h:1≤u.length):∀l:List Rl,l.Pairwise (fun a b=>a.name≠b.name)→(l.flatMap (seqF u)).Nodup
 | [],_=>List.nodup_nil
 | r :: q,hp=>by
  obtain ⟨h1,h2⟩:=List.pairwise_cons.1 hp
  rw [h_,List.nodup_append]
  refine ⟨seqF_nodup hn h r,all_nodup hn h q h2,fun a ha b hb e=>?_⟩
  subst e
  obtain ⟨x,hx,hax⟩:=f_.1 hb
  obtain ⟨_,_,e1⟩:=g_.1 ha
  obtain ⟨_,_,e2⟩:=g_.1 hax
  have:r.name=x.name:=(Prod.mk.inj (e1.trans e2.symm)).1
  exact h1 x hx this
theorem Uni.nodup {u:List V} (h:Uni u):u.Nodup:=by
 have:=h.asc
 unfold ascC at this
 exact this.imp (fun {a b} hab e=>by subst e;rw [V.cmp_lin.irr a] at hab;omega)
theorem all_same {p:Pg} {u:List V} (hp:pgOk p=true) (hu:Uni u):allS p u=allI p u:=by
 have h1:=hu.pos
 unfold allS allI
 by_cases hc:nF u p.rels≤2000
 ·rw [if_pos hc]
  obtain ⟨c1,c2⟩:=nF_le p.rels hc
  have e:(p.rels.flatMap (seqF u)).foldl addF []=sortC FcV.cmp (p.rels.flatMap (seqF u)):=addF_few _ [] (by rw [c2];simp;omega)
  have e2:sortC FcV.cmp (p.rels.flatMap (seqF u))=sortC FcV.cmp (p.rels.flatMap (relF u)):=by
   refine ascC_ext FcV.cmp_lin _ _ (sortC_asc FcV.cmp_lin _) (sortC_asc FcV.cmp_lin _) (fun z=>?_)
   rw [sortC_mem FcV.cmp_lin,sortC_mem FcV.cmp_lin,f_,f_]
   constructor
   ·rintro ⟨r,hr,hz⟩;exact ⟨r,hr,(seqF_mem h1 (c1 r hr) z).1 hz⟩
   ·rintro ⟨r,hr,hz⟩;exact ⟨r,hr,(seqF_mem h1 (c1 r hr) z).2 hz⟩
  have hl:=sortF_len (p.rels.flatMap (seqF u)) []
  rw [e,←e2,if_pos]
  show ((p.rels.flatMap (seqF u)).foldl (insC FcV.cmp) []).length≤2000
  rw [c2] at hl
  simpa using Nat.le_trans hl (by simpa using hc)
 ·rw [if_neg hc]
  have hm:=addF_many (p.rels.flatMap (seqF u)) [] (all_nodup hu.nodup h1 p.rels (names_pw hp)) (fun x _ h=>by cases h) (by simp)
  have hg:=nF_gt (u:=u) p.rels
  rw [if_neg (by rw [hm];simp only [List.length_nil,l_];omega)]
end Go.Abs

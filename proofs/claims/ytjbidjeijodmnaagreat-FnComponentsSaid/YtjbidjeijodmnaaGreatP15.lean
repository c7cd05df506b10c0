import Derived.Test.YtjbidjeijodmnaaGreatP9
import Derived.Test.YtjbidjeijodmnaaGreatP4
import Derived.Test.YtjbidjeijodmnaaGreatP12
import Derived.Test.YtjbidjeijodmnaaGreatP14
set_option linter.unusedVariables false
set_option linter.unusedSimpArgs false
namespace Go.Abs
structure PlI (C:List (List Int)) (t:Int→Bool) (k:Int) (PL:List Int):Prop where
 len:PL.length=C.length
 cl:Clsd C t
 rg:∀i,t i=true→0≤i∧i<C.length
 tk:∀i:Int,t i=true→0≤PL.getD i.toNat 0∧PL.getD i.toNat 0<k
 un:∀i:Int,0≤i→i<C.length→t i=false→PL.getD i.toNat 0=-1
 od:∀i x:Int,t i=true→x∈relRow C i→PL.getD x.toNat 0≤PL.getD i.toNat 0
def plSet (k:Int) (PL:List Int) (c:List Int):List Int:=c.foldl (fun l r=>l.set r.toNat k) PL
theorem plSet_len (k:Int):∀(c:List Int) (PL:List Int),(plSet k PL c).length=PL.length
 | [],_=>rfl
 | r :: c,PL=>by
  show (plSet k (PL.set r.toNat k) c).length=_
  rw [plSet_len k c,List.length_set]
theorem plSet_at {k:Int}:∀(c:List Int) (PL:List Int) (x:Int),(∀r,r∈c→0≤r∧r<PL.length)→0≤x→(plSet k PL c).getD x.toNat 0=if x∈c then k else PL.getD x.toNat 0
 | [],_,_,_,_=>by simp [plSet]
 | r :: c,PL,x,h,hx=>by
  show (plSet k (PL.set r.toNat k) c).getD x.toNat 0=_
  obtain ⟨h0,h1⟩:=h r (by simp)
  rw [plSet_at c (PL.set r.toNat k) x (fun y hy=>by rw [List.length_set];exact h y (by simp [hy])) hx,getD_set _ (by omega)]
  by_cases hc:x∈c
  ·rw [if_pos hc,if_pos (List.mem_cons_of_mem _ hc)]
  ·rw [if_neg hc]
   by_cases hr:x=r
   ·subst hr;rw [if_pos rfl,if_pos (by simp)]
   ·rw [if_neg (by omega),if_neg (by simp [hr,hc])]
theorem PlI.step {C:List (List Int)} (hC:RelRows C) {t:Int→Bool} {k:Int} {PL:List Int} (h:PlI C t k PL) (hk:0≤k) {i:Int} (hi:0≤i∧i<C.length) (hf:cpFree C t i=true):PlI C (cpTake C t i) (k+1) (plSet k PL (cpC C i)):=by
 obtain ⟨hti,hfr⟩:=(cpFree_iff hC).1 hf
 have hrg:∀r,r∈cpC C i→0≤r∧r<PL.length:=fun r hr=>by rw [h.len];exact (cpC_mem.1 hr).1
 have hdis:∀r,r∈cpC C i→t r=false:=fun r hr=>by
  cases ht:t r with
  | false=>rfl
  | true =>
   rcases cpM_iff.1 (cpC_mem.1 hr).2 with rfl | ⟨_,h2⟩
   ·rw [hti] at ht;cases ht
   ·have:=h.cl r i ht h2
    rw [hti] at this;cases this
 have hat:∀x:Int,0≤x→(plSet k PL (cpC C i)).getD x.toNat 0=if x∈cpC C i then k else PL.getD x.toNat 0:=fun x hx=>plSet_at _ _ x hrg hx
 have htk:∀x,cpTake C t i x=true↔t x=true∨x∈cpC C i:=fun x=>by unfold cpTake;simp
 refine ⟨by rw [plSet_len];exact h.len,cpTake_clsd hC h.cl hf,fun x hx=>?_,fun x hx=>?_,fun x h0 h1 hx=>?_,fun x y hx hy=>?_⟩
 ·rcases (htk x).1 hx with hx | hx
  ·exact h.rg x hx
  ·exact (cpC_mem.1 hx).1
 ·rcases (htk x).1 hx with hx | hx
  ·obtain ⟨a,b⟩:=h.tk x hx
   rw [hat x (h.rg x hx).1,if_neg (fun hm=>by rw [hdis x hm] at hx;cases hx)]
   exact ⟨a,by omega⟩
  ·rw [hat x (cpC_mem.1 hx).1.1,if_pos hx]
   exact ⟨hk,by omega⟩
 ·have hno:¬(t x=true∨x∈cpC C i):=fun hh=>by rw [(htk x).2 hh] at hx;cases hx
  rw [not_or] at hno
  rw [hat x h0,if_neg hno.2]
  exact h.un x h0 h1 (by simpa using hno.1)
 ·have hrcx:=rc_row hC hy
  have hyr:=rc_range hC hrcx
  rcases (htk x).1 hx with hx | hx
  ·have hty:=h.cl x y hx hrcx
   rw [hat y hyr.1,hat x (h.rg x hx).1,if_neg (fun hm=>by rw [hdis y hm] at hty;cases hty),if_neg (fun hm=>by rw [hdis x hm] at hx;cases hx)]
   exact h.od x y hx hy
  ·have hiy:rc C i y=true:=by
    rcases cpM_iff.1 (cpC_mem.1 hx).2 with rfl | ⟨h1,_⟩
    ·exact hrcx
    ·exact rc_trans hC h1 hrcx
   rw [hat y hyr.1,hat x (cpC_mem.1 hx).1.1,if_pos hx]
   rcases hfr y hiy with hm | hm
   ·rw [if_pos hm];exact Int.le_refl _
   ·rw [if_neg (fun hmm=>by rw [hdis y hmm] at hm;cases hm)]
    have:=(h.tk y hm).2
    omega
theorem PlI.fresh {C:List (List Int)} (hC:RelRows C) {t:Int→Bool} {k:Int} {PL:List Int} (h:PlI C t k PL) {i:Int} (hf:cpFree C t i=true) {pre:List Int} {r:Int} {post:List Int} (hs:cpC C i=pre++r :: post):(0≤r∧r<C.length)∧(plSet k PL pre).length=C.length∧(plSet k PL pre).getD r.toNat 0=-1:=by
 obtain ⟨hti,hfr⟩:=(cpFree_iff hC).1 hf
 have hm:r∈cpC C i:=by rw [hs];simp
 have hr:=(cpC_mem.1 hm).1
 have hrg:∀y,y∈pre→0≤y∧y<PL.length:=fun y hy=>by rw [h.len];exact (cpC_mem.1 (by rw [hs];simp [hy]:y∈cpC C i)).1
 have htr:t r=false:=by
  cases ht:t r with
  | false=>rfl
  | true =>
   rcases cpM_iff.1 (cpC_mem.1 hm).2 with rfl | ⟨_,h2⟩
   ·rw [hti] at ht;cases ht
   ·have:=h.cl r i ht h2
    rw [hti] at this;cases this
 have hnp:r∉pre:=fun hp=>by
  have ha:=cpC_asc C i
  rw [hs] at ha
  unfold Asc at ha
  have:=(List.pairwise_append.1 ha).2.2 r hp r (by simp)
  omega
 exact ⟨hr,by rw [plSet_len];exact h.len,by rw [plSet_at pre PL r hrg hr.1,if_neg hnp];exact h.un r hr.1 hr.2 htr⟩
def unt (C:List (List Int)) (t:Int→Bool):Nat:=((rngI C.length).filter fun x=>!t x).length
theorem unt_take {C:List (List Int)} {t:Int→Bool} {i:Int} (hi:0≤i∧i<C.length) (ht:t i=false):unt C (cpTake C t i)<unt C t:=
 filter_lt (fun x hx=>by
  unfold cpTake at hx
  simp only [Bool.not_eq_true',Bool.or_eq_false_iff] at hx
  simp [hx.1]) (rngI_mem.2 hi) (by simp [ht]) (by simp [cpTake,cpC_self hi])
def PlR (C:List (List Int)) (r:List (List Int)) (k:Int) (PL:List Int):Prop:=∃f t,r=cps C f t∧unt C t≤f∧PlI C t k PL
theorem PlR.init (C:List (List Int)):PlR C (cpsV C) 0 (List.replicate C.length (-1)):=by
 refine ⟨C.length,fun _=>false,rfl,by unfold unt;have:=List.length_filter_le (fun x:Int=>!(fun _=>false) x) (rngI C.length);rw [rngI_len] at this;exact this,by simp,fun i k h=>(by cases h),fun i h=>(by cases h),fun i h=>(by cases h),fun i h0 h1 _=>?_,fun i x h=>(by cases h)⟩
 rw [List.getD_eq_getElem?_getD,List.getElem?_replicate,if_pos (by omega)];rfl
theorem PlR.next {C:List (List Int)} (hC:RelRows C) {c:List Int} {r:List (List Int)} {k:Int} {PL:List Int} (hk:0≤k) (h:PlR C (c :: r) k PL):PL.length=C.length∧(∀(pre:List Int) (x:Int) (post:List Int),c=pre++x :: post→(0≤x∧x<C.length)∧(plSet k PL pre).length=C.length∧(plSet k PL pre).getD x.toNat 0=-1)∧PlR C r (k+1) (plSet k PL c):=by
 obtain ⟨f,t,hr,hu,hp⟩:=h
 cases f with
 | zero=>simp [cps] at hr
 | succ f =>
  cases hn:cpNext C t with
  | none=>rw [cps_none hn] at hr;cases hr
  | some i =>
   rw [cps_some hn] at hr
   obtain ⟨rfl,rfl⟩:=List.cons.inj hr
   obtain ⟨hi,hf⟩:=cpNext_some hn
   have hti:=((cpFree_iff hC).1 hf).1
   have:=unt_take hi hti
   exact ⟨hp.len,fun pre x post hs=>hp.fresh hC hf hs,f,_,rfl,by omega,hp.step hC hk hi hf⟩
theorem PlR.done {C:List (List Int)} (hC:RelRows C) {k:Int} {PL:List Int} (h:PlR C [] k PL):PL.length=C.length∧(∀i:Nat,i<C.length→0≤PL.getD i 0)∧∀(i:Nat) (x:Int),i<C.length→x∈relRow C i→(0≤x∧x<C.length)∧PL.getD x.toNat 0≤PL.getD i 0:=by
 obtain ⟨f,t,hr,hu,hp⟩:=h
 have hall:∀i:Int,0≤i∧i<C.length→t i=true:=fun i hi=>by
  cases ht:t i with
  | true=>rfl
  | false =>
   obtain ⟨j,hj,hf⟩:=cp_some hC _ i hi ht (Nat.le_refl _)
   have hpos:0<unt C t:=List.length_pos_of_mem (List.mem_filter.2 ⟨rngI_mem.2 hi,by simp [ht]⟩)
   cases f with
   | zero=>omega
   | succ f =>
    cases hn:cpNext C t with
    | none=>exact absurd hf (List.find?_eq_none.1 hn j (rngI_mem.2 hj))
    | some i=>rw [cps_some hn] at hr;cases hr
 refine ⟨hp.len,fun i hi=>?_,fun i x hi hx=>?_⟩
 ·have:=(hp.tk (i:Int) (hall _ (by omega))).1
  rwa [Int.toNat_natCast] at this
 ·have hxr:=rc_range hC (rc_row hC hx)
  have:=hp.od (i:Int) x (hall _ (by omega)) hx
  rw [Int.toNat_natCast] at this
  exact ⟨hxr,this⟩
theorem Gl.callsI_pos (g:Gl):g.only false=true→g.callsI true false=[]:=by
 induction g using Gl.ind' with
 | h g ih =>
  intro h
  rw [Gl.only_eq,Bool.and_eq_true] at h
  have hk:decide (g.kind=10)=false:=by
   have:=h.2
   unfold Gl.onlyK at this
   simp only [Bool.and_eq_true,decide_eq_true_eq] at this
   simpa using this.1
  rw [Gl.callsI_eq,hk,Bool.or_false,if_neg (by simp),List.nil_append]
  have hg:=List.all_eq_true.1 h.1
  have:∀l:List Gl,(∀x,x∈l→x∈g.goals)→Gl.callsIs true l false=[]:=by
   intro l
   induction l with
   | nil=>intro _;simp [Gl.callsIs]
   | cons x r ihr =>
    intro hl
    have hx:=hl x (by simp)
    simp only [Gl.callsIs]
    rw [ih x hx (hg x hx),ihr (fun y hy=>hl y (by simp [hy]))];rfl
  exact this g.goals (fun _ hx=>hx)
theorem Pg.zero_least {p:Pg} (h:p.all false=true):p.Least (List.replicate p.rels.length 0):=by
 unfold Pg.all at h
 rw [Bool.and_eq_true] at h
 have hz:∀i:Nat,(List.replicate p.rels.length (0:Int)).getD i 0=0:=fun i=>by
  rw [List.getD_eq_getElem?_getD,List.getElem?_replicate];split<;>rfl
 refine ⟨⟨by simp,fun i _=>by rw [hz];exact Int.le_refl _,fun i r hr e he=>?_⟩,fun s hs i=>?_⟩
 ·unfold Pg.sat
  rw [hz,hz]
  have hpos:=Gl.callsI_pos r.body (List.all_eq_true.1 h.2 r (List.mem_of_getElem? hr))
  unfold Rl.edges at he
  rw [hpos,List.map_nil,List.append_nil] at he
  obtain ⟨n,_,rfl⟩:=List.mem_map.1 he
  exact Int.le_refl _
 ·rw [hz]
  by_cases hi:i<s.length
  ·exact hs.2.1 i hi
  ·rw [List.getD_eq_getElem?_getD,List.getElem?_eq_none (by omega)];exact Int.le_refl _
theorem Pg.strata_of (p:Pg):∃B V,p.StV B V∧(B=true→p.Sol V)∧(B=false→p.all false=false)∧(B=true→p.all false=true→∀i:Nat,V.getD i 0=0):=by
 rcases Classical.em (∃s,p.Least s) with ⟨s,h⟩ | h
 ·refine ⟨true,s,⟨fun t ht=>⟨rfl,Pg.least_one h ht⟩,fun hn=>absurd ⟨s,h.1⟩ hn,Nat.le_of_eq h.1.1⟩,fun _=>h.1,fun h=>(by cases h),fun _ ha i=>?_⟩
  rw [Pg.least_one h (Pg.zero_least ha),List.getD_eq_getElem?_getD,List.getElem?_replicate];split<;>rfl
 ·refine ⟨false,[],⟨fun t ht=>absurd ⟨t,ht⟩ h,fun _=>⟨rfl,rfl⟩,Nat.zero_le _⟩,fun h=>(by cases h),fun _=>?_,fun h=>(by cases h)⟩
  cases ha:p.all false with
  | false=>rfl
  | true=>exact absurd ⟨_,Pg.zero_least ha⟩ h
end Go.Abs
set_option linter.unusedVariables false
set_option linter.unusedSimpArgs false
namespace Go.Abs
open Go
end Go.Abs

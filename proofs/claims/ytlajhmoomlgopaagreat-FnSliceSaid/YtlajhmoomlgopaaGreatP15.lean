import Derived.Test.YtlajhmoomlgopaaGreatP9
import Derived.Test.YtlajhmoomlgopaaGreatP4
import Derived.Test.YtlajhmoomlgopaaGreatP12
import Derived.Test.YtlajhmoomlgopaaGreatP14
open List renaming length_append→a_
set_option linter.unusedVariables false
set_option linter.unusedSimpArgs false
namespace Go.Abs
structure PlI (C:List (List Int)) (t:Int→Bool) (k:Int) (PL:List Int):Prop where
 len:PL.length=C.length
 cl:Clsd C t
 rg:∀i,t i=true→0≤i∧i<C.length
 tk:∀i:Int,t i=true→0≤PL.getD i.toNat 0∧PL.getD i.toNat 0<k
 un:∀i:Int,0≤i→i<C.length→t i=false→PL.getD i.toNat 0=-1
 od:∀i x:Int,t i=true→x∈relRow C i→PL.getD x.toNat 0≤PL.getD i.toNat 0
def plSet (k:Int) (PL:List Int) (c:List Int):List Int:=c.foldl (fun l r=>l.set r.toNat k) PL
theorem plSet_len (k:Int):∀(c:List Int) (PL:List Int),(plSet k PL c).length=PL.length
 | [],_=>rfl
 | r :: c,PL=>by
  show (plSet k (PL.set r.toNat k) c).length=_
  rw [plSet_len k c,List.length_set]
theorem plSet_at {k:Int}:∀(c:List Int) (PL:List Int) (x:Int),(∀r,r∈c→0≤r∧r<PL.length)→0≤x→(plSet k PL c).getD x.toNat 0=if x∈c then k else PL.getD x.toNat 0
 | [],_,_,_,_=>by simp [plSet]
 | r :: c,PL,x,h,hx=>by
  show (plSet k (PL.set r.toNat k) c).getD x.toNat 0=_
  obtain ⟨h0,h1⟩:=h r (by simp)
  rw [plSet_at c (PL.set r.toNat k) x (fun y hy=>by rw [List.length_set];exact h y (by simp [hy])) hx,getD_set _ (by omega)]
  by_cases hc:x∈c
  ·rw [if_pos hc,if_pos (List.mem_cons_of_mem _ hc)]
  ·rw [if_neg hc]
   by_cases hr:x=r
   ·subst hr;rw [if_pos rfl,if_pos (by simp)]
   ·rw [if_neg (by omega),if_neg (by simp [hr,hc])]
theorem PlI.step {C:List (List Int)} (hC:RelRows C) {t:Int→Bool} {k:Int} {PL:List Int} (h:PlI C t k PL) (hk:0≤k) {i:Int} (hi:0≤i∧i<C.length) (hf:cpFree C t i=true):PlI C (cpTake C t i) (k+1) (plSet k PL (cpC C i)):=by
 obtain ⟨hti,hfr⟩:=(cpFree_iff hC).1 hf
 have hrg:∀r,r∈cpC C i→0≤r∧r<PL.length:=fun r hr=>by rw [h.len];exact (cpC_mem.1 hr).1
 have hdis:∀r,r∈cpC C i→t r=false:=fun r hr=>by
  cases ht:t r with
  | false=>rfl
  | true =>
   rcases cpM_iff.1 (cpC_mem.1 hr).2 with rfl | ⟨_,h2⟩
   ·rw [hti] at ht;cases ht
   ·have:=h.cl r i ht h2
    rw [hti] at this;cases this
 have hat:∀x:Int,0≤x→(plSet k PL (cpC C i)).getD x.toNat 0=if x∈cpC C i then k else PL.getD x.toNat 0:=fun x hx=>plSet_at _ _ x hrg hx
 have htk:∀x,cpTake C t i x=true↔t x=true∨x∈cpC C i:=fun x=>by unfold cpTake;simp
 refine ⟨by rw [plSet_len];exact h.len,cpTake_clsd hC h.cl hf,fun x hx=>?_,fun x hx=>?_,fun x h0 h1 hx=>?_,fun x y hx hy=>?_⟩
 ·rcases (htk x).1 hx with hx | hx
  ·exact h.rg x hx
  ·exact (cpC_mem.1 hx).1
 ·rcases (htk x).1 hx with hx | hx
  ·obtain ⟨a,b⟩:=h.tk x hx
   rw [hat x (h.rg x hx).1,if_neg (fun hm=>by rw [hdis x hm] at hx;cases hx)]
   exact ⟨a,by omega⟩
  ·rw [hat x (cpC_mem.1 hx).1.1,if_pos hx]
   exact ⟨hk,by omega⟩
 ·have hno:¬(t x=true∨x∈cpC C i):=fun hh=>by rw [(htk x).2 hh] at hx;cases hx
  rw [not_or] at hno
  rw [hat x h0,if_neg hno.2]
  exact h.un x h0 h1 (by simpa using hno.1)
 ·have hrcx:=rc_row hC hy
  have hyr:=rc_range hC hrcx
  rcases (htk x).1 hx with hx | hx
  ·have hty:=h.cl x y hx hrcx
   rw [hat y hyr.1,hat x (h.rg x hx).1,if_neg (fun hm=>by rw [hdis y hm] at hty;cases hty),if_neg (fun hm=>by rw [hdis x hm] at hx;cases hx)]
   exact h.od x y hx hy
  ·have hiy:rc C i y=true:=by
    rcases cpM_iff.1 (cpC_mem.1 hx).2 with rfl | ⟨h1,_⟩
    ·exact hrcx
    ·exact rc_trans hC h1 hrcx
   rw [hat y hyr.1,hat x (cpC_mem.1 hx).1.1,if_pos hx]
   rcases hfr y hiy with hm | hm
   ·rw [if_pos hm];exact Int.le_refl _
   ·rw [if_neg (fun hmm=>by rw [hdis y hmm] at hm;cases hm)]
    have:=(h.tk y hm).2
    omega
theorem PlI.fresh {C:List (List Int)} (hC:RelRows C) {t:Int→Bool} {k:Int} {PL:List Int} (h:PlI C t k PL) {i:Int} (hf:cpFree C t i=true) {pre:List Int} {r:Int} {post:List Int} (hs:cpC C i=pre++r :: post):(0≤r∧r<C.length)∧(plSet k PL pre).length=C.length∧(plSet k PL pre).getD r.toNat 0=-1:=by
 obtain ⟨hti,hfr⟩:=(cpFree_iff hC).1 hf
 have hm:r∈cpC C i:=by rw [hs];simp
 have hr:=(cpC_mem.1 hm).1
 have hrg:∀y,y∈pre→0≤y∧y<PL.length:=fun y hy=>by rw [h.len];exact (cpC_mem.1 (by rw [hs];simp [hy]:y∈cpC C i)).1
 have htr:t r=false:=by
  cases ht:t r with
  | false=>rfl
  | true =>
   rcases cpM_iff.1 (cpC_mem.1 hm).2 with rfl | ⟨_,h2⟩
   ·rw [hti] at ht;cases ht
   ·have:=h.cl r i ht h2
    rw [hti] at this;cases this
 have hnp:r∉pre:=fun hp=>by
  have ha:=cpC_asc C i
  rw [hs] at ha
  unfold Asc at ha
  have:=(List.pairwise_append.1 ha).2.2 r hp r (by simp)
  omega
 exact ⟨hr,by rw [plSet_len];exact h.len,by rw [plSet_at pre PL r hrg hr.1,if_neg hnp];exact h.un r hr.1 hr.2 htr⟩
def unt (C:List (List Int)) (t:Int→Bool):Nat:=((rngI C.length).filter fun x=>!t x).length
theorem unt_take {C:List (List Int)} {t:Int→Bool} {i:Int} (hi:0≤i∧i<C.length) (ht:t i=false):unt C (cpTake C t i)<unt C t:=
 filter_lt (fun x hx=>by
  unfold cpTake at hx
  simp only [Bool.not_eq_true',Bool.or_eq_false_iff] at hx
  simp [hx.1]) (rngI_mem.2 hi) (by simp [ht]) (by simp [cpTake,cpC_self hi])
def PlR (C:List (List Int)) (r:List (List Int)) (k:Int) (PL:List Int):Prop:=∃f t,r=cps C f t∧unt C t≤f∧PlI C t k PL
theorem PlR.init (C:List (List Int)):PlR C (cpsV C) 0 (List.replicate C.length (-1)):=by
 refine ⟨C.length,fun _=>false,rfl,by unfold unt;have:=List.length_filter_le (fun x:Int=>!(fun _=>false) x) (rngI C.length);rw [rngI_len] at this;exact this,by simp,fun i k h=>(by cases h),fun i h=>(by cases h),fun i h=>(by cases h),fun i h0 h1 _=>?_,fun i x h=>(by cases h)⟩
 rw [List.getD_eq_getElem?_getD,List.getElem?_replicate,if_pos (by omega)];rfl
theorem PlR.next {C:List (List Int)} (hC:RelRows C) {c:List Int} {r:List (List Int)} {k:Int} {PL:List Int} (hk:0≤k) (h:PlR C (c :: r) k PL):PL.length=C.length∧(∀(pre:List Int) (x:Int) (post:List Int),c=pre++x :: post→(0≤x∧x<C.length)∧(plSet k PL pre).length=C.length∧(plSet k PL pre).getD x.toNat 0=-1)∧PlR C r (k+1) (plSet k PL c):=by
 obtain ⟨f,t,hr,hu,hp⟩:=h
 cases f with
 | zero=>simp [cps] at hr
 | succ f =>
  cases hn:cpNext C t with
  | none=>rw [cps_none hn] at hr;cases hr
  | some i =>
   rw [cps_some hn] at hr
   obtain ⟨rfl,rfl⟩:=List.cons.inj hr
   obtain ⟨hi,hf⟩:=cpNext_some hn
   have hti:=((cpFree_iff hC).1 hf).1
   have:=unt_take hi hti
   exact ⟨hp.len,fun pre x post hs=>hp.fresh hC hf hs,f,_,rfl,by omega,hp.step hC hk hi hf⟩
theorem PlR.done {C:List (List Int)} (hC:RelRows C) {k:Int} {PL:List Int} (h:PlR C [] k PL):PL.length=C.length∧(∀i:Nat,i<C.length→0≤PL.getD i 0)∧∀(i:Nat) (x:Int),i<C.length→x∈relRow C i→(0≤x∧x<C.length)∧PL.getD x.toNat 0≤PL.getD i 0:=by
 obtain ⟨f,t,hr,hu,hp⟩:=h
 have hall:∀i:Int,0≤i∧i<C.length→t i=true:=fun i hi=>by
  cases ht:t i with
  | true=>rfl
  | false =>
   obtain ⟨j,hj,hf⟩:=cp_some hC _ i hi ht (Nat.le_refl _)
   have hpos:0<unt C t:=List.length_pos_of_mem (List.mem_filter.2 ⟨rngI_mem.2 hi,by simp [ht]⟩)
   cases f with
   | zero=>omega
   | succ f =>
    cases hn:cpNext C t with
    | none=>exact absurd hf (List.find?_eq_none.1 hn j (rngI_mem.2 hj))
    | some i=>rw [cps_some hn] at hr;cases hr
 refine ⟨hp.len,fun i hi=>?_,fun i x hi hx=>?_⟩
 ·have:=(hp.tk (i:Int) (hall _ (by omega))).1
  rwa [Int.toNat_natCast] at this
 ·have hxr:=rc_range hC (rc_row hC hx)
  have:=hp.od (i:Int) x (hall _ (by omega)) hx
  rw [Int.toNat_natCast] at this
  exact ⟨hxr,this⟩
open Go
def Pg.gszL:List Rl→Nat
 | []=>0
 | r :: q=>r.body.clsS.length * 2 ^ (r.arity+r.locals).toNat+Pg.gszL q
theorem rvsC_len (u:List V) (r:Rl) (i:Int) (c:List Gl):∀m k,(rvsC u r i c k m).length≤m
 | 0,_=>by simp [rvsC]
 | m+1,k=>by
  have h1:=rvsC_len u r i c m (k+1)
  have h2:((rvK u r i c k).toList).length≤1:=by cases rvK u r i c k<;>simp
  simp only [rvsC,a_];omega
theorem rvsB_len (u:List V) (r:Rl) (n:Nat):∀(cs:List (List Gl)) (i:Int),(rvsB u r n i cs).length≤cs.length * n
 | [],_=>by simp [rvsB]
 | c :: cs,i=>by
  have h1:=rvsB_len u r n cs (i+1)
  have h2:=rvsC_len u r i c n 0
  simp only [rvsB,a_,List.length_cons,Nat.add_mul,Nat.one_mul];omega
theorem gnd_len {u:List V} (hu:u.length≤2):∀l:List Rl,(Pg.gnd u l).length≤Pg.gszL l
 | []=>by simp [Pg.gnd]
 | r :: q=>by
  have h1:=gnd_len hu q
  have h2:=rvsB_len u r (r.ways u) r.body.clsS 0
  have h3:r.ways u≤2 ^ (r.arity+r.locals).toNat:=Nat.pow_le_pow_left hu _
  have h4:r.body.clsS.length * r.ways u≤r.body.clsS.length * 2 ^ (r.arity+r.locals).toNat:=Nat.mul_le_mul_left _ h3
  simp only [Pg.gnd,Pg.gszL,a_];omega
theorem Pg.gr_small {p:Pg} {u:List V} (hok:pgOk p=true) (hc:∀r,r∈p.rels→r.body.clsS.length≤64) (hu:u.length≤2) (hg:Pg.gszL p.rels≤2000):p.gr u=some (Pg.gnd u p.rels):=by
 unfold Pg.gr
 have hl:=gnd_len hu p.rels
 rw [if_pos]
 refine ⟨List.all_eq_true.2 fun r hr=>?_,by omega⟩
 obtain ⟨d1,d2,d3,d4⟩:=Pg.dims hok hr
 unfold Rl.gOk
 rw [Bool.and_eq_true,decide_eq_true_eq,decide_eq_true_eq]
 refine ⟨hc r hr,?_⟩
 have h3:r.ways u≤2 ^ (r.arity+r.locals).toNat:=Nat.pow_le_pow_left hu _
 have h4:2 ^ (r.arity+r.locals).toNat≤2 ^ 12:=Nat.pow_le_pow_right (by decide) (by omega)
 omega
theorem Pg.drP_gsz {mode:Int} {p:Pg} (h:p.drP mode):Pg.gszL p.rels≤2000:=by
 have hl:p.rels.length≤3:=by
  obtain ⟨⟨k,k1,k3,hn⟩,_⟩:=h
  have:=congrArg List.length hn
  rw [List.length_map,(drNames_take k3).2.2] at this;omega
 have hr:=h.2
 have key:∀l:List Rl,(∀r,r∈l→r∈p.rels)→Pg.gszL l≤24 * l.length:=fun l=>by
  induction l with
  | nil=>intro _;simp [Pg.gszL]
  | cons r q ih =>
   intro hm
   have h1:=ih (fun x hx=>hm x (by simp [hx]))
   obtain ⟨a1,a2,a3,a4,a5⟩:=hr r (hm r (by simp))
   have h2:=Gl.drB_cls a5
   have h3:2 ^ (r.arity+r.locals).toNat≤2 ^ 3:=Nat.pow_le_pow_right (by decide) (by omega)
   have h4:r.body.clsS.length * 2 ^ (r.arity+r.locals).toNat≤3 * 2 ^ 3:=Nat.mul_le_mul h2 h3
   simp only [Pg.gszL,List.length_cons];omega
 have:=key p.rels (fun _ h=>h)
 omega
def libGs (s:List UInt8):Bool:=match tokV s with
 | some T=>(match ppT T [] 0 [] with
  | some (rels,d)=>decide (Pg.gszL rels≤2000)
  | none=>false)
 | none=>false
theorem libGs0:libGs libT0=true:=by kernel_rfl
theorem libGs1:libGs libT1=true:=by kernel_rfl
theorem libGs2:libGs libT2=true:=by kernel_rfl
theorem libGs3:libGs libT3=true:=by kernel_rfl
theorem libGs_all (k:Nat):libGs (libT k)=true:=match k with
 | 0=>libGs0
 | 1=>libGs1
 | 2=>libGs2
 | _+3=>libGs3
theorem lib_gsz {k:Nat} {T:List (List UInt8)} {rels:List Rl} {d:Int} (hT:tokV (libT k)=some T) (hp:ppT T [] 0 []=some (rels,d)):Pg.gszL rels≤2000:=by
 have h:=libGs_all k
 unfold libGs at h
 rw [hT] at h
 dsimp only at h
 rw [hp] at h
 exact of_decide_eq_true h
theorem stg_in_top {rs:List RV} {n:Nat}:∀f,f∈stg rs n→f∈stg rs (top rs):=fun f hf=>by
 rw [←stg_min] at hf
 exact stg_le rs (Nat.min_le_right _ _) f hf
def Pg.made (mode:Int) (p:Pg):Prop:=p.drP mode∨∃k T d,tokV (libT k)=some T∧ppT T [] 0 []=some (p.rels,d)∧p.fine mode
theorem Pg.made_fine {m:Int} {p:Pg} (h:p.made m):p.fine m:=by
 rcases h with h | ⟨k,T,d,h1,h2,h3⟩
 ·exact Pg.drP_fine h
 ·exact h3
theorem Pg.made_gsz {m:Int} {p:Pg} (h:p.made m):Pg.gszL p.rels≤2000:=by
 rcases h with h | ⟨k,T,d,h1,h2,h3⟩
 ·exact Pg.drP_gsz h
 ·exact lib_gsz h1 h2
end Go.Abs

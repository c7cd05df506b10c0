import Derived.Test.YthilkmjkgpdngaaGreatA9
import Derived.Test.YthilkmjkgpdngaaGreatP13
import Derived.Shelf.GgSortMore.Stable
import Derived.Lib.ReflectliteSwap
open List renaming getElem?_eq_getElem→a_,getElem?_eq_some_iff→b_,getElem?_eq_none→c_,getElem?_append_right→d_,getElem?_set_self→e_,mem_of_getElem?→g_,getElem?_set_ne→h_,getElem?_range→i_,getElem?_take→j_,getElem?_drop→k_,getElem?_map→l_,append_assoc→m_,all_eq_true→n_,eq_nil_of_length_eq_zero→o_,getElem?_append_left→r_
open Bool renaming and_eq_true→f_
open Array renaming getD_eq_getD_getElem?→p_,getElem?_eq_some_iff→q_
open Nat renaming add_sub_cancel_left→s_
set_option linter.unusedSimpArgs false
set_option linter.unusedVariables false
namespace Go.Abs
structure Srtr {α:Type} (P:Program) (g:FuncId) (caps:List C) (sf:FuncId) (caps2:List C) (n m:Nat) (Hs:(Nat→α)→List O) (lt:α→α→Bool):Prop where
 gog:isGo P g=true
 hcaps:caps.all (C.refsLt1 m)=true
 hcaps2:caps2.all (C.refsLt1 m)=true
 len:∀f,(Hs f).length=m
 refs:∀f,(Hs f).all (O.refsLt m)=true
 less:∀(f:Nat→α) (X:List O) (i j:Nat),i<n→j<n→ACalls P g (.d (.int .i64 i) :: .d (.int .i64 j) :: caps) (Hs f++X) (fun c H'=>c=.d (.bool (lt (f i) (f j)))∧H'=Hs f++X)
 swap:∀(f:Nat→α) (X:List O) (i j:Nat),i<n→j<n→XCalls P sf (.d (.int .i64 i) :: .d (.int .i64 j) :: caps2) (Hs f++X) (fun c H'=>c=.tup []∧H'=Hs (swp i j f)++X)
theorem XCalls.mono {P:Program} {f:FuncId} {args:List C} {H:List O} {K K':C→List O→Prop} (h:XCalls P f args H K) (hk:∀c H',K c H'→K' c H'):XCalls P f args H K':=fun E vs h1 h2 h3=>by
 obtain ⟨v,E',c,H',k1,k2,k3,k4,k5⟩:=h E vs h1 h2 h3
 exact ⟨v,E',c,H',k1,k2,k3,k4,hk _ _ k5⟩
namespace Srtr
variable {α:Type} {P:Program} {g sf:FuncId} {cs ds:List C} {n m:Nat} {Hs:(Nat→α)→List O} {lt:α→α→Bool}
theorem at0 (h:Srtr P g cs sf ds n m Hs lt) (a:Nat→α) (X:List O):(Hs a++X)[m]? = X[0]?:=by
 rw [d_ (by rw [h.len];omega),h.len,Nat.sub_self]
theorem atj (h:Srtr P g cs sf ds n m Hs lt) (a:Nat→α) (X:List O) (j:Nat):(Hs a++X)[m+j]? = X[j]?:=by
 rw [d_ (by rw [h.len];omega),h.len,s_]
theorem set0 (h:Srtr P g cs sf ds n m Hs lt) (a:Nat→α) (X:List O) (o:O):(Hs a++X).set m o=Hs a++X.set 0 o:=by
 rw [List.set_append,if_neg (by rw [h.len];omega),h.len,Nat.sub_self]
theorem setj (h:Srtr P g cs sf ds n m Hs lt) (a:Nat→α) (X:List O) (j:Nat) (o:O):(Hs a++X).set (m+j) o=Hs a++X.set j o:=by
 rw [List.set_append,if_neg (by rw [h.len];omega),h.len,s_]
theorem tk (h:Srtr P g cs sf ds n m Hs lt) (a:Nat→α):(Hs a).take m=Hs a:=List.take_of_length_le (by rw [h.len];omega)
theorem tk0 (h:Srtr P g cs sf ds n m Hs lt) (a:Nat→α) (X:List O):(Hs a++X).take m=Hs a:=by
 rw [List.take_append_of_le_length (by rw [h.len];omega),h.tk]
theorem tkj (h:Srtr P g cs sf ds n m Hs lt) (a:Nat→α) (X:List O) (j:Nat):(Hs a++X).take (m+j)=Hs a++X.take j:=by
 rw [←h.len a,List.take_length_add_append]
theorem refsj (h:Srtr P g cs sf ds n m Hs lt) (a:Nat→α) (j:Nat):(Hs a).all (O.refsLt (m+j))=true:=by
 have:=h.refs a
 simp only [n_] at this ⊢
 exact fun o ho=>O.refsLt_mono (this o ho)
theorem capsj (h:Srtr P g cs sf ds n m Hs lt) (j:Nat):cs.all (C.refsLt1 (m+j))=true:=by
 have:=h.hcaps
 simp only [n_] at this ⊢
 exact fun o ho=>C.refsLt1_mono (this o ho)
theorem capsj2 (h:Srtr P g cs sf ds n m Hs lt) (j:Nat):ds.all (C.refsLt1 (m+j))=true:=by
 have:=h.hcaps2
 simp only [n_] at this ⊢
 exact fun o ho=>C.refsLt1_mono (this o ho)
theorem ext (h:Srtr P g cs sf ds n m Hs lt) (X:List O) (hX:X.all (O.refsLt (m+X.length))=true):Srtr P g cs sf ds n (m+X.length) (fun f=>Hs f++X) lt:=
 ⟨h.gog,h.capsj _,h.capsj2 _,fun f=>by rw [List.length_append,h.len],fun f=>by rw [List.all_append,h.refsj,hX];rfl,
  fun f Y i j hi hj=>by have:=h.less f (X++Y) i j hi hj;simpa only [m_] using this,fun f Y i j hi hj=>by have:=h.swap f (X++Y) i j hi hj;simpa only [m_] using this⟩
theorem sub (h:Srtr P g cs sf ds n m Hs lt) (k:Nat) (hk:k≤n):Srtr P g cs sf ds k m Hs lt:=
 ⟨h.gog,h.hcaps,h.hcaps2,h.len,h.refs,fun f X i j hi hj=>h.less f X i j (by omega) (by omega),fun f X i j hi hj=>h.swap f X i j (by omega) (by omega)⟩
end Srtr
end Go.Abs
set_option maxHeartbeats 1000000
namespace Go.Abs
def Env.still (E:Env):Env:={ E with S:=fun b _=>b<E.w.heap.size,N:=0,pv:=fun _=>False }
theorem RepH.still (E:Env):RepH E.still []:=
 ⟨rfl,fun r o h=>by simp at h,fun r o b h=>by simp at h,fun r o b h=>by simp at h,fun r r' o o' b h=>by simp at h,fun b i h=>h⟩
def vcAppS (P:Program) (s:St) (t u:TypeId) (y:C) (K:C→List O→Prop):Prop:=
 match tSlice P t,norm1 s y with
 | some (e,z,by_),.d (.sl ys)=>(P.underlying u).isSome=true∧tIsSlice P u=true∧(∀y',y'∈ys→y'.length=z)∧ys.length≤maxLen∧ys.length * by_≤140737488355328∧K (.own s.H.length 1) (s.H++[.buf 1 z e ys])
 | _,_=>False
def vcOpS (P:Program) (s:St) (o:Oper) (K:C→List O→Prop):Prop:=
 match o.op with
 | .call c =>
  (match c.callee with
  | .builtin .append=>(match c.args.toList,c.argTypes.toList with
   | [x,y],[t,u]=>okOperand x=true∧okOperand y=true∧(match ev s x with
    | .nil0=>vcAppS P s t u (ev s y) K
    | _=>vcAppend P s t u (ev s x) (ev s y) K)
   | _,_=>False)
  | _=>vcEff P s o K)
 | _=>vcEff P s o K
def vcRS (P:Program) (n:Nat) (K:St→Prop):List Oper→St→Prop
 | [],⟨σ,H⟩=>K ⟨σ,H⟩
 | o :: rest,⟨σ,H⟩=>okDst n o=true∧o.guard=none∧vcOpS P ⟨σ,H⟩ o (kR (vcRS P n K rest) ⟨σ,H⟩ o.dst)
attribute [go_sem] vcAppS.eq_1 vcOpS.eq_def vcRS.eq_1 vcRS.eq_2
def vcOpA (P:Program) (s:St) (o:Oper) (K:C→List O→Prop):Prop:=
 match o.op with
 | .load t x=>(match ev s x with
  | .tptr r q z i off=>(match s.H[r]? with
   | some (.buf q' z' e xs)=>(match tAgg P t,tSize P t with
    | some true,some n=>okOperand x=true∧q=q'∧z=z'∧i<xs.length∧0<n∧off+n≤z∧idx xs i (fun x=>K (.d (.agg ((x.drop off).take n))) s.H)
    | _,_=>vcOpT P s o K)
   | _=>vcOpT P s o K)
  | _=>vcOpT P s o K)
 | _=>vcOpT P s o K
def vcRA (P:Program) (n:Nat) (K:St→Prop):List Oper→St→Prop
 | [],⟨σ,H⟩=>K ⟨σ,H⟩
 | o :: rest,⟨σ,H⟩=>okDst n o=true∧o.guard=none∧vcOpA P ⟨σ,H⟩ o (kR (vcRA P n K rest) ⟨σ,H⟩ o.dst)
attribute [go_sem] vcOpA.eq_def vcRA.eq_1 vcRA.eq_2
section
variable {P:Program} {f:FuncId} {n n0:Nat} {R:C→List O→Prop}
end
section
variable {P:Program} {E:Env}
end
def vcOpU (P:Program) (s:St) (o:Oper) (K:C→List O→Prop):Prop:=
 match o.op with
 | .buildSlice t n ps=>(match tSlice P t with
  | some (e,z,_)=>n * z≤16777216∧ps.size=n∧0<n∧vcElems s z (fun l=>K (.own s.H.length 1) (s.H++[.buf 1 z e l])) ps.toList 0
  | none=>False)
 | _=>vcOpA P s o K
def vcRU (P:Program) (n:Nat) (K:St→Prop):List Oper→St→Prop
 | [],⟨σ,H⟩=>K ⟨σ,H⟩
 | o :: rest,⟨σ,H⟩=>okDst n o=true∧o.guard=none∧vcOpU P ⟨σ,H⟩ o (kR (vcRU P n K rest) ⟨σ,H⟩ o.dst)
attribute [go_sem] vcOpU.eq_def vcRU.eq_1 vcRU.eq_2
def vcRG (P:Program) (n:Nat) (ops:Array Oper) (K:St→Prop):List Oper→St→Prop
 | [],⟨σ,H⟩=>K ⟨σ,H⟩
 | o :: rest,⟨σ,H⟩=>okDst n o=true ∧
  (match o.guard with
  | none=>vcOpT P ⟨σ,H⟩ o (kR (vcRG P n ops K rest) ⟨σ,H⟩ o.dst)
  | some (j,want) =>
   match (ops[j]?).bind (·.dst) with
   | some t =>
    match get σ t with
    | .d (.bool b) =>
     br (b == want) (app (vcOpT P (put ⟨σ,H⟩ (some t) (.d (.bool want))) o) (kR (vcRG P n ops K rest) (put ⟨σ,H⟩ (some t) (.d (.bool want))) o.dst))
      (app (vcRG P n ops K rest) (put (put ⟨σ,H⟩ (some t) (.d (.bool (!want)))) o.dst (.tup [])))
    | .tup []=>vcRG P n ops K rest (put ⟨σ,H⟩ o.dst (.tup []))
    | _=>False
   | none=>False)
theorem vcRG_sound {P:Program} {n:Nat} {K:St→Prop} {ops:Array Oper} {E0:Env}:∀(os:List Oper) (l:List Nat) (s:St) (E:Env) (a:Act),l.map (ops[·]?)=os.map some→RepSt E n s a→Le E0 E→vcRG P n ops K os s →
  wpOps P ops (Behind n E0 K) l a E.w
 | [],l,s,E,a,hl,hst,hle,h=>by
  have:l=[]:=by simpa using hl
  subst this
  exact ⟨rfl,E,s,rfl,hst,hle,h⟩
 | o :: os,l,s,E,a,hl,hst,hle,h=>by
  cases l with
  | nil=>simp at hl
  | cons i l =>
   simp only [List.map_cons,List.cons.injEq] at hl
   obtain ⟨ho,hl⟩:=hl
   unfold vcRG at h
   obtain ⟨hd,h⟩:=h
   have hdst:∀d,o.dst=some d→d<n:=fun d hd'=>by
    unfold okDst at hd
    rw [hd'] at hd
    simpa using hd
   simp only [wpOps,ho]
   have run:∀(s:St),RepSt E n s a→vcOpT P s o (kR (vcRG P n ops K os) s o.dst)→o.wp P a E.w (wpOps P ops (Behind n E0 K) l) (Behind n E0 K):=fun s hst h =>
    (vcOpT_sound h).run hst (fun v E' c H' h1 h2 h3 h4=>vcRG_sound os l _ E' _ hl (hst.put h3 h2 hdst h1) (hle.trans h3) h4)
   cases hg:o.guard with
   | none =>
    simp only [hg] at h
    have hw:Region.wanted o (yielded ops a.tmps)=true:=by simp [Region.wanted,hg]
    rw [if_pos hw]
    exact .inl (run s hst h)
   | some gw =>
    obtain ⟨j,want⟩:=gw
    simp only [hg] at h
    split at h
    ·rename_i t ht
     split at h
     ·rename_i b hb
      obtain ⟨h1,h2⟩:=h
      rw [wanted_of hst hg ht hb]
      by_cases e:b=want
      ·rw [if_pos (by simpa using e)]
       exact .inl (run _ (hst.same (by rw [hb,e])) (h1 (by simpa using e)))
      ·rw [if_neg (by simpa using e)]
       have e':b=!want:=by cases b<;>cases want<;>simp_all
       have hst':=hst.same (t:=t) (c:=.d (.bool (!want))) (by rw [hb,e'])
       exact vcRG_sound os l _ E _ hl (hst'.put (Le.refl E) hst'.heap hdst (rd_undef E)) hle (h2 (by simpa using e))
     ·rename_i hb
      rw [wanted_skip hst hg ht hb,if_neg (by simp)]
      exact vcRG_sound os l _ E _ hl (hst.put (Le.refl E) hst.heap hdst (rd_undef E)) hle h
     ·exact h.elim
    ·exact h.elim
section
variable (P:Program) (f:FuncId) (n n0:Nat) (R:C→List O→Prop) (rs:List ResultVar)
def runG:Nat→List Item→St→Prop
 | 0,k,⟨σ,H⟩=>AW P f n n0 R k ⟨σ,H⟩
 | _+1,[],⟨σ,H⟩=>vcRet P rs n0 R ⟨σ,H⟩
 | fuel+1,.inBlock _ :: k,⟨σ,H⟩=>runG fuel k ⟨σ,H⟩
 | fuel+1,.code c :: k,⟨σ,H⟩ =>
  (match c with
  | .ret=>vcRet P rs n0 R ⟨σ,H⟩
  | .skip=>runG fuel k ⟨σ,H⟩
  | .label _=>runG fuel k ⟨σ,H⟩
  | .seq x y=>runG fuel (.code x :: .code y :: k) ⟨σ,H⟩
  | .block id x=>runG fuel (.code x :: .inBlock id :: k) ⟨σ,H⟩
  | .exit id=>(match exitTo id k with | some k'=>runG fuel k' ⟨σ,H⟩ | none=>False)
  | .cond c x y=>okOperand c=true∧(match ev ⟨σ,H⟩ c with
   | .d (.bool b)=>br b (app (runG fuel (.code x :: k)) ⟨σ,H⟩) (app (runG fuel (.code y :: k)) ⟨σ,H⟩)
   | _=>False)
  | .region _ ops false=>vcRG P n ops (runG fuel k) ops.toList ⟨σ,H⟩
  | .region _ ops true=>vcD P n ops (runG fuel k) ops.toList ⟨σ,H⟩
  | c=>AW P f n n0 R (.code c :: k) ⟨σ,H⟩)
 | _+1,k,⟨σ,H⟩=>AW P f n n0 R k ⟨σ,H⟩
end
theorem AW.regG' {P:Program} {n:Nat} {f:FuncId} {n0:Nat} {R:C→List O→Prop} {id:Nat} {ops:Array Oper} {k:List Item} {s:St} {K:St→Prop} (h:vcRG P n ops K ops.toList s) (hk:∀s',K s'→AW P f n n0 R k s'):AW P f n n0 R (.code (.region id ops false) :: k) s:=by
 refine AW.of_behind (k':=k) fun _ E a b cs hst=>?_
 have hw:=vcRG_sound (ops:=ops) ops.toList (List.range ops.size) s E a (by
  apply List.ext_getElem?
  intro j
  simp only [l_]
  by_cases hj:j<ops.size
  ·rw [i_ hj]
   simp [hj]
  ·rw [c_ (by simpa using hj),c_ (by simpa using hj)]
   rfl) hst (Le.refl E) h
 obtain ⟨e,a',w',⟨rfl,E',s',rfl,h1,h2,h3⟩,harr⟩:=wp_region (id:=id) hw b k cs
 exact ⟨a',E',s',harr,h1,h2,hk _ h3⟩
theorem runG_sound {P:Program} {f:FuncId} {n n0:Nat} {R:C→List O→Prop} {fn:Func} (hf:P.funcs[f]? = some fn) (hm:P.follows .mixedOrders=true):∀(fuel:Nat) (k:List Item) (s:St),k.all okItem=true→runG P f n n0 R fn.results.toList fuel k s→AW P f n n0 R k s
 | 0,k,s,_,h=>h
 | fuel+1,k,s,hk,h=>by
  have ih:=fun k s=>runG_sound (n:=n) (n0:=n0) (R:=R) hf hm fuel k s
  unfold runG at h
  split at h
  ·rename_i h';cases h'
  ·exact AW.finish hf (.inl rfl) h
  ·rename_i e;cases e
   simp only [List.all_cons,f_] at hk
   exact AW.inBlock (ih _ _ hk.2 h)
  ·rename_i c k _ e;cases e
   simp only [List.all_cons,f_,okItem] at hk
   split at h
   ·exact AW.finish hf (.inr ⟨_,rfl⟩) h
   ·exact AW.skip (ih _ _ hk.2 h)
   ·exact AW.label (ih _ _ hk.2 h)
   ·refine AW.seq (ih _ _ ?_ h)
    simp only [okCode,f_] at hk
    simp [okItem,hk.1.1,hk.1.2,hk.2]
   ·refine AW.block (ih _ _ ?_ h)
    simp only [okCode] at hk
    simp [okItem,hk.1,hk.2]
   ·split at h
    ·rename_i k' he
     exact AW.exit he (ih _ _ (okItem_exit _ _ _ he hk.2) h)
    ·exact h.elim
   ·obtain ⟨ho,h⟩:=h
    simp only [okCode,f_] at hk
    split at h
    ·rename_i b hb
     exact AW.cond hb ho (fun e=>ih _ _ (by simp [okItem,hk.1.1,hk.2]) (h.1 e)) (fun e=>ih _ _ (by simp [okItem,hk.1.2,hk.2]) (h.2 e))
    ·exact h.elim
   ·exact AW.regG' h (fun s' h'=>ih _ _ hk.2 h')
   ·exact AW.draw' hm hk.1 h (fun s' h'=>ih _ _ hk.2 h')
   ·exact h
  ·exact h
section
variable {P:Program} {f:FuncId} {n n0:Nat} {R:C→List O→Prop} {rs:List ResultVar} {k:List Item} {s s':St}
@[congr] theorem vcRG_cg {ops:Array Oper} {os:List Oper} {KS:St→Prop} (h:s=s'):vcRG P n ops KS os s=vcRG P n ops KS os s':=by rw [h]
@[congr] theorem runG_cg {fuel:Nat} (h:s=s'):runG P f n n0 R rs fuel k s=runG P f n n0 R rs fuel k s':=by rw [h]
theorem runG_region {fuel id:Nat} {l:List Oper} {σ:List (Nat×C)} {H:List O}:runG P f n n0 R rs (fuel+1) (.code (.region id (List.toArray l) false) :: k) ⟨σ,H⟩=vcRG P n (List.toArray l) (runG P f n n0 R rs fuel k) l ⟨σ,H⟩:=by
 rw [runG]
theorem runG_draw {fuel id:Nat} {l:List Oper} {σ:List (Nat×C)} {H:List O}:runG P f n n0 R rs (fuel+1) (.code (.region id (List.toArray l) true) :: k) ⟨σ,H⟩=vcD P n (List.toArray l) (runG P f n n0 R rs fuel k) l ⟨σ,H⟩:=by
 rw [runG]
theorem runG_loop {fuel:Nat} {c:Code} {σ:List (Nat×C)} {H:List O}:runG P f n n0 R rs (fuel+1) (.code (.loop c) :: k) ⟨σ,H⟩=AW P f n n0 R (.code (.loop c) :: k) ⟨σ,H⟩:=by
 rw [runG]<;>simp
theorem runG_inLoop {fuel:Nat} {c:Code} {σ:List (Nat×C)} {H:List O}:runG P f n n0 R rs (fuel+1) (.inLoop c :: k) ⟨σ,H⟩=AW P f n n0 R (.inLoop c :: k) ⟨σ,H⟩:=by
 rw [runG]<;>simp
def exKG (P:Program) (f:FuncId) (n n0:Nat) (R:C→List O→Prop) (rs:List ResultVar) (fuel j:Nat) (k:List Item) (s:St):Prop:=
 match Go.exitTo j k with
 | some k'=>runG P f n n0 R rs fuel k' s
 | none=>False
@[congr] theorem exKG_cg {fuel j:Nat} (h:s=s'):exKG P f n n0 R rs fuel j k s=exKG P f n n0 R rs fuel j k s':=by rw [h]
theorem runG_exit {fuel j:Nat} {σ:List (Nat×C)} {H:List O}:runG P f n n0 R rs (fuel+1) (.code (.exit j) :: k) ⟨σ,H⟩=exKG P f n n0 R rs fuel j k ⟨σ,H⟩:=by
 rw [runG];rfl
theorem exKG_code {fuel j:Nat} {c:Code}:exKG P f n n0 R rs fuel j (.code c :: k) s=exKG P f n n0 R rs fuel j k s:=rfl
theorem exKG_inLoop {fuel j:Nat} {c:Code}:exKG P f n n0 R rs fuel j (.inLoop c :: k) s=exKG P f n n0 R rs fuel j k s:=rfl
theorem exKG_block {fuel j j':Nat}:exKG P f n n0 R rs fuel j (.inBlock j' :: k) s=if j'=j then runG P f n n0 R rs fuel k s else exKG P f n n0 R rs fuel j k s:=by
 unfold exKG
 rw [exitTo.eq_1]
 by_cases h:j'=j
 ·simp [h]
 ·rw [if_neg (by simpa using h),if_neg h]
end
attribute [go_sem] runG_region runG_draw runG_loop runG_inLoop runG_exit exKG_code exKG_inLoop exKG_block runG.eq_2 runG.eq_3 runG.eq_4 runG.eq_5 runG.eq_6 runG.eq_7 runG.eq_8 runG.eq_10
attribute [go_sem] vcRG.eq_1 vcRG.eq_2
section
variable {P:Program}
theorem RepH.seen {E:Env} {H:List O} (h:RepH E H) {r:Nat} {o o':O} (ho:H[r]? = some o) (hb:∀b,o'.block E r b↔o.block E r b) (hr:RepO E r o'):RepH E (H.set r o'):=by
 have hrl:=(b_.1 ho).1
 refine h.turn (r0:=r) (o0:=o') (Le.refl E) (by simp [h.N]) (fun r' hr'=>by rw [h_ (fun e=>hr' e.symm)]) (fun o2 ho2=>by rw [e_ hrl] at ho2;exact (Option.some.inj ho2).symm) (fun _ _ _=>rfl) (fun r' o2 b hr' ho2 hbb=>⟨rfl,fun i hs=>hs⟩) (fun _ hp=>hp) (fun b i hs=>h.Slt b i hs) hr (fun b hbb=>?_)
 have hbo:=(hb b).1 hbb
 exact ⟨h.pv r _ b ho hbo,h.lt r _ b ho hbo,fun r' o2 hr' ho2 hb2=>hr' (h.apart r' r o2 _ b ho2 ho hb2 hbo)⟩
theorem mix_tree {E:Env} {r q z e:Nat} {ys xs:List (List D)} {B:Nat→Prop} (h:RepO E r (.mix q z e ys xs B)):RepO E r (.tree q z e ys B none):=by
 obtain ⟨h1,h2,h3,h4,h5⟩:=h
 refine ⟨h1,h2,h3,h4,?_⟩
 rcases h5 with h5 | ⟨b,cap,arr,k1,k2,k3,k4,k5,k6,k7,k8,k9,_⟩
 ·exact .inl h5
 ·exact .inr ⟨b,cap,arr,k1,k2,k3,k4,k5,k6,k7,k8,k9,trivial⟩
def vcIdxM (P:Program) (t:TypeId) (r q q' z:Nat) (ys:List (List D)) (i:C) (K:C→Prop):Prop:=
 match i,tElem P t with
 | .d (.int _ m),some e=>tSize P e=some z∧q=q'∧0≤m∧m<ys.length∧K (.tptr r q z m.toNat 0)
 | _,_=>False
def vcLdM (P:Program) (t:TypeId) (q q' z z' i off:Nat) (ys xs:List (List D)) (K:C→Prop):Prop:=
 match tAgg P t,tSize P t with
 | some true,some n=>q=q'∧z=z'∧i<ys.length∧0<n∧off+n≤z∧idx ys i (fun y=>(y.drop off).take n=List.replicate n .any)∧xs.length=ys.length∧idx xs i (fun x=>x.length=z∧K (.d (.agg ((x.drop off).take n))))
 | some false,_=>q=q'∧z=z'∧i<ys.length∧off<z∧idx ys i (fun y=>y[off]? = some .any)∧xs.length=ys.length∧idx xs i (fun x=>x.length=z∧idx x off (fun d=>K (.d d)))
 | _,_=>False
def vcStM (P:Program) (s:St) (t:TypeId) (r q z i off:Nat) (x:C) (K:List O→Prop):Prop:=
 match tSize P t with
 | some n=>okCells x=true∧(cellsOf x).length=n ∧
  (match moveCells s.H (cellsOf x) with
  | some (ds,H1) =>
   (match H1[r]? with
   | some (.mix q' z' e ys xs _)=>q=q'∧z=z'∧i<ys.length∧off+n≤z∧(∀d,d∈ds→d≠.any) ∧
     ∀B',K (H1.set r (.mix q z e (ys.set i ((ys.getD i []).take off++ds++(ys.getD i []).drop (off+n))) xs B'))
   | _=>False)
  | none=>False)
 | none=>False
theorem effOk_idxM {s:St} {o:Oper} {K:C→List O→Prop} {t:TypeId} {x i:Operand} {r q q' z e:Nat} {ys xs:List (List D)} {B:Nat→Prop} (ho:o.op=.indexAddr t x i) (hx:okOperand x=true) (hi:okOperand i=true) (hp:ev s x=.own r q) (hr:s.H[r]? = some (.mix q' z e ys xs B))
  (h:vcIdxM P t r q q' z ys (ev s i) (fun c=>K c s.H)):EffOk P s o K:=by
 unfold vcIdxM at h
 split at h
 ·rename_i k m e0 hpi he
  obtain ⟨hz,rfl,h0,h1,hk⟩:=h
  have hu:=und_of_tElem he
  intro E ns a hst
  have hvi:=rd_ev hst i hi
  have hv:=rd_ev hst x hx
  rw [hp] at hv
  rw [hpi] at hvi
  obtain ⟨g1,g2,g3,g4,g5⟩:=hst.heap.obj r _ hr
  generalize hgx:a.eval x=v at hv
  generalize hgi:a.eval i=vi at hvi
  cases hvi with
  | d _ _ hd =>
   cases hd
   cases hv with
   | own _ _ _ hrN h1' hq hv =>
    have hv:=hv g1.symm
    subst hv
    rcases g5 with ⟨ad,g5,rfl⟩ | ⟨b,cap,arr,g5,_⟩
    ·simp at h1;omega
    ·have hrun:(Instr.indexAt t (E.τ r).2 (.int k m)).run P E.w=.ok (.pointer (some ⟨b,m.toNat * z+0,none⟩)) E.w:=by
      simp [g5,Instr.indexAt,asIntOf,run_underlying hu,h0,h1,run_sizeOf hz,Addr.add_mk]
     unfold Oper.wp execOp
     simp only [ho,hgx,hgi,Sem.run_bind,hrun,Result.andThen_ok,Sem.run_pure,Oper.upon]
     exact ⟨_,E,_,_,rfl,rfl,.tptr _ _ _ _ _ b hrN hq (fun _=>⟨_,_,g5⟩),hst.heap,Le.refl E,hk⟩
 ·exact h.elim
theorem effOk_ldM {s:St} {o:Oper} {K:C→List O→Prop} {t:TypeId} {x:Operand} {r q q' z z' e i off:Nat} {ys xs:List (List D)} {B:Nat→Prop} (ho:o.op=.load t x) (hx:okOperand x=true) (hp:ev s x=.tptr r q z i off) (hr:s.H[r]? = some (.mix q' z' e ys xs B))
  (h:vcLdM P t q q' z z' i off ys xs (fun c=>K c s.H)):EffOk P s o K:=by
 unfold vcLdM at h
 split at h
 ·rename_i n hag hn
  obtain ⟨rfl,rfl,hi,hn0,hoff,hany,hxl,h⟩:=h
  intro E ns a hst
  have hpv:=rd_ev hst x hx
  rw [hp] at hpv
  generalize hg:a.eval x=pv at hpv
  obtain ⟨h1,h2,h3,h4,h5⟩:=hst.heap.obj r _ hr
  have hyi:ys[i]? = some ys[i]:=a_ hi
  have hxi:xs[i]? = some (xs[i]'(by omega)):=a_ _
  have hyl:ys[i].length=z:=h2 _ (List.getElem_mem _)
  have hany:=hany _ hyi
  obtain ⟨hxz,h⟩:=h _ hxi
  rcases h5 with ⟨ad,_,rfl⟩ | ⟨b,cap,arr,k1,k2,k3,k4,k5,k6,k7,k8,k9,k10⟩
  ·simp at hi
  have hcell:∀j,j<n→∃c v,(xs[i]'(by omega))[off+j]? = some c∧arr[i * z+off+j]? = some v∧v.oneCell'=true∧RdD E.w E.S c v:=fun j hj=>by
   have hc:(xs[i]'(by omega))[off+j]? = some ((xs[i]'(by omega))[off+j]'(by omega)):=a_ _
   have ha:ys[i][off+j]? = some .any:=by
    have:=congrArg (fun l=>l[j]?) hany
    simp only [j_,if_pos hj,k_,List.getElem?_replicate] at this
    exact this
   obtain ⟨v,n1,n2,n3⟩:=k10 i (off+j) _ _ _ hyi hxi ha hc
   exact ⟨_,v,hc,by rw [Nat.add_assoc];exact n1,n2,n3⟩
  have hsz:i * z+off+n≤arr.size:=by
   obtain ⟨c,v,_,hv,_⟩:=hcell (n - 1) (by omega)
   have:=(q_.1 hv).1
   omega
  cases hpv with
  | tptr _ _ _ _ _ b' hrN hq hv =>
   obtain ⟨n',cap',e1⟩:=hv h1.symm
   rw [k1] at e1
   cases e1
   have hld:=run_load_block (P:=P) (E:=E) k2 hsz
   have hrun:=loadVar_agg hag hn hld
   generalize hvs:((List.range n).map _).toArray=vs at hrun
   have hrun':(Instr.loadAt t (.pointer (some ⟨b,i * z+off,none⟩))).run P E.w=.ok (.agg vs) E.w:=by
    simp only [Instr.loadAt,Instr.sureAddr,Sem.run_bind,Sem.run_pure,Result.andThen_ok]
    exact hrun
   have hvat:∀(j:Nat) (v:Value),vs[j]? = some v→j<n∧arr[i * z+off+j]? = some v:=fun j v hv=>by
    rw [←hvs] at hv
    simp only [List.getElem?_toArray,l_] at hv
    by_cases hj:j<n
    ·rw [i_ hj] at hv
     simp only [Option.map_some,Option.some.injEq] at hv
     obtain ⟨c,v',_,g1,_⟩:=hcell j hj
     refine ⟨hj,?_⟩
     rw [←hv,p_,g1];rfl
    ·rw [c_ (by simpa using hj)] at hv;cases hv
   unfold Oper.wp execOp
   simp only [ho,hg,Sem.run_bind,hrun',Result.andThen_ok,Sem.run_pure,Oper.upon]
   refine ⟨_,E,_,_,rfl,rfl,?_,hst.heap,Le.refl E,h⟩
   refine .d _ _ (.agg _ _ ?_ (fun j v hv=>?_) (fun j c v hc hv=>?_))
   ·rw [←hvs];simp;omega
   ·obtain ⟨hj,g⟩:=hvat j v hv
    obtain ⟨c,v',_,g1,g2,_⟩:=hcell j hj
    rw [g] at g1;cases g1;exact g2
   ·obtain ⟨hj,g⟩:=hvat j v hv
    obtain ⟨c',v',g0,g1,g2,g3⟩:=hcell j hj
    rw [g] at g1;cases g1
    rw [j_,if_pos hj,k_,g0] at hc
    cases hc
    exact g3
 ·rename_i hag
  obtain ⟨rfl,rfl,hi,hoff,hany,hxl,h⟩:=h
  intro E ns a hst
  have hpv:=rd_ev hst x hx
  rw [hp] at hpv
  generalize hg:a.eval x=pv at hpv
  obtain ⟨h1,h2,h3,h4,h5⟩:=hst.heap.obj r _ hr
  have hyi:ys[i]? = some ys[i]:=a_ hi
  have hxi:xs[i]? = some (xs[i]'(by omega)):=a_ _
  have hany:=hany _ hyi
  obtain ⟨hxz,h⟩:=h _ hxi
  rcases h5 with ⟨ad,_,rfl⟩ | ⟨b,cap,arr,k1,k2,k3,k4,k5,k6,⟨val,Bs,k7,_,_⟩,k8,k9,k10⟩
  ·simp at hi
  cases hpv with
  | tptr _ _ _ _ _ b' hrN hq hv =>
   obtain ⟨n',cap',e1⟩:=hv h1.symm
   rw [k1] at e1
   cases e1
   obtain ⟨n1,n2,_⟩:=k7 i off _ _ hyi hany
   have hrun:(Instr.loadAt t (.pointer (some ⟨b,i * z+off,none⟩))).run P E.w=.ok (val i off) E.w:=by
    simp only [Instr.loadAt,Instr.sureAddr,Sem.run_bind,Sem.run_pure,Result.andThen_ok]
    exact loadVar_one hag (by rw [cell_of_row _ _ _ _ _ _ k2];exact n1)
   unfold Oper.wp execOp
   simp only [ho,hg,Sem.run_bind,hrun,Result.andThen_ok,Sem.run_pure,Oper.upon]
   have hc:(xs[i]'(by omega))[off]? = some ((xs[i]'(by omega))[off]'(by omega)):=a_ _
   obtain ⟨v,m1,m2,m3⟩:=k10 i off _ _ _ hyi hxi hany hc
   rw [n1] at m1;cases m1
   exact ⟨_,E,_,_,rfl,rfl,.d _ _ m3,hst.heap,Le.refl E,h _ hc⟩
 ·exact h.elim
theorem effOk_stM {s:St} {o:Oper} {K:C→List O→Prop} {t:TypeId} {p x:Operand} {r q z i off:Nat} (ho:o.op=.store t p x) (hp:okOperand p=true) (hx:okOperand x=true) (hpe:ev s p=.tptr r q z i off)
  (h:vcStM P s t r q z i off (ev s x) (K .top)):EffOk P s o K:=by
 unfold vcStM at h
 split at h
 ·rename_i n hn
  obtain ⟨hok,hlen,h⟩:=h
  split at h
  ·rename_i ds H1 hmv
   split at h
   ·rename_i q' z' e ys xs B hr
    obtain ⟨rfl,rfl,hi,hle,hna,hk⟩:=h
    intro E ns a hst
    have hfx:=cellsOf_rd (rd_ev hst x hx) hok
    have hone:∀(i:Nat) (u:Value),(a.eval x).cells[i]? = some u→u.oneCell'=true:=fun i u hu=>by
     have hi:i<(cellsOf (ev s x)).length:=by rw [←hfx.1];exact (q_.1 hu).1
     exact (hfx.2 i _ u (a_ hi) hu).2
    have hpv:=rd_ev hst p hp
    rw [hpe] at hpv
    generalize hg:a.eval p=pv at hpv
    obtain ⟨m1,m2,m3,m4,Bk,m5,m6,m7⟩:=moveCells_sound _ _ _ _ (a.eval x).cells.toList hst.heap hmv (by simp [hfx.1]) (fun i c v hc hv=>hfx.2 i c v hc (by simpa using hv))
    have hdl:ds.length=n:=by rw [m3];exact hlen
    have hvl:(a.eval x).cells.size=n:=by rw [hfx.1];exact hlen
    have hrl:=(b_.1 hr).1
    have hrep:=m1.obj r _ hr
    have hT:RepH E (H1.set r (.tree q z e ys B none)):=m1.seen hr (fun b=>Iff.rfl) (mix_tree hrep)
    have hrT:(H1.set r (.tree q z e ys B none))[r]? = some (.tree q z e ys B none):=e_ hrl
    have hfree:∀B',Free E H1 B'→Free E (H1.set r (.tree q z e ys B none)) B':=fun B' hB b hb=>by
     obtain ⟨f1,f2,f3,f4⟩:=hB b hb
     refine ⟨f1,f2,f3,fun r' o' ho'=>?_⟩
     by_cases er:r=r'
     ·subst er
      rw [hrT] at ho';cases ho'
      exact fun hb2=>f4 r (.mix q z e ys xs B) hr hb2
     ·rw [h_ er] at ho'
      exact f4 r' o' ho'
    obtain ⟨b,cap,arr,k1,k2,k3,k4⟩:=hT.storeT hrT hi (off:=off) (ds:=ds) (vs:=(a.eval x).cells.toList) (by omega) (by simp;omega) (fun k d v hd hv=>by obtain ⟨c1,c2,c3⟩:=m5 k d v hd hv;exact ⟨c1,c2,hfree _ c3⟩) m6
    obtain ⟨g1,g2,g3,g4,g5⟩:=hrep
    rcases g5 with ⟨ad,_,rfl⟩ | ⟨b2,cap2,arr2,j1,j2,j3,j4,j5,j6,j7,j8,j9,j10⟩
    ·simp at hi
    rw [j1] at k1
    cases k1
    rw [j2] at k2
    cases k2
    cases hpv with
    | tptr _ _ _ _ _ b' hrN hq hv =>
     obtain ⟨n',cap',e1⟩:=hv (g1.symm)
     rw [j1] at e1
     cases e1
     have hrun:=run_storeAt (P:=P) hn hvl hone j2 (off:=i * z+off) (by omega)
     generalize hnew:(arr.toList.take (i * z+off)++(a.eval x).cells.toList++arr.toList.drop (i * z+off+(a.eval x).cells.toList.length)).toArray=arr' at hrun
     have hcells:=setRow_cells (arr:=arr) (off:=i * z+off) (vs:=(a.eval x).cells) (by omega)
     rw [hnew] at hcells
     obtain ⟨B',hl,hH⟩:=k4 arr' hcells.1 (fun k=>by rw [hcells.2];simp)
     rw [hdl,List.set_set] at hH
     have hr2:(H1.set r (.tree q z e (ys.set i ((ys.getD i []).take off++ds++(ys.getD i []).drop (off+n))) B' none))[r]? = some _:=e_ hrl
     have hyx:ys.getD i []=ys[i]:=by simp [hi]
     have hyl:ys[i].length=z:=g2 _ (List.getElem_mem _)
     have hM:=hH.seen (o':=.mix q z e (ys.set i ((ys.getD i []).take off++ds++(ys.getD i []).drop (off+n))) xs B') hr2 (fun b=>Iff.rfl) (by
      obtain ⟨w1,w2,w3,w4,w5⟩:=hH.obj r _ hr2
      refine ⟨w1,w2,w3,w4,?_⟩
      rcases w5 with w5 | ⟨b3,cap3,arr3,l1,l2,l3,l4,l5,l6,l7,l8,l9,_⟩
      ·exact .inl w5
      ·refine .inr ⟨b3,cap3,arr3,l1,l2,l3,l4,l5,l6,l7,l8,l9,fun i' j' y x' c hy hx' hya hc=>?_⟩
       have hb3:b3=b:=by
        have e:=j1.symm.trans l1
        simp only [Value.slice.injEq,Option.some.injEq,Addr.mk.injEq] at e
        exact e.1.1.symm
       subst hb3
       have ha3:arr3=arr':=by
        have:=setRow_heap E.w b3 arr arr' e (0,0) j2
        have l2':(E.setRow b3 arr').w.heap[b3]? = some (.cells arr3 e (0,0)):=l2
        rw [show (E.setRow b3 arr').w.heap[b3]? = some (.cells arr' e (0,0)) from this] at l2'
        cases l2';rfl
       subst ha3
       have hi'l:i'<ys.length:=by have:=(b_.1 hy).1;simpa using this
       have old:∀y0,ys[i']? = some y0→y0[j']? = some .any→(¬(i * z+off≤i' * z+j'∧i' * z+j'<i * z+off+n))→∃v,arr3[i' * z+j']? = some v∧v.oneCell'=true∧RdD (E.setRow b3 arr3).w (E.setRow b3 arr3).S c v:=fun y0 h0 h1 h2=>by
        obtain ⟨v,u1,u2,u3⟩:=j10 i' j' y0 x' c h0 hx' h1 hc
        refine ⟨v,?_,u2,u3.le hl⟩
        rw [hcells.2,if_neg (by rw [hvl];exact h2)];exact u1
       by_cases ei:i=i'
       ·subst ei
        rw [e_ hi] at hy
        cases hy
        rw [hyx,m_] at hya
        by_cases hj1:j'<off
        ·rw [r_ (by simp;omega),j_,if_pos hj1] at hya
         exact old _ (a_ hi) hya (by omega)
        ·rw [d_ (by simp;omega)] at hya
         have hmin:min off ys[i].length=off:=by omega
         simp only [List.length_take,hmin] at hya
         by_cases hj2:j'<off+n
         ·rw [r_ (by omega)] at hya
          exact absurd rfl (hna _ (g_ hya))
         ·rw [d_ (by omega),k_,show off+n+(j' - off - ds.length)=j' by omega] at hya
          exact old _ (a_ hi) hya (by omega)
       ·rw [h_ ei] at hy
        have hjz:j'<z:=by rw [←g2 y (g_ hy)];exact (b_.1 hya).1
        refine old y hy hya (fun hr=>?_)
        obtain ⟨d,hd⟩:∃d,i' * z+j'=i * z+(off+d)∧off+d<z:=⟨i' * z+j' - (i * z+off),by omega,by omega⟩
        exact ei (row_apart hjz hd.2 hd.1).1.symm)
     rw [List.set_set] at hM
     unfold Oper.wp execOp
     simp only [ho,hg,Sem.run_bind,hrun,Result.andThen_ok,Sem.run_pure,Oper.upon]
     exact ⟨undef,_,_,_,rfl,rfl,.top _,hM,hl,hk B'⟩
   ·exact h.elim
  ·exact h.elim
 ·exact h.elim
def vcOpX (P:Program) (s:St) (o:Oper) (K:C→List O→Prop):Prop:=
 match o.op with
 | .load t x=>(match ev s x with
  | .tptr r q z i off=>(match s.H[r]? with
   | some (.mix q' z' e ys xs B)=>okOperand x=true∧vcLdM P t q q' z z' i off ys xs (fun c=>K c s.H)
   | _=>vcOpT P s o K)
  | _=>vcOpT P s o K)
 | .indexAddr t x i=>(match ev s x with
  | .own r q=>(match s.H[r]? with
   | some (.mix q' z e ys xs B)=>okOperand x=true∧okOperand i=true∧vcIdxM P t r q q' z ys (ev s i) (fun c=>K c s.H)
   | _=>vcOpT P s o K)
  | _=>vcOpT P s o K)
 | .store t p x=>(match ev s p with
  | .tptr r q z i off=>(match s.H[r]? with
   | some (.mix ..)=>okOperand p=true∧okOperand x=true∧vcStM P s t r q z i off (ev s x) (K .top)
   | _=>vcOpT P s o K)
  | _=>vcOpT P s o K)
 | _=>vcOpT P s o K
theorem vcOpX_sound {s:St} {o:Oper} {K:C→List O→Prop} (h:vcOpX P s o K):EffOk P s o K:=by
 unfold vcOpX at h
 split at h
 ·rename_i t x ho
  split at h
  ·rename_i r q z i off hp
   split at h
   ·rename_i q' z' e ys xs B hr
    exact effOk_ldM ho h.1 hp hr h.2
   ·exact vcOpT_sound h
  ·exact vcOpT_sound h
 ·rename_i t x i ho
  split at h
  ·rename_i r q hp
   split at h
   ·rename_i q' z e ys xs B hr
    exact effOk_idxM ho h.1 h.2.1 hp hr h.2.2
   ·exact vcOpT_sound h
  ·exact vcOpT_sound h
 ·rename_i t p x ho
  split at h
  ·rename_i r q z i off hp
   split at h
   ·exact effOk_stM ho h.1 h.2.1 hp h.2.2
   ·exact vcOpT_sound h
  ·exact vcOpT_sound h
 ·exact vcOpT_sound h
def vcRX (P:Program) (n:Nat) (K:St→Prop):List Oper→St→Prop
 | [],⟨σ,H⟩=>K ⟨σ,H⟩
 | o :: rest,⟨σ,H⟩=>okDst n o=true∧o.guard=none∧vcOpX P ⟨σ,H⟩ o (kR (vcRX P n K rest) ⟨σ,H⟩ o.dst)
theorem vcRX_sound {n:Nat} {K:St→Prop} {ops:Array Oper} {E0:Env}:∀(os:List Oper) (l:List Nat) (s:St) (E:Env) (a:Act),l.map (ops[·]?)=os.map some→RepSt E n s a→Le E0 E→vcRX P n K os s →
  wpOps P ops (Behind n E0 K) l a E.w
 | [],l,s,E,a,hl,hst,hle,h=>by
  have:l=[]:=by simpa using hl
  subst this
  exact ⟨rfl,E,s,rfl,hst,hle,h⟩
 | o :: os,l,s,E,a,hl,hst,hle,h=>by
  cases l with
  | nil=>simp at hl
  | cons i l =>
   simp only [List.map_cons,List.cons.injEq] at hl
   obtain ⟨ho,hl⟩:=hl
   unfold vcRX at h
   obtain ⟨hd,hg,h⟩:=h
   have hdst:∀d,o.dst=some d→d<n:=fun d hd'=>by
    unfold okDst at hd
    rw [hd'] at hd
    simpa using hd
   rw [Go.wpOps_cons]
   refine wpOp_of (n:=n) ho hg ((vcOpX_sound h).run hst (fun v E' c H' h1 h2 h3 h4=>?_))
   exact vcRX_sound os l _ E' _ hl (hst.put h3 h2 hdst h1) (hle.trans h3) h4
theorem AW.regX {n:Nat} {f:FuncId} {n0:Nat} {R:C→List O→Prop} {id:Nat} {ops:Array Oper} {k:List Item} {s:St} (h:vcRX P n (AW P f n n0 R k) ops.toList s):AW P f n n0 R (.code (.region id ops false) :: k) s:=by
 refine AW.of_behind (k':=k) fun _ E a b cs hst=>?_
 have hw:=vcRX_sound (ops:=ops) ops.toList (List.range ops.size) s E a (by
  apply List.ext_getElem?
  intro j
  simp only [l_]
  by_cases hj:j<ops.size
  ·rw [i_ hj]
   simp [hj]
  ·rw [c_ (by simpa using hj),c_ (by simpa using hj)]
   rfl) hst (Le.refl E) h
 obtain ⟨e,a',w',⟨rfl,E',s',rfl,h1,h2,h3⟩,harr⟩:=wp_region (id:=id) hw b k cs
 exact ⟨a',E',s',harr,h1,h2,h3⟩
theorem AW.bufM {f:FuncId} {n n0:Nat} {R:C→List O→Prop} {k:List Item} {s:St} (r:Nat) {q z e:Nat} {xs:List (List D)} (ys:List (List D)) (hr:s.H[r]? = some (.buf q z e xs)) (hlen:ys.length=xs.length)
  (hy:∀(i:Nat) (y x:List D),ys[i]? = some y→xs[i]? = some x→y.length=x.length∧∀(j:Nat) (c d:D),y[j]? = some c→x[j]? = some d→c=.any∨c=d∧d.flat=true)
  (h:AW P f n n0 R k ⟨s.σ,s.H.set r (.mix q z e ys xs (fun _=>False))⟩):AW P f n n0 R k s:=by
 refine AW.recast (s':=⟨s.σ,s.H.set r (.mix q z e ys xs (fun _=>False))⟩) (fun h0 E a hst=>?_)
 refine ⟨E,rfl,Le.refl E,⟨hst.size,hst.defers,hst.heap.seen hr (fun b=>?_) ?_,hst.slot⟩,h⟩
 ·simp [O.block]
 ·obtain ⟨g1,g2,g3,g4⟩:=hst.heap.obj r _ hr
  have hrow:∀(i:Nat) (y:List D),ys[i]? = some y→∃x,xs[i]? = some x:=fun i y h=>by
   have:=(b_.1 h).1
   exact ⟨_,a_ (by omega)⟩
  refine ⟨g1,fun y hym=>?_,g3,fun b hb=>hb.elim,?_⟩
  ·obtain ⟨i,hi⟩:=List.getElem?_of_mem hym
   obtain ⟨x,hx⟩:=hrow i y hi
   rw [(hy i y x hi hx).1];exact g2 x (g_ hx)
  ·rcases g4 with ⟨ad,g4,rfl⟩ | ⟨b,cap,arr,k1,k2,k3,k4,k5,k6,k7,k8⟩
   ·exact .inl ⟨ad,g4,o_ (by simpa using hlen)⟩
   ·refine .inr ⟨b,cap,arr,by rw [hlen];exact k1,k2,fun e=>k3 (o_ (by rw [←hlen,e];rfl)),by omega,k5,k6,⟨fun i j=>arr.getD (i * z+j) undef,fun _ _ _=>False,fun i j y c hi hj=>?_,fun _ _ _ hb=>hb,fun _ _ _ _ _ hb=>hb.elim⟩,fun hb=>hb,k8,fun i j y x c h1 h2 h3 h4=>?_⟩
    ·obtain ⟨x,hx⟩:=hrow i y hi
     obtain ⟨q1,q2⟩:=hy i y x hi hx
     have hjl:j<x.length:=by rw [←q1];exact (b_.1 hj).1
     obtain ⟨v,u1,u2,u3⟩:=k7 i j x _ hx (a_ hjl)
     have e1:arr.getD (i * z+j) undef=v:=by rw [p_,u1];rfl
     simp only [e1]
     refine ⟨u1,u2,fun _=>?_⟩
     rcases q2 j c _ hj (a_ hjl) with rfl | ⟨rfl,hf⟩
     ·exact .any v
     ·exact flat_tr hf u3
    ·exact k7 i j x c h2 h4
theorem AW.mixT {f:FuncId} {n n0:Nat} {R:C→List O→Prop} {k:List Item} {s:St} (r:Nat) {q z e:Nat} {ys xs:List (List D)} {B:Nat→Prop} (hr:s.H[r]? = some (.mix q z e ys xs B))
  (h:AW P f n n0 R k ⟨s.σ,s.H.set r (.tree q z e ys B none)⟩):AW P f n n0 R k s:=
 AW.recast (s':=⟨s.σ,s.H.set r (.tree q z e ys B none)⟩) (fun h0 E a hst=>⟨E,rfl,Le.refl E,⟨hst.size,hst.defers,hst.heap.seen hr (fun b=>Iff.rfl) (mix_tree (hst.heap.obj r _ hr)),hst.slot⟩,h⟩)
attribute [go_sem] vcIdxM.eq_def vcLdM.eq_def vcStM.eq_def vcOpX.eq_def vcRX.eq_1 vcRX.eq_2
end
end Go.Abs

import Derived.Test.YtehkgphockcjdaaGreatP3
import Derived.Test.YtehkgphockcjdaaGreatP4
import Derived.Test.YtehkgphockcjdaaGreatP5
open List renaming mem_append→a_,length_cons→b_,getD_eq_getElem?_getD→c_,mem_cons→d_,length_append→e_,length_nil→f_,nodup_iff_pairwise_ne→g_
open Nat renaming zero_add→h_
set_option linter.unusedVariables false
set_option linter.unusedSimpArgs false
namespace Go.Abs
theorem wtR_mem {l:List (List D)} {x:List D} (h:x∈l):1+wtL x≤wtR l:=by
 induction l with
 | nil=>simp at h
 | cons y r ih =>
  simp only [wtR]
  rcases d_.1 h with rfl | h
  ·omega
  ·have:=ih h;omega
def relRow (C:List (List Int)) (i:Int):List Int:=C.getD i.toNat []
def Ws (C:List (List Int)):Nat→Int→List Int
 | 0,i=>relRow C i
 | t+1,i=>Ws C t i++(Ws C t i).flatMap fun m=>relRow C m
theorem Ws_succ {C:List (List Int)} {t:Nat} {i k:Int}:k∈Ws C (t+1) i↔k∈Ws C t i∨∃m,m∈Ws C t i∧k∈relRow C m:=by
 simp only [Ws,a_,List.mem_flatMap]
theorem Ws_mono {C:List (List Int)} {i k:Int}:∀{s t:Nat},s≤t→k∈Ws C s i→k∈Ws C t i
 | s,0,h,hk=>by
  obtain rfl:s=0:=by omega
  exact hk
 | s,t+1,h,hk=>by
  by_cases e:s=t+1
  ·subst e;exact hk
  ·exact Ws_succ.2 (.inl (Ws_mono (t:=t) (by omega) hk))
theorem Ws_trans {C:List (List Int)} {s:Nat} {i m:Int} (h:m∈Ws C s i):∀{t:Nat} {k:Int},k∈Ws C t m→k∈Ws C (s+t+1) i
 | 0,k,hk=>Ws_succ.2 (.inr ⟨m,h,hk⟩)
 | t+1,k,hk=>by
  rcases Ws_succ.1 hk with hk | ⟨x,hx,hk⟩
  ·exact Ws_mono (by omega) (Ws_trans h hk)
  ·exact Ws_succ.2 (.inr ⟨x,Ws_trans h hx,hk⟩)
def RelRows (C:List (List Int)):Prop:=∀r,r∈C→r.Nodup∧∀x,x∈r→0≤x∧x<C.length
theorem RelRows.at {C:List (List Int)} (h:RelRows C) (i:Int):(relRow C i).Nodup∧∀x,x∈relRow C i→0≤x∧x<C.length:=by
 unfold relRow
 rw [c_]
 cases hr:C[i.toNat]? with
 | none=>simp
 | some r=>exact h r (List.mem_of_getElem? hr)
theorem Ws_range {C:List (List Int)} (h:RelRows C):∀{t:Nat} {i k:Int},k∈Ws C t i→0≤k∧k<C.length
 | 0,i,k,hk=>(h.at i).2 k hk
 | t+1,i,k,hk=>by
  rcases Ws_succ.1 hk with hk | ⟨m,_,hk⟩
  ·exact Ws_range h hk
  ·exact (h.at m).2 k hk
theorem int_nodup_le {n:Nat} {l:List Int} (hn:l.Nodup) (h:∀x,x∈l→0≤x∧x<n):l.length≤n:=by
 have h1:(l.map Int.toNat).Nodup:=by
  rw [g_,List.pairwise_map]
  refine List.Pairwise.imp_of_mem (R:=fun a b=>a≠b) (fun {a b} ha hb hne e=>hne ?_) (g_.1 hn)
  have:=h a ha;have:=h b hb;omega
 have h2:=nodup_le n (l.map Int.toNat) h1 (fun x hx=>by
  obtain ⟨y,hy,rfl⟩:=List.mem_map.1 hx
  have:=h y hy;omega)
 simpa using h2
structure Bfs (C:List (List Int)) (i:Int) (ks td:List Int):Prop where
 nd:ks.Nodup
 kr:∀x,x∈ks→0≤x∧x<C.length
 tr:∀x,x∈td→0≤x∧x<C.length
 kin:∀x,x∈ks→x∈Ws C (ks.length - 1) i
 tin:∀x,x∈td→x∈Ws C ks.length i
 cov:∀y,y∈relRow C i→y∈ks∨y∈td
 clo:∀x,x∈ks→∀y,y∈relRow C x→y∈ks∨y∈td
def bfsM (C:List (List Int)) (ks td:List Int):Nat:=(C.length - ks.length) * (C.length+1)+td.length
theorem Bfs.init {C:List (List Int)} (h:RelRows C) (i:Int):Bfs C i [] (relRow C i):=
 ⟨by simp,by simp,(h.at i).2,by simp,fun x hx=>hx,fun y hy=>.inr hy,by simp⟩
theorem Bfs.len {C:List (List Int)} {i:Int} {ks td:List Int} (h:Bfs C i ks td):ks.length≤C.length:=int_nodup_le h.nd h.kr
theorem Bfs.old {C:List (List Int)} {i k:Int} {ks td:List Int} (h:Bfs C i ks (k :: td)) (hk:k∈ks):Bfs C i ks td:=
 ⟨h.nd,h.kr,fun x hx=>h.tr x (by simp [hx]),h.kin,fun x hx=>h.tin x (by simp [hx]),fun y hy=>by
  rcases h.cov y hy with h1 | h1
  ·exact .inl h1
  ·rcases d_.1 h1 with rfl | h1
   ·exact .inl hk
   ·exact .inr h1,fun x hx y hy=>by
  rcases h.clo x hx y hy with h1 | h1
  ·exact .inl h1
  ·rcases d_.1 h1 with rfl | h1
   ·exact .inl hk
   ·exact .inr h1⟩
theorem Bfs.new {C:List (List Int)} (hC:RelRows C) {i k:Int} {ks td:List Int} (h:Bfs C i ks (k :: td)) (hk:k∉ks):Bfs C i (ks++[k]) (td++relRow C k):=by
 have hki:=h.tin k (by simp)
 refine ⟨?_,fun x hx=>?_,fun x hx=>?_,fun x hx=>?_,fun x hx=>?_,fun y hy=>?_,fun x hx y hy=>?_⟩
 ·rw [List.nodup_append]
  exact ⟨h.nd,by simp,fun a ha b hb=>by simp at hb;subst hb;intro e;subst e;exact hk ha⟩
 ·rcases a_.1 hx with hx | hx
  ·exact h.kr x hx
  ·simp at hx;subst hx;exact h.tr x (by simp)
 ·rcases a_.1 hx with hx | hx
  ·exact h.tr x (by simp [hx])
  ·exact (hC.at k).2 x hx
 ·simp only [e_,b_,f_,Nat.add_sub_cancel,h_]
  rcases a_.1 hx with hx | hx
  ·exact Ws_mono (by omega) (h.kin x hx)
  ·simp at hx;subst hx;exact hki
 ·simp only [e_,b_,f_,h_]
  rcases a_.1 hx with hx | hx
  ·exact Ws_mono (by omega) (h.tin x (by simp [hx]))
  ·exact Ws_succ.2 (.inr ⟨k,hki,hx⟩)
 ·rcases h.cov y hy with h1 | h1
  ·exact .inl (by simp [h1])
  ·rcases d_.1 h1 with rfl | h1
   ·exact .inl (by simp)
   ·exact .inr (by simp [h1])
 ·rcases a_.1 hx with hx | hx
  ·rcases h.clo x hx y hy with h1 | h1
   ·exact .inl (by simp [h1])
   ·rcases d_.1 h1 with rfl | h1
    ·exact .inl (by simp)
    ·exact .inr (by simp [h1])
  ·simp at hx;subst hx
   exact .inr (by simp [hy])
theorem bfsM_old {C:List (List Int)} {k:Int} {ks td:List Int}:bfsM C ks td<bfsM C ks (k :: td):=by
 simp only [bfsM,b_];omega
theorem bfsM_new {C:List (List Int)} (hC:RelRows C) {i k:Int} {ks td:List Int} (h:Bfs C i ks (k :: td)) (hk:k∉ks):bfsM C (ks++[k]) (td++relRow C k)<bfsM C ks (k :: td):=by
 have h1:=(h.new hC hk).len
 have h2:=int_nodup_le (hC.at k).1 (hC.at k).2
 simp only [bfsM,e_,b_,f_,h_] at h1 ⊢
 have h3:C.length - ks.length=(C.length - (ks.length+1))+1:=by omega
 rw [h3,Nat.add_mul]
 omega
theorem Bfs.all {C:List (List Int)} {i:Int} {ks:List Int} (h:Bfs C i ks []):∀{t:Nat} {k:Int},k∈Ws C t i→k∈ks
 | 0,k,hk=>by
  rcases h.cov k hk with h1 | h1
  ·exact h1
  ·simp at h1
 | t+1,k,hk=>by
  rcases Ws_succ.1 hk with hk | ⟨m,hm,hk⟩
  ·exact h.all hk
  ·rcases h.clo m (h.all hm) k hk with h1 | h1
   ·exact h1
   ·simp at h1
theorem Bfs.done {C:List (List Int)} {i:Int} {ks:List Int} (h:Bfs C i ks []) (k:Int):k∈ks↔k∈Ws C C.length i:=
 ⟨fun hk=>Ws_mono (by have:=h.len;omega) (h.kin k hk),fun hk=>h.all hk⟩
theorem bfs_ends {C:List (List Int)} (hC:RelRows C) {i:Int}:∀(m:Nat) (ks td:List Int),bfsM C ks td≤m→Bfs C i ks td→∃ks',Bfs C i ks' []
 | m,ks,[],_,h=>⟨ks,h⟩
 | 0,ks,k :: td,hm,h=>by simp only [bfsM,b_] at hm;omega
 | m+1,ks,k :: td,hm,h=>by
  by_cases hk:k∈ks
  ·exact bfs_ends hC m ks td (by have:=bfsM_old (C:=C) (k:=k) (ks:=ks) (td:=td);omega) (h.old hk)
  ·exact bfs_ends hC m _ _ (by have:=bfsM_new hC h hk;omega) (h.new hC hk)
theorem Ws_stable {C:List (List Int)} (hC:RelRows C) {t:Nat} {i k:Int} (hk:k∈Ws C t i):k∈Ws C C.length i:=by
 obtain ⟨ks,h⟩:=bfs_ends hC (i:=i) _ _ _ (Nat.le_refl _) (Bfs.init hC i)
 exact (h.done k).1 (h.all hk)
def rc (C:List (List Int)) (i k:Int):Bool:=decide (k∈Ws C C.length i)
structure Rnd (C R:List (List Int)) (t:Nat):Prop where
 len:R.length=C.length
 asc:∀r,r∈R→Asc r
 sound:∀i:Nat,i<C.length→∀k,k∈relRow R i→∃s,k∈Ws C s i
 full:∀i:Nat,i<C.length→∀k,k∈Ws C t i→k∈relRow R i
def relNext (R:List (List Int)) (i:Nat):List Int:=((relRow R i).flatMap fun k=>relRow R k).foldl insA (relRow R i)
theorem relRow_set {R:List (List Int)} {i j:Nat} {r:List Int} (hi:i<R.length):relRow (R.set i r) j=if j=i then r else relRow R j:=by
 unfold relRow
 simp only [c_,Int.toNat_natCast,List.getElem?_set]
 by_cases e:j=i
 ·subst e;simp [hi]
 ·rw [if_neg (fun h=>e h.symm),if_neg e]
structure Mid (C R:List (List Int)) (t i:Nat):Prop where
 base:Rnd C R t
 more:∀j:Nat,j<i→∀k,k∈Ws C (t+1) j→k∈relRow R j
theorem Mid.step {C R:List (List Int)} {t i:Nat} (hC:RelRows C) (h:Mid C R t i) (hi:i<C.length):Mid C (R.set i (relNext R i)) t (i+1):=by
 have hl:=h.base.len
 have hm:∀k,k∈relNext R i↔(∃m,m∈relRow R i∧k∈relRow R m)∨k∈relRow R i:=fun k=>by
  unfold relNext;rw [foldA_mem,List.mem_flatMap]
 have hset:∀j:Nat,relRow (R.set i (relNext R i)) j=if j=i then relNext R i else relRow R j:=fun j=>relRow_set (by omega)
 have hup:∀(j:Nat) k,k∈relRow R j→k∈relRow (R.set i (relNext R i)) j:=fun j k hk=>by
  rw [hset]
  split
  ·rename_i e;subst e;exact (hm k).2 (.inr hk)
  ·exact hk
 have hrg:∀(j:Nat),j<C.length→∀k,k∈relRow R j→0≤k∧k<C.length:=fun j hj k hk=>by
  obtain ⟨s,hs⟩:=h.base.sound j hj k hk
  exact Ws_range hC hs
 refine ⟨⟨by simpa using hl,fun r hr=>?_,fun j hj k hk=>?_,fun j hj k hk=>hup j k (h.base.full j hj k hk)⟩,fun j hj k hk=>?_⟩
 ·rcases List.mem_or_eq_of_mem_set hr with hr | rfl
  ·exact h.base.asc r hr
  ·refine foldA_asc ?_
   unfold relRow
   rw [c_,Int.toNat_natCast,List.getElem?_eq_getElem (by omega)]
   exact h.base.asc _ (List.getElem_mem _)
 ·rw [hset] at hk
  split at hk
  ·rename_i e;subst e
   rcases (hm k).1 hk with ⟨m,hm1,hm2⟩ | hk
   ·obtain ⟨s,hs⟩:=h.base.sound j hj m hm1
    have hr:=hrg j hj m hm1
    obtain ⟨n,rfl⟩:∃n:Nat,m=n:=⟨m.toNat,by omega⟩
    obtain ⟨s',hs'⟩:=h.base.sound n (by omega) k hm2
    exact ⟨_,Ws_trans hs hs'⟩
   ·exact h.base.sound j hj k hk
  ·exact h.base.sound j hj k hk
 ·by_cases e:j=i
  ·subst e
   rw [hset,if_pos rfl]
   rcases Ws_succ.1 hk with hk | ⟨m,hm1,hm2⟩
   ·exact (hm k).2 (.inr (h.base.full j hi k hk))
   ·have hmr:=h.base.full j hi m hm1
    have hr:=hrg j hi m hmr
    obtain ⟨n,rfl⟩:∃n:Nat,m=n:=⟨m.toNat,by omega⟩
    exact (hm k).2 (.inl ⟨n,hmr,h.base.full n (by omega) k (Ws_mono (Nat.zero_le _) hm2)⟩)
  ·exact hup j k (h.more j (by omega) k hk)
theorem Mid.done {C R:List (List Int)} {t:Nat} (h:Mid C R t C.length):Rnd C R (t+1):=
 ⟨h.base.len,h.base.asc,h.base.sound,h.more⟩
theorem Rnd.init {C:List (List Int)} (ha:∀r,r∈C→Asc r):Rnd C C 0:=
 ⟨rfl,ha,fun i _ k hk=>⟨0,hk⟩,fun i _ k hk=>hk⟩
theorem Rnd.mem {C R:List (List Int)} (hC:RelRows C) {t:Nat} (h:Rnd C R t) (ht:C.length≤t) {i:Nat} (hi:i<C.length) (k:Int):k∈relRow R i↔rc C i k=true:=by
 unfold rc
 rw [decide_eq_true_eq]
 refine ⟨fun hk=>?_,fun hk=>h.full i hi k (Ws_mono ht hk)⟩
 obtain ⟨s,hs⟩:=h.sound i hi k hk
 exact Ws_stable hC hs
def V.sh (n:Int) (v:V):V:=v.sub fun k=>.var (k+n)
def Tm.sh (n:Int) (t:Tm):Tm:=(t.V.sh n).tm
mutual
def Gl.sh (n:Int):Gl→Gl
 | .mk k s ts gs=>.mk k s (ts.map (Tm.sh n)) (Gl.shs n gs)
def Gl.shs (n:Int):List Gl→List Gl
 | []=>[]
 | t :: r=>Gl.sh n t :: Gl.shs n r
end
theorem Tm.sh_enc (n:Int) (t:Tm):(t.sh n).enc=(t.V.sh n).enc:=rfl
end Go.Abs

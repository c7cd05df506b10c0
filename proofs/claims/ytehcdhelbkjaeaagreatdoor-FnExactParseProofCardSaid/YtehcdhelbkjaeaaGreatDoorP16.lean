import Derived.Test.YtehcdhelbkjaeaaGreatDoorP3
import Derived.Test.YtehcdhelbkjaeaaGreatDoorP4
import Derived.Test.YtehcdhelbkjaeaaGreatDoorP5
import Derived.Test.YtehcdhelbkjaeaaGreatDoorP10
import Derived.Test.YtehcdhelbkjaeaaGreatDoorP8
open List renaming length_append→a_,getElem?_eq_some_iff→b_,length_cons→c_,nil_append→d_,drop_eq_getElem_cons→e_,cons_append→f_,drop_eq_nil_of_le→g_,take_append_drop→h_,take_succ_cons→j_,getElem?_append_right→k_,getD_eq_getElem?_getD→l_,drop_drop→m_,getElem?_append_left→n_,append_assoc→o_,mem_cons→p_,getElem?_eq_getElem→q_,map_cons→s_,drop_append→v_,length_nil→w_,nodup_iff_pairwise_ne→x_,map_nil→y_
open Bool renaming and_eq_true→i_
open Option renaming map_eq_some_iff→r_,bind_some→t_
open Nat renaming add_zero→u_
set_option linter.unusedVariables false
set_option linter.unusedSimpArgs false
namespace Go.Abs
theorem wtR_app (a b:List (List D)):wtR (a++b)=wtR a+wtR b:=by
 induction a with
 | nil=>simp [wtR]
 | cons x r ih=>simp only [f_,wtR,ih];omega
def relRow (C:List (List Int)) (i:Int):List Int:=C.getD i.toNat []
def Ws (C:List (List Int)):Nat→Int→List Int
 | 0,i=>relRow C i
 | t+1,i=>Ws C t i++(Ws C t i).flatMap fun m=>relRow C m
theorem Ws_succ {C:List (List Int)} {t:Nat} {i k:Int}:k∈Ws C (t+1) i↔k∈Ws C t i∨∃m,m∈Ws C t i∧k∈relRow C m:=by
 simp only [Ws,List.mem_append,List.mem_flatMap]
theorem Ws_mono {C:List (List Int)} {i k:Int}:∀{s t:Nat},s≤t→k∈Ws C s i→k∈Ws C t i
 | s,0,h,hk=>by
  obtain rfl:s=0:=by omega
  exact hk
 | s,t+1,h,hk=>by
  by_cases e:s=t+1
  ·subst e;exact hk
  ·exact Ws_succ.2 (.inl (Ws_mono (t:=t) (by omega) hk))
theorem Ws_trans {C:List (List Int)} {s:Nat} {i m:Int} (h:m∈Ws C s i):∀{t:Nat} {k:Int},k∈Ws C t m→k∈Ws C (s+t+1) i
 | 0,k,hk=>Ws_succ.2 (.inr ⟨m,h,hk⟩)
 | t+1,k,hk=>by
  rcases Ws_succ.1 hk with hk | ⟨x,hx,hk⟩
  ·exact Ws_mono (by omega) (Ws_trans h hk)
  ·exact Ws_succ.2 (.inr ⟨x,Ws_trans h hx,hk⟩)
def RelRows (C:List (List Int)):Prop:=∀r,r∈C→r.Nodup∧∀x,x∈r→0≤x∧x<C.length
theorem RelRows.at {C:List (List Int)} (h:RelRows C) (i:Int):(relRow C i).Nodup∧∀x,x∈relRow C i→0≤x∧x<C.length:=by
 unfold relRow
 rw [l_]
 cases hr:C[i.toNat]? with
 | none=>simp
 | some r=>exact h r (List.mem_of_getElem? hr)
theorem Ws_range {C:List (List Int)} (h:RelRows C):∀{t:Nat} {i k:Int},k∈Ws C t i→0≤k∧k<C.length
 | 0,i,k,hk=>(h.at i).2 k hk
 | t+1,i,k,hk=>by
  rcases Ws_succ.1 hk with hk | ⟨m,_,hk⟩
  ·exact Ws_range h hk
  ·exact (h.at m).2 k hk
theorem int_nodup_le {n:Nat} {l:List Int} (hn:l.Nodup) (h:∀x,x∈l→0≤x∧x<n):l.length≤n:=by
 have h1:(l.map Int.toNat).Nodup:=by
  rw [x_,List.pairwise_map]
  refine List.Pairwise.imp_of_mem (R:=fun a b=>a≠b) (fun {a b} ha hb hne e=>hne ?_) (x_.1 hn)
  have:=h a ha;have:=h b hb;omega
 have h2:=nodup_le n (l.map Int.toNat) h1 (fun x hx=>by
  obtain ⟨y,hy,rfl⟩:=List.mem_map.1 hx
  have:=h y hy;omega)
 simpa using h2
structure Bfs (C:List (List Int)) (i:Int) (ks td:List Int):Prop where
 nd:ks.Nodup
 kr:∀x,x∈ks→0≤x∧x<C.length
 tr:∀x,x∈td→0≤x∧x<C.length
 kin:∀x,x∈ks→x∈Ws C (ks.length - 1) i
 tin:∀x,x∈td→x∈Ws C ks.length i
 cov:∀y,y∈relRow C i→y∈ks∨y∈td
 clo:∀x,x∈ks→∀y,y∈relRow C x→y∈ks∨y∈td
theorem Bfs.len {C:List (List Int)} {i:Int} {ks td:List Int} (h:Bfs C i ks td):ks.length≤C.length:=int_nodup_le h.nd h.kr
theorem Bfs.old {C:List (List Int)} {i k:Int} {ks td:List Int} (h:Bfs C i ks (k :: td)) (hk:k∈ks):Bfs C i ks td:=
 ⟨h.nd,h.kr,fun x hx=>h.tr x (by simp [hx]),h.kin,fun x hx=>h.tin x (by simp [hx]),fun y hy=>by
  rcases h.cov y hy with h1 | h1
  ·exact .inl h1
  ·rcases p_.1 h1 with rfl | h1
   ·exact .inl hk
   ·exact .inr h1,fun x hx y hy=>by
  rcases h.clo x hx y hy with h1 | h1
  ·exact .inl h1
  ·rcases p_.1 h1 with rfl | h1
   ·exact .inl hk
   ·exact .inr h1⟩
theorem Bfs.all {C:List (List Int)} {i:Int} {ks:List Int} (h:Bfs C i ks []):∀{t:Nat} {k:Int},k∈Ws C t i→k∈ks
 | 0,k,hk=>by
  rcases h.cov k hk with h1 | h1
  ·exact h1
  ·simp at h1
 | t+1,k,hk=>by
  rcases Ws_succ.1 hk with hk | ⟨m,hm,hk⟩
  ·exact h.all hk
  ·rcases h.clo m (h.all hm) k hk with h1 | h1
   ·exact h1
   ·simp at h1
theorem Bfs.done {C:List (List Int)} {i:Int} {ks:List Int} (h:Bfs C i ks []) (k:Int):k∈ks↔k∈Ws C C.length i:=
 ⟨fun hk=>Ws_mono (by have:=h.len;omega) (h.kin k hk),fun hk=>h.all hk⟩
structure Rnd (C R:List (List Int)) (t:Nat):Prop where
 len:R.length=C.length
 asc:∀r,r∈R→Asc r
 sound:∀i:Nat,i<C.length→∀k,k∈relRow R i→∃s,k∈Ws C s i
 full:∀i:Nat,i<C.length→∀k,k∈Ws C t i→k∈relRow R i
def relNext (R:List (List Int)) (i:Nat):List Int:=((relRow R i).flatMap fun k=>relRow R k).foldl insA (relRow R i)
theorem relRow_set {R:List (List Int)} {i j:Nat} {r:List Int} (hi:i<R.length):relRow (R.set i r) j=if j=i then r else relRow R j:=by
 unfold relRow
 simp only [l_,Int.toNat_natCast,List.getElem?_set]
 by_cases e:j=i
 ·subst e;simp [hi]
 ·rw [if_neg (fun h=>e h.symm),if_neg e]
structure Mid (C R:List (List Int)) (t i:Nat):Prop where
 base:Rnd C R t
 more:∀j:Nat,j<i→∀k,k∈Ws C (t+1) j→k∈relRow R j
theorem Mid.step {C R:List (List Int)} {t i:Nat} (hC:RelRows C) (h:Mid C R t i) (hi:i<C.length):Mid C (R.set i (relNext R i)) t (i+1):=by
 have hl:=h.base.len
 have hm:∀k,k∈relNext R i↔(∃m,m∈relRow R i∧k∈relRow R m)∨k∈relRow R i:=fun k=>by
  unfold relNext;rw [foldA_mem,List.mem_flatMap]
 have hset:∀j:Nat,relRow (R.set i (relNext R i)) j=if j=i then relNext R i else relRow R j:=fun j=>relRow_set (by omega)
 have hup:∀(j:Nat) k,k∈relRow R j→k∈relRow (R.set i (relNext R i)) j:=fun j k hk=>by
  rw [hset]
  split
  ·rename_i e;subst e;exact (hm k).2 (.inr hk)
  ·exact hk
 have hrg:∀(j:Nat),j<C.length→∀k,k∈relRow R j→0≤k∧k<C.length:=fun j hj k hk=>by
  obtain ⟨s,hs⟩:=h.base.sound j hj k hk
  exact Ws_range hC hs
 refine ⟨⟨by simpa using hl,fun r hr=>?_,fun j hj k hk=>?_,fun j hj k hk=>hup j k (h.base.full j hj k hk)⟩,fun j hj k hk=>?_⟩
 ·rcases List.mem_or_eq_of_mem_set hr with hr | rfl
  ·exact h.base.asc r hr
  ·refine foldA_asc ?_
   unfold relRow
   rw [l_,Int.toNat_natCast,q_ (by omega)]
   exact h.base.asc _ (List.getElem_mem _)
 ·rw [hset] at hk
  split at hk
  ·rename_i e;subst e
   rcases (hm k).1 hk with ⟨m,hm1,hm2⟩ | hk
   ·obtain ⟨s,hs⟩:=h.base.sound j hj m hm1
    have hr:=hrg j hj m hm1
    obtain ⟨n,rfl⟩:∃n:Nat,m=n:=⟨m.toNat,by omega⟩
    obtain ⟨s',hs'⟩:=h.base.sound n (by omega) k hm2
    exact ⟨_,Ws_trans hs hs'⟩
   ·exact h.base.sound j hj k hk
  ·exact h.base.sound j hj k hk
 ·by_cases e:j=i
  ·subst e
   rw [hset,if_pos rfl]
   rcases Ws_succ.1 hk with hk | ⟨m,hm1,hm2⟩
   ·exact (hm k).2 (.inr (h.base.full j hi k hk))
   ·have hmr:=h.base.full j hi m hm1
    have hr:=hrg j hi m hmr
    obtain ⟨n,rfl⟩:∃n:Nat,m=n:=⟨m.toNat,by omega⟩
    exact (hm k).2 (.inl ⟨n,hmr,h.base.full n (by omega) k (Ws_mono (Nat.zero_le _) hm2)⟩)
  ·exact hup j k (h.more j (by omega) k hk)
theorem Mid.done {C R:List (List Int)} {t:Nat} (h:Mid C R t C.length):Rnd C R (t+1):=
 ⟨h.base.len,h.base.asc,h.base.sound,h.more⟩
def V.sh (n:Int) (v:V):V:=v.sub fun k=>.var (k+n)
def Tm.sh (n:Int) (t:Tm):Tm:=(t.V.sh n).tm
mutual
def Gl.sh (n:Int):Gl→Gl
 | .mk k s ts gs=>.mk k s (ts.map (Tm.sh n)) (Gl.shs n gs)
def Gl.shs (n:Int):List Gl→List Gl
 | []=>[]
 | t :: r=>Gl.sh n t :: Gl.shs n r
end
theorem Tm.sh_enc (n:Int) (t:Tm):(t.sh n).enc=(t.V.sh n).enc:=rfl
def rdVs (T:List (List UInt8)):Nat→Nat→List V→Option (List V×Nat)
 | 0,_,_=>none
 | n+1,i,acc=>if T[i]? = some [41] then some (acc,i+1) else match rdO false T i with
  | some (v,j)=>rdVs T n j (acc++[v])
  | none=>none
mutual
def rdP (T:List (List UInt8)):Nat→Nat→Option (Pf×Nat)
 | 0,_=>none
 | n+1,i=>if T[i]? = some [40] then (match T[i+1]? with
  | none=>none
  | some rel=>(match pInt (T[i+2]?.getD []) with
   | none=>none
   | some c=>if T[i+3]? = some [40] then (match rdVs T (T.length+1) (i+4) [] with
    | none=>none
    | some (vs,j)=>rdK T n j rel c vs []) else none)) else none
def rdK (T:List (List UInt8)):Nat→Nat→List UInt8→Int→List V→List Pf→Option (Pf×Nat)
 | 0,_,_,_,_,_=>none
 | n+1,i,rel,c,vs,acc=>if T[i]? = some [41] then some (.mk rel c (vs.map V.tm) acc,i+1) else match rdP T n i with
  | some (k,j)=>rdK T n j rel c vs (acc++[k])
  | none=>none
end
def dyk:Nat→List (List UInt8)→Option Nat
 | d,[]=>some d
 | d,t :: r=>if t=[40] then dyk (d+1) r else if t=[41] then (match d with | 0=>none | d+1=>dyk d r) else dyk d r
def clo:Nat→List (List UInt8)→Option Nat
 | _,[]=>none
 | d,t :: r=>if t=[40] then (clo (d+1) r).map (·+1) else if t=[41] then (match d with | 0=>some 0 | d+1=>(clo d r).map (·+1)) else (clo d r).map (·+1)
def lsl:Nat→List (List UInt8)→Option (List (List (List UInt8)))
 | 0,_=>none
 | _+1,[]=>some []
 | n+1,t :: r=>if t=[40] then (match clo 0 r with
  | some k=>(match lsl n (r.drop (k+1)) with | some l=>some (r.take k :: l) | none=>none)
  | none=>none) else none
mutual
def derO:Nat→List (List UInt8)→Option Pf
 | 0,_=>none
 | n+1,w=>match w with
  | rel :: c :: r=>(match pInt c,lsl (r.length+1) r with
   | some k,some (p0 :: ps)=>(match rdA p0 (p0.length+1) 0,derL n ps with
    | some vs,some ks=>some (.mk rel k (vs.map V.tm) ks)
    | _,_=>none)
   | _,_=>none)
  | _=>none
def derL:Nat→List (List (List UInt8))→Option (List Pf)
 | _,[]=>some []
 | 0,_ :: _=>none
 | n+1,w :: r=>match derO n w,derL n r with
  | some k,some ks=>some (k :: ks)
  | _,_=>none
end
theorem dyk_o (d:Nat) (r:List (List UInt8)):dyk d ([40] :: r)=dyk (d+1) r:=by simp [dyk]
theorem dyk_c (d:Nat) (r:List (List UInt8)):dyk (d+1) ([41] :: r)=dyk d r:=by simp [dyk]
theorem dyk_x {t:List UInt8} (h1:t≠[40]) (h2:t≠[41]) (d:Nat) (r:List (List UInt8)):dyk d (t :: r)=dyk d r:=by simp [dyk,h1,h2]
theorem dyk_app:∀(a b:List (List UInt8)) (d:Nat),dyk d (a++b)=(dyk d a).bind (fun e=>dyk e b)
 | [],b,d=>rfl
 | t :: a,b,d=>by
  simp only [f_,dyk]
  split
  ·exact dyk_app a b (d+1)
  ·split
   ·cases d with
    | zero=>rfl
    | succ d=>exact dyk_app a b d
   ·exact dyk_app a b d
theorem dyk_up:∀(a:List (List UInt8)) (d e m:Nat),dyk d a=some e→dyk (d+m) a=some (e+m)
 | [],d,e,m,h=>by simp only [dyk,Option.some.injEq] at h ⊢;omega
 | t :: a,d,e,m,h=>by
  simp only [dyk] at h ⊢
  split at h
  ·rename_i h1
   rw [if_pos h1]
   have:=dyk_up a (d+1) e m h
   rw [show d+m+1=d+1+m by omega];exact this
  ·rename_i h1
   rw [if_neg h1]
   split at h
   ·rename_i h2
    rw [if_pos h2]
    cases d with
    | zero=>cases h
    | succ d =>
     rw [show d+1+m=(d+m)+1 by omega]
     exact dyk_up a d e m h
   ·rename_i h2
    rw [if_neg h2]
    exact dyk_up a d e m h
theorem clo_app:∀(a b:List (List UInt8)) (d e:Nat),dyk d a=some e→clo d (a++b)=(clo e b).map (·+a.length)
 | [],b,d,e,h=>by
  simp only [dyk,Option.some.injEq] at h
  subst h
  simp
 | t :: a,b,d,e,h=>by
  have am:∀o:Option Nat,(o.map (·+a.length)).map (·+1)=o.map (·+(t :: a).length):=fun o=>by
   cases o<;>simp;omega
  simp only [dyk] at h
  simp only [f_,clo]
  split at h
  ·rename_i h1
   rw [if_pos h1,clo_app a b _ _ h,am]
  ·rename_i h1
   rw [if_neg h1]
   split at h
   ·rename_i h2
    rw [if_pos h2]
    cases d with
    | zero=>cases h
    | succ d =>
     dsimp only at h ⊢
     rw [clo_app a b _ _ h,am]
   ·rename_i h2
    rw [if_neg h2,clo_app a b _ _ h,am]
theorem clo_inv:∀(l:List (List UInt8)) (d k:Nat),clo d l=some k→dyk d (l.take k)=some 0∧l[k]? = some [41]∧k<l.length
 | [],d,k,h=>by simp [clo] at h
 | t :: r,d,k,h=>by
  simp only [clo] at h
  split at h
  ·rename_i h1
   obtain ⟨k',h2,rfl⟩:=r_.1 h
   obtain ⟨g1,g2,g3⟩:=clo_inv r _ _ h2
   refine ⟨?_,by simpa using g2,by simp;omega⟩
   rw [j_,h1,dyk_o];exact g1
  ·rename_i h1
   split at h
   ·rename_i h2
    cases d with
    | zero =>
     cases h
     exact ⟨rfl,by rw [h2];rfl,by simp⟩
    | succ d =>
     obtain ⟨k',h3,rfl⟩:=r_.1 h
     obtain ⟨g1,g2,g3⟩:=clo_inv r _ _ h3
     refine ⟨?_,by simpa using g2,by simp;omega⟩
     rw [j_,h2,dyk_c];exact g1
   ·rename_i h2
    obtain ⟨k',h3,rfl⟩:=r_.1 h
    obtain ⟨g1,g2,g3⟩:=clo_inv r _ _ h3
    refine ⟨?_,by simpa using g2,by simp;omega⟩
    rw [j_,dyk_x h1 h2];exact g1
theorem clo_mid (w r:List (List UInt8)) (h:dyk 0 w=some 0):clo 0 (w++[41] :: r)=some w.length:=by
 rw [clo_app w _ 0 0 h]
 simp [clo]
theorem clo_split {l:List (List UInt8)} {k:Nat} (h:clo 0 l=some k):∃w r,l=w++[41] :: r∧w.length=k∧dyk 0 w=some 0∧l.take k=w∧l.drop (k+1)=r:=by
 obtain ⟨h1,h2,h3⟩:=clo_inv l 0 k h
 have h4:l.drop k=[41] :: l.drop (k+1):=by
  rw [e_ h3];congr 1
  exact (b_.1 h2).2
 refine ⟨l.take k,l.drop (k+1),?_,by rw [List.length_take];omega,h1,rfl,rfl⟩
 rw [←h4,h_]
theorem lsl_cons (n:Nat) (w r:List (List UInt8)) (h:dyk 0 w=some 0):lsl (n+1) ([40] :: (w++[41] :: r))=match lsl n r with | some l=>some (w :: l) | none=>none:=by
 rw [lsl,if_pos rfl,clo_mid w r h]
 have e1:(w++[41] :: r).drop (w.length+1)=r:=by
  rw [v_,g_ (by omega)]
  simp
 have e2:(w++[41] :: r).take w.length=w:=by simp
 dsimp only
 rw [e1,e2]
theorem lsl_inv {n:Nat} {t:List UInt8} {r:List (List UInt8)} {L:List (List (List UInt8))} (h:lsl (n+1) (t :: r)=some L):∃w r' L',t=[40]∧r=w++[41] :: r'∧dyk 0 w=some 0∧lsl n r'=some L'∧L=w :: L':=by
 rw [lsl] at h
 split at h
 ·rename_i h1
  split at h
  ·rename_i k hk
   obtain ⟨w,r',e1,e2,e3,e4,e5⟩:=clo_split hk
   split at h
   ·rename_i l hl
    cases h
    exact ⟨w,r',l,h1,e1,e3,by rw [←e5];exact hl,by rw [e4]⟩
   ·cases h
  ·cases h
 ·cases h
def unl:List (List (List UInt8))→List (List UInt8)
 | []=>[]
 | w :: r=>[40] :: (w++[41] :: unl r)
theorem lsl_un:∀(n:Nat) (r:List (List UInt8)) (L:List (List (List UInt8))),lsl n r=some L→r=unl L∧∀w,w∈L→dyk 0 w=some 0
 | 0,r,L,h=>by rw [lsl] at h;cases h
 | n+1,[],L,h=>by rw [lsl] at h;cases h;exact ⟨rfl,fun w hw=>by cases hw⟩
 | n+1,t :: r,L,h=>by
  obtain ⟨w,r',L',rfl,rfl,h3,h4,rfl⟩:=lsl_inv h
  obtain ⟨rfl,g2⟩:=lsl_un n r' L' h4
  refine ⟨rfl,fun x hx=>?_⟩
  rcases p_.1 hx with rfl | hx
  ·exact h3
  ·exact g2 x hx
theorem un_lsl:∀(L:List (List (List UInt8))) (n:Nat),(unl L).length+1≤n→(∀w,w∈L→dyk 0 w=some 0)→lsl n (unl L)=some L
 | [],n,hn,h=>by
  obtain ⟨n,rfl⟩:∃n',n=n'+1:=⟨n - 1,by simp [unl] at hn;omega⟩
  rw [unl,lsl]
 | w :: L,n,hn,h=>by
  obtain ⟨n,rfl⟩:∃n',n=n'+1:=⟨n - 1,by omega⟩
  simp only [unl,c_,a_] at hn
  rw [unl,lsl_cons n w _ (h w (by simp)),un_lsl L n (by omega) (fun x hx=>h x (by simp [hx]))]
theorem dyk_un:∀(L:List (List (List UInt8))),(∀w,w∈L→dyk 0 w=some 0)→dyk 0 (unl L)=some 0
 | [],_=>rfl
 | w :: L,h=>by
  have h1:=dyk_up w 0 0 1 (h w (by simp))
  rw [unl,dyk_o,dyk_app,h1,t_,dyk_c]
  exact dyk_un L (fun x hx=>h x (by simp [hx]))
theorem win_app {α:Type} {T:List α} {i j k:Nat} (h1:i≤j) (h2:j≤k):(T.drop i).take (k - i)=(T.drop i).take (j - i)++(T.drop j).take (k - j):=by
 rw [show k - i=(j - i)+(k - j) by omega,List.take_add,m_,show i+(j - i)=j by omega]
theorem win_one {α:Type} {T:List α} {i:Nat} {t:α} (h:T[i]? = some t):(T.drop i).take (i+1 - i)=[t]:=by
 have hi:=(b_.1 h).1
 rw [show i+1 - i=1 by omega,e_ hi]
 simp only [j_,List.take_zero]
 rw [(b_.1 h).2]
theorem win_len {α:Type} {T:List α} {i j:Nat} (h1:i≤j) (h2:j≤T.length):((T.drop i).take (j - i)).length=j - i:=by
 rw [List.length_take,List.length_drop];omega
theorem win_rest {α:Type} {T:List α} {i j:Nat} (h1:i≤j):T.drop i=(T.drop i).take (j - i)++T.drop j:=by
 conv=>lhs;rw [←h_ (j - i) (T.drop i)]
 rw [m_,show i+(j - i)=j by omega]
theorem dropC {α:Type} {T:List α} {i:Nat} {t:α} {R:List α} (h:T.drop i=t :: R):T[i]? = some t∧T.drop (i+1)=R:=by
 have h1:i<T.length:=by
  have:=congrArg List.length h
  simp at this;omega
 rw [e_ h1] at h
 injection h with h2 h3
 exact ⟨by rw [q_ h1,h2],h3⟩
theorem atDrop {α:Type} {T:List α} {i:Nat} {t:α} (h:T[i]? = some t):T.drop i=t :: T.drop (i+1):=by
 have hi:=(b_.1 h).1
 rw [e_ hi,(b_.1 h).2]
theorem rd_move (big:Bool) (T:List (List UInt8)):∀n:Nat,(∀i v j,rdT big T n i=some (v,j)→∀(T':List (List UInt8)) (i' m:Nat),(∀k,k<j - i→T'[i'+k]? = T[i+k]?)→2 * (j - i)≤m→rdT big T' m i'=some (v,i'+(j - i))) ∧
  (∀i acc v j,rdL big T n i acc=some (v,j)→∀(T':List (List UInt8)) (i' m:Nat),(∀k,k<j - i→T'[i'+k]? = T[i+k]?)→2 * (j - i)≤m→rdL big T' m i' acc=some (v,i'+(j - i)))
 | 0=>⟨fun i v j h=>(by rw [rdT] at h;cases h),fun i acc v j h=>(by rw [rdL] at h;cases h)⟩
 | n + 1=>by
  obtain ⟨ih1,ih2⟩:=rd_move big T n
  refine ⟨fun i v j h T' i' m hw hm=>?_,fun i acc v j h T' i' m hw hm=>?_⟩
  ·have hl:=(rd_len big T (n+1)).1 _ _ _ h
   obtain ⟨m,rfl⟩:∃m',m=m'+1:=⟨m - 1,by omega⟩
   have h0:=hw 0 (by omega)
   simp only [u_] at h0
   cases hT:T[i]? with
   | none=>rw [rdT_none hT] at h;cases h
   | some t =>
    rw [hT] at h0
    by_cases h1:t=[41]∨t=[46]
    ·rw [rdT_bad hT h1] at h;cases h
    ·by_cases h2:t=[40]
     ·subst h2
      rw [rdT_open hT] at h
      have hl2:=(rd_len big T n).2 _ _ _ _ h
      rw [rdT_open h0,ih2 _ _ _ _ h T' (i'+1) m (fun k hk=>by rw [show i'+1+k=i'+(k+1) by omega,show i+1+k=i+(k+1) by omega];exact hw _ (by omega)) (by omega)]
      rw [show i'+1+(j - (i+1))=i'+(j - i) by omega]
     ·rw [rdT_atom hT h1 h2] at h
      rw [rdT_atom h0 h1 h2]
      cases ha:atom big t with
      | none=>rw [ha] at h;cases h
      | some v' =>
       rw [ha] at h
       cases h
       dsimp only
       rw [show i'+(i+1 - i)=i'+1 by omega]
  ·have hl:=(rd_len big T (n+1)).2 _ _ _ _ h
   obtain ⟨m,rfl⟩:∃m',m=m'+1:=⟨m - 1,by omega⟩
   have h0:=hw 0 (by omega)
   simp only [u_] at h0
   cases hT:T[i]? with
   | none=>rw [rdL_none hT] at h;cases h
   | some t =>
    rw [hT] at h0
    by_cases h1:t=[41]
    ·subst h1
     rw [rdL_end hT] at h
     rw [rdL_end h0]
     cases h
     rw [show i'+(i+1 - i)=i'+1 by omega]
    ·by_cases h2:t=[46]
     ·subst h2
      rw [rdL_dot hT] at h
      rw [rdL_dot h0]
      cases h3:rdT big T n (i+1) with
      | none=>rw [h3] at h;cases h
      | some x =>
       obtain ⟨v1,j1⟩:=x
       rw [h3] at h
       dsimp only at h
       split at h
       ·rename_i hc
        cases h
        have hl2:=(rd_len big T n).1 _ _ _ h3
        rw [ih1 _ _ _ h3 T' (i'+1) m (fun k hk=>by rw [show i'+1+k=i'+(k+1) by omega,show i+1+k=i+(k+1) by omega];exact hw _ (by omega)) (by omega)]
        dsimp only
        have h4:=hw (j1 - i) (by omega)
        rw [show i+(j1 - i)=j1 by omega,hc.2] at h4
        rw [show i'+1+(j1 - (i+1))=i'+(j1 - i) by omega,if_pos ⟨hc.1,h4⟩]
        rw [show i'+(j1+1 - i)=i'+(j1 - i)+1 by omega]
       ·cases h
     ·rw [rdL_item hT h1 h2] at h
      rw [rdL_item h0 h1 h2]
      cases h3:rdT big T n i with
      | none=>rw [h3] at h;cases h
      | some x =>
       obtain ⟨v1,j1⟩:=x
       rw [h3] at h
       dsimp only at h
       have hl2:=(rd_len big T n).1 _ _ _ h3
       have hl3:=(rd_len big T n).2 _ _ _ _ h
       rw [ih1 _ _ _ h3 T' i' m (fun k hk=>hw k (by omega)) (by omega)]
       dsimp only
       rw [ih2 _ _ _ _ h T' (i'+(j1 - i)) m (fun k hk=>by rw [show i'+(j1 - i)+k=i'+(j1 - i+k) by omega,show j1+k=i+(j1 - i+k) by omega];exact hw _ (by omega)) (by omega)]
       rw [show i'+(j1 - i)+(j - j1)=i'+(j - i) by omega]
theorem rd_dyk (big:Bool) (T:List (List UInt8)):∀n:Nat,(∀i v j,rdT big T n i=some (v,j)→∀d,dyk d ((T.drop i).take (j - i))=some d)∧(∀i acc v j,rdL big T n i acc=some (v,j)→∀d,dyk (d+1) ((T.drop i).take (j - i))=some d)
 | 0=>⟨fun i v j h=>(by rw [rdT] at h;cases h),fun i acc v j h=>(by rw [rdL] at h;cases h)⟩
 | n + 1=>by
  obtain ⟨ih1,ih2⟩:=rd_dyk big T n
  refine ⟨fun i v j h d=>?_,fun i acc v j h d=>?_⟩
  ·cases hT:T[i]? with
   | none=>rw [rdT_none hT] at h;cases h
   | some t =>
    by_cases h1:t=[41]∨t=[46]
    ·rw [rdT_bad hT h1] at h;cases h
    ·by_cases h2:t=[40]
     ·subst h2
      rw [rdT_open hT] at h
      have hl2:=(rd_len big T n).2 _ _ _ _ h
      rw [win_app (j:=i+1) (by omega) (by omega),win_one hT]
      simp only [f_,d_]
      rw [dyk_o]
      exact ih2 _ _ _ _ h d
     ·rw [rdT_atom hT h1 h2] at h
      cases ha:atom big t with
      | none=>rw [ha] at h;cases h
      | some v' =>
       rw [ha] at h
       cases h
       rw [win_one hT,dyk_x h2 (fun e=>h1 (.inl e))];rfl
  ·cases hT:T[i]? with
   | none=>rw [rdL_none hT] at h;cases h
   | some t =>
    by_cases h1:t=[41]
    ·subst h1
     rw [rdL_end hT] at h
     cases h
     rw [win_one hT,dyk_c];rfl
    ·by_cases h2:t=[46]
     ·subst h2
      rw [rdL_dot hT] at h
      cases h3:rdT big T n (i+1) with
      | none=>rw [h3] at h;cases h
      | some x =>
       obtain ⟨v1,j1⟩:=x
       rw [h3] at h
       dsimp only at h
       split at h
       ·rename_i hc
        cases h
        have hl2:=(rd_len big T n).1 _ _ _ h3
        rw [win_app (j:=i+1) (by omega) (by omega),win_one hT,win_app (i:=i+1) (j:=j1) (by omega) (by omega),win_one hc.2]
        simp only [f_,d_]
        rw [dyk_x (by decide) (by decide),dyk_app,ih1 _ _ _ h3 (d+1),t_,dyk_c];rfl
       ·cases h
     ·rw [rdL_item hT h1 h2] at h
      cases h3:rdT big T n i with
      | none=>rw [h3] at h;cases h
      | some x =>
       obtain ⟨v1,j1⟩:=x
       rw [h3] at h
       dsimp only at h
       have hl2:=(rd_len big T n).1 _ _ _ h3
       have hl3:=(rd_len big T n).2 _ _ _ _ h
       rw [win_app (j:=j1) (by omega) (by omega),dyk_app,ih1 _ _ _ h3 (d+1),t_]
       exact ih2 _ _ _ _ h d
theorem rdO_move {T:List (List UInt8)} {i:Nat} {v:V} {j:Nat} (h:rdO false T i=some (v,j)) (T':List (List UInt8)) (i':Nat) (hw:∀k,k<j - i→T'[i'+k]? = T[i+k]?) (hl:i'+(j - i)≤T'.length):rdO false T' i'=some (v,i'+(j - i)):=by
 unfold rdO at h ⊢
 cases h1:rdT false T (2 * T.length+1) i with
 | none=>rw [h1] at h;cases h
 | some x =>
  obtain ⟨v1,j1⟩:=x
  rw [h1] at h
  dsimp only at h
  split at h
  ·rename_i hok
   cases h
   rw [(rd_move false T _).1 _ _ _ h1 T' i' (2 * T'.length+1) hw (by omega)]
   simp only [if_pos hok]
  ·cases h
theorem rdO_dyk {T:List (List UInt8)} {i:Nat} {v:V} {j:Nat} (h:rdO false T i=some (v,j)) (d:Nat):dyk d ((T.drop i).take (j - i))=some d:=by
 unfold rdO at h
 cases h1:rdT false T (2 * T.length+1) i with
 | none=>rw [h1] at h;cases h
 | some x =>
  obtain ⟨v1,j1⟩:=x
  rw [h1] at h
  dsimp only at h
  split at h
  ·cases h
   exact (rd_dyk false T _).1 _ _ _ h1 d
  ·cases h
theorem rdO_41 {T:List (List UInt8)} {i:Nat} (h:T[i]? = some [41]):rdO false T i=none:=by
 unfold rdO
 rw [rdT_bad h (.inl rfl)]
theorem rdA_move (w a:List (List UInt8)):∀(n i:Nat) (l:List V),rdA w n i=some l→i≤w.length→∀m,w.length - i+1≤m→rdA (a++w) m (a.length+i)=some l
 | 0,i,l,h,hi,m,hm=>by rw [rdA] at h;cases h
 | n + 1,i,l,h,hi,m,hm=>by
  obtain ⟨m,rfl⟩:∃m',m=m'+1:=⟨m - 1,by omega⟩
  rcases Nat.lt_or_ge i w.length with hi2 | hi2
  ·rw [rdA_step hi2] at h
   rw [rdA_step (by rw [a_];omega)]
   cases h1:rdO false w i with
   | none=>rw [h1] at h;cases h
   | some x =>
    obtain ⟨v,j⟩:=x
    rw [h1] at h
    dsimp only at h
    have hl:=rdO_len h1
    rw [rdO_move h1 (a++w) (a.length+i) (fun k hk=>by rw [k_ (by omega)];congr 1;omega) (by rw [a_];omega)]
    dsimp only
    cases h2:rdA w n j with
    | none=>rw [h2] at h;cases h
    | some l' =>
     rw [h2] at h
     rw [show a.length+i+(j - i)=a.length+j by omega,rdA_move w a n j l' h2 hl.2.1 m (by omega)]
     exact h
  ·rw [rdA_end hi2] at h
   rw [rdA_end (by rw [a_];omega)]
   exact h
theorem rdVs_to (T:List (List UInt8)):∀(n i:Nat) (acc vs:List V) (j:Nat),rdVs T n i acc=some (vs,j)→∃l w,vs=acc++l∧T.drop i=w++[41] :: T.drop j∧dyk 0 w=some 0∧rdA w (w.length+1) 0=some l∧j=i+w.length+1∧j≤T.length
 | 0,i,acc,vs,j,h=>by rw [rdVs] at h;cases h
 | n + 1,i,acc,vs,j,h=>by
  rw [rdVs] at h
  split at h
  ·rename_i hT
   cases h
   have:=(b_.1 hT).1
   exact ⟨[],[],by simp,by rw [d_];exact atDrop hT,rfl,rdA_end (by simp),rfl,this⟩
  ·cases h1:rdO false T i with
   | none=>rw [h1] at h;cases h
   | some x =>
    obtain ⟨v,j1⟩:=x
    rw [h1] at h
    dsimp only at h
    obtain ⟨l,w,e1,e2,e3,e4,e5,e6⟩:=rdVs_to T n _ _ _ _ h
    have hl:=rdO_len h1
    have hd:=rdO_dyk h1 0
    have hwl:=win_len (T:=T) (i:=i) (j:=j1) (by omega) (by omega)
    have hwin:∀k,k<j1 - i→((T.drop i).take (j1 - i))[k]? = T[i+k]?:=fun k hk=>by rw [List.getElem?_take,if_pos hk,List.getElem?_drop]
    have hwr:=win_rest (T:=T) (i:=i) (j:=j1) (by omega)
    generalize (T.drop i).take (j1 - i)=W at *
    refine ⟨v :: l,W++w,by rw [e1];simp,?_,?_,?_,by rw [a_];omega,e6⟩
    ·rw [hwr,e2,o_]
    ·rw [dyk_app,hd];exact e3
    ·have h5:=rdO_move h1 (W++w) 0 (fun k hk=>by rw [Nat.zero_add,n_ (by omega)];exact hwin k hk) (by rw [a_];omega)
     rw [rdA_step (by rw [a_];omega),h5]
     dsimp only
     have h6:=rdA_move w W _ 0 l e4 (by omega) (W++w).length (by rw [a_];omega)
     rw [u_,hwl] at h6
     rw [Nat.zero_add,h6]
theorem rdVs_of {T w R:List (List UInt8)} {i:Nat} (hd:T.drop i=w++[41] :: R):∀(n k:Nat) (acc l:List V),rdA w n k=some l→k≤w.length→∀m,w.length - k+1≤m→rdVs T m (i+k) acc=some (acc++l,i+w.length+1)
 | 0,k,acc,l,h,hk,m,hm=>by rw [rdA] at h;cases h
 | n + 1,k,acc,l,h,hk,m,hm=>by
  obtain ⟨m,rfl⟩:∃m',m=m'+1:=⟨m - 1,by omega⟩
  have hat:∀q,T[i+q]? = (w++[41] :: R)[q]?:=fun q=>by rw [←hd,List.getElem?_drop]
  have hTl:i+w.length+1≤T.length:=by
   have:=hat w.length
   rw [k_ (by omega)] at this
   simp at this
   have:=(b_.1 this).1
   omega
  rw [rdVs]
  rcases Nat.lt_or_ge k w.length with hk2 | hk2
  ·rw [rdA_step hk2] at h
   cases h1:rdO false w k with
   | none=>rw [h1] at h;cases h
   | some x =>
    obtain ⟨v,j⟩:=x
    rw [h1] at h
    dsimp only at h
    have hl:=rdO_len h1
    have h41:T[i+k]?≠some [41]:=fun e=>by
     rw [hat,n_ hk2] at e
     rw [rdO_41 e] at h1;cases h1
    rw [if_neg h41,rdO_move h1 T (i+k) (fun q hq=>by rw [Nat.add_assoc,hat,n_ (by omega)]) (by omega)]
    dsimp only
    cases h2:rdA w n j with
    | none=>rw [h2] at h;cases h
    | some l' =>
     rw [h2] at h
     cases h
     rw [show i+k+(j - k)=i+j by omega,rdVs_of hd n j (acc++[v]) l' h2 hl.2.1 m (by omega)]
     simp
  ·rw [rdA_end hk2] at h
   cases h
   have:k=w.length:=by omega
   subst this
   have h41:T[i+w.length]? = some [41]:=by rw [hat,k_ (by omega)];simp
   rw [if_pos h41];simp
mutual
def Pf.rf:Pf→Bool
 | .mk rel _ _ ks=>decide (rel≠[40]) && (decide (rel≠[41]) && Pf.rfs ks)
def Pf.rfs:List Pf→Bool
 | []=>true
 | k :: r=>k.rf && Pf.rfs r
end
theorem Pf.rfs_all:∀l:List Pf,Pf.rfs l=l.all Pf.rf
 | []=>rfl
 | k :: r=>by rw [Pf.rfs,List.all_cons,Pf.rfs_all r]
theorem pInt_paren {c:List UInt8} {k:Int} (h:pInt c=some k):c≠[40]∧c≠[41]:=by
 constructor
 ·rintro rfl
  have:pInt [40]=none:=by decide
  rw [this] at h;cases h
 ·rintro rfl
  have:pInt [41]=none:=by decide
  rw [this] at h;cases h
theorem rdP_to (T:List (List UInt8)):∀n:Nat,(∀i pr j,rdP T n i=some (pr,j)→pr.rf=true→∃w,T.drop i=[40] :: (w++[41] :: T.drop j)∧dyk 0 w=some 0∧(∀m,w.length+1≤m→derO m w=some pr)∧j=i+w.length+2∧j≤T.length) ∧
  (∀i rel c vs acc pr j,rdK T n i rel c vs acc=some (pr,j)→pr.rf=true→∃ks L,pr=.mk rel c (vs.map V.tm) (acc++ks)∧T.drop i=unl L++[41] :: T.drop j∧(∀w,w∈L→dyk 0 w=some 0)∧(∀m,(unl L).length+1≤m→derL m L=some ks)∧j=i+(unl L).length+1∧j≤T.length)
 | 0=>⟨fun i pr j h=>(by rw [rdP] at h;cases h),fun i rel c vs acc pr j h=>(by rw [rdK] at h;cases h)⟩
 | n + 1 => by
  obtain ⟨ih1,ih2⟩:=rdP_to T n
  refine ⟨fun i pr j h hrf=>?_,fun i rel c vs acc pr j h hrf=>?_⟩
  ·rw [rdP] at h
   split at h
   ·rename_i h40
    split at h
    ·cases h
    ·rename_i rel hrel
     split at h
     ·cases h
     ·rename_i c hc
      split at h
      ·rename_i h3
       split at h
       ·cases h
       ·rename_i vs j1 hv
        obtain ⟨l,w0,e1,e2,e3,e4,e5,e6⟩:=rdVs_to T _ _ _ _ _ hv
        rw [d_] at e1
        subst e1
        obtain ⟨ks,L,f1,f2,f3,f4,f5,f6⟩:=ih2 _ _ _ _ _ _ _ h hrf
        rw [d_] at f1
        have hct:∃ct,T[i+2]? = some ct∧pInt ct=some c:=by
         cases hcc:T[i+2]? with
         | none =>
          have:=List.getElem?_eq_none_iff.1 hcc
          have:=(b_.1 h3).1
          omega
         | some ct=>rw [hcc] at hc;exact ⟨ct,rfl,hc⟩
        obtain ⟨ct,hct,hcp⟩:=hct
        have d0:=atDrop h40
        have d1:=atDrop hrel
        have d2:=atDrop hct
        have d3:=atDrop h3
        subst f1
        simp only [Pf.rf,i_,decide_eq_true_eq] at hrf
        obtain ⟨r1,r2,_⟩:=hrf
        obtain ⟨p1,p2⟩:=pInt_paren hcp
        have hall:∀x,x∈w0 :: L→dyk 0 x=some 0:=fun x hx=>by
         rcases p_.1 hx with rfl | hx
         ·exact e3
         ·exact f3 x hx
        refine ⟨rel :: ct :: unl (w0 :: L),?_,?_,fun m hm=>?_,?_,f6⟩
        ·rw [d0,d1,d2,d3,e2,f2]
         simp [unl]
        ·rw [dyk_x r1 r2,dyk_x p1 p2]
         exact dyk_un _ hall
        ·simp only [c_] at hm
         obtain ⟨m,rfl⟩:∃m',m=m'+1:=⟨m - 1,by omega⟩
         simp only [unl,c_,a_] at hm
         have hl:=un_lsl (w0 :: L) ((unl (w0 :: L)).length+1) (by omega) hall
         rw [derO,hcp,hl]
         dsimp only
         rw [e4,f4 m (by omega)]
        ·simp only [unl,c_,a_];omega
      ·cases h
   ·cases h
  ·rw [rdK] at h
   split at h
   ·rename_i hT
    cases h
    have:=(b_.1 hT).1
    exact ⟨[],[],by simp,by rw [unl,d_];exact atDrop hT,(fun w hw=>by cases hw),fun m hm=>by
     obtain ⟨m,rfl⟩:∃m',m=m'+1:=⟨m - 1,by simp [unl] at hm;omega⟩
     rw [derL],by simp [unl],this⟩
   ·cases h1:rdP T n i with
    | none=>rw [h1] at h;cases h
    | some x =>
     obtain ⟨k,j1⟩:=x
     rw [h1] at h
     dsimp only at h
     obtain ⟨ks,L,f1,f2,f3,f4,f5,f6⟩:=ih2 _ _ _ _ _ _ _ h hrf
     have hk:k.rf=true:=by
      rw [f1] at hrf
      simp only [Pf.rf,Pf.rfs_all,List.all_append,i_,List.all_cons] at hrf
      exact hrf.2.2.1.2.1
     obtain ⟨w,g1,g2,g3,g4,g5⟩:=ih1 _ _ _ h1 hk
     refine ⟨k :: ks,w :: L,by rw [f1];simp,?_,fun x hx=>?_,fun m hm=>?_,?_,f6⟩
     ·rw [g1,f2];simp [unl]
     ·rcases p_.1 hx with rfl | hx
      ·exact g2
      ·exact f3 x hx
     ·simp only [unl,c_,a_] at hm
      obtain ⟨m,rfl⟩:∃m',m=m'+1:=⟨m - 1,by omega⟩
      rw [derL,g3 m (by omega),f4 m (by omega)]
     ·simp only [unl,c_,a_];omega
theorem derO_to (T:List (List UInt8)):∀n:Nat,(∀w pr i R,derO n w=some pr→T.drop i=[40] :: (w++[41] :: R)→∀m,w.length+2≤m→rdP T m i=some (pr,i+w.length+2)) ∧
  (∀L ks i R rel c vs acc,derL n L=some ks→T.drop i=unl L++[41] :: R→∀m,(unl L).length+1≤m→rdK T m i rel c vs acc=some (.mk rel c (vs.map V.tm) (acc++ks),i+(unl L).length+1))
 | 0=>⟨fun w pr i R h=>(by rw [derO] at h;cases h),fun L ks i R rel c vs acc h hd m hm=>by
  obtain ⟨m,rfl⟩:∃m',m=m'+1:=⟨m - 1,by omega⟩
  cases L with
  | nil =>
   rw [derL] at h;cases h
   rw [unl,d_] at hd
   rw [rdK,if_pos (dropC hd).1];simp [unl]
  | cons w r=>rw [derL] at h;cases h⟩
 | n + 1=>by
  obtain ⟨ih1,ih2⟩:=derO_to T n
  refine ⟨fun w pr i R h hd m hm=>?_,fun L ks i R rel c vs acc h hd m hm=>?_⟩
  ·obtain ⟨m,rfl⟩:∃m',m=m'+1:=⟨m - 1,by omega⟩
   match w,h,hd,hm with
   | [],h,_,_=>simp [derO] at h
   | [_],h,_,_=>simp [derO] at h
   | rel :: ct :: r,h,hd,hm =>
    rw [derO] at h
    split at h
    ·rename_i k p0 ps hk hl
     split at h
     ·rename_i vs ks hv hks
      cases h
      obtain ⟨rfl,hb⟩:=lsl_un _ _ _ hl
      simp only [unl,c_,a_] at hm
      simp only [unl,f_,o_] at hd
      obtain ⟨t0,d0⟩:=dropC hd
      obtain ⟨t1,d1⟩:=dropC d0
      obtain ⟨t2,d2⟩:=dropC d1
      obtain ⟨t3,d3⟩:=dropC d2
      have hTl:p0.length+1≤T.length:=by
       have:=congrArg List.length d3
       simp at this;omega
      have h5:=rdVs_of (T:=T) (w:=p0) (R:=unl ps++[41] :: R) (i:=i+4) (by rw [d3]) _ 0 [] vs hv (Nat.zero_le _) (T.length+1) (by omega)
      rw [u_,d_] at h5
      have d4:T.drop (i+4+p0.length+1)=unl ps++[41] :: R:=by
       have h6:T.drop (i+4)=p0++[41] :: (unl ps++[41] :: R):=d3
       have h7:T.drop (i+4+p0.length+1)=(T.drop (i+4)).drop (p0.length+1):=by rw [m_];congr 1
       rw [h7,h6,v_,g_ (by omega)]
       simp
      rw [rdP,if_pos t0,t1]
      dsimp only
      rw [t2,Option.getD_some,hk]
      dsimp only
      rw [if_pos t3,h5]
      dsimp only
      rw [ih2 ps ks _ R rel k vs [] hks d4 m (by omega),d_]
      simp only [unl,c_,a_]
      congr 2;omega
     ·cases h
    ·cases h
  ·obtain ⟨m,rfl⟩:∃m',m=m'+1:=⟨m - 1,by omega⟩
   cases L with
   | nil =>
    rw [derL] at h;cases h
    rw [unl,d_] at hd
    rw [rdK,if_pos (dropC hd).1];simp [unl]
   | cons w r =>
    rw [derL] at h
    split at h
    ·rename_i k ks' hk hks
     cases h
     simp only [unl,c_,a_] at hm
     simp only [unl,f_,o_] at hd
     obtain ⟨t0,_⟩:=dropC hd
     have h5:=ih1 w k i (unl r++[41] :: R) hk hd m (by omega)
     have d4:T.drop (i+w.length+2)=unl r++[41] :: R:=by
      have h7:T.drop (i+w.length+2)=(T.drop i).drop (w.length+2):=by rw [m_];congr 1
      rw [h7,hd,List.drop_succ_cons,v_,g_ (by omega)]
      simp
     rw [rdK,if_neg (by rw [t0];decide),h5]
     dsimp only
     rw [ih2 r ks' _ R rel c vs (acc++[k]) hks d4 m (by omega)]
     simp only [unl,c_,a_,o_,f_,d_]
     congr 2;omega
    ·cases h
def pfI (T:List (List UInt8)):Option Pf:=match rdP T (2 * T.length+2) 0 with
 | some (pr,j)=>if j=T.length then some pr else none
 | none=>none
def pfS (T:List (List UInt8)):Option Pf:=match lsl (T.length+1) T with
 | some [w]=>derO (w.length+1) w
 | _=>none
theorem pf_same (T:List (List UInt8)) (pr:Pf) (hrf:pr.rf=true):pfI T=some pr↔pfS T=some pr:=by
 constructor
 ·intro h
  unfold pfI at h
  split at h
  ·rename_i pr' j h1
   split at h
   ·rename_i hj
    cases h
    obtain ⟨w,e1,e2,e3,e4,e5⟩:=(rdP_to T _).1 _ _ _ h1 hrf
    rw [List.drop_zero,hj,List.drop_length] at e1
    have hl:=un_lsl [w] (T.length+1) (by rw [e1];simp [unl]) (fun x hx=>by rw [List.mem_singleton] at hx;subst hx;exact e2)
    have hu:unl [w]=T:=by rw [e1];simp [unl]
    rw [hu] at hl
    unfold pfS
    rw [hl]
    exact e3 _ (Nat.le_refl _)
   ·cases h
  ·cases h
 ·intro h
  unfold pfS at h
  split at h
  ·rename_i w hl
   obtain ⟨e1,e2⟩:=lsl_un _ _ _ hl
   have hTw:T=[40] :: (w++[41] :: []):=by rw [e1];simp [unl]
   have hlen:T.length=w.length+2:=by rw [hTw];simp
   have h1:=(derO_to T _).1 w pr 0 [] h (by rw [List.drop_zero];exact hTw) (2 * T.length+2) (by omega)
   unfold pfI
   rw [h1]
   dsimp only
   rw [if_pos (by omega)]
  ·cases h
def bys:List (List UInt8)→Nat
 | []=>0
 | t :: r=>t.length+bys r
theorem bys_app:∀a b:List (List UInt8),bys (a++b)=bys a+bys b
 | [],b=>by simp [bys]
 | t :: a,b=>by simp only [f_,bys,bys_app a b];omega
theorem tw_dw {α:Type} (p:α→Bool):∀l:List α,(l.takeWhile p).length+(l.dropWhile p).length=l.length
 | []=>rfl
 | a :: r=>by
  have:=tw_dw p r
  rw [List.takeWhile_cons,List.dropWhile_cons]
  split<;>simp;omega
theorem toks_bys:∀(n:Nat) (l:List UInt8),l.length≤n→bys (toks l)≤l.length
 | n,[],_=>by simp [toks,bys]
 | 0,c :: r,h=>by simp at h
 | n+1,c :: r,h=>by
  simp only [c_] at h ⊢
  have h1:=tw_dw noNl r
  have h2:=tw_dw noBr r
  have i1:=toks_bys n r (by omega)
  have i2:=toks_bys n (r.dropWhile noNl) (by omega)
  have i3:=toks_bys n (r.dropWhile noBr) (by omega)
  rw [toks]
  split
  ·omega
  ·split
   ·omega
   ·split
    ·simp only [bys,c_,w_];omega
    ·simp only [bys,c_];omega
theorem tokV_bys {s:List UInt8} {T:List (List UInt8)} (h:tokV s=some T):bys T≤100000:=by
 unfold tokV at h
 split at h
 ·rename_i hc
  cases h
  have:=toks_bys _ s (Nat.le_refl _)
  omega
 ·cases h
def byw (T:List (List UInt8)) (i j:Nat):Nat:=bys ((T.drop i).take (j - i))
theorem byw_app {T:List (List UInt8)} {i j k:Nat} (h1:i≤j) (h2:j≤k):byw T i k=byw T i j+byw T j k:=by
 unfold byw
 rw [win_app h1 h2,bys_app]
theorem byw_one {T:List (List UInt8)} {i:Nat} {t:List UInt8} (h:T[i]? = some t):byw T i (i+1)=t.length:=by
 unfold byw
 rw [win_one h];simp [bys]
theorem byw_all (T:List (List UInt8)) (i j:Nat):byw T i j≤bys T:=by
 have h1:∀(l:List (List UInt8)) (n:Nat),bys (l.take n)≤bys l:=fun l n=>by
  conv=>rhs;rw [←h_ n l,bys_app]
  omega
 have h2:bys (T.drop i)≤bys T:=by
  conv=>rhs;rw [←h_ i T,bys_app]
  omega
 have:=h1 (T.drop i) (j - i)
 unfold byw;omega
theorem rdO_wt {T:List (List UInt8)} {i:Nat} {v:V} {j:Nat} (h:rdO false T i=some (v,j)):i<j∧j≤T.length∧wtL v.enc+16≤32 * (j - i):=by
 unfold rdO at h
 cases h1:rdT false T (2 * T.length+1) i with
 | none=>rw [h1] at h;cases h
 | some x =>
  obtain ⟨v1,j1⟩:=x
  rw [h1] at h
  dsimp only at h
  split at h
  ·cases h
   have h2:=(rd_len false T _).1 _ _ _ h1
   have h3:=V.wt_low v ((rd_low false T _).1 _ _ _ h1)
   omega
  ·cases h
theorem rdVs_wt (T:List (List UInt8)):∀(n i:Nat) (acc vs:List V) (j:Nat),rdVs T n i acc=some (vs,j)→i<j∧j≤T.length∧wtR (vs.map V.enc)≤wtR (acc.map V.enc)+32 * (j - i)∧vs.length+1≤acc.length+(j - i)
 | 0,i,acc,vs,j,h=>by rw [rdVs] at h;cases h
 | n+1,i,acc,vs,j,h=>by
  rw [rdVs] at h
  split at h
  ·rename_i hT
   cases h
   have:=(b_.1 hT).1
   omega
  ·cases h1:rdO false T i with
   | none=>rw [h1] at h;cases h
   | some x =>
    obtain ⟨v,j1⟩:=x
    rw [h1] at h
    dsimp only at h
    have h2:=rdO_wt h1
    have h3:=rdVs_wt T n _ _ _ _ h
    rw [List.map_append,wtR_app,a_] at h3
    simp only [s_,y_,wtR,c_,w_] at h3
    omega
theorem rdP_wt (T:List (List UInt8)):∀n:Nat,(∀i pr j,rdP T n i=some (pr,j)→i<j∧j≤T.length∧wtL pr.enc+1≤32 * (j - i)+byw T i j) ∧
  (∀i rel c vs acc pr j,rdK T n i rel c vs acc=some (pr,j)→i<j∧j≤T.length∧wtL pr.enc≤rel.length+wtR (vs.map V.enc)+wtR (acc.map Pf.enc)+32 * (j - i)+byw T i j)
 | 0=>⟨fun i pr j h=>(by rw [rdP] at h;cases h),fun i rel c vs acc pr j h=>(by rw [rdK] at h;cases h)⟩
 | n + 1=>by
  obtain ⟨ih1,ih2⟩:=rdP_wt T n
  refine ⟨fun i pr j h=>?_,fun i rel c vs acc pr j h=>?_⟩
  ·rw [rdP] at h
   split at h
   ·rename_i h40
    split at h
    ·cases h
    ·rename_i rel hrel
     split at h
     ·cases h
     ·split at h
      ·split at h
       ·cases h
       ·rename_i vs j1 hv
        have h1:=rdVs_wt T _ _ _ _ _ hv
        have h2:=ih2 _ _ _ _ _ _ _ h
        have h3:=byw_one hrel
        have h4:=byw_app (T:=T) (i:=i) (j:=i+1) (k:=j) (by omega) (by omega)
        have h5:=byw_app (T:=T) (i:=i+1) (j:=i+2) (k:=j) (by omega) (by omega)
        have h6:=byw_app (T:=T) (i:=i+2) (j:=j1) (k:=j) (by omega) (by omega)
        simp only [y_,wtR] at h1 h2
        rw [show i+1+1=i+2 from rfl] at h3
        omega
      ·cases h
   ·cases h
  ·rw [rdK] at h
   split at h
   ·rename_i hT
    cases h
    have:=(b_.1 hT).1
    refine ⟨by omega,this,?_⟩
    have e1:(vs.map V.tm).map Tm.enc=vs.map V.enc:=by rw [List.map_map];rfl
    simp only [Pf.enc_eq,Pf.rel,Pf.clause,Pf.values,Pf.kids,wtL,D.wt,e1]
    omega
   ·cases h1:rdP T n i with
    | none=>rw [h1] at h;cases h
    | some x =>
     obtain ⟨k,j1⟩:=x
     rw [h1] at h
     dsimp only at h
     have h2:=ih1 _ _ _ h1
     have h3:=ih2 _ _ _ _ _ _ _ h
     have h4:=byw_app (T:=T) (i:=i) (j:=j1) (k:=j) (by omega) (by omega)
     rw [List.map_append,wtR_app] at h3
     simp only [s_,y_,wtR] at h3
     omega
theorem pfI_wt {T:List (List UInt8)} {pr:Pf} (h:pfI T=some pr) (hT:T.length≤20000) (hb:bys T≤100000):wtL pr.enc≤1048576:=by
 unfold pfI at h
 split at h
 ·rename_i pr' j h1
  split at h
  ·cases h
   have h2:=(rdP_wt T _).1 _ _ _ h1
   have h3:=byw_all T 0 j
   omega
  ·cases h
 ·cases h
theorem findR_name:∀(l:List Rl) (s:List UInt8) (i:Int),i≤findR l s i→0≤i→∃r,r∈l∧r.name=s
 | [],s,i,h,h0=>by simp only [findR] at h;omega
 | r :: q,s,i,h,h0=>by
  simp only [findR] at h
  split at h
  ·rename_i hn;exact ⟨r,by simp,hn⟩
  ·rcases findR_range q s (i+1) with h1 | h1
   ·omega
   ·obtain ⟨x,hx,e⟩:=findR_name q s (i+1) h1.1 (by omega)
    exact ⟨x,by simp [hx],e⟩
theorem find_paren {p:Pg} (hp:pgOk p=true) {s:List UInt8} (h:0≤p.find s):s≠[40]∧s≠[41]:=by
 unfold Pg.find at h
 obtain ⟨r,hr,rfl⟩:=findR_name p.rels s 0 h (Int.le_refl _)
 unfold pgOk at hp
 simp only [i_] at hp
 obtain ⟨i,hi⟩:=okL_mem hp.2 r hr
 unfold Pg.relOk at hi
 simp only [i_,decide_eq_true_eq] at hi
 have hn:=hi.1.1.1.1.1.1.2
 constructor
 ·intro e;rw [e] at hn;exact absurd hn (by decide)
 ·intro e;rw [e] at hn;exact absurd hn (by decide)
theorem prf_rf {p:Pg} (hp:pgOk p=true):∀t:Pf,p.prf t=true→t.rf=true:=by
 intro t
 induction t using Pf.ind' with
 | h t ih =>
  intro h
  obtain ⟨h1,h2⟩:=find_paren hp (Pg.prf_head h).1
  obtain ⟨_,_,_,_,h3⟩:=Pg.prf_node hp h
  have h4:Pf.rfs t.kids=true:=by
   rw [Pf.rfs_all,List.all_eq_true]
   exact fun k hk=>ih k hk (h3 k hk)
  cases t
  simp only [Pf.rel,Pf.kids] at h1 h2 h4
  simp only [Pf.rf,h4,decide_eq_true h1,decide_eq_true h2,Bool.and_self]
def ppI (p:Pg) (s:List UInt8):Option Pf:=match tokV s with
 | some T=>(match pfI T with | some pr=>if p.prfOk pr=true then some pr else none | none=>none)
 | none=>none
def ppS (p:Pg) (s:List UInt8):Option Pf:=match tokV s with
 | some T=>(match pfS T with | some pr=>if p.prfOk pr=true then some pr else none | none=>none)
 | none=>none
theorem pp_same (p:Pg) (s:List UInt8):ppS p s=ppI p s:=by
 unfold ppS ppI
 cases tokV s with
 | none=>rfl
 | some T =>
  dsimp only
  have hrf:∀pr,p.prfOk pr=true→pr.rf=true:=fun pr h=>by
   unfold Pg.prfOk at h
   simp only [i_] at h
   exact prf_rf h.1 pr h.2.2
  cases h1:pfI T with
  | some pr =>
   dsimp only
   by_cases hk:p.prfOk pr=true
   ·rw [(pf_same T pr (hrf pr hk)).1 h1]
   ·rw [if_neg hk]
    cases h2:pfS T with
    | none=>rfl
    | some pr2 =>
     dsimp only
     by_cases hk2:p.prfOk pr2=true
     ·have:=(pf_same T pr2 (hrf pr2 hk2)).2 h2
      rw [h1] at this;cases this
      exact absurd hk2 hk
     ·rw [if_neg hk2]
  | none =>
   dsimp only
   cases h2:pfS T with
   | none=>rfl
   | some pr2 =>
    dsimp only
    by_cases hk2:p.prfOk pr2=true
    ·have:=(pf_same T pr2 (hrf pr2 hk2)).2 h2
     rw [h1] at this;cases this
    ·rw [if_neg hk2]
theorem rdA_wt (T:List (List UInt8)):∀(n i:Nat) (l:List V),rdA T n i=some l→i≤T.length→wtR (l.map V.enc)≤32 * (T.length - i)
 | 0,i,l,h,_=>by rw [rdA] at h;cases h
 | n + 1,i,l,h,hi=>by
  rw [rdA] at h
  split at h
  ·cases h;simp [wtR]
  ·split at h
   ·rename_i v j h1
    have h2:=rdO_wt h1
    split at h
    ·rename_i l' h3
     cases h
     have h4:=rdA_wt T n _ _ h3 (by omega)
     simp only [s_,wtR]
     omega
    ·cases h
   ·cases h
theorem derO_wt:∀n:Nat,(∀w pr,derO n w=some pr→wtL pr.enc≤32 * w.length+bys w)∧(∀ps ks,derL n ps=some ks→wtR (ks.map Pf.enc)≤32 * (unl ps).length+bys (unl ps))
 | 0=>by
  refine ⟨fun w pr h=>?_,fun ps ks h=>?_⟩
  ·rw [derO] at h;cases h
  ·cases ps with
   | nil=>rw [derL] at h;cases h;simp [wtR]
   | cons w r=>rw [derL] at h;cases h
 | n + 1=>by
  obtain ⟨ih1,ih2⟩:=derO_wt n
  refine ⟨fun w pr h=>?_,fun ps ks h=>?_⟩
  ·match w,h with
   | [],h=>simp [derO] at h
   | [x],h=>simp [derO] at h
   | rel :: c :: r,h =>
    rw [derO] at h
    split at h
    ·rename_i k p0 ps hk hl
     split at h
     ·rename_i vs ks hv hks
      cases h
      have h1:=rdA_wt p0 _ 0 vs hv (Nat.zero_le _)
      have h2:=ih2 ps ks hks
      obtain ⟨e1,_⟩:=lsl_un _ _ _ hl
      have e2:(vs.map V.tm).map Tm.enc=vs.map V.enc:=by rw [List.map_map];rfl
      simp only [Pf.enc_eq,Pf.rel,Pf.clause,Pf.values,Pf.kids,wtL,D.wt,e2]
      rw [e1]
      simp only [unl,c_,a_,bys,bys_app]
      omega
     ·cases h
    ·cases h
  ·cases ps with
   | nil=>rw [derL] at h;cases h;simp [wtR]
   | cons w r =>
    rw [derL] at h
    split at h
    ·rename_i k ks' h1 h2
     cases h
     have g1:=ih1 _ _ h1
     have g2:=ih2 _ _ h2
     simp only [s_,wtR,unl,c_,a_,bys,bys_app]
     omega
    ·cases h
theorem pfS_wt {T:List (List UInt8)} {pr:Pf} (h:pfS T=some pr) (hT:T.length≤20000) (hb:bys T≤100000):wtL pr.enc≤1048576:=by
 unfold pfS at h
 split at h
 ·rename_i w hl
  have h1:=(derO_wt _).1 _ _ h
  obtain ⟨e1,_⟩:=lsl_un _ _ _ hl
  have e2:T.length=w.length+2:=by rw [e1];simp [unl]
  have e3:bys T=bys w+2:=by rw [e1];simp only [unl,bys,bys_app,c_,w_];omega
  omega
 ·cases h
theorem lsl_step {n:Nat} {T:List (List UInt8)} {i:Nat} (h:i<T.length):lsl (n+1) (T.drop i)=if T[i]? = some [40] then (match clo 0 (T.drop (i+1)) with
  | some k=>(match lsl n (T.drop (i+1+(k+1))) with | some l=>some ((T.drop (i+1)).take k :: l) | none=>none)
  | none=>none) else none:=by
 rw [e_ h,lsl,q_ h]
 by_cases e:T[i]=[40]
 ·rw [if_pos e,if_pos (by rw [e])]
  cases clo 0 (T.drop (i+1)) with
  | none=>rfl
  | some k=>simp only [m_]
 ·rw [if_neg e,if_neg (fun x=>e (Option.some.inj x))]
theorem lsl_end {n:Nat} {T:List (List UInt8)} {i:Nat} (h:T.length≤i):lsl (n+1) (T.drop i)=some []:=by
 rw [g_ h,lsl]
theorem clo_step {d:Nat} {T:List (List UInt8)} {k:Nat} {t:List UInt8} (h:T[k]? = some t):clo d (T.drop k)=if t=[40] then (clo (d+1) (T.drop (k+1))).map (·+1) else if t=[41] then (match d with | 0=>some 0 | d+1=>(clo d (T.drop (k+1))).map (·+1)) else (clo d (T.drop (k+1))).map (·+1):=by
 obtain ⟨h1,h2⟩:=b_.1 h
 rw [e_ h1,h2]
 cases d<;>simp only [clo]<;>rfl
theorem clo_end {d:Nat} {T:List (List UInt8)} {k:Nat} (h:T.length≤k):clo d (T.drop k)=none:=by
 rw [g_ h];simp [clo]
end Go.Abs

import Derived.Test.YtlajhmoomlgopaaGreatW72
import Derived.Test.YtlajhmoomlgopaaGreatW152
import Derived.Test.YtlajhmoomlgopaaGreatW91
import Derived.Test.YtlajhmoomlgopaaGreatP14
import Derived.Test.YtlajhmoomlgopaaGreatW143
import Derived.Test.YtlajhmoomlgopaaGreatW147
import Derived.Test.YtlajhmoomlgopaaGreatP15
import Derived.Test.YtlajhmoomlgopaaGreatW8
import Derived.Test.YtlajhmoomlgopaaGreatW151
open List renaming all_eq_true→a_,mem_map→c_,mem_of_getElem?→d_,getElem?_of_mem→e_,getElem?_eq_getElem→f_
open Bool renaming and_eq_true→b_
namespace Go.Proofs.YtlajhmoomlgopaaGreat
open Go.Abs
set_option maxRecDepth 100000
set_option maxHeartbeats 8000000
set_option linter.unusedSimpArgs false
set_option linter.unusedVariables false
theorem pickL_sub (f:Nat→Bool):∀(l:List Rl) (i:Nat),(pickL f i l).Sublist l
 | [],_=>List.Sublist.slnil
 | x :: r,i=>by
  simp only [pickL]
  split
  ·exact (pickL_sub f r (i+1)).cons_cons x
  ·exact (pickL_sub f r (i+1)).cons x
theorem pickL_at (f:Nat→Bool):∀(l:List Rl) (i j:Nat) (x:Rl),l[j]? = some x→f (i+j)=true→x∈pickL f i l
 | [],_,_,_,h,_=>by simp at h
 | y :: r,i,0,x,h,hf=>by
  simp at h;subst h
  simp only [pickL]
  rw [if_pos (by simpa using hf)];simp
 | y :: r,i,j+1,x,h,hf=>by
  have:=pickL_at f r (i+1) j x (by simpa using h) (by rw [show i+1+j=i+(j+1) by omega];exact hf)
  simp only [pickL]
  split
  ·exact List.mem_cons_of_mem _ this
  ·exact this
theorem pickL_mem (f:Nat→Bool):∀(l:List Rl) (i:Nat) (x:Rl),x∈pickL f i l→∃j,l[j]? = some x∧f (i+j)=true
 | [],_,_,h=>by simp [pickL] at h
 | y :: r,i,x,h=>by
  simp only [pickL] at h
  split at h
  ·rename_i hf
   rcases List.mem_cons.1 h with rfl | h
   ·exact ⟨0,rfl,hf⟩
   ·obtain ⟨j,h1,h2⟩:=pickL_mem f r (i+1) x h
    exact ⟨j+1,by simpa using h1,by rw [show i+(j+1)=i+1+j by omega];exact h2⟩
  ·obtain ⟨j,h1,h2⟩:=pickL_mem f r (i+1) x h
   exact ⟨j+1,by simpa using h1,by rw [show i+(j+1)=i+1+j by omega];exact h2⟩
theorem findR_hit:∀(l:List Rl) (s:List UInt8) (i:Int),0≤i→0≤findR l s i→∃(j:Nat) (y:Rl),l[j]? = some y∧y.name=s∧findR l s i=i+j
 | [],s,i,_,h=>by simp [findR] at h
 | x :: r,s,i,h0,h=>by
  simp only [findR] at h ⊢
  by_cases e:x.name=s
  ·rw [if_pos e];exact ⟨0,x,rfl,e,by omega⟩
  ·rw [if_neg e] at h ⊢
   obtain ⟨j,y,h1,h2,h3⟩:=findR_hit r s (i+1) (by omega) h
   exact ⟨j+1,y,by simpa using h1,h2,by rw [h3];omega⟩
theorem find_hit {p:Pg} {s:List UInt8} (h:0≤p.find s):∃y,p.rels[(p.find s).toNat]? = some y∧y.name=s:=by
 obtain ⟨j,y,h1,h2,h3⟩:=findR_hit p.rels s 0 (by omega) h
 refine ⟨y,?_,h2⟩
 unfold Pg.find
 rw [h3,show ((0:Int)+j).toNat=j by omega];exact h1
theorem names_nodup {p:Pg} (h:pgOk p=true):(p.rels.map Rl.name).Nodup:=by
 rw [List.nodup_iff_pairwise_ne,List.pairwise_iff_getElem]
 intro i j hi hj hij e
 simp only [List.length_map] at hi hj
 simp only [List.getElem_map] at e
 have h1:=find_self h (f_ hi)
 have h2:=find_self h (f_ hj)
 rw [e] at h1
 omega
structure SliceOf (p q:Pg):Prop where
 sub:q.rels.Sublist p.rels
 calls:∀x,x∈q.rels→∀g,g∈x.body.subs→g.kind=9→g.name∈q.rels.map Rl.name
section
variable {p q:Pg}
theorem SliceOf.name (h:SliceOf p q) (hp:pgOk p=true) {x:Rl} (hx:x∈p.rels):x.name∈q.rels.map Rl.name↔x∈q.rels:=by
 refine ⟨fun hm=>?_,fun hm=>c_.2 ⟨x,hm,rfl⟩⟩
 obtain ⟨y,hy,e⟩:=c_.1 hm
 have hyp:=h.sub.subset hy
 obtain ⟨i,hi⟩:=e_ hx
 obtain ⟨j,hj⟩:=e_ hyp
 have h1:=find_self hp hi
 have h2:=find_self hp hj
 rw [e,h1] at h2
 have:i=j:=by omega
 subst this
 rw [hi] at hj;cases hj;exact hy
theorem SliceOf.find (h:SliceOf p q) (hp:pgOk p=true) {j:Nat} {r:Rl} (hr:q.rels[j]? = some r):q.find r.name=j:=by
 unfold Pg.find
 rw [findR_at _ j r 0 hr ((h.sub.map Rl.name).nodup (names_nodup hp))];omega
theorem SliceOf.find_iff (h:SliceOf p q) (hp:pgOk p=true) (s:List UInt8):0≤q.find s↔s∈q.rels.map Rl.name:=by
 refine ⟨fun h0=>?_,fun hm=>?_⟩
 ·obtain ⟨y,h1,rfl⟩:=find_hit h0
  exact c_.2 ⟨y,d_ h1,rfl⟩
 ·obtain ⟨y,hy,rfl⟩:=c_.1 hm
  obtain ⟨j,hj⟩:=e_ hy
  rw [h.find hp hj];omega
theorem SliceOf.ok (h:SliceOf p q) (hp:pgOk p=true):pgOk q=true:=by
 have hp0:=hp
 unfold pgOk at hp0
 rw [b_,decide_eq_true_eq] at hp0
 unfold pgOk
 rw [decide_eq_true (by have:=h.sub.length_le;omega),Bool.true_and]
 refine okL_of (fun j r hj=>?_) q.rels [] rfl
 have hm:=d_ hj
 obtain ⟨k,hk⟩:=okL_mem hp0.2 r (h.sub.subset hm)
 have hf:=h.find hp hj
 unfold Pg.relOk at hk ⊢
 simp only [b_,decide_eq_true_eq] at hk ⊢
 refine ⟨⟨⟨⟨⟨⟨⟨hf,hk.1.1.1.1.1.1.2⟩,hk.1.1.1.1.1.2⟩,hk.1.1.1.1.2⟩,hk.1.1.1.2⟩,hk.1.1.2⟩,hk.1.2⟩,?_⟩
 have hc:p.callsFit r.body=true:=hk.2
 unfold Pg.callsFit at hc ⊢
 rw [a_] at hc ⊢
 intro x hx
 by_cases h9:x.kind=9
 ·have hm9:=h.calls r hm x hx h9
  obtain ⟨y,hy,e⟩:=c_.1 hm9
  obtain ⟨jy,hjy⟩:=e_ hy
  have hqf:=h.find hp hjy
  obtain ⟨i,hi⟩:=e_ (h.sub.subset hy)
  have hpf:=find_self hp hi
  rw [e] at hqf hpf
  have hx1:=hc x hx
  rw [Pg.fitC_at h9 (by rw [hpf];omega) (r:=y) (by rw [hpf];simpa using hi)] at hx1
  rw [Pg.fitC_at h9 (by rw [hqf];omega) (r:=y) (by rw [hqf];simpa using hjy)]
  exact hx1
 ·exact Pg.fitC_other h9
theorem SliceOf.all (h:SliceOf p q) (hp:pgOk p=true) (ha:p.all false=true):q.all false=true:=by
 unfold Pg.all at ha ⊢
 rw [b_] at ha
 rw [h.ok hp,Bool.true_and,a_]
 exact fun r hr=>a_.1 ha.2 r (h.sub.subset hr)
theorem gszL_sub:∀{l m:List Rl},l.Sublist m→Pg.gszL l≤Pg.gszL m:=fun h=>by
 induction h with
 | slnil=>simp
 | cons x _ ih=>simp only [Pg.gszL];omega
 | cons_cons x _ ih=>simp only [Pg.gszL];omega
theorem wtR_subl:∀{l m:List Rl},l.Sublist m→wtR (l.map Rl.enc)≤wtR (m.map Rl.enc):=fun h=>by
 induction h with
 | slnil=>simp
 | cons x _ ih=>simp only [List.map_cons,wtR];omega
 | cons_cons x _ ih=>simp only [List.map_cons,wtR];omega
theorem SliceOf.made {u:List V} {m:Int} (h:SliceOf p q) (hf:p.fine m) (hg:Pg.gszL p.rels≤2000) (hu:Uni u) (hl:u.length≤2) (hd:∀v,v∈u→drawn 7 0 v):Made q u:=
 ⟨h.ok hf.ok,by
  have h1:=wtR_subl h.sub
  have h2:=hf.wt
  rw [Pg.enc_eq] at h2 ⊢
  simp only [wtL,D.wt,Nat.add_zero] at h2 ⊢
  omega,Pg.gr_small (h.ok hf.ok) (fun r hr=>by have:=hf.cls r (h.sub.subset hr);omega) hl (Nat.le_trans (gszL_sub h.sub) hg),hu,fun v hv=>(drawn_tm (hd v hv)).2.1⟩
theorem gnd_iff {u:List V} {r:RV}:∀rels:List Rl,r∈Pg.gnd u rels↔∃x,x∈rels∧r∈rvsB u x (x.ways u) 0 x.body.clsS
 | []=>by simp [Pg.gnd]
 | x :: xs=>by
  rw [show Pg.gnd u (x :: xs)=rvsB u x (x.ways u) 0 x.body.clsS++Pg.gnd u xs from rfl,List.mem_append,gnd_iff xs]
  simp
theorem SliceOf.rule (h:SliceOf p q) (hp:pgOk p=true) {u:List V} {r:RV}:r∈Pg.gnd u q.rels↔r∈Pg.gnd u p.rels∧r.head.1∈q.rels.map Rl.name:=by
 have hd:∀x:Rl,r∈rvsB u x (x.ways u) 0 x.body.clsS→r.head.1=x.name:=fun x hr=>by
  obtain ⟨c,hc,j,w,_,rfl⟩:=rvsB_mem _ _ hr
  rfl
 rw [gnd_iff,gnd_iff]
 refine ⟨fun ⟨x,hx,hr⟩=>⟨⟨x,h.sub.subset hx,hr⟩,?_⟩,fun ⟨⟨x,hx,hr⟩,hn⟩=>⟨x,?_,hr⟩⟩
 ·rw [hd x hr];exact c_.2 ⟨x,hx,rfl⟩
 ·rw [hd x hr] at hn;exact (h.name hp hx).1 hn
theorem SliceOf.pos (h:SliceOf p q) {u:List V} {r:RV} (hr:r∈Pg.gnd u q.rels):∀f,f∈r.pos→f.1∈q.rels.map Rl.name:=by
 obtain ⟨x,hx,c,hc,j,w,_,rfl⟩:=gnd_mem _ hr
 intro f hf
 have hf':f∈clsPos (valAt (gVals u (x.arity+x.locals).toNat w)) c:=hf
 unfold clsPos at hf'
 obtain ⟨g,hg,rfl⟩:=c_.1 hf'
 obtain ⟨g1,g2⟩:=List.mem_filter.1 hg
 exact h.calls x hx g (clsS_sub hc g1) (of_decide_eq_true g2)
theorem fires_nil {F:List FcV} {r:RV}:r.fires F []=true↔∀f,f∈r.pos→f∈F:=by
 unfold RV.fires
 rw [b_,a_,a_]
 exact ⟨fun h f hf=>of_decide_eq_true (h.1 f hf),fun h=>⟨fun f hf=>decide_eq_true (h f hf),fun f _=>by simp⟩⟩
theorem SliceOf.stg (h:SliceOf p q) (hp:pgOk p=true) {u:List V}:∀(k:Nat) (f:FcV),f∈stg (Pg.gnd u q.rels) k↔f∈stg (Pg.gnd u p.rels) k∧f.1∈q.rels.map Rl.name
 | 0,f=>by simp [Abs.stg]
 | k+1,f=>by
  show f∈nextF _ _ []↔f∈nextF _ _ []∧_
  rw [nextF_mem,nextF_mem]
  refine ⟨fun ⟨r,h1,h2,h3⟩=>?_,fun ⟨⟨r,h1,h2,h3⟩,hn⟩=>?_⟩
  ·obtain ⟨r1,r2⟩:=(h.rule hp).1 h1
   refine ⟨⟨r,r1,fires_nil.2 fun x hx=>((SliceOf.stg h hp k x).1 (fires_nil.1 h2 x hx)).1,h3⟩,by rw [←h3];exact r2⟩
  ·have hr:=(h.rule hp).2 ⟨h1,by rw [h3];exact hn⟩
   exact ⟨r,hr,fires_nil.2 fun x hx=>(SliceOf.stg h hp k x).2 ⟨fires_nil.1 h2 x hx,h.pos hr x hx⟩,h3⟩
theorem SliceOf.top (h:SliceOf p q) (hp:pgOk p=true) {u:List V} (f:FcV):f∈Abs.stg (Pg.gnd u q.rels) (top (Pg.gnd u q.rels))↔f∈Abs.stg (Pg.gnd u p.rels) (top (Pg.gnd u p.rels))∧f.1∈q.rels.map Rl.name:=by
 refine ⟨fun hf=>?_,fun ⟨hf,hn⟩=>?_⟩
 ·obtain ⟨h1,h2⟩:=(h.stg hp _ f).1 hf
  exact ⟨stg_in_top f h1,h2⟩
 ·exact stg_in_top f ((h.stg hp _ f).2 ⟨hf,hn⟩)
end
theorem slice_of {p:Pg} {s:List UInt8} (hp:pgOk p=true) (h0:0≤p.find s):slL p s=pickL (slF p s) 0 p.rels∧SliceOf p ⟨pickL (slF p s) 0 p.rels⟩∧s∈(pickL (slF p s) 0 p.rels).map Rl.name:=by
 have hb:slB p s=true:=by unfold slB;rw [hp,decide_eq_true h0];rfl
 obtain ⟨hC,_,_⟩:=cRows_ok hp
 obtain ⟨y,hy,hys⟩:=find_hit h0
 refine ⟨if_pos hb,⟨pickL_sub _ _ _,fun x hx g hg h9=>?_⟩,c_.2 ⟨y,pickL_at _ _ 0 _ y hy (by unfold slF;rw [show ((0+(p.find s).toNat:Nat):Int)=p.find s by omega];simp),hys⟩⟩
 obtain ⟨i,hi,hfi⟩:=pickL_mem _ _ _ _ hx
 have hxm:=d_ hi
 have hp0:=hp
 unfold pgOk at hp0
 rw [b_] at hp0
 obtain ⟨k,hk⟩:=okL_mem hp0.2 x hxm
 unfold Pg.relOk at hk
 simp only [b_] at hk
 have hc:p.callsFit x.body=true:=hk.2
 unfold Pg.callsFit at hc
 have hg1:=a_.1 hc g hg
 have hgf:0≤p.find g.name:=by
  rcases Int.lt_or_le (p.find g.name) 0 with e | e
  ·rw [Pg.fitC_neg h9 e] at hg1;cases hg1
  ·exact e
 obtain ⟨z,hz,hzn⟩:=find_hit hgf
 have hrow:p.find g.name∈relRow (cRows p) (i:Int):=by
  have:relRow (cRows p) (i:Int)=p.rowI x.body:=by
   unfold relRow cRows
   rw [Int.toNat_natCast,List.getD_eq_getElem?_getD,List.getElem?_map,hi];rfl
  rw [this]
  unfold Pg.rowI Pg.callNames
  rw [ascOf_mem]
  exact c_.2 ⟨g.name,c_.2 ⟨g,List.mem_filter.2 ⟨hg,decide_eq_true h9⟩,rfl⟩,rfl⟩
 have hrc:=rc_row hC hrow
 refine c_.2 ⟨z,pickL_at _ _ 0 _ z hz ?_,hzn⟩
 unfold slF at hfi ⊢
 rw [show ((0+(p.find g.name).toNat:Nat):Int)=p.find g.name by omega]
 rw [show ((0+i:Nat):Int)=(i:Int) by omega] at hfi
 rw [Bool.or_eq_true] at hfi ⊢
 right
 rcases hfi with e | e
 ·rw [←of_decide_eq_true e];exact hrc
 ·exact rc_trans hC e hrc
end Go.Proofs.YtlajhmoomlgopaaGreat
namespace Go.Abs
def libN:Nat→List UInt8
 | 0=>[108,105,115,116,115]
 | 1=>[103,114,97,112,104]
 | 2=>[115,101,116,115]
 | _=>[103,97,109,101,115]
end Go.Abs
namespace Go.Proofs.YtlajhmoomlgopaaGreat
open Go.Abs
set_option maxRecDepth 100000
set_option maxHeartbeats 8000000
set_option linter.unusedSimpArgs false
set_option linter.unusedVariables false
theorem LibraryText_fn0:Gives Tryz.prog 26 [.str [108,105,115,116,115]] (.d (.str libT0)):=by
 have hmx:maxLen=9223372036854775807:=rfl
 refine aE_ Tryz.func26 ?_
 refine rS_ Tryz.func26 ?_
 simp only [go_sem,seval]
 repeat' (first
  | (simp (disch:=omega) only [j6])
  | ((first
   | (refine AW.loop ?_<;>(refine rS_ Tryz.func26 ?_))
   | (refine AW.round ?_<;>(refine rS_ Tryz.func26 ?_))
   | (refine ⟨sd,?_⟩))<;>(try simp only [go_sem,seval,hmx]))
  | fail)
 all_goals kernel_rfl
theorem LibraryText_fn1:Gives Tryz.prog 26 [.str [103,114,97,112,104]] (.d (.str libT1)):=by
 have hmx:maxLen=9223372036854775807:=rfl
 have d0:¬([103,114,97,112,104]:List UInt8)=[108,105,115,116,115]:=by decide
 refine aE_ Tryz.func26 ?_
 refine rS_ Tryz.func26 ?_
 simp only [go_sem,seval,d0]
 repeat' (first
  | (simp (disch:=omega) only [j6])
  | ((first
   | (refine AW.loop ?_<;>(refine rS_ Tryz.func26 ?_))
   | (refine AW.round ?_<;>(refine rS_ Tryz.func26 ?_))
   | (refine ⟨sd,?_⟩))<;>(try simp only [go_sem,seval,d0]))
  | fail)
 all_goals kernel_rfl
theorem LibraryText_fn2:Gives Tryz.prog 26 [.str [115,101,116,115]] (.d (.str libT2)):=by
 have hmx:maxLen=9223372036854775807:=rfl
 have d0:¬([115,101,116,115]:List UInt8)=[108,105,115,116,115]:=by decide
 have d1:¬([115,101,116,115]:List UInt8)=[103,114,97,112,104]:=by decide
 refine aE_ Tryz.func26 ?_
 refine rS_ Tryz.func26 ?_
 simp only [go_sem,seval,d0,d1]
 repeat' (first
  | (simp (disch:=omega) only [j6])
  | ((first
   | (refine AW.loop ?_<;>(refine rS_ Tryz.func26 ?_))
   | (refine AW.round ?_<;>(refine rS_ Tryz.func26 ?_))
   | (refine ⟨sd,?_⟩))<;>(try simp only [go_sem,seval,d0,d1]))
  | fail)
 all_goals kernel_rfl
theorem LibraryText_fn3:Gives Tryz.prog 26 [.str [103,97,109,101,115]] (.d (.str libT3)):=by
 have hmx:maxLen=9223372036854775807:=rfl
 have d0:¬([103,97,109,101,115]:List UInt8)=[108,105,115,116,115]:=by decide
 have d1:¬([103,97,109,101,115]:List UInt8)=[103,114,97,112,104]:=by decide
 have d2:¬([103,97,109,101,115]:List UInt8)=[115,101,116,115]:=by decide
 refine aE_ Tryz.func26 ?_
 refine rS_ Tryz.func26 ?_
 simp only [go_sem,seval,d0,d1,d2]
 repeat' (first
  | (simp (disch:=omega) only [j6])
  | ((first
   | (refine AW.loop ?_<;>(refine rS_ Tryz.func26 ?_))
   | (refine AW.round ?_<;>(refine rS_ Tryz.func26 ?_))
   | (refine ⟨sd,?_⟩))<;>(try simp only [go_sem,seval,d0,d1,d2]))
  | fail)
 all_goals kernel_rfl
theorem LibraryText_fn (k:Nat):Gives Tryz.prog 26 [.str (libN k)] (.d (.str (libT k))):=match k with
 | 0=>LibraryText_fn0
 | 1=>LibraryText_fn1
 | 2=>LibraryText_fn2
 | _+3=>LibraryText_fn3
theorem l01Str_R (B:List UInt8) (hB:B.length≤1048576) (L:List (List UInt8)) (hL:1≤L.length) (hl:L.length≤100) (i h:Int) (h0:0≤i) (h1:i≤B.length):ACalls Tryz.prog 62 [.ptr 0 0,.d (.sl (strD L))] [cuO B i h] (fun c H'=>∃s i' h',c=.d (.str s)∧H'=[cuO B i' h']∧s∈L∧0≤i'∧i'≤B.length):=by
 have hb:=l01Below_R B i h hB h0 h1 (L.length:Int)
 refine aE_ Tryz.func62 ?_
 refine rS_ Tryz.func62 ?_
 simp only [go_sem,seval,strD_len]
 refine (ACalls.emb hb [0] rfl rfl rfl (by decide) rfl ?_)
 rintro c H' ⟨x,i2,h2,rfl,rfl,⟨b1,b2⟩,b3,b4⟩ _
 refine ⟨rfl,rfl,?_⟩
 obtain ⟨k,hk,hkl⟩:∃k:Nat,x=k∧k<L.length:=⟨x.toNat,by omega,by omega⟩
 subst hk
 obtain ⟨s,hs⟩:∃s,L[k]? = some s:=⟨L[k],f_ hkl⟩
 have hxx:=strD_at hs
 simp only [go_sem,seval,strD_len,j5 hxx]
 repeat' (first
  | (exact ⟨s,_,_,rfl,rfl,d_ hs,b3,b4⟩)
  | ((refine ⟨sd,?_⟩)<;>(try simp only [go_sem,seval,strD_len,j5 hxx]))
  | fail)
theorem l15Name_R (B:List UInt8) (hB:B.length≤1048576) (i h:Int) (h0:0≤i) (h1:i≤B.length):ACalls Tryz.prog 27 [.ptr 0 0] [cuO B i h] (fun c H'=>∃k i' h',c=.d (.str (libN k))∧H'=[cuO B i' h']∧0≤i'∧i'≤B.length):=by
 have hb:=l01Str_R B hB [libN 0,libN 1,libN 2,libN 3] (by decide) (by decide) i h h0 h1
 have hsd:strD [libN 0,libN 1,libN 2,libN 3]=[[.str [108,105,115,116,115]],[.str [103,114,97,112,104]],[.str [115,101,116,115]],[.str [103,97,109,101,115]]]:=rfl
 rw [hsd] at hb
 refine aE_ Tryz.func27 ?_
 refine rS_ Tryz.func27 ?_
 simp only [go_sem,seval]
 repeat' (first
  | ((refine (ACalls.emb hb [0] rfl rfl rfl (by decide) rfl ?_)<;>(rintro c H' ⟨s,i2,h2,rfl,rfl,hs,b3,b4⟩ _;refine ⟨rfl,rfl,?_⟩))<;>(try simp only [go_sem,seval]))
  | fail)
 obtain ⟨k,rfl⟩:∃k,s=libN k:=by
  simp only [List.mem_cons,List.not_mem_nil,or_false] at hs
  rcases hs with rfl | rfl | rfl | rfl<;>exact ⟨_,rfl⟩
 exact ⟨k,_,_,rfl,rfl,b3,b4⟩
theorem all_pure {p:Pg} (h:p.all true=true):p.all false=true:=by
 unfold Pg.all at h ⊢
 rw [b_] at h ⊢
 refine ⟨h.1,a_.2 fun r hr=>?_⟩
 have:=a_.1 h.2 r hr
 unfold Gl.only at this ⊢
 refine a_.2 fun x hx=>?_
 have:=a_.1 this x hx
 unfold Gl.onlyK at this ⊢
 rw [b_] at this ⊢
 exact ⟨this.1,rfl⟩
theorem MakeProgram1G_R (B:List UInt8) (hB:B.length≤1048576):ACalls Tryz.prog 7 [.d (.sl (bytesD B)),.d (.int .i64 0),.d (.int .i64 1)] [] (fun c H'=>∃p,c=.d (.agg (Pg.enc p))∧H'=[]∧p.made 1):=by
 have hmx:maxLen=9223372036854775807:=rfl
 have hw:=l43New_T B hB 0 (by omega)
 rw [show ((0:Nat):Int)=0 from rfl] at hw
 refine aE_ Tryz.func7 ?_
 refine AW.hole ?_
 refine run_sound Tryz.func7 mixed 5 _ _ (by kernel_rfl) ?_
 simp only [go_sem,seval,run.eq_1]
 repeat' (first
  | ((refine (ACalls.emb hw [0] rfl rfl rfl (by decide) rfl ?_)<;>(rintro c H' ⟨rfl,i,h,rfl,e1,e2⟩ _;refine ⟨rfl,rfl,?_⟩))<;>(try simp only [go_sem,seval,run.eq_1]))
  | fail)
 refine AW.unbox 7 0 (cs:=cuD B i h) rfl rfl ?_
 have hnm:=l15Name_R B hB i h e1 e2
 refine rS_ Tryz.func7 ?_
 simp only [go_sem,seval]
 repeat' (first
  | ((refine (ACalls.emb hnm [2] rfl rfl rfl (by decide) rfl ?_)<;>(rintro c H' ⟨k,i2,h2,rfl,rfl,b3,b4⟩ _;refine ⟨rfl,rfl,?_⟩))<;>(try simp only [go_sem,seval]))
  | fail)
 obtain ⟨T,rels,hT,hTl,hTm,hp,hok,hfine⟩:=lib_prog k
 have hlt:=LibraryText_fn k
 have hpp:=sParseProgram_fn (libT k) (by have:=libT_len k;omega) T rels hT (by omega) (fun t ht=>⟨((tokV_mem hT).2 t ht).1,by have:=hTm t ht;omega⟩) hp hok (by have:=hfine.wt;omega)
 have hPe:(Pg.mk rels).enc=[.sl (rels.map Rl.enc)]:=Pg.enc_eq _
 rw [hPe] at hpp
 have hip:=sIsPositive_fn ⟨rels⟩ (by have:=hfine.wt;omega)
 have hiu:=sIsPure_fn ⟨rels⟩ (by have:=hfine.wt;omega)
 have hfin1:(Pg.mk rels).all false=true→(Pg.mk rels).fine 1:=fun h=>⟨hfine.ok,hfine.wt,hfine.cls,hfine.one,fun _=>h⟩
 have hal:(Pg.mk rels).all true=true→(Pg.mk rels).all false=true:=all_pure
 rw [hPe] at hip hiu
 generalize (Pg.mk rels).all false=X1 at hip hfin1 hal
 generalize (Pg.mk rels).all true=X2 at hiu hal
 have hon:=l01Once_R B hB 8 i2 h2 b3 b4
 repeat' (first
  | ((refine br_n (fun hq=>?_) (fun hq=>?_))<;>(try simp only [go_sem,seval,hq]))
  | ((first
   | (refine hlt.calls rfl ?_)
   | (refine hip.calls rfl ?_)
   | (refine hiu.calls rfl ?_)
   | (refine hpp.calls rfl ?_)
   | (refine (ACalls.emb hon [2] rfl rfl rfl (by decide) rfl ?_)<;>(rintro c H' ⟨b,i3,h3,rfl,rfl,c3,c4⟩ _;cases b<;>refine ⟨rfl,rfl,?_⟩))
   | (refine (ACalls.emb (l14Draw_R B hB 1 i3 h3 c3 c4) [2] rfl rfl rfl (by decide) rfl ?_)<;>(rintro c H' ⟨p,i4,h4,rfl,rfl,dp,d3,d4⟩ _;refine ⟨rfl,rfl,?_⟩))
   | (refine ⟨by assumption,?_⟩))<;>(try simp only [go_sem,seval]))
  | fail)
 ·exact .inl dp
 ·exact ⟨⟨rels⟩,by rw [hPe],.inr ⟨k,T,_,hT,hp,hfin1 (hal (by assumption))⟩⟩
 ·exact .inl dp
 ·exact ⟨⟨rels⟩,by rw [hPe],.inr ⟨k,T,_,hT,hp,hfin1 (by assumption)⟩⟩
theorem MakeProgram1_R (B:List UInt8) (hB:B.length≤1048576):ACalls Tryz.prog 7 [.d (.sl (bytesD B)),.d (.int .i64 0),.d (.int .i64 1)] [] (fun c H'=>∃p,c=.d (.agg (Pg.enc p))∧H'=[]∧p.fine 1∧Pg.gszL p.rels≤2000):=
 (MakeProgram1G_R B hB).mono fun _ _ ⟨p,h1,h2,h3⟩=>⟨p,h1,h2,Pg.made_fine h3,Pg.made_gsz h3⟩
theorem MakeOpen_R (B:List UInt8) (hB:B.length≤1048576) (n:Nat) (hn:n≤1000) (p:Pg) (hp1:1≤p.rels.length) (hp8:p.rels.length≤8) (har:∀r,r∈p.rels→0≤r.arity∧r.arity≤4):ACalls Tryz.prog 19 [.d (.sl (bytesD B)),.d (.int .i64 n),.d (.agg p.enc)] [] (fun c H'=>∃r ts,r∈p.rels∧c=.tup [.d (.agg [.int .i64 9,.str (Rl.name r),.sl (List.map V.enc ts),.sl []]),.d (.int .i64 r.arity)]∧H'=[]):=by
 have hmx:maxLen=9223372036854775807:=rfl
 have hw:=l43New_T B hB n (by omega)
 have hPe:=Pg.enc_eq p
 have hml:∀l:List Rl,(l.map Rl.enc).length=l.length:=fun l=>List.length_map _
 rw [hPe]
 refine aE_ Tryz.func19 ?_
 refine AW.hole ?_
 refine run_sound Tryz.func19 mixed 3 _ _ (by kernel_rfl) ?_
 simp only [go_sem,seval,run.eq_1]
 refine AW.drawA mixed #[true,true,true,true,true,true,true,true,true,true,true,true,false] [(1,.box [.d (.sl (p.rels.map Rl.enc))])] [] [0,1,2,3,5,6,7,11,4,8,9,10] [12] (some (11,8,81,[.string ⟨#[]⟩,.int .i64 0,.int .i64 0,.int .i64 0,.string ⟨#[]⟩,.slice none 0 0,.slice none 0 0])) (by kernel_rfl) tz81 (by simp [holdsB]) ?_
 simp only [go_sem,seval]
 repeat' (first
  | ((refine idx_intro (fun x hx=>have hq:=hx;?_))<;>(try simp only [go_sem,seval,hml,hq]))
  | ((first
   | (refine (ACalls.emb hw [0] rfl rfl rfl (by decide) rfl ?_)<;>(rintro c H' ⟨rfl,i,h,rfl,e1,e2⟩ _;refine ⟨rfl,rfl,?_⟩))
   | (refine (ACalls.emb (ACalls.unpb (ds:=[.int .i64 (p.rels.length:Int)]) (cs:=cuD B i h) (l01Below_R B i h hB e1 e2 (p.rels.length:Int)) (K:=fun c H'=>∃k:Nat,c=.d (.int .i64 (k:Int))∧H'=[.dead]∧k<p.rels.length) (fun c H' ⟨x,i',h',c1,c2,c3,_⟩=>⟨_,c1,x.toNat,by rw [c1,Int.toNat_of_nonneg c3.1],rfl,by omega⟩)) [0] rfl rfl rfl (by decide) rfl ?_)<;>(rintro c H' ⟨k,rfl,rfl,hk⟩ _;refine ⟨rfl,rfl,?_⟩))
   | (refine ⟨sd,?_⟩))<;>(try simp only [go_sem,seval,hml]))
  | fail)
 have hxm:=d_ hx
 obtain ⟨ar0,ar4⟩:=har x hxm
 obtain ⟨a,ha,ha4⟩:∃a:Nat,x.arity=(a:Int)∧a≤4:=⟨x.arity.toNat,by omega,by omega⟩
 have hRe:=Rl.enc_eq x
 rw [ha] at hRe
 refine run_sound Tryz.func19 mixed 2 _ _ (by kernel_rfl) ?_
 simp only [go_sem,seval,run.eq_1,hRe]
 refine AW.adoptGB 4 2 4 85 (by decide) rfl rfl ?_
 refine rS_ Tryz.func19 ?_
 simp only [go_sem,seval]
 refine AW.lp [6,8,9] (fun u:Nat×List V=>[(10,.d (.int .i64 (u.1:Int)))]) (fun _ u=>[.dead,.box [.d (.sl (p.rels.map Rl.enc))],.box [.d (.int .i64 0),.d (.str []),.nil0,.nil0],.box (x.enc.map .d),.box [.d (.int .i64 9),.d (.str x.name),.own 5 u.1,.nil0],.grow u.1 4 85 (u.2.map V.enc)]) (fun u=>u.1≤a∧u.2.length=u.1) (fun u=>a - u.1) (0,[]) ⟨Nat.zero_le _,rfl⟩ (by refine ⟨by simp [mkS,hRe],by simp [mkS,hRe],by simp only [mkS,List.all_cons,List.all_nil,O.refsLt,C.refsLt,C.refsLt1,all_dmap];first | done | rfl | (simp;done),?_⟩;simp [mkS,Abs.get,C.refsLtT,C.refsLt,C.refsLt1]) ?_
 rintro ⟨j,ts⟩ ⟨hj,hts⟩ hnext
 dsimp only at hj hts hnext ⊢
 by_cases hc:j<a
 ·have n1:(j:Int)<(a:Int):=by omega
  have wj:IntKind.i64.wrap ((j:Int)+1)=(j:Int)+1:=by rw [j6 (by omega) (by omega)]
  refine run_sound Tryz.func19 mixed 7 _ _ (by kernel_rfl) ?_
  simp only [go_sem,seval,run.eq_1,hRe,n1]
  refine AW.drawA mixed #[true,true,true,true,true,true,false,false] [(4,.box [.d (.int .i64 9),.d (.str x.name),.own 5 j,.nil0])] [] [0,1,2,3,4,5] [6,7] none (by kernel_rfl) trivial (by simp [holdsB]) ?_
  simp only [go_sem,seval]
  repeat' (first
   | ((first
    | (refine (l02VarV_fn _).calls rfl ?_)
    | (refine ⟨sd,?_⟩))<;>(try simp only [go_sem,seval,hRe]))
   | fail)
  refine rS_ Tryz.func19 ?_
  simp only [go_sem,seval,wj]
  refine hnext (j+1,ts++[.var j]) _ ⟨by dsimp only;omega,by simp [hts]⟩ (by dsimp only;omega) (by refine ⟨by simp [mkS,hRe],by simp [mkS,hRe],by simp only [mkS,List.all_cons,List.all_nil,O.refsLt,C.refsLt,C.refsLt1,all_dmap];first | done | rfl | (simp;done),?_⟩;simp [mkS,Abs.get,C.refsLtT,C.refsLt,C.refsLt1])
 ·have n1:¬(j:Int)<(a:Int):=by omega
  refine run_sound Tryz.func19 mixed 6 _ _ (by kernel_rfl) ?_
  simp only [go_sem,seval,run.eq_1,hRe,n1]
  obtain rfl:j=a:=by omega
  refine AW.drawA mixed #[true,true,true,true,false] [(3,.box [.d (.str x.name),.d (.int .i64 (j:Int)),.d (.int .i64 x.locals),.d (.int .i64 x.body.kind),.d (.str x.body.name),.d (.sl (x.body.terms.map Tm.enc)),.d (.sl (x.body.goals.map Gl.enc))]),(4,.box [.d (.int .i64 9),.d (.str x.name),.own 5 j,.nil0])] [] [0,1,2,3] [4] none (by kernel_rfl) trivial (by simp [holdsB]) ?_
  simp only [go_sem,seval,hRe]
  refine rS_ Tryz.func19 ?_
  simp only [go_sem,seval]
  repeat' (first
   | (exact ⟨x,ts,hxm,by rw [ha]⟩)
   | fail)
theorem within_of {a b:List FcV} (h:∀f,f∈a→f∈b):(a.all fun f=>decide (f∈b))=true:=a_.2 fun f hf=>decide_eq_true (h f hf)
theorem index_fn (p:Pg) (s:List UInt8):Gives Tryz.prog 21 [.agg p.enc,.str s] (.d (.int .i64 (p.find s))):=by
 refine aE_ Tryz.func21 ?_
 refine rS_ Tryz.func21 ?_
 simp only [go_sem,seval]
 refine AW.rng p.rels [1,8,9] 10 8 (fun _:Unit=>[]) (fun H _=>H) (fun r _=>findR r s ((p.rels.length - r.length:Nat):Int)=p.find s) () rfl (by simp) (by simp [Pg.find]) wk3_ (fun i x r acc hxi hdr hlt hm hinv hnext=>?_) (fun acc hinv=>?_)
 ·have hdl:=drop_len hdr
  have hdl2:p.rels.length - r.length=i+1:=by have:=congrArg List.length hdr;simp at this;omega
  simp only [List.length_cons,hdl,findR] at hinv
  rw [hdl2] at hnext
  refine rS_ Tryz.func21 ?_
  simp only [go_sem,seval,hlt,j5 hxi]
  repeat' (first
   | ((refine br_n (fun hq=>?_) (fun hq=>?_))<;>(try simp only [go_sem,seval,hq]))
   | (simp (disch:=omega) only [j6])
   | (refine hnext () _ ?_ wk3_)
   | fail)
  all_goals clear hnext
  ·rw [←hinv];simp [*]
  ·rw [←hinv];simp [*]
 ·simp only [findR] at hinv
  refine rS_ Tryz.func21 ?_
  simp only [go_sem,seval]
  rw [hinv]
theorem slD (p:Pg) (s:List UInt8) (hw:wtL p.enc≤1048576) (hp:pgOk p=true) (h0:0≤p.find s):Gives Tryz.prog 20 [.agg p.enc,.str s] (.tup [.d (.agg [.sl ((pickL (slF p s) 0 p.rels).map Rl.enc)]),.d (.bool true)]):=by
 have h1:=iSliceProgram_T p s hw
 have hb:slB p s=true:=by unfold slB;rw [hp,decide_eq_true h0];rfl
 rw [hb,(slice_of hp h0).1] at h1
 refine ACalls.frozen (ds:=[.agg p.enc,.str s]) (m:=1) h1 (fun c H' ⟨h1,e,B,h2⟩ _=>?_)
 subst h1 h2;rfl
theorem lawFnSlice_R (B:List UInt8):ACalls Tryz.prog 5 [.d (.sl (bytesD B))] [] (fun c H'=>c=.d (.bool true)∧H'=[]):=by
 have hmx:maxLen=9223372036854775807:=rfl
 refine aE_ Tryz.func5 ?_
 refine run_sound Tryz.func5 mixed 10 _ _ (by kernel_rfl) ?_
 simp only [go_sem,seval,run.eq_1,bytesD_len]
 refine br_intro (fun hq=>?_) (fun hq=>?_)
 ·simp only [go_sem,seval]
 simp only [decide_eq_false_iff_not,Int.not_lt] at hq
 have hB:B.length≤1048576:=by omega
 clear hq
 have hmk:=MakeProgram1_R B hB
 have hmu:=MakeUniverse_R B hB 60 2 (by decide) (by decide) (by decide)
 simp only [go_sem,seval,bytesD_len]
 refine ACalls.emb hmk [] rfl rfl rfl (by decide) rfl ?_
 rintro c H' ⟨p,rfl,rfl,hf,hgs⟩ _
 refine ⟨rfl,rfl,?_⟩
 have hPe:=Pg.enc_eq p
 have hp8:p.rels.length≤8:=by have h:=hf.ok;unfold pgOk at h;rw [b_] at h;exact of_decide_eq_true h.1
 have hmo:=MakeOpen_R B hB 80 (by decide) p hf.one hp8 (fun r hr=>by obtain ⟨a1,a2,_⟩:=Pg.dims hf.ok hr;exact ⟨a1,a2⟩)
 rw [hPe] at hmo
 simp only [go_sem,seval,hPe,run.eq_1]
 refine rS_ Tryz.func5 ?_
 simp only [go_sem,seval]
 repeat' (first
  | ((first
   | (refine (ACalls.emb hmu [] rfl rfl rfl (by decide) rfl ?_)<;>(rintro c H' ⟨u,rfl,rfl,hu,hul,hud⟩ _;refine ⟨rfl,rfl,?_⟩))
   | (refine (ACalls.emb hmo [] rfl rfl rfl (by decide) rfl ?_)<;>(rintro c H' ⟨x0,ts,hx0,rfl,rfl⟩ _;refine ⟨rfl,rfl,?_⟩)))<;>(try simp only [go_sem,seval]))
  | fail)
 obtain ⟨i0,hi0⟩:=e_ hx0
 have hfs:=find_self hf.ok hi0
 have h0:0≤p.find x0.name:=by omega
 obtain ⟨hs1,hS,hsn⟩:=slice_of hf.ok h0
 have hsd:=slD p x0.name (by have:=hf.wt;omega) hf.ok h0
 generalize pickL (slF p x0.name) 0 p.rels=L at *
 have hM:=Made.of hf hgs hu hul hud
 have hM2:=hS.made hf hgs hu hul hud
 have ha:=hf.nots (by decide)
 have ha2:=hS.all hf.ok ha
 have htop:=hS.top hf.ok (u:=u)
 have hfi:=hS.find_iff hf.ok
 have hl1:=lmM_fn hM ha
 have hl2:=lmM_fn hM2 ha2
 have hi1:=index_fn ⟨L⟩ x0.name
 have hix:=fun s=>index_fn ⟨L⟩ s
 have hge:¬Pg.find ⟨L⟩ x0.name<0:=by have:=(hfi x0.name).2 hsn;omega
 rw [hPe] at hsd hl1
 rw [Pg.enc_eq] at hl2 hi1
 simp only [Pg.enc_eq] at hix
 dsimp only at hl2 hi1 hix htop
 generalize stg (Pg.gnd u L) (top (Pg.gnd u L))=M2 at *
 generalize stg (Pg.gnd u p.rels) (top (Pg.gnd u p.rels))=M at *
 have iw:=withinL_fn M2 M
 rw [within_of (fun f hf=>((htop f).1 hf).1)] at iw
 repeat' (first
  | ((first
   | (refine hsd.calls rfl ?_)
   | (refine hl1.calls rfl ?_)
   | (refine hl2.calls rfl ?_)
   | (refine hi1.calls rfl ?_))<;>(try simp only [go_sem,seval,hge]))
  | fail)
 refine AW.rng M [7,9,11,12,67,68] 69 67 (fun _:Unit=>[]) (fun H _=>H) (fun _ _=>True) () rfl (by simp) trivial wk1_ (fun ii f r v hxi hdr hlt hm hinv hnext=>?_) (fun v hinv=>?_)
 ·have hfm:=d_ hxi
  have hin:=inL_fn M2 f
  have hxf:=hix f.1
  rw [fcE_eq] at hin
  have wi:IntKind.i64.wrap ((ii:Int)+1)=(ii:Int)+1:=by rw [j6 (by omega) (by omega)]
  by_cases hn:0≤Pg.find ⟨L⟩ f.1
  ·rw [decide_eq_true ((htop f).2 ⟨hfm,(hfi f.1).1 hn⟩)] at hin
   refine rS_ Tryz.func5 ?_
   simp only [go_sem,seval,hlt,j5 hxi,fcE_eq,wi,hn]
   repeat' (first
    | ((first
     | (refine hxf.calls rfl ?_)
     | (refine hin.calls rfl ?_))<;>(try simp only [go_sem,seval,hlt,j5 hxi,fcE_eq,wi,hn]))
    | fail)
   all_goals refine hnext () _ trivial wk1_
  ·refine rS_ Tryz.func5 ?_
   simp only [go_sem,seval,hlt,j5 hxi,fcE_eq,wi,hn]
   repeat' (first
    | ((refine hxf.calls rfl ?_)<;>(try simp only [go_sem,seval,hlt,j5 hxi,fcE_eq,wi,hn]))
    | fail)
   all_goals refine hnext () _ trivial wk1_
 ·refine rS_ Tryz.func5 ?_
  simp only [go_sem,seval]
  repeat' (first
   | ((refine iw.calls rfl ?_)<;>(try simp only [go_sem,seval]))
   | fail)
theorem lawFnSlice (B:List UInt8):Gives Tryz.prog 5 [.sl (bytesD B)] (.d (.bool true)):=
 ACalls.frozen (ds:=[.sl (bytesD B)]) (m:=0) (lawFnSlice_R B) (fun c H' ⟨h1,h2⟩ _=>by subst h1 h2;rfl)
end Go.Proofs.YtlajhmoomlgopaaGreat

import Derived.Test.YthilkmjkgpdngaaGreatW162
import Derived.Test.YthilkmjkgpdngaaGreatW163
open List renaming length_map→a_,mem_map→b_,length_cons→c_,all_eq_true→d_,map_cons→e_
namespace Go.Proofs.YthilkmjkgpdngaaGreat
open Go.Abs
set_option maxRecDepth 100000
set_option maxHeartbeats 4000000
set_option linter.unusedSimpArgs false
set_option linter.unusedVariables false
theorem eqTm2_fn:∀t:Tm,wtL t.enc≤2000000→Gives Tryz.prog 38 [.agg t.enc,.agg t.enc] (.d (.bool true)):=by
 intro t
 induction t using Tm.ind' with
 | h t ih =>
  intro hw
  have hmx:maxLen=9223372036854775807:=rfl
  have hl:t.args.length≤2000000:=by
   have h1:wtR (t.args.map Tm.enc)≤2000000:=by simp only [Tm.enc_eq t,wtL,D.wt] at hw;omega
   have:=sumW_le (t.args.map Tm.enc) 0;simp [sumW] at this;omega
  rw [Tm.enc_eq t]
  refine eq38 _ _ _ _ (eq12 _ (by rw [a_];omega) (fun x hx=>?_))
  obtain ⟨y,hy,rfl⟩:=b_.1 hx
  exact ⟨Tm.enc_len y,ih y hy (by have:=wt_args hy;omega)⟩
def smF (f:FcV):Prop:=f.2.length≤12∧wtR (f.2.map V.enc)≤2000000∧∀v,v∈f.2→v.size≤5000
theorem V.mcnt_tm:∀v:V,Tm.mcnt v.tm=3 * v.size
 | .nil=>rfl
 | .var _=>rfl
 | .sym _=>rfl
 | .num _=>rfl
 | .pair a b=>by simp only [V.tm,Tm.mcnt,Tm.mcnts,V.size,V.mcnt_tm a,V.mcnt_tm b];omega
theorem mcnts_small:∀l:List V,(∀v,v∈l→v.size≤5000)→Tm.mcnts (l.map V.tm)≤15000 * l.length
 | [],_=>by simp [Tm.mcnts]
 | v :: r,h=>by
  have h1:=mcnts_small r (fun v hv=>h v (by simp [hv]))
  have h2:=h v (by simp)
  have h3:=V.mcnt_tm v
  simp only [e_,Tm.mcnts,c_];omega
theorem mcntF_small:∀l:List FcV,(∀f,f∈l→smF f)→Fc.mcnts (l.map FcV.fc)≤180001 * l.length
 | [],_=>by simp [Fc.mcnts]
 | f :: r,h=>by
  have h1:=mcntF_small r (fun v hv=>h v (by simp [hv]))
  have h2:=h f (by simp)
  have h3:=mcnts_small f.2 h2.2.2
  have h4:=h2.1
  have h5:(FcV.fc f).mcnt=1+Tm.mcnts (f.2.map V.tm):=rfl
  simp only [e_,Fc.mcnts,c_];omega
theorem eqFcS_of (l:List FcV) (hm:l.length≤1000000) (hw:∀f,f∈l→smF f):Gives Tryz.prog 74 [.sl (l.map fcE),.sl (l.map fcE)] (.d (.bool true)):=by
 have hmx:maxLen=9223372036854775807:=rfl
 refine eq74 (l.map fcE) (by rw [a_];omega) (fun x hx=>?_)
 obtain ⟨f,hf,rfl⟩:=b_.1 hx
 refine ⟨fcE_len f,?_⟩
 obtain ⟨h1,h2,_⟩:=hw f hf
 rw [fcE_eq]
 refine eq73 _ _ (eq12 _ (by rw [a_];omega) (fun x hx=>?_))
 obtain ⟨v,hv,rfl⟩:=b_.1 hx
 refine ⟨V.enc_len v,?_⟩
 have h3:=wtR_mem (l:=f.2.map V.enc) hx
 exact eqTm2_fn v.tm (Nat.le_trans h3 h2)
theorem small_of {u:List V} (hu:Uni u) {l:List FcV} (h:∀f,f∈l→(∀v,v∈f.2→v∈u)∧f.2.length≤12):∀f,f∈l→smF f:=fun f hf=>by
 refine ⟨(h f hf).2,oksU_wt hu h f hf,fun v hv=>?_⟩
 have:=hu.ok v ((h f hf).1 v hv)
 unfold V.ok at this
 simp only [Bool.and_eq_true,decide_eq_true_eq] at this
 exact this.2
def smR (r:RV):Prop:=smF r.head∧smF ([],r.values)∧(r.pos.length≤60∧∀f,f∈r.pos→smF f)∧r.neg.length≤60∧∀f,f∈r.neg→smF f
theorem rvE_map (l:List RV):l.map rvE=(l.map RV.ru).map Ru.enc:=by rw [List.map_map];rfl
theorem mcntR_small:∀l:List RV,(∀r,r∈l→smR r)→Ru.mcnts (l.map RV.ru)≤22000000 * l.length
 | [],_=>by simp [Ru.mcnts]
 | r :: l,h=>by
  have h1:=mcntR_small l (fun v hv=>h v (by simp [hv]))
  obtain ⟨h2,h3,⟨h4,h5⟩,h6,h7⟩:=h r (by simp)
  have g1:=mcnts_small r.head.2 h2.2.2
  have g2:=mcnts_small r.values h3.2.2
  have g3:=mcntF_small r.pos h5
  have g4:=mcntF_small r.neg h7
  have k1:=h2.1
  have k2:r.values.length≤12:=h3.1
  have h8:r.ru.mcnt=2+Tm.mcnts (r.head.2.map V.tm)+Tm.mcnts (r.values.map V.tm)+Fc.mcnts (r.pos.map FcV.fc)+Fc.mcnts (r.neg.map FcV.fc):=rfl
  simp only [e_,Ru.mcnts,c_];omega
theorem eqTs_of (l:List V) (h:smF ([],l)):Gives Tryz.prog 12 [.sl (l.map V.enc),.sl (l.map V.enc)] (.d (.bool true)):=by
 have hmx:maxLen=9223372036854775807:=rfl
 obtain ⟨h1,h2,_⟩:=h
 refine eq12 _ (by rw [a_];dsimp only at h1;omega) (fun x hx=>?_)
 obtain ⟨v,hv,rfl⟩:=b_.1 hx
 exact ⟨V.enc_len v,eqTm2_fn v.tm (Nat.le_trans (wtR_mem hx) h2)⟩
theorem eqRuS_of (l:List RV) (hm:l.length≤1000000) (hw:∀r,r∈l→smR r):Gives Tryz.prog 10 [.sl (l.map rvE),.sl (l.map rvE)] (.d (.bool true)):=by
 have hmx:maxLen=9223372036854775807:=rfl
 refine eq10 (l.map rvE) (by rw [a_];omega) (fun x hx=>?_)
 obtain ⟨r,hr,rfl⟩:=b_.1 hx
 obtain ⟨h2,h3,⟨h4,h5⟩,h6,h7⟩:=hw r hr
 refine ⟨rvE_len r,?_⟩
 rw [rvE_eq]
 exact eq36 _ _ _ _ _ _ (eq73 _ _ (eqTs_of r.head.2 h2)) (eqTs_of r.values h3) (eqFcS_of r.pos (by omega) h5) (eqFcS_of r.neg (by omega) h7)
theorem gnd_small {p:Pg} {u:List V} (hp:pgOk p=true) (hu:Uni u) {r:RV} (hr:r∈Pg.gnd u p.rels):smR r:=by
 obtain ⟨d1,d2,⟨d3,d4⟩,d5,d6⟩:=gnd_dims hp hr
 have hm:(∀v,v∈r.head.2→v∈u)∧(∀v,v∈r.values→v∈u)∧(∀f,f∈r.pos→∀v,v∈f.2→v∈u)∧∀f,f∈r.neg→∀v,v∈f.2→v∈u:=by
  obtain ⟨x,hx,c,_,j,w,hf,rfl⟩:=gnd_mem _ hr
  unfold rvFine at hf
  simp only [Bool.and_eq_true,d_] at hf
  obtain ⟨⟨_,f1⟩,f2⟩:=hf
  refine ⟨fun v hv=>gVals_mem hu.pos _ _ v (List.mem_of_mem_take hv),fun v hv=>gVals_mem hu.pos _ _ v hv,fun f hf v hv=>?_,fun f hf v hv=>?_⟩
  ·have h1:=f1 f hf
   unfold inUV at h1
   exact of_decide_eq_true (d_.1 h1 v hv)
  ·have h1:=f2 f hf
   unfold inUV at h1
   exact of_decide_eq_true (d_.1 h1 v hv)
 obtain ⟨m1,m2,m3,m4⟩:=hm
 refine ⟨small_of hu (l:=[r.head]) (fun f hf=>?_) _ (by simp),small_of hu (l:=[([],r.values)]) (fun f hf=>?_) _ (by simp),⟨d3,small_of hu (fun f hf=>⟨m3 f hf,d4 f hf⟩)⟩,d5,small_of hu (fun f hf=>⟨m4 f hf,d6 f hf⟩)⟩
 ·rw [List.mem_singleton] at hf;subst hf;exact ⟨m1,d1⟩
 ·rw [List.mem_singleton] at hf;subst hf;exact ⟨m2,d2⟩
theorem grO_small {p:Pg} {u:List Tm} {L:List RV} (h:Pg.grO p u=some L):L.length≤2000∧∀r,r∈L→smR r:=by
 unfold Pg.grO at h
 split at h
 ·rename_i h12
  obtain ⟨hu,_⟩:=Uni.of h12.2
  obtain ⟨hL,hl⟩:=gr_mem h
  exact ⟨hl,fun r hr=>gnd_small h12.1 hu (by rw [←hL];exact hr)⟩
 ·cases h
end Go.Proofs.YthilkmjkgpdngaaGreat

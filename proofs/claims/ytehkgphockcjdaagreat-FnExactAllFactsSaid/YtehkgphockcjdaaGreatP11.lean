import Derived.Test.YtehkgphockcjdaaGreatP10
import Derived.Test.YtehkgphockcjdaaGreatA5
open Bool renaming and_eq_true→a_
open List renaming cons_append→b_,length_cons→c_,map_cons→d_,getElem?_cons_succ→e_
set_option linter.unusedVariables false
set_option linter.unusedSimpArgs false
namespace Go.Abs
open Go
def bnd (R:List UInt8):Prop:=R=[]∨∃c r,R=c :: r∧isBr c=true
def wrd (w:List UInt8):Prop:=w≠[]∧∀c,c∈w→isBr c=false
theorem takeW_app {p:UInt8→Bool}:∀(w R:List UInt8),(∀c,c∈w→p c=true)→(R=[]∨∃c r,R=c :: r∧p c=false)→(w++R).takeWhile p=w∧(w++R).dropWhile p=R
 | [],R,_,h=>by
  rcases h with rfl | ⟨c,r,rfl,hc⟩
  ·exact ⟨rfl,rfl⟩
  ·simp [hc]
 | c :: w,R,hw,h=>by
  obtain ⟨h1,h2⟩:=takeW_app w R (fun d hd=>hw d (by simp [hd])) h
  have hc:=hw c (by simp)
  simp only [b_,List.takeWhile_cons,List.dropWhile_cons,hc,if_true,h1,h2,and_self]
theorem isBr_ne {c:UInt8} (h:isBr c=false):c≠32∧c≠10∧c≠40∧c≠41∧c≠59:=by
 unfold isBr at h
 simp only [Bool.or_eq_false_iff,beq_eq_false_iff_ne,ne_eq] at h
 exact ⟨h.1.1.1.1,h.1.1.1.2,h.1.1.2,h.1.2,h.2⟩
theorem toks_wd {w R:List UInt8} (hw:wrd w) (hR:bnd R):toks (w++R)=w :: toks R:=by
 obtain ⟨hne,hall⟩:=hw
 cases w with
 | nil=>exact absurd rfl hne
 | cons c w =>
  obtain ⟨n1,n2,n3,n4,n5⟩:=isBr_ne (hall c (by simp))
  have hR':R=[]∨∃c r,R=c :: r∧noBr c=false:=by
   rcases hR with h | ⟨d,r,h,hd⟩
   ·exact .inl h
   ·exact .inr ⟨d,r,h,by unfold noBr;rw [hd];rfl⟩
  obtain ⟨h1,h2⟩:=takeW_app (p:=noBr) w R (fun d hd=>by unfold noBr;rw [hall d (by simp [hd])];rfl) hR'
  rw [b_,toks_cons,if_neg (fun h=>h.elim n1 n2),if_neg n5,if_neg (fun h=>h.elim n3 n4),h1,h2]
theorem toks_32 (R:List UInt8):toks (32 :: R)=toks R:=by rw [toks_cons,if_pos (.inl rfl)]
theorem toks_40 (R:List UInt8):toks (40 :: R)=[40] :: toks R:=by rw [toks_cons];simp
theorem toks_41 (R:List UInt8):toks (41 :: R)=[41] :: toks R:=by rw [toks_cons];simp
theorem bnd_32 (R:List UInt8):bnd (32 :: R):=.inr ⟨_,_,rfl,rfl⟩
theorem bnd_41 (R:List UInt8):bnd (41 :: R):=.inr ⟨_,_,rfl,rfl⟩
def nmB (c:UInt8):Prop:=c.toNat=45∨(48≤c.toNat∧c.toNat≤57)∨(97≤c.toNat∧c.toNat≤122)∨c.toNat=63∨c.toNat=46
theorem nmB_br {c:UInt8} (h:nmB c):isBr c=false:=by
 rw [←brI_eq]
 unfold brI
 unfold nmB at h
 simp only [Bool.or_eq_false_iff,decide_eq_false_iff_not]
 omega
theorem name_byte {s:List UInt8} (h:isName s=true):∀c,c∈s→nmB c:=by
 intro c hc
 obtain ⟨j,hj⟩:=List.getElem?_of_mem hc
 unfold isName at h
 simp only [a_,List.all_eq_true,List.mem_range] at h
 have h1:=h.1.1 j (List.getElem?_eq_some_iff.1 hj).1
 unfold okAt byteAt at h1
 rw [hj] at h1
 simp only [Option.getD_some,Bool.or_eq_true,a_,decide_eq_true_eq,bne_iff_ne,ne_eq,beq_iff_eq] at h1
 unfold nmB
 omega
theorem dec_byte (n:Int):∀c,c∈dec n→nmB c:=by
 intro c hc
 by_cases hn:n<0
 ·rw [dec_neg hn] at hc
  rcases List.mem_cons.1 hc with rfl | hc
  ·exact .inl rfl
  ·exact .inr (.inl (dec_all _ _ (Nat.le_refl _) c hc))
 ·rw [dec_pos (by omega)] at hc
  exact .inr (.inl (dec_all _ _ (Nat.le_refl _) c hc))
theorem dec_head (n:Int):∃c r,dec n=c :: r∧(c.toNat=45∨(48≤c.toNat∧c.toNat≤57)):=by
 by_cases hn:n<0
 ·exact ⟨_,_,dec_neg hn,.inl rfl⟩
 ·rw [dec_pos (by omega)]
  obtain ⟨c,r,h1,h2,h3⟩:=decDigits_first _ n.toNat (Nat.le_refl _)
  exact ⟨c,r,h1,.inr ⟨h2,h3⟩⟩
namespace V
def wd:V→List UInt8
 | var n=>63 :: dec n
 | sym s=>s
 | num n=>dec n
 | _=>[]
def leafB:V→Bool
 | var _=>true
 | sym _=>true
 | num _=>true
 | _=>false
def tkp:V→List (List UInt8)×List (List UInt8)
 | nil=>([[40],[41]],[[41]])
 | pair a b=>([40] :: (a.tkp.1++b.tkp.2),a.tkp.1++b.tkp.2)
 | v=>([v.wd],[[46],v.wd,[41]])
def tks (v:V):List (List UInt8):=v.tkp.1
def tlk (v:V):List (List UInt8):=v.tkp.2
theorem tks_pair (a b:V):(pair a b).tks=[40] :: (a.tks++b.tlk):=rfl
theorem tlk_pair (a b:V):(pair a b).tlk=a.tks++b.tlk:=rfl
theorem tks_leaf {v:V} (h:v.leafB=true):v.tks=[v.wd]∧v.tlk=[[46],v.wd,[41]]∧v.txt=v.wd∧v.tl=[32,46,32]++v.wd++[41]:=by
 cases v<;>first | exact ⟨rfl,rfl,rfl,rfl⟩ | cases h
theorem wd_byte {v:V} (h:v.leafB=true) (hf:v.fine=true):v.wd≠[]∧∀c,c∈v.wd→nmB c:=by
 cases v with
 | nil=>cases h
 | pair a b=>cases h
 | var n =>
  refine ⟨by simp [wd],fun c hc=>?_⟩
  rcases List.mem_cons.1 hc with rfl | hc
  ·exact .inr (.inr (.inr (.inl rfl)))
  ·exact dec_byte n c hc
 | sym s =>
  have:=isName_len hf
  refine ⟨fun e=>?_,name_byte hf⟩
  simp only [wd] at e
  rw [e] at this
  simp at this
 | num n =>
  obtain ⟨c,r,h1,_⟩:=dec_head n
  exact ⟨by simp only [wd];rw [h1];simp,dec_byte n⟩
theorem wd_wrd {v:V} (h:v.leafB=true) (hf:v.fine=true):wrd v.wd:=by
 obtain ⟨h1,h2⟩:=wd_byte h hf
 exact ⟨h1,fun c hc=>nmB_br (h2 c hc)⟩
theorem tl_bnd:∀v:V,∀R,bnd (v.tl++R):=fun v R=>by
 cases v with
 | nil=>exact bnd_41 R
 | _=>exact bnd_32 _
theorem toks_leaf {v:V} (hv:v.leafB=true) (h:v.fine=true):(∀R,bnd R→toks (v.txt++R)=v.tks++toks R)∧∀R,toks (v.tl++R)=v.tlk++toks R:=by
 have hw:=wd_wrd hv h
 obtain ⟨k1,k2,k3,k4⟩:=tks_leaf hv
 refine ⟨fun R hR=>?_,fun R=>?_⟩
 ·rw [k3,k1,toks_wd hw hR];rfl
 ·rw [k4,k2]
  have e:[32,46,32]++v.wd++[41]++R=32 :: ([46]++(32 :: (v.wd++(41 :: R)))):=by simp
  rw [e,toks_32,toks_wd (w:=[46]) ⟨by simp,by intro c hc;simp at hc;subst hc;rfl⟩ (bnd_32 _),toks_32,toks_wd hw (bnd_41 _),toks_41]
  rfl
theorem toks_txt:∀v:V,v.fine=true→(∀R,bnd R→toks (v.txt++R)=v.tks++toks R)∧∀R,toks (v.tl++R)=v.tlk++toks R:=by
 intro v
 induction v with
 | pair a b iha ihb =>
  intro h
  simp only [fine,a_] at h
  obtain ⟨a1,a2⟩:=iha h.1
  obtain ⟨b1,b2⟩:=ihb h.2
  have hab:∀R,toks ((a.txt++b.tl)++R)=(a.tks++b.tlk)++toks R:=fun R=>by
   rw [List.append_assoc,a1 _ (tl_bnd b R),b2 R,List.append_assoc]
  refine ⟨fun R _=>?_,fun R=>?_⟩
  ·rw [txt_pair,tks_pair,b_,toks_40,hab R];rfl
  ·rw [tl_pair,tlk_pair,b_,toks_32,hab R]
 | nil =>
  intro _
  refine ⟨fun R _=>?_,fun R=>?_⟩
  ·show toks (40 :: 41 :: R)=_
   rw [toks_40,toks_41];rfl
  ·show toks (41 :: R)=_
   rw [toks_41];rfl
 | var n=>exact toks_leaf (v:=.var n) rfl
 | sym s=>exact toks_leaf (v:=.sym s) rfl
 | num n=>exact toks_leaf (v:=.num n) rfl
end V
theorem V.fineLow:∀v:V,v.fine=true→v.low=true
 | .nil,_=>rfl
 | .var _,_=>rfl
 | .num _,_=>rfl
 | .sym s,h=>by simp [V.low,(isName_len h).2]
 | .pair a b,h=>by
  simp only [V.fine,a_] at h
  simp only [V.low,a_]
  exact ⟨V.fineLow a h.1,V.fineLow b h.2⟩
theorem ok_wtV {v:V} (h:v.ok=true):wtL v.enc≤80000:=by
 unfold V.ok at h
 simp only [a_,decide_eq_true_eq] at h
 have:=V.wt_low v (V.fineLow v h.1)
 omega
theorem oks_wtV:∀(l:List V),l.all V.ok=true→wtR (l.map V.enc)≤80001 * l.length
 | [],_=>by simp [wtR]
 | v :: r,h=>by
  simp only [List.all_cons,a_] at h
  have h1:=ok_wtV h.1
  have h2:=oks_wtV r h.2
  simp only [d_,wtR,c_]
  omega
def srch (p:Nat→Bool) (n:Nat):Nat:=(List.range n).findIdx p
def bound (s:List Bd) (v:Int):Bool:=s.any (fun b=>b.var == v)
def bfind (s:List Bd) (v:Int):Int:=
 match s[srch (fun i=>match s[i]? with | some b=>decide (v≤b.var) | none=>false) s.length]? with
 | some b=>if b.var=v then (srch (fun i=>match s[i]? with | some b=>decide (v≤b.var) | none=>false) s.length:Int) else -1
 | none=>-1
def geB (s:List Bd) (v:Int) (i:Nat):Bool:=match s[i]? with | some b=>decide (v≤b.var) | none=>false
theorem bfind_eq (s:List Bd) (v:Int):bfind s v=match s[srch (geB s v) s.length]? with | some b=>if b.var=v then (srch (geB s v) s.length:Int) else -1 | none=>-1:=rfl
def prs:List V→Option (List Bd)
 | []=>some []
 | .var i :: t :: r=>(match prs r with | some l=>some (⟨i,t.tm⟩ :: l) | none=>none)
 | _=>none
theorem prs_var (i:Int) (t:V) (r:List V):prs (.var i :: t :: r)=match prs r with | some l=>some (⟨i,t.tm⟩ :: l) | none=>none:=rfl
def Bd.mcnt (t:Bd):Nat:=4+Tm.mcnts t.to.args
def Bd.mrk (k:Int) (t:Bd):Bd:=⟨k,.mk (k+1) (k+2) (mText (k+3)) (Tm.mrks (k+4) t.to.args)⟩
def Bd.mcnts:List Bd→Nat
 | []=>0
 | t :: r=>Bd.mcnt t+Bd.mcnts r
def Bd.mrks (k:Int):List Bd→List Bd
 | []=>[]
 | t :: r=>Bd.mrk k t :: Bd.mrks (k+t.mcnt) r
theorem Bd.mrks_len:∀(l:List Bd) (k:Int),(Bd.mrks k l).length=l.length
 | [],_=>rfl
 | t :: r,k=>by simp [Bd.mrks,Bd.mrks_len r]
theorem Bd.mcnts_app:∀(a b:List Bd),Bd.mcnts (a++b)=Bd.mcnts a+Bd.mcnts b
 | [],b=>by simp [Bd.mcnts]
 | t :: a,b=>by simp only [b_,Bd.mcnts,Bd.mcnts_app a b];omega
theorem Bd.mrks_app:∀(a b:List Bd) (k:Int),Bd.mrks k (a++b)=Bd.mrks k a++Bd.mrks (k+Bd.mcnts a) b
 | [],b,k=>by simp [Bd.mrks,Bd.mcnts]
 | t :: a,b,k=>by
  simp only [b_,Bd.mrks,Bd.mcnts,Bd.mrks_app a b]
  rw [show k+(t.mcnt:Int)+(Bd.mcnts a:Int)=k+((t.mcnt+Bd.mcnts a:Nat):Int) by omega]
theorem Bd.len_mcnts:∀l:List Bd,l.length≤Bd.mcnts l
 | []=>by simp
 | t :: r=>by have:=Bd.len_mcnts r;simp only [Bd.mcnts,Bd.mcnt,c_];omega
theorem Bd.mcnts_wt:∀l:List Bd,Bd.mcnts l≤4 * wtR (l.map Bd.enc)
 | []=>by simp [Bd.mcnts]
 | t :: r=>by
  have h1:=Bd.mcnts_wt r
  have h2:=Tm.mcnts_wt t.to.args
  simp only [Bd.mcnts,Bd.mcnt,d_,wtR,Bd.enc_eq,wtL,D.wt];omega
theorem Bd.mrks_at:∀(l:List Bd) (k:Int) (i:Nat) (x:Bd),l[i]? = some x→(Bd.mrks k l)[i]? = some (x.mrk (k+Bd.mcnts (l.take i)))
 | [],k,i,x,h=>by simp at h
 | t :: r,k,0,x,h=>by simp at h;subst h;simp [Bd.mrks,Bd.mcnts]
 | t :: r,k,i+1,x,h=>by
  simp only [e_] at h
  simp only [Bd.mrks,e_,List.take_succ_cons,Bd.mcnts]
  rw [Bd.mrks_at r _ i x h]
  rw [show k+(t.mcnt:Int)+(Bd.mcnts (r.take i):Int)=k+((t.mcnt+Bd.mcnts (r.take i):Nat):Int) by omega]
theorem Bd.wts (l:List Bd) (m:Nat) (h:∀x,x∈l→wtL x.to.enc≤m):wtR (l.map Bd.enc)≤(m+1) * l.length:=by
 induction l with
 | nil=>simp [wtR]
 | cons t r ih =>
  have h1:=h t (by simp)
  have h2:=ih (fun x hx=>h x (by simp [hx]))
  have h3:wtL t.enc=wtL t.to.enc:=by rw [Bd.enc_eq,Tm.enc_eq];simp only [wtL,D.wt];omega
  simp only [d_,wtR,c_,Nat.mul_add]
  omega
end Go.Abs

import Derived.Test.YtehcdhelbkjaeaaGreatDoorW79p
import Derived.Test.YtehcdhelbkjaeaaGreatDoorW1
import Derived.Test.YtehcdhelbkjaeaaGreatDoorA9
import Derived.Test.YtehcdhelbkjaeaaGreatDoorP10
import Derived.Test.YtehcdhelbkjaeaaGreatDoorShelf
import Derived.Test.YtehcdhelbkjaeaaGreatDoorW78
namespace Go.Proofs.YtehcdhelbkjaeaaGreatDoor
open Go.RowKit Go.Abs
set_option maxRecDepth 100000
set_option maxHeartbeats 4000000
set_option linter.unusedSimpArgs false
set_option linter.unusedVariables false
def tabO:O:=.tab 2 (Lib.pow10Tab.map fun z=>Value.int .u64 z)
def synO (te:TypeId) (pe:Value):O:=.tab 0 [.iface te pe]
def ranO (te:TypeId) (pe:Value):O:=.tab 1 [.iface te pe]
@[go_sem ↓ 10000] theorem tabO_refs (m:Nat):tabO.refsLt m=true:=rfl
@[go_sem ↓ 10000] theorem synO_refs (te:TypeId) (pe:Value) (m:Nat):(synO te pe).refsLt m=true:=rfl
@[go_sem ↓ 10000] theorem ranO_refs (te:TypeId) (pe:Value) (m:Nat):(ranO te pe).refsLt m=true:=rfl
theorem iPI_raw (l:List UInt8) (hl:l.length≤1048576) (te tr:TypeId) (pe pr:Value) (w:World) (htab:Lib.TabIs Tryz.prog w "internal/strconv.uint64pow10" .u64 Lib.pow10Tab)
  (hv0:w.cell? ⟨0,0,none⟩=some (.iface te pe)) (hv1:w.cell? ⟨1,0,none⟩=some (.iface tr pr)) :
  Calls Tryz.prog 67 #[.string ⟨l.toArray⟩] w fun e w'=>e=.returned (.tuple #[.int .i64 (pIN l),.bool (pInt l).isSome])∧Below w.heap.size w w':=by
 have hsz:(⟨l.toArray⟩:ByteArray).size=l.length:=rfl
 have hll:(⟨l.toArray⟩:ByteArray).data.toList=l:=rfl
 rcases h:Lib.atoiAll l with v | _ | _
 ·
  have hb:=Lib.atoiAll_bounds h
  have hat:=fun w=>Tryz.strconv_Atoi_ok ⟨l.toArray⟩ (by rw [hsz];omega) v h w
  have hp:pInt l=if dec v=l then some v else none:=by unfold pInt;rw [h]
  go_enter Tryz.func67,Tryz.ntmps67
  go_wp2_with (go_at_call 103;refine (hat _).mono ?_;rintro e W1 ⟨rfl,hW⟩)
  have hb1:Below w.heap.size w W1:=by
   rcases hW with rfl | ⟨t,rfl⟩
   ·exact Below.refl _ _
   ·exact Lib.bytesWorld_below _ _ _
  clear hW
  have htab1:Lib.TabIs Tryz.prog W1 "internal/strconv.uint64pow10" .u64 Lib.pow10Tab:=by
   have hg:Tryz.prog.globalNamed "internal/strconv.uint64pow10" = some 2:=by kernel_rfl
   unfold Lib.TabIs World.var? at htab ⊢
   simp only [hg,Option.bind_some] at htab ⊢
   rw [hb1.block _ (by
    rcases Nat.lt_or_ge 2 w.heap.size with k | k
    ·exact k
    ·simp [Array.getElem?_eq_none k] at htab)]
   exact htab
  have hb2:∀(k:Nat) (os:Array Obj),Below w.heap.size w (Sort.grow (W1.drewN k) os):=fun k os=>hb1.trans ⟨rfl,rfl,rfl,by show _≤(W1.heap++os).size;simp,fun b hlt=>by
   show (W1.heap++os)[b]? = _
   exact Array.getElem?_append_left (Nat.lt_of_lt_of_le hlt hb1.size)⟩
  have hit:=Tryz.strconv_Itoa v hb.1 hb.2 W1 htab1
  go_wp2_with (go_at_call 104;refine hit.mono ?_;rintro e W2 ⟨rfl,k,os,hW2⟩)
  ·rename_i hq
   have hne:¬dec v=l:=by
    have hq':¬Lib.itoa v=l:=by simpa using hq
    exact hq'
   rw [if_neg hne] at hp
   rw [hp,show pIN l=0 from by unfold pIN;rw [hp];rfl]
   go_ret2
   exact ⟨rfl,hb2 k os⟩
  ·rename_i hq
   have hne:dec v=l:=by
    have hq':Lib.itoa v=l:=by simpa using hq
    exact hq'
   rw [if_pos hne] at hp
   rw [hp,show pIN l=v from by unfold pIN;rw [hp];rfl]
   go_ret2
   exact ⟨rfl,hb2 k os⟩
 ·
  have hp:pInt l=none:=by unfold pInt;rw [h]
  rw [hp,show pIN l=0 from by unfold pIN;rw [hp];rfl]
  go_enter Tryz.func67,Tryz.ntmps67
  go_wp2_with (go_at_call 103;refine (Tryz.strconv_Atoi_syntax ⟨l.toArray⟩ (by rw [hsz];omega) h _ _ hv0 (.inr ⟨te,pe,rfl⟩)).mono ?_;rintro e W1 ⟨N,rfl,-,-,hb⟩)
  go_ret2
  exact ⟨rfl,hb⟩
 ·
  have hp:pInt l=none:=by unfold pInt;rw [h]
  rw [hp,show pIN l=0 from by unfold pIN;rw [hp];rfl]
  go_enter Tryz.func67,Tryz.ntmps67
  go_wp2_with (go_at_call 103;refine (Tryz.strconv_Atoi_range ⟨l.toArray⟩ (by rw [hsz];omega) h _ _ hv1 (.inr ⟨tr,pr,rfl⟩)).mono ?_;rintro e W1 ⟨N,rfl,-,-,hb⟩)
  go_ret2
  exact ⟨rfl,hb⟩
def loO (te tr:TypeId) (pe pr:Value):List O:=[tabO,synO te pe,ranO tr pr]
theorem iParseInt_R (l:List UInt8) (hl:l.length≤1048576) (te tr:TypeId) (pe pr:Value):ACalls Tryz.prog 67 [.d (.str l)] (loO te tr pe pr) (fun c H'=>c=pIC l∧H'=loO te tr pe pr):=by
 intro E vs hE hsz ha
 obtain ⟨v,rfl⟩:∃v,vs=#[v]:=by
  match vs,hsz with
  | ⟨[v]⟩,_=>exact ⟨v,rfl⟩
 have hv:=ha 0 _ v rfl rfl
 cases hv with
 | d _ _ hd =>
  cases hd
  have ht:=hE.obj 0 _ rfl
  have h1:=hE.obj 1 _ rfl
  have h2:=hE.obj 2 _ rfl
  refine (iPI_raw l hl te tr pe pr E.w (tab_is (by kernel_rfl) (by decide) (fun j hj=>(ht j hj).2)) ((h1 0 (Nat.zero_le _)).2) ((h2 0 (Nat.zero_le _)).2)).mono ?_
  rintro e w' ⟨rfl,hb⟩
  obtain ⟨hle,hH⟩:=rep_below hE hb
  refine ⟨_,pIC l,_,_,rfl,rfl,hH,hle,?_,rfl,rfl,rfl⟩
  refine .tup _ _ rfl (fun i c v h3 h4=>?_)
  match i with
  | 0=>simp at h3 h4;subst h3 h4;exact .d _ _ (.int _ _)
  | 1=>simp at h3 h4;subst h3 h4;exact .d _ _ (.bool _)
  | i+2=>simp at h3
open Go.Abs
def tmW (u:V) (x:C):C:=.agg [.d (.int .i64 u.kind),.d (.int .i64 u.int),.d (.str u.name),x]
def tmF (u:V):C:=.d (.agg [.int .i64 u.kind,.int .i64 u.int,.str u.name,.sl []])
def prO (a b:V) (X:List O) (c:C) (H:List O):Prop:=∃e B,c=tmW (.pair a b) (.own 0 1)∧H=.tree 1 4 e ((V.pair a b).kids.map V.enc) B none :: X
def tmO (w:C→C) (u:V) (X:List O) (c:C) (H:List O):Prop:=
 (∃e B,c=w (tmW u (.own 0 1))∧H=.tree 1 4 e (u.kids.map V.enc) B none :: X)∨(u.kids=[]∧c=w (tmF u)∧H=.hole :: X)
theorem variable_fn (n:Int):Gives Tryz.prog 107 [.int .i64 n] (.d (.agg (V.var n).enc)):=by
 have hE:(V.var n).enc=[.int .i64 1,.int .i64 n,.str [],.sl []]:=by rw [V.enc_eq];rfl
 rw [hE]
 refine aE_ Tryz.func107 ?_
 refine rS_ Tryz.func107 ?_
 simp only [go_sem,seval]
theorem pair_dd (a b:V) (ha:a.kids=[]) (hb:b.kids=[]):ACalls Tryz.prog 106 [tmF a,tmF b] [.hole] (fun c H'=>prO a b [] c H'):=by
 have hP:(V.pair a b).kids.map V.enc=[[.int .i64 a.kind,.int .i64 a.int,.str a.name,.sl []],[.int .i64 b.kind,.int .i64 b.int,.str b.name,.sl []]]:=by
  show [a.enc,b.enc]=_
  rw [V.enc_eq a,V.enc_eq b,ha,hb];rfl
 first | unfold tmW tmF | unfold tmW | unfold tmF
 refine aE_ Tryz.func106 ?_
 refine run_sound Tryz.func106 mixed 3 _ _ (by kernel_rfl) ?_
 simp only [go_sem,seval,run.eq_1]
 refine AW.regL ?_
 simp only [go_sem,seval]
 repeat' (first
  | ((refine all_intro (fun Bz=>?_))<;>(try simp only [go_sem,seval]))
  | fail)
 refine AW.placeB 3 3 4 0 rfl rfl rfl rfl (by decide) ?_
 refine rS_ Tryz.func106 ?_
 simp only [go_sem,seval]
 repeat' (first
  | (exact ⟨89,Bz,rfl,by rw [hP]⟩)
  | fail)
theorem pair_od (a b:V) (q e:Nat) (B:Nat→Prop) (hb:b.kids=[]):ACalls Tryz.prog 106 [tmW a (.own 1 q),tmF b] [.hole,.tree q 4 e (a.kids.map V.enc) B none] (fun c H'=>prO a b [.dead] c H'):=by
 have hP:(V.pair a b).kids.map V.enc=[[.int .i64 a.kind,.int .i64 a.int,.str a.name,.sl (a.kids.map V.enc)],[.int .i64 b.kind,.int .i64 b.int,.str b.name,.sl []]]:=by
  show [a.enc,b.enc]=_
  rw [V.enc_eq a,V.enc_eq b,hb];rfl
 first | unfold tmW tmF | unfold tmW | unfold tmF
 refine aE_ Tryz.func106 ?_
 refine run_sound Tryz.func106 mixed 3 _ _ (by kernel_rfl) ?_
 simp only [go_sem,seval,run.eq_1]
 refine AW.regL ?_
 simp only [go_sem,seval]
 repeat' (first
  | ((refine all_intro (fun Bz=>?_))<;>(try simp only [go_sem,seval]))
  | fail)
 refine AW.placeB 4 3 5 0 rfl rfl rfl rfl (by decide) ?_
 refine rS_ Tryz.func106 ?_
 simp only [go_sem,seval]
 repeat' (first
  | (exact ⟨89,Bz,rfl,by rw [hP]⟩)
  | fail)
theorem pair_do (a b:V) (q e:Nat) (B:Nat→Prop) (ha:a.kids=[]):ACalls Tryz.prog 106 [tmF a,tmW b (.own 1 q)] [.hole,.tree q 4 e (b.kids.map V.enc) B none] (fun c H'=>prO a b [.dead] c H'):=by
 have hP:(V.pair a b).kids.map V.enc=[[.int .i64 a.kind,.int .i64 a.int,.str a.name,.sl []],[.int .i64 b.kind,.int .i64 b.int,.str b.name,.sl (b.kids.map V.enc)]]:=by
  show [a.enc,b.enc]=_
  rw [V.enc_eq a,V.enc_eq b,ha];rfl
 first | unfold tmW tmF | unfold tmW | unfold tmF
 refine aE_ Tryz.func106 ?_
 refine run_sound Tryz.func106 mixed 3 _ _ (by kernel_rfl) ?_
 simp only [go_sem,seval,run.eq_1]
 refine AW.regL ?_
 simp only [go_sem,seval]
 repeat' (first
  | ((refine all_intro (fun Bz=>?_))<;>(try simp only [go_sem,seval]))
  | fail)
 refine AW.placeB 4 3 5 0 rfl rfl rfl rfl (by decide) ?_
 refine rS_ Tryz.func106 ?_
 simp only [go_sem,seval]
 repeat' (first
  | (exact ⟨89,Bz,rfl,by rw [hP]⟩)
  | fail)
theorem pair_oo (a b:V) (q e q2 e2:Nat) (B B2:Nat→Prop):ACalls Tryz.prog 106 [tmW a (.own 1 q),tmW b (.own 2 q2)] [.hole,.tree q 4 e (a.kids.map V.enc) B none,.tree q2 4 e2 (b.kids.map V.enc) B2 none] (fun c H'=>prO a b [.dead,.dead] c H'):=by
 have hP:(V.pair a b).kids.map V.enc=[[.int .i64 a.kind,.int .i64 a.int,.str a.name,.sl (a.kids.map V.enc)],[.int .i64 b.kind,.int .i64 b.int,.str b.name,.sl (b.kids.map V.enc)]]:=by
  show [a.enc,b.enc]=_
  rw [V.enc_eq a,V.enc_eq b]
 first | unfold tmW tmF | unfold tmW | unfold tmF
 refine aE_ Tryz.func106 ?_
 refine run_sound Tryz.func106 mixed 3 _ _ (by kernel_rfl) ?_
 simp only [go_sem,seval,run.eq_1]
 refine AW.regL ?_
 simp only [go_sem,seval]
 repeat' (first
  | ((refine all_intro (fun Bz=>?_))<;>(try simp only [go_sem,seval]))
  | fail)
 refine AW.placeB 5 3 6 0 rfl rfl rfl rfl (by decide) ?_
 refine rS_ Tryz.func106 ?_
 simp only [go_sem,seval]
 repeat' (first
  | (exact ⟨89,Bz,rfl,by rw [hP]⟩)
  | fail)
theorem number_fn (n:Int):Gives Tryz.prog 110 [.int .i64 n] (.d (.agg (V.num n).enc)):=by
 rw [V.enc_num]
 refine aE_ Tryz.func110 ?_
 refine rS_ Tryz.func110 ?_
 simp only [go_sem,seval]
theorem symbol_fn (s:List UInt8):Gives Tryz.prog 109 [.str s] (.d (.agg (V.sym s).enc)):=by
 rw [V.enc_sym]
 refine aE_ Tryz.func109 ?_
 refine rS_ Tryz.func109 ?_
 simp only [go_sem,seval]
theorem done_R (T:List (List UInt8)) (i:Nat) (hl:T.length≤20000):ACalls Tryz.prog 21 [.ptr 0 0] [.box [.d (.sl (strD T)),.d (.int .i64 i)]] (fun c H'=>c=.d (.bool (decide ((i:Int)=T.length)))∧H'=[.box [.d (.sl (strD T)),.d (.int .i64 i)]]):=by
 refine aE_ Tryz.func21 ?_
 refine rS_ Tryz.func21 ?_
 simp only [go_sem,seval,strD_len]
theorem peek_R (T:List (List UInt8)) (i:Nat) (hl:T.length≤20000):ACalls Tryz.prog 42 [.ptr 0 0] [.box [.d (.sl (strD T)),.d (.int .i64 i)]] (fun c H'=>c=.d (.str (T[i]?.getD []))∧H'=[.box [.d (.sl (strD T)),.d (.int .i64 i)]]):=by
 cases hT:T[i]? with
 | none =>
  have hil:=List.getElem?_eq_none_iff.1 hT
  have n0:¬(i:Int)<(T.length:Int):=by omega
  refine aE_ Tryz.func42 ?_
  refine rS_ Tryz.func42 ?_
  simp only [go_sem,seval,strD_len,n0]
 | some t =>
  have hil:=(List.getElem?_eq_some_iff.1 hT).1
  have n0:(i:Int)<(T.length:Int):=by omega
  have hix:=strD_at hT
  refine aE_ Tryz.func42 ?_
  refine rS_ Tryz.func42 ?_
  simp only [go_sem,seval,strD_len,n0,idx_of hix]
end Go.Proofs.YtehcdhelbkjaeaaGreatDoor

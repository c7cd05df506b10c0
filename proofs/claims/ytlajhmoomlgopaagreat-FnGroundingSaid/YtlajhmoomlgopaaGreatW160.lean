import Derived.Test.YtlajhmoomlgopaaGreatW141
import Derived.Test.YtlajhmoomlgopaaGreatW7
import Derived.Test.YtlajhmoomlgopaaGreatW91
import Derived.Test.YtlajhmoomlgopaaGreatP14
import Derived.Test.YtlajhmoomlgopaaGreatW147
import Derived.Test.YtlajhmoomlgopaaGreatP15
import Derived.Test.YtlajhmoomlgopaaGreatW108
import Derived.Test.YtlajhmoomlgopaaGreatW111
import Derived.Test.YtlajhmoomlgopaaGreatW152
open List renaming length_cons→a_,all_cons→b_,all_nil→c_,length_nil→d_,length_append→e_,getElem?_eq_some_iff→f_,length_map→g_,mem_of_mem_take→h_,mem_of_mem_drop→i_,getElem?_eq_getElem→j_
namespace Go.Abs
theorem nbT_len:∀(r ns out R:List (List UInt8)) (c:Nat),nbT r ns out=some (R,c)→ns.length+r.length≤20000→(∀t,t∈r→t.length≤100000)→(∀t,t∈out→t.length≤100000)→R.length=out.length+r.length∧c≤ns.length+r.length∧∀t,t∈R→t.length≤100000
 | [],ns,out,R,c,h,_,_,ho=>by
  simp only [nbT] at h
  cases h
  exact ⟨by simp,by simp,ho⟩
 | t :: r,ns,out,R,c,h,hl,hr,ho=>by
  simp only [a_] at hl
  simp only [nbT] at h
  have hr':∀t,t∈r→t.length≤100000:=fun x hx=>hr x (by simp [hx])
  split at h
  ·obtain ⟨i1,i2,i3⟩:=nbT_len r ns (out++[t]) R c h (by omega) hr' (fun x hx=>by
    rcases List.mem_append.1 hx with hx | hx
    ·exact ho x hx
    ·simp at hx;subst hx;exact hr x (by simp))
   simp only [e_,a_,d_] at i1 ⊢
   exact ⟨by omega,by omega,i3⟩
  ·split at h
   ·have hfi:ns.findIdx (fun x=>x == t)≤ns.length:=List.findIdx_le_length
    have hdl:=dec_len (n:=(ns.findIdx (fun x=>x == t):Nat)) (by omega) (by omega)
    have hns:(if t∈ns then ns else ns++[t]).length≤ns.length+1:=by split<;>simp
    obtain ⟨i1,i2,i3⟩:=nbT_len r _ _ R c h (by omega) hr' (fun x hx=>by
     rcases List.mem_append.1 hx with hx | hx
     ·exact ho x hx
     ·simp at hx;subst hx;simp;omega)
    simp only [e_,a_,d_] at i1 ⊢
    exact ⟨by omega,by omega,i3⟩
   ·cases h
theorem prm_at (T:List (List UInt8)):∀(n a b:Nat),a≤b→b<a+prmT T n a→T[4+b]? = some (63 :: dec (b:Nat))
 | 0,a,b,h1,h2=>by simp only [prmT] at h2;omega
 | n+1,a,b,h1,h2=>by
  simp only [prmT] at h2
  split at h2
  ·rename_i h
   by_cases e:b=a
   ·subst e;exact h
   ·exact prm_at T n (a+1) b (by omega) (by omega)
  ·omega
theorem dfT_inv {all:List (List UInt8)} {r:Rl} (h:dfT all=some r):∃T c a g j,nbT all [] []=some (T,c)∧6≤T.length∧T[1]? = some [100,101,102,105,110,101]∧T[2]? = some [40]∧(∀b,b<a→T[4+b]? = some (63 :: dec (b:Nat)))∧T[4+a]? = some [41]∧rgT T (2 * T.length+1) (5+a)=some (g,j)∧j+1=T.length∧r=⟨T.getD 3 [],(a:Int),(c:Int) - (a:Int),g⟩:=by
 unfold dfT at h
 cases hn:nbT all [] [] with
 | none=>rw [hn] at h;cases h
 | some x =>
  obtain ⟨T,c⟩:=x
  rw [hn] at h
  dsimp only at h
  by_cases h6:T.length<6
  ·rw [if_pos h6] at h;cases h
  ·rw [if_neg h6] at h
   by_cases h12:T[1]? = some [100,101,102,105,110,101]∧T[2]? = some [40]
   ·rw [if_pos h12] at h
    by_cases h4:T[4+prmT T T.length 0]? = some [41]
    ·rw [if_pos h4] at h
     cases hg:rgT T (2 * T.length+1) (5+prmT T T.length 0) with
     | none=>rw [hg] at h;cases h
     | some y =>
      obtain ⟨g,j⟩:=y
      rw [hg] at h
      dsimp only at h
      by_cases hj:j+1=T.length
      ·rw [if_pos hj] at h
       cases h
       exact ⟨T,c,_,g,j,rfl,by omega,h12.1,h12.2,fun b hb=>prm_at T T.length 0 b (Nat.zero_le _) (by omega),h4,hg,hj,rfl⟩
      ·rw [if_neg hj] at h;cases h
    ·rw [if_neg h4] at h;cases h
   ·rw [if_neg h12] at h;cases h
end Go.Abs
namespace Go.Proofs.YtlajhmoomlgopaaGreat
open Go.Abs
set_option maxRecDepth 100000
set_option maxHeartbeats 8000000
set_option linter.unusedSimpArgs false
set_option linter.unusedVariables false
theorem l15Define_fn (all:List (List UInt8)) (r:Rl) (hl:all.length≤20000) (hm:∀t,t∈all→t≠[]∧t.length≤100000) (h:dfT all=some r):Gives Tryz.prog 60 [.sl (strD all)] (.tup [.d (.agg r.enc),.d (.bool true)]):=by
 have hmx:maxLen=9223372036854775807:=rfl
 obtain ⟨T,c,a,g,j,h1,h6,hT1,hT2,hprm,hT4,hrg,hj,rfl⟩:=dfT_inv h
 have hnum:=l15Number_fn all hl hm T c h1
 obtain ⟨k1,k2,k3⟩:=nbT_len all [] [] T c h1 (by simpa using hl) (fun t ht=>(hm t ht).2) (fun t ht=>by cases ht)
 simp only [d_,Nat.zero_add] at k1 k2
 have hal:=(f_.1 hT4).1
 have hrd:=l15Read_fn T (by omega) k3 _ (5+a) g j (by omega) hrg
 obtain ⟨nm,hT3⟩:∃nm,T[3]? = some nm:=⟨_,j_ (by omega)⟩
 have hnm:T.getD 3 []=nm:=by rw [List.getD_eq_getElem?_getD,hT3];rfl
 rw [hnm]
 have x1:=strD_at hT1
 have x2:=strD_at hT2
 have x3:=strD_at hT3
 have x4:=strD_at hT4
 have n6:¬(T.length:Int)<6:=by omega
 have n1:(1:Int)<(T.length:Int):=by omega
 have n2:(2:Int)<(T.length:Int):=by omega
 have n3:(3:Int)<(T.length:Int):=by omega
 have hRe:(Rl.mk nm (a:Int) ((c:Int) - (a:Int)) g).enc=[.str nm,.int .i64 (a:Int),.int .i64 ((c:Int) - (a:Int)),.int .i64 g.kind,.str g.name,.sl (g.terms.map Tm.enc),.sl (g.goals.map Gl.enc)]:=Rl.enc_eq _
 rw [hRe]
 refine aE_ Tryz.func60 ?_
 refine rS_ Tryz.func60 ?_
 simp only [go_sem,seval,strD_len,n6,n1,n2,n3,idx_of x1,idx_of x2,idx_of x3]
 repeat' (first
  | ((refine hnum.calls rfl ?_)<;>(try simp only [go_sem,seval,strD_len,n6,n1,n2,n3,idx_of x1,idx_of x2,idx_of x3]))
  | fail)
 refine AW.lp [2,4,5,7] (fun b:Nat=>[(8,.d (.int .i64 ((4+b:Nat):Int)))]) (fun _ b=>[.box [.d (.str []),.d (.int .i64 0),.d (.int .i64 0),.d (.int .i64 0),.d (.str []),.nil0,.nil0],.box [.d (.str nm),.d (.int .i64 (b:Int)),.d (.int .i64 0),.d (.int .i64 0),.d (.str []),.nil0,.nil0]]) (fun b=>b≤a) (fun b=>a - b) 0 (Nat.zero_le _) wk1_ ?_
 intro b hb hnext
 have hf:=formatN_fn b (by omega)
 have hdl:=dec_len (n:=(b:Int)) (by omega) (by omega)
 have m1:((4+b:Nat):Int)<(T.length:Int):=by omega
 have m1':(4:Int)+(b:Int)<(T.length:Int):=by omega
 have m2:¬(T.length:Int)≤(4:Int)+(b:Int):=by omega
 have hti:((4:Int)+(b:Int)).toNat=4+b:=by omega
 have w8:IntKind.i64.wrap ((4:Int)+(b:Int)+1)=(4:Int)+((b:Int)+1):=by rw [wrap_ok (by omega) (by omega)];omega
 have w1:IntKind.i64.wrap ((b:Int)+1)=(b:Int)+1:=by simp (disch:=omega) only [wrap_ok]
 by_cases hba:b<a
 ·have hat:=strD_at (hprm b hba)
  refine rS_ Tryz.func60 ?_
  simp only [go_sem,seval,m1,m1',m2,hti,strD_len,idx_of hat,w8,w1]
  repeat' (first
   | ((first
    | (refine hf.callQ rfl ?_)
    | (refine ⟨sd,?_⟩))<;>(try simp only [go_sem,seval,m1,m1',m2,hti,strD_len,idx_of hat,w8,w1]))
   | fail)
  all_goals refine hnext (b+1) _ hba (by omega) wk1_
 ·obtain rfl:b=a:=by omega
  have hne:¬([41]:List UInt8)=63 :: dec (b:Int):=by intro h;injection h with h1 h2;exact absurd h1 (by decide)
  have hrd':Gives Tryz.prog 102 [.sl (strD T),.int .i64 ((4:Int)+((b:Int)+1))] (.tup [.d (.agg g.enc),.d (.int .i64 j),.d (.bool true)]):=by
   rw [show (4:Int)+((b:Int)+1)=((5+b:Nat):Int) by omega];exact hrd
  have wc:IntKind.i64.wrap ((c:Int) - (b:Int))=(c:Int) - (b:Int):=by simp (disch:=omega) only [wrap_ok]
  have wt:IntKind.i64.wrap ((T.length:Int) - 1)=(j:Int):=by rw [wrap_ok (by omega) (by omega)];omega
  have hge:=Gl.enc_eq g
  refine rS_ Tryz.func60 ?_
  simp only [go_sem,seval,m1,m1',m2,hti,strD_len,idx_of x4,w8,w1,hne,wc,wt,hge]
  repeat' (first
   | ((first
    | (refine hf.callQ rfl ?_)
    | (refine hrd'.calls rfl ?_)
    | (refine ⟨sd,?_⟩))<;>(try simp only [go_sem,seval,m1,m1',m2,hti,strD_len,idx_of x4,w8,w1,hne,wc,wt,hge]))
   | fail)
theorem cur_snoc {T:List (List UInt8)} {i fr:Nat} {x:List UInt8} (hx:T[i]? = some x) (hf:fr≤i):(T.take (i+1)).drop fr=(T.take i).drop fr++[x]:=by
 have hil:=(f_.1 hx).1
 rw [List.take_add_one,hx,Option.toList_some,List.drop_append_of_le_length (by rw [List.length_take];omega)]
theorem strD_one1 (T:List (List UInt8)):∀x,x∈strD T→x.length=1:=fun x hx=>by
 unfold strD at hx
 obtain ⟨t,_,rfl⟩:=List.mem_map.1 hx
 rfl
theorem drop_take_self (T:List (List UInt8)) (k:Nat):(T.take k).drop k=[]:=List.drop_eq_nil_of_le (by rw [List.length_take];omega)
theorem strD_sub (T:List (List UInt8)) (a b:Nat):((strD T).take b).drop a=strD ((T.take b).drop a):=by
 unfold strD;rw [List.map_drop,List.map_take]
theorem sParseProgram_fn (s:List UInt8) (hs:s.length≤1048576) (T:List (List UInt8)) (rels:List Rl) (hT:tokV s=some T) (hl:T.length≤20000) (hm:∀t,t∈T→t≠[]∧t.length≤100000) (hp:ppT T [] 0 []=some (rels,0)) (hok:pgOk ⟨rels⟩=true) (hw:wtL (Pg.mk rels).enc≤9000000):Gives Tryz.prog 25 [.str s] (.tup [.d (.agg (Pg.mk rels).enc),.d (.bool true)]):=by
 have hmx:maxLen=9223372036854775807:=rfl
 have htk:=sTokens_fn s hs
 rw [hT] at htk
 unfold tkC at htk
 dsimp only at htk
 have hPe:(Pg.mk rels).enc=[.sl (rels.map Rl.enc)]:=Pg.enc_eq _
 have hpo:=sProgramOk_fn ⟨rels⟩ hw
 rw [hok,hPe] at hpo
 rw [hPe]
 refine aE_ Tryz.func25 ?_
 refine rS_ Tryz.func25 ?_
 simp only [go_sem,seval,strD_len]
 repeat' (first
  | ((refine htk.calls rfl ?_)<;>(try simp only [go_sem,seval,strD_len]))
  | fail)
 refine AW.adoptGB 1 0 7 81 (by decide) rfl rfl ?_
 refine AW.rng T [2,4,6,22,23] 24 22 (fun u:Nat×Int×Nat×List Rl=>[(7,.d (.int .i64 (u.1:Int))),(8,.d (.int .i64 u.2.1))]) (fun _ u=>[.box [.nil0],.box [.own 2 u.2.2.1],.grow u.2.2.1 7 81 (u.2.2.2.map Rl.enc)]) (fun r u=>u.1≤T.length - r.length∧(r.length:Int)≤u.2.1+T.length∧u.2.1+r.length≤T.length∧ppT r ((T.take (T.length - r.length)).drop u.1) u.2.1 u.2.2.2=some (rels,0)∧u.2.2.2.length≤T.length - r.length) (0,0,0,[]) rfl (by simp [strD_len]) ⟨by simp,by dsimp only;omega,by dsimp only;omega,by simpa using hp,by simp⟩ wk1_ (fun i x r u hxi hdr hlt hmm hinv hnext=>?_) (fun u hinv=>?_)
 ·obtain ⟨fr,d,q,L⟩:=u
  obtain ⟨i2,i3,i4,i1,i5⟩:=hinv
  dsimp only [a_] at i1 i2 i3 i4 i5 hnext ⊢
  have hnx:=fun a b c e s'=>hnext (a,b,c,e) s'
  clear hnext
  have hil:=(f_.1 hxi).1
  have hrl:=congrArg List.length hdr
  simp only [List.length_drop,a_] at hrl
  have hi:T.length - (r.length+1)=i:=by omega
  have hj:T.length - r.length=i+1:=by omega
  rw [hi] at i1 i2
  have hfi:fr≤i:=i2
  have hxx:=strD_at hxi
  have wi:IntKind.i64.wrap ((i:Int)+1)=(i:Int)+1:=by simp (disch:=omega) only [wrap_ok]
  have hfr:(fr:Int)≤(i:Int)+1:=by omega
  have hil1:(i:Int)+1≤(T.length:Int):=by omega
  have hin:((i:Int)+1).toNat=i+1:=by omega
  simp only [ppT] at i1
  by_cases h40:x=[40]
  ·rw [if_pos h40] at i1
   have wd:IntKind.i64.wrap (d+1)=d+1:=by simp (disch:=omega) only [wrap_ok]
   have e1:¬([40]:List UInt8)=[41]:=by decide
   have hnx':=hnx
   by_cases hd:0<d+1
   ·rw [if_pos hd] at i1
    refine rS_ Tryz.func25 ?_
    simp only [go_sem,seval,hlt,strD_len,idx_of hxx,wi,hd,h40,wd,e1]
    all_goals refine hnx fr (d+1) q L _ ⟨by dsimp only;omega,by dsimp only;omega,by dsimp only;omega,by dsimp only;rw [hj];rw [←cur_snoc hxi hfi] at i1;exact i1,by dsimp only;omega⟩ wk1_
   ·rw [if_neg hd] at i1
    cases hdf:dfT ((T.take i).drop fr++[x]) with
    | none=>rw [hdf] at i1;cases i1
    | some y =>
     rw [hdf] at i1
     dsimp only at i1
     have hdef:=l15Define_fn ((T.take i).drop fr++[x]) y (by rw [←cur_snoc hxi hfi];simp;omega) (fun t ht=>hm t (by rw [←cur_snoc hxi hfi] at ht;exact h_ (i_ ht))) hdf
     rw [←cur_snoc hxi hfi,←strD_sub] at hdef
     have hye:=Rl.enc_eq y
     refine rS_ Tryz.func25 ?_
     simp only [go_sem,seval,hlt,strD_len,idx_of hxx,wi,hd,hfr,hil1,hin,h40,wd,e1]
     repeat' (first
      | (refine ⟨strD_one1 T,?_⟩<;>(try simp only [go_sem,seval,hlt,strD_len,idx_of hxx,wi,hd,hfr,hil1,hin,h40,wd,e1]))
      | ((first
       | (refine hdef.calls rfl ?_)
       | (refine ⟨sd,?_⟩))<;>(try simp only [go_sem,seval,hlt,strD_len,idx_of hxx,wi,hd,hfr,hil1,hin,h40,wd,e1]))
      | fail)
     all_goals refine hnx (i+1) (d+1) (q+1) (L++[y]) _ ⟨by dsimp only;omega,by dsimp only;omega,by dsimp only;omega,by dsimp only;rw [hj,drop_take_self];exact i1,by dsimp only;rw [e_];dsimp only [a_,d_];omega⟩ (by refine ⟨by simp [mkS,hye],by simp [mkS,hye],by simp only [mkS,b_,c_,O.refsLt,C.refsLt,C.refsLt1,all_dmap];first | done | rfl | (simp;done),?_⟩;simp [mkS,Abs.get,C.refsLtT,C.refsLt,C.refsLt1])
  ·rw [if_neg h40] at i1
   by_cases h41:x=[41]
   ·rw [if_pos h41] at i1
    have wd:IntKind.i64.wrap (d - 1)=d - 1:=by simp (disch:=omega) only [wrap_ok]
    have e1:¬([41]:List UInt8)=[40]:=by decide
    have hnx':=hnx
    by_cases hd:0<d - 1
    ·rw [if_pos hd] at i1
     refine rS_ Tryz.func25 ?_
     simp only [go_sem,seval,hlt,strD_len,idx_of hxx,wi,hd,h41,wd,e1]
     all_goals refine hnx fr (d - 1) q L _ ⟨by dsimp only;omega,by dsimp only;omega,by dsimp only;omega,by dsimp only;rw [hj];rw [←cur_snoc hxi hfi] at i1;exact i1,by dsimp only;omega⟩ wk1_
    ·rw [if_neg hd] at i1
     cases hdf:dfT ((T.take i).drop fr++[x]) with
     | none=>rw [hdf] at i1;cases i1
     | some y =>
      rw [hdf] at i1
      dsimp only at i1
      have hdef:=l15Define_fn ((T.take i).drop fr++[x]) y (by rw [←cur_snoc hxi hfi];simp;omega) (fun t ht=>hm t (by rw [←cur_snoc hxi hfi] at ht;exact h_ (i_ ht))) hdf
      rw [←cur_snoc hxi hfi,←strD_sub] at hdef
      have hye:=Rl.enc_eq y
      refine rS_ Tryz.func25 ?_
      simp only [go_sem,seval,hlt,strD_len,idx_of hxx,wi,hd,hfr,hil1,hin,h41,wd,e1]
      repeat' (first
       | (refine ⟨strD_one1 T,?_⟩<;>(try simp only [go_sem,seval,hlt,strD_len,idx_of hxx,wi,hd,hfr,hil1,hin,h41,wd,e1]))
       | ((first
        | (refine hdef.calls rfl ?_)
        | (refine ⟨sd,?_⟩))<;>(try simp only [go_sem,seval,hlt,strD_len,idx_of hxx,wi,hd,hfr,hil1,hin,h41,wd,e1]))
       | fail)
      all_goals refine hnx (i+1) (d - 1) (q+1) (L++[y]) _ ⟨by dsimp only;omega,by dsimp only;omega,by dsimp only;omega,by dsimp only;rw [hj,drop_take_self];exact i1,by dsimp only;rw [e_];dsimp only [a_,d_];omega⟩ (by refine ⟨by simp [mkS,hye],by simp [mkS,hye],by simp only [mkS,b_,c_,O.refsLt,C.refsLt,C.refsLt1,all_dmap];first | done | rfl | (simp;done),?_⟩;simp [mkS,Abs.get,C.refsLtT,C.refsLt,C.refsLt1])
   ·rw [if_neg h41] at i1
    have hnx':=hnx
    by_cases hd:0<d
    ·rw [if_pos hd] at i1
     refine rS_ Tryz.func25 ?_
     simp only [go_sem,seval,hlt,strD_len,idx_of hxx,wi,hd,h40,h41]
     all_goals refine hnx fr (d) q L _ ⟨by dsimp only;omega,by dsimp only;omega,by dsimp only;omega,by dsimp only;rw [hj];rw [←cur_snoc hxi hfi] at i1;exact i1,by dsimp only;omega⟩ wk1_
    ·rw [if_neg hd] at i1
     cases hdf:dfT ((T.take i).drop fr++[x]) with
     | none=>rw [hdf] at i1;cases i1
     | some y =>
      rw [hdf] at i1
      dsimp only at i1
      have hdef:=l15Define_fn ((T.take i).drop fr++[x]) y (by rw [←cur_snoc hxi hfi];simp;omega) (fun t ht=>hm t (by rw [←cur_snoc hxi hfi] at ht;exact h_ (i_ ht))) hdf
      rw [←cur_snoc hxi hfi,←strD_sub] at hdef
      have hye:=Rl.enc_eq y
      refine rS_ Tryz.func25 ?_
      simp only [go_sem,seval,hlt,strD_len,idx_of hxx,wi,hd,hfr,hil1,hin,h40,h41]
      repeat' (first
       | (refine ⟨strD_one1 T,?_⟩<;>(try simp only [go_sem,seval,hlt,strD_len,idx_of hxx,wi,hd,hfr,hil1,hin,h40,h41]))
       | ((first
        | (refine hdef.calls rfl ?_)
        | (refine ⟨sd,?_⟩))<;>(try simp only [go_sem,seval,hlt,strD_len,idx_of hxx,wi,hd,hfr,hil1,hin,h40,h41]))
       | fail)
      all_goals refine hnx (i+1) (d) (q+1) (L++[y]) _ ⟨by dsimp only;omega,by dsimp only;omega,by dsimp only;omega,by dsimp only;rw [hj,drop_take_self];exact i1,by dsimp only;rw [e_];dsimp only [a_,d_];omega⟩ (by refine ⟨by simp [mkS,hye],by simp [mkS,hye],by simp only [mkS,b_,c_,O.refsLt,C.refsLt,C.refsLt1,all_dmap];first | done | rfl | (simp;done),?_⟩;simp [mkS,Abs.get,C.refsLtT,C.refsLt,C.refsLt1])
 ·obtain ⟨fr,d,q,L⟩:=u
  obtain ⟨i2,i3,i4,i1,i5⟩:=hinv
  dsimp only at i1 ⊢
  simp only [ppT] at i1
  cases i1
  refine rS_ Tryz.func25 ?_
  simp only [go_sem,seval,strD_len]
  repeat' (first
   | ((refine hpo.calls rfl ?_)<;>(try simp only [go_sem,seval,strD_len]))
   | fail)
end Go.Proofs.YtlajhmoomlgopaaGreat
namespace Go.Abs
def libN:Nat→List UInt8
 | 0=>[108,105,115,116,115]
 | 1=>[103,114,97,112,104]
 | 2=>[115,101,116,115]
 | _=>[103,97,109,101,115]
end Go.Abs
namespace Go.Proofs.YtlajhmoomlgopaaGreat
open Go.Abs
set_option maxRecDepth 100000
set_option maxHeartbeats 8000000
set_option linter.unusedSimpArgs false
set_option linter.unusedVariables false
theorem LibraryText_fn0:Gives Tryz.prog 26 [.str [108,105,115,116,115]] (.d (.str libT0)):=by
 have hmx:maxLen=9223372036854775807:=rfl
 refine aE_ Tryz.func26 ?_
 refine rS_ Tryz.func26 ?_
 simp only [go_sem,seval]
 repeat' (first
  | (simp (disch:=omega) only [wrap_ok])
  | ((first
   | (refine AW.loop ?_<;>(refine rS_ Tryz.func26 ?_))
   | (refine AW.round ?_<;>(refine rS_ Tryz.func26 ?_))
   | (refine ⟨sd,?_⟩))<;>(try simp only [go_sem,seval,hmx]))
  | fail)
 all_goals kernel_rfl
theorem LibraryText_fn1:Gives Tryz.prog 26 [.str [103,114,97,112,104]] (.d (.str libT1)):=by
 have hmx:maxLen=9223372036854775807:=rfl
 have d0:¬([103,114,97,112,104]:List UInt8)=[108,105,115,116,115]:=by decide
 refine aE_ Tryz.func26 ?_
 refine rS_ Tryz.func26 ?_
 simp only [go_sem,seval,d0]
 repeat' (first
  | (simp (disch:=omega) only [wrap_ok])
  | ((first
   | (refine AW.loop ?_<;>(refine rS_ Tryz.func26 ?_))
   | (refine AW.round ?_<;>(refine rS_ Tryz.func26 ?_))
   | (refine ⟨sd,?_⟩))<;>(try simp only [go_sem,seval,d0]))
  | fail)
 all_goals kernel_rfl
theorem LibraryText_fn2:Gives Tryz.prog 26 [.str [115,101,116,115]] (.d (.str libT2)):=by
 have hmx:maxLen=9223372036854775807:=rfl
 have d0:¬([115,101,116,115]:List UInt8)=[108,105,115,116,115]:=by decide
 have d1:¬([115,101,116,115]:List UInt8)=[103,114,97,112,104]:=by decide
 refine aE_ Tryz.func26 ?_
 refine rS_ Tryz.func26 ?_
 simp only [go_sem,seval,d0,d1]
 repeat' (first
  | (simp (disch:=omega) only [wrap_ok])
  | ((first
   | (refine AW.loop ?_<;>(refine rS_ Tryz.func26 ?_))
   | (refine AW.round ?_<;>(refine rS_ Tryz.func26 ?_))
   | (refine ⟨sd,?_⟩))<;>(try simp only [go_sem,seval,d0,d1]))
  | fail)
 all_goals kernel_rfl
theorem LibraryText_fn3:Gives Tryz.prog 26 [.str [103,97,109,101,115]] (.d (.str libT3)):=by
 have hmx:maxLen=9223372036854775807:=rfl
 have d0:¬([103,97,109,101,115]:List UInt8)=[108,105,115,116,115]:=by decide
 have d1:¬([103,97,109,101,115]:List UInt8)=[103,114,97,112,104]:=by decide
 have d2:¬([103,97,109,101,115]:List UInt8)=[115,101,116,115]:=by decide
 refine aE_ Tryz.func26 ?_
 refine rS_ Tryz.func26 ?_
 simp only [go_sem,seval,d0,d1,d2]
 repeat' (first
  | (simp (disch:=omega) only [wrap_ok])
  | ((first
   | (refine AW.loop ?_<;>(refine rS_ Tryz.func26 ?_))
   | (refine AW.round ?_<;>(refine rS_ Tryz.func26 ?_))
   | (refine ⟨sd,?_⟩))<;>(try simp only [go_sem,seval,d0,d1,d2]))
  | fail)
 all_goals kernel_rfl
theorem LibraryText_fn (k:Nat):Gives Tryz.prog 26 [.str (libN k)] (.d (.str (libT k))):=match k with
 | 0=>LibraryText_fn0
 | 1=>LibraryText_fn1
 | 2=>LibraryText_fn2
 | _+3=>LibraryText_fn3
theorem l01Str_R (B:List UInt8) (hB:B.length≤1048576) (L:List (List UInt8)) (hL:1≤L.length) (hl:L.length≤100) (i h:Int) (h0:0≤i) (h1:i≤B.length):ACalls Tryz.prog 62 [.ptr 0 0,.d (.sl (strD L))] [cuO B i h] (fun c H'=>∃s i' h',c=.d (.str s)∧H'=[cuO B i' h']∧s∈L∧0≤i'∧i'≤B.length):=by
 have hb:=l01Below_R B i h hB h0 h1 (L.length:Int)
 refine aE_ Tryz.func62 ?_
 refine rS_ Tryz.func62 ?_
 simp only [go_sem,seval,strD_len]
 refine (ACalls.emb hb [0] rfl rfl rfl (by decide) rfl ?_)
 rintro c H' ⟨x,i2,h2,rfl,rfl,⟨b1,b2⟩,b3,b4⟩ _
 refine ⟨rfl,rfl,?_⟩
 obtain ⟨k,hk,hkl⟩:∃k:Nat,x=k∧k<L.length:=⟨x.toNat,by omega,by omega⟩
 subst hk
 obtain ⟨s,hs⟩:∃s,L[k]? = some s:=⟨L[k],j_ hkl⟩
 have hxx:=strD_at hs
 simp only [go_sem,seval,strD_len,idx_of hxx]
 repeat' (first
  | (exact ⟨s,_,_,rfl,rfl,List.mem_of_getElem? hs,b3,b4⟩)
  | ((refine ⟨sd,?_⟩)<;>(try simp only [go_sem,seval,strD_len,idx_of hxx]))
  | fail)
theorem l15Name_R (B:List UInt8) (hB:B.length≤1048576) (i h:Int) (h0:0≤i) (h1:i≤B.length):ACalls Tryz.prog 27 [.ptr 0 0] [cuO B i h] (fun c H'=>∃k i' h',c=.d (.str (libN k))∧H'=[cuO B i' h']∧0≤i'∧i'≤B.length):=by
 have hb:=l01Str_R B hB [libN 0,libN 1,libN 2,libN 3] (by decide) (by decide) i h h0 h1
 have hsd:strD [libN 0,libN 1,libN 2,libN 3]=[[.str [108,105,115,116,115]],[.str [103,114,97,112,104]],[.str [115,101,116,115]],[.str [103,97,109,101,115]]]:=rfl
 rw [hsd] at hb
 refine aE_ Tryz.func27 ?_
 refine rS_ Tryz.func27 ?_
 simp only [go_sem,seval]
 repeat' (first
  | ((refine (ACalls.emb hb [0] rfl rfl rfl (by decide) rfl ?_)<;>(rintro c H' ⟨s,i2,h2,rfl,rfl,hs,b3,b4⟩ _;refine ⟨rfl,rfl,?_⟩))<;>(try simp only [go_sem,seval]))
  | fail)
 obtain ⟨k,rfl⟩:∃k,s=libN k:=by
  simp only [List.mem_cons,List.not_mem_nil,or_false] at hs
  rcases hs with rfl | rfl | rfl | rfl<;>exact ⟨_,rfl⟩
 exact ⟨k,_,_,rfl,rfl,b3,b4⟩
theorem MakeProgramG_R (B:List UInt8) (hB:B.length≤1048576):ACalls Tryz.prog 7 [.d (.sl (bytesD B)),.d (.int .i64 0),.d (.int .i64 2)] [] (fun c H'=>∃p,c=.d (.agg (Pg.enc p))∧H'=[]∧p.made 2):=by
 have hmx:maxLen=9223372036854775807:=rfl
 have hw:=l43New_T B hB 0 (by omega)
 rw [show ((0:Nat):Int)=0 from rfl] at hw
 refine aE_ Tryz.func7 ?_
 refine AW.hole ?_
 refine run_sound Tryz.func7 mixed 5 _ _ (by kernel_rfl) ?_
 simp only [go_sem,seval,run.eq_1]
 repeat' (first
  | ((refine (ACalls.emb hw [0] rfl rfl rfl (by decide) rfl ?_)<;>(rintro c H' ⟨rfl,i,h,rfl,e1,e2⟩ _;refine ⟨rfl,rfl,?_⟩))<;>(try simp only [go_sem,seval,run.eq_1]))
  | fail)
 refine AW.unbox 7 0 (cs:=cuD B i h) rfl rfl ?_
 have hnm:=l15Name_R B hB i h e1 e2
 refine rS_ Tryz.func7 ?_
 simp only [go_sem,seval]
 repeat' (first
  | ((refine (ACalls.emb hnm [2] rfl rfl rfl (by decide) rfl ?_)<;>(rintro c H' ⟨k,i2,h2,rfl,rfl,b3,b4⟩ _;refine ⟨rfl,rfl,?_⟩))<;>(try simp only [go_sem,seval]))
  | fail)
 obtain ⟨T,rels,hT,hTl,hTm,hp,hok,hfine⟩:=lib_prog k
 have hlt:=LibraryText_fn k
 have hpp:=sParseProgram_fn (libT k) (by have:=libT_len k;omega) T rels hT (by omega) (fun t ht=>⟨((tokV_mem hT).2 t ht).1,by have:=hTm t ht;omega⟩) hp hok (by have:=hfine.wt;omega)
 have hPe:(Pg.mk rels).enc=[.sl (rels.map Rl.enc)]:=Pg.enc_eq _
 rw [hPe] at hpp
 have hon:=l01Once_R B hB 8 i2 h2 b3 b4
 repeat' (first
  | ((first
   | (refine hlt.calls rfl ?_)
   | (refine hpp.calls rfl ?_)
   | (refine (ACalls.emb hon [2] rfl rfl rfl (by decide) rfl ?_)<;>(rintro c H' ⟨b,i3,h3,rfl,rfl,c3,c4⟩ _;cases b<;>refine ⟨rfl,rfl,?_⟩))
   | (refine (ACalls.emb (l14Draw_R B hB 2 i3 h3 c3 c4) [2] rfl rfl rfl (by decide) rfl ?_)<;>(rintro c H' ⟨p,i4,h4,rfl,rfl,dp,d3,d4⟩ _;refine ⟨rfl,rfl,?_⟩))
   | (refine ⟨by assumption,?_⟩))<;>(try simp only [go_sem,seval]))
  | fail)
 ·exact .inl dp
 ·exact ⟨⟨rels⟩,by rw [hPe],.inr ⟨k,T,_,hT,hp,hfine⟩⟩
theorem insF_le {l:List FcV} {x:FcV}:(insC FcV.cmp l x).length≤l.length+1:=by
 induction l with
 | nil=>simp [insC]
 | cons y q ih =>
  unfold insC
  split
  ·simp only [a_];omega
  ·split<;>simp only [a_]<;>omega
theorem rng4 {n:Nat} (h:n≤4):List.take n [[D.int .i64 0],[D.int .i64 1],[D.int .i64 2],[D.int .i64 3]]=intsD ((List.range n).map fun i:Nat=>(i:Int)):=by
 rcases (show n=0∨n=1∨n=2∨n=3∨n=4 by omega) with rfl | rfl | rfl | rfl | rfl<;>rfl
theorem sways_le {b L:Nat}:∀n k,sways b L n k≤max k (L * b)
 | 0,k=>by simp only [sways];omega
 | n+1,k=>by
  simp only [sways]
  split
  ·have h1:=sways_le (b:=b) (L:=L) n (k * b)
   have h2:k * b≤L * b:=Nat.mul_le_mul_right _ (by assumption)
   omega
  ·omega
theorem AllFacts_R {p:Pg} {u:List V} (h:Made p u):ACalls Tryz.prog 54 [.d (.agg p.enc),.d (.sl (u.map V.enc))] [] (fun c H'=>∃(F:List FcV) (b:Bool),c=.tup [.d (.sl (F.map fcE)),.d (.bool b)]∧H'=[]∧F.length≤2000∧∀f,f∈F→fitU p u f):=by
 have hmx:maxLen=9223372036854775807:=rfl
 have hok:=sProgramOk_fn p (by have:=h.wp;omega)
 have hun:=sUniverseOk_fn (u.map V.tm) h.mem (by rw [g_];have:=h.uni.le;omega)
 rw [h.ok] at hok
 rw [uni_to h.uni,enc_tms] at hun
 have hul:=h.uni.le
 have hup:=h.uni.pos
 have hmu:(u.map V.enc).length=u.length:=g_ _
 have hmf:∀l:List FcV,(l.map fcE).length=l.length:=fun l=>g_ _
 refine aE_ Tryz.func54 ?_
 refine rS_ Tryz.func54 ?_
 simp only [go_sem,seval]
 repeat' (first
  | ((first
   | (refine hok.calls rfl ?_)
   | (refine hun.calls rfl ?_))<;>(try simp only [go_sem,seval]))
  | fail)
 refine AW.nilG 6 rfl ?_
 refine rS_ Tryz.func54 ?_
 simp only [go_sem,seval]
 refine AW.rng p.rels [1,24,25] 26 24 (fun F:List FcV=>[(6,.d (.sl (F.map fcE)))]) (fun _ _=>[.box [.d (.sl (p.rels.map Rl.enc))]]) (fun _ F=>ascC FcV.cmp F∧F.length≤2001∧∀f,f∈F→fitU p u f) [] rfl (by simp) ⟨List.Pairwise.nil,by simp,fun f hf=>by cases hf⟩ (by refine ⟨by simp [mkS,Pg.enc_eq],by simp [mkS,Pg.enc_eq],by simp only [mkS,b_,c_,O.refsLt,C.refsLt,C.refsLt1,all_dmap];first | done | rfl | (simp;done),?_⟩;simp [mkS,Abs.get,C.refsLtT,C.refsLt,C.refsLt1]) (fun ii x r F hxi hdr hlt hm hinv hnext=>?_) (fun F hinv=>?_)
 ·obtain ⟨i1,i2,i3⟩:=hinv
  have hxm:=List.mem_of_getElem? hxi
  obtain ⟨z1,z2,z3,z4⟩:=Pg.dims h.ok hxm
  obtain ⟨a,ha,ha4⟩:∃a:Nat,x.arity=(a:Int)∧a≤4:=⟨x.arity.toNat,by omega,by omega⟩
  have hRe:=Rl.enc_eq x
  rw [ha] at hRe
  have hwy:=l08Ways_fn u.length a 2000 hul (by omega) (by omega)
  have hsw:=sways_le (b:=u.length) (L:=2000) a 1
  have hsw2:sways u.length 2000 a 1≤16000:=by
   have:2000 * u.length≤2000 * 8:=Nat.mul_le_mul_left _ hul
   omega
  clear hsw
  generalize sways u.length 2000 a 1=W at *
  have wi:IntKind.i64.wrap ((ii:Int)+1)=(ii:Int)+1:=by rw [wrap_ok (by omega) (by omega)]
  refine rS_ Tryz.func54 ?_
  simp only [go_sem,seval,hlt,idx_of hxi,hRe,ha,hmu]
  repeat' (first
   | ((refine hwy.calls rfl ?_)<;>(try simp only [go_sem,seval,hlt,idx_of hxi,hRe,ha,hmu]))
   | fail)
  refine AW.lp [1,8,9,24,25,26] (fun y:Nat×List FcV=>[(10,.d (.int .i64 (y.1:Int))),(6,.d (.sl (y.2.map fcE)))]) (fun _ _=>[.box [.d (.sl (p.rels.map Rl.enc))],.box (x.enc.map .d)]) (fun y=>y.1≤W∧ascC FcV.cmp y.2∧y.2.length≤2001∧∀f,f∈y.2→fitU p u f) (fun y=>W - y.1) (0,F) ⟨Nat.zero_le _,i1,i2,i3⟩ (by refine ⟨by simp [mkS,hRe],by simp [mkS,hRe],by simp only [mkS,b_,c_,O.refsLt,C.refsLt,C.refsLt1,all_dmap];first | done | rfl | (simp;done),?_⟩;simp [mkS,Abs.get,C.refsLtT,C.refsLt,C.refsLt1]) ?_
  rintro ⟨k,F⟩ ⟨j0,j1,j2,j3⟩ hnx
  dsimp only at j0 j1 j2 j3 hnx ⊢
  clear i1 i2 i3
  by_cases hc:k<W∧F.length≤2000
  ·have n1:(k:Int)<(W:Int):=by omega
   have n2:(F.length:Int)≤2000:=by omega
   have wk:IntKind.i64.wrap ((k:Int)+1)=(k:Int)+1:=by rw [wrap_ok (by omega) (by omega)]
   have hvs:=l08Values_fn u a k hup (by omega) (by omega) (by omega)
   have hGl:=gVals_len u a k
   have hGm:=gVals_mem hup a k
   generalize gVals u a k=G at *
   have hr4:=rng4 ha4
   have hbl:(bdD G).length=G.length:=by unfold bdD;rw [g_,bdsF_len]
   refine run_sound Tryz.func54 mixed 10 _ _ (by kernel_rfl) ?_
   simp only [go_sem,seval,run.eq_1,n1,n2,hRe,ha]
   refine AW.adoptGB 2 1 4 85 (by decide) rfl rfl ?_
   refine rS_ Tryz.func54 ?_
   simp only [go_sem,seval,hRe,ha,hr4]
   repeat' (first
    | ((first
     | (refine hvs.calls rfl ?_)
     | (refine ⟨sd,?_⟩))<;>(try simp only [go_sem,seval,hRe,ha,hr4,hbl]))
    | fail)
   refine AW.rng G [1,6,8,9,10,11,24,25,26,54,55] 56 54 (fun vs:List V=>[]) (fun _ vs=>[.box [.d (.sl (p.rels.map Rl.enc))],.box (x.enc.map .d),.box [.d (.str x.name),.own 3 vs.length],.grow vs.length 4 85 (vs.map V.enc)]) (fun r vs=>vs++r=G) [] rfl (by simp [hbl]) rfl (by refine ⟨by simp [mkS,hRe],by simp [mkS,hRe],by simp only [mkS,b_,c_,O.refsLt,C.refsLt,C.refsLt1,all_dmap];first | done | rfl | (simp;done),?_⟩;simp [mkS,Abs.get,C.refsLtT,C.refsLt,C.refsLt1]) (fun jj v s vs hvi hds hjt hm2 hinv2 hn2=>?_) (fun vs hinv2=>?_)
   ·have hbe:(bdD G)[jj]? = some (.int .i64 (jj:Int) :: v.enc):=by
     unfold bdD
     rw [List.getElem?_map,bdsF_at G 0 jj v hvi]
     simp [Bd.enc,V.enc]
    have hVe:=V.enc_eq v
    have hvl:vs.length≤4:=by have:=congrArg List.length hinv2;simp at this;omega
    have wj:IntKind.i64.wrap ((jj:Int)+1)=(jj:Int)+1:=by rw [wrap_ok (by omega) (by omega)]
    refine rS_ Tryz.func54 ?_
    simp only [go_sem,seval,hjt,idx_of hbe,hbl,hVe,wj]
    repeat' (first
     | ((refine ⟨sd,?_⟩)<;>(try simp only [go_sem,seval,hjt,idx_of hbe,hbl,hVe,wj]))
     | fail)
    refine hn2 (vs++[v]) _ (by rw [←hinv2];simp) (by refine ⟨by simp [mkS,hRe,hVe],by simp [mkS,hRe,hVe],by simp only [mkS,b_,c_,O.refsLt,C.refsLt,C.refsLt1,all_dmap];first | done | rfl | (simp;done),?_⟩;simp [mkS,Abs.get,C.refsLtT,C.refsLt,C.refsLt1])
   ·rw [List.append_nil] at hinv2
    subst hinv2
    have hins:=l18Insert_fn F (x.name,vs) j1 (by omega)
    rw [fcE_eq] at hins
    refine rS_ Tryz.func54 ?_
    simp only [go_sem,seval,hbl,wk]
    repeat' (first
     | ((refine hins.calls rfl ?_)<;>(try simp only [go_sem,seval,hbl,wk]))
     | fail)
    refine hnx (k+1,insC FcV.cmp F (x.name,vs)) _ ⟨by dsimp only;omega,insC_asc FcV.cmp_lin F _ j1,by have:=insF_le (l:=F) (x:=(x.name,vs));dsimp only;omega,fun f hf=>?_⟩ (by dsimp only;omega) (by refine ⟨by simp [mkS,hRe],by simp [mkS,hRe],by simp only [mkS,b_,c_,O.refsLt,C.refsLt,C.refsLt1,all_dmap];first | done | rfl | (simp;done),?_⟩;simp [mkS,Abs.get,C.refsLtT,C.refsLt,C.refsLt1])
    rcases (insC_mem FcV.cmp_lin F _ f).1 hf with rfl | hf
    ·exact ⟨x,hxm,rfl,by rw [ha];dsimp only;omega,hGm⟩
    ·exact j3 f hf
  ·by_cases hkW:k<W
   ·have n1:(k:Int)<(W:Int):=by omega
    have n2:¬(F.length:Int)≤2000:=by omega
    refine rS_ Tryz.func54 ?_
    simp only [go_sem,seval,n1,n2,hmf,wi]
    all_goals refine hnext F _ ⟨j1,j2,j3⟩ (by refine ⟨by simp [mkS,Pg.enc_eq],by simp [mkS,Pg.enc_eq],by simp only [mkS,b_,c_,O.refsLt,C.refsLt,C.refsLt1,all_dmap];first | done | rfl | (simp;done),?_⟩;simp [mkS,Abs.get,C.refsLtT,C.refsLt,C.refsLt1])
   ·have n1:¬(k:Int)<(W:Int):=by omega
    refine rS_ Tryz.func54 ?_
    simp only [go_sem,seval,n1,hmf,wi]
    all_goals refine hnext F _ ⟨j1,j2,j3⟩ (by refine ⟨by simp [mkS,Pg.enc_eq],by simp [mkS,Pg.enc_eq],by simp only [mkS,b_,c_,O.refsLt,C.refsLt,C.refsLt1,all_dmap];first | done | rfl | (simp;done),?_⟩;simp [mkS,Abs.get,C.refsLtT,C.refsLt,C.refsLt1])
 ·obtain ⟨i1,i2,i3⟩:=hinv
  by_cases h2:F.length≤2000
  ·have n2:¬(2000:Int)<(F.length:Int):=by omega
   have hcp:=l18Copy_V F (by omega) (fun f hf=>by
    obtain ⟨x,hx,f1,f2,f3⟩:=i3 f hf
    obtain ⟨z1,z2,z3,z4⟩:=Pg.dims h.ok hx
    have:=wtR_112 f.2 (fun v hv=>h.uw v (f3 v hv))
    omega)
   refine rS_ Tryz.func54 ?_
   simp only [go_sem,seval,hmf,n2]
   repeat' (first
    | (exact ⟨F,true,rfl,h2,i3⟩)
    | ((refine hcp.calls rfl ?_)<;>(try simp only [go_sem,seval,hmf,n2]))
    | fail)
  ·have n2:(2000:Int)<(F.length:Int):=by omega
   refine rS_ Tryz.func54 ?_
   simp only [go_sem,seval,hmf,n2]
   repeat' (first
    | (exact ⟨[],false,rfl,by simp,fun f hf=>by cases hf⟩)
    | fail)
end Go.Proofs.YtlajhmoomlgopaaGreat

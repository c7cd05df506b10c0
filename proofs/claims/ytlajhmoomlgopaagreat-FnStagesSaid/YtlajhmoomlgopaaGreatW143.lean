import Derived.Test.YtlajhmoomlgopaaGreatW141
import Derived.Test.YtlajhmoomlgopaaGreatW7
namespace Go.Abs
theorem nbT_len:∀(r ns out R:List (List UInt8)) (c:Nat),nbT r ns out=some (R,c)→ns.length+r.length≤20000→(∀t,t∈r→t.length≤100000)→(∀t,t∈out→t.length≤100000)→R.length=out.length+r.length∧c≤ns.length+r.length∧∀t,t∈R→t.length≤100000
 | [],ns,out,R,c,h,_,_,ho=>by
  simp only [nbT] at h
  cases h
  exact ⟨by simp,by simp,ho⟩
 | t :: r,ns,out,R,c,h,hl,hr,ho=>by
  simp only [List.length_cons] at hl
  simp only [nbT] at h
  have hr':∀t,t∈r→t.length≤100000:=fun x hx=>hr x (by simp [hx])
  split at h
  ·obtain ⟨i1,i2,i3⟩:=nbT_len r ns (out++[t]) R c h (by omega) hr' (fun x hx=>by
    rcases List.mem_append.1 hx with hx | hx
    ·exact ho x hx
    ·simp at hx;subst hx;exact hr x (by simp))
   simp only [List.length_append,List.length_cons,List.length_nil] at i1 ⊢
   exact ⟨by omega,by omega,i3⟩
  ·split at h
   ·have hfi:ns.findIdx (fun x=>x == t)≤ns.length:=List.findIdx_le_length
    have hdl:=dec_len (n:=(ns.findIdx (fun x=>x == t):Nat)) (by omega) (by omega)
    have hns:(if t∈ns then ns else ns++[t]).length≤ns.length+1:=by split<;>simp
    obtain ⟨i1,i2,i3⟩:=nbT_len r _ _ R c h (by omega) hr' (fun x hx=>by
     rcases List.mem_append.1 hx with hx | hx
     ·exact ho x hx
     ·simp at hx;subst hx;simp;omega)
    simp only [List.length_append,List.length_cons,List.length_nil] at i1 ⊢
    exact ⟨by omega,by omega,i3⟩
   ·cases h
theorem prm_at (T:List (List UInt8)):∀(n a b:Nat),a≤b→b<a+prmT T n a→T[4+b]? = some (63 :: dec (b:Nat))
 | 0,a,b,h1,h2=>by simp only [prmT] at h2;omega
 | n+1,a,b,h1,h2=>by
  simp only [prmT] at h2
  split at h2
  ·rename_i h
   by_cases e:b=a
   ·subst e;exact h
   ·exact prm_at T n (a+1) b (by omega) (by omega)
  ·omega
theorem dfT_inv {all:List (List UInt8)} {r:Rl} (h:dfT all=some r):∃T c a g j,nbT all [] []=some (T,c)∧6≤T.length∧T[1]? = some [100,101,102,105,110,101]∧T[2]? = some [40]∧(∀b,b<a→T[4+b]? = some (63 :: dec (b:Nat)))∧T[4+a]? = some [41]∧rgT T (2 * T.length+1) (5+a)=some (g,j)∧j+1=T.length∧r=⟨T.getD 3 [],(a:Int),(c:Int) - (a:Int),g⟩:=by
 unfold dfT at h
 cases hn:nbT all [] [] with
 | none=>rw [hn] at h;cases h
 | some x =>
  obtain ⟨T,c⟩:=x
  rw [hn] at h
  dsimp only at h
  by_cases h6:T.length<6
  ·rw [if_pos h6] at h;cases h
  ·rw [if_neg h6] at h
   by_cases h12:T[1]? = some [100,101,102,105,110,101]∧T[2]? = some [40]
   ·rw [if_pos h12] at h
    by_cases h4:T[4+prmT T T.length 0]? = some [41]
    ·rw [if_pos h4] at h
     cases hg:rgT T (2 * T.length+1) (5+prmT T T.length 0) with
     | none=>rw [hg] at h;cases h
     | some y =>
      obtain ⟨g,j⟩:=y
      rw [hg] at h
      dsimp only at h
      by_cases hj:j+1=T.length
      ·rw [if_pos hj] at h
       cases h
       exact ⟨T,c,_,g,j,rfl,by omega,h12.1,h12.2,fun b hb=>prm_at T T.length 0 b (Nat.zero_le _) (by omega),h4,hg,hj,rfl⟩
      ·rw [if_neg hj] at h;cases h
    ·rw [if_neg h4] at h;cases h
   ·rw [if_neg h12] at h;cases h
end Go.Abs
namespace Go.Proofs.YtlajhmoomlgopaaGreat
open Go.Abs
set_option maxRecDepth 100000
set_option maxHeartbeats 8000000
set_option linter.unusedSimpArgs false
set_option linter.unusedVariables false
theorem l15Define_fn (all:List (List UInt8)) (r:Rl) (hl:all.length≤20000) (hm:∀t,t∈all→t≠[]∧t.length≤100000) (h:dfT all=some r):Gives Tryz.prog 60 [.sl (strD all)] (.tup [.d (.agg r.enc),.d (.bool true)]):=by
 have hmx:maxLen=9223372036854775807:=rfl
 obtain ⟨T,c,a,g,j,h1,h6,hT1,hT2,hprm,hT4,hrg,hj,rfl⟩:=dfT_inv h
 have hnum:=l15Number_fn all hl hm T c h1
 obtain ⟨k1,k2,k3⟩:=nbT_len all [] [] T c h1 (by simpa using hl) (fun t ht=>(hm t ht).2) (fun t ht=>by cases ht)
 simp only [List.length_nil,Nat.zero_add] at k1 k2
 have hal:=(List.getElem?_eq_some_iff.1 hT4).1
 have hrd:=l15Read_fn T (by omega) k3 _ (5+a) g j (by omega) hrg
 obtain ⟨nm,hT3⟩:∃nm,T[3]? = some nm:=⟨_,List.getElem?_eq_getElem (by omega)⟩
 have hnm:T.getD 3 []=nm:=by rw [List.getD_eq_getElem?_getD,hT3];rfl
 rw [hnm]
 have x1:=strD_at hT1
 have x2:=strD_at hT2
 have x3:=strD_at hT3
 have x4:=strD_at hT4
 have n6:¬(T.length:Int)<6:=by omega
 have n1:(1:Int)<(T.length:Int):=by omega
 have n2:(2:Int)<(T.length:Int):=by omega
 have n3:(3:Int)<(T.length:Int):=by omega
 have hRe:(Rl.mk nm (a:Int) ((c:Int) - (a:Int)) g).enc=[.str nm,.int .i64 (a:Int),.int .i64 ((c:Int) - (a:Int)),.int .i64 g.kind,.str g.name,.sl (g.terms.map Tm.enc),.sl (g.goals.map Gl.enc)]:=Rl.enc_eq _
 rw [hRe]
 refine aE_ Tryz.func60 ?_
 refine rS_ Tryz.func60 ?_
 simp only [go_sem,seval,strD_len,n6,n1,n2,n3,idx_of x1,idx_of x2,idx_of x3]
 repeat' (first
  | ((refine hnum.calls rfl ?_)<;>(try simp only [go_sem,seval,strD_len,n6,n1,n2,n3,idx_of x1,idx_of x2,idx_of x3]))
  | fail)
 refine AW.lp [2,4,5,7] (fun b:Nat=>[(8,.d (.int .i64 ((4+b:Nat):Int)))]) (fun _ b=>[.box [.d (.str []),.d (.int .i64 0),.d (.int .i64 0),.d (.int .i64 0),.d (.str []),.nil0,.nil0],.box [.d (.str nm),.d (.int .i64 (b:Int)),.d (.int .i64 0),.d (.int .i64 0),.d (.str []),.nil0,.nil0]]) (fun b=>b≤a) (fun b=>a - b) 0 (Nat.zero_le _) wk1_ ?_
 intro b hb hnext
 have hf:=formatN_fn b (by omega)
 have hdl:=dec_len (n:=(b:Int)) (by omega) (by omega)
 have m1:((4+b:Nat):Int)<(T.length:Int):=by omega
 have m1':(4:Int)+(b:Int)<(T.length:Int):=by omega
 have m2:¬(T.length:Int)≤(4:Int)+(b:Int):=by omega
 have hti:((4:Int)+(b:Int)).toNat=4+b:=by omega
 have w8:IntKind.i64.wrap ((4:Int)+(b:Int)+1)=(4:Int)+((b:Int)+1):=by rw [wrap_ok (by omega) (by omega)];omega
 have w1:IntKind.i64.wrap ((b:Int)+1)=(b:Int)+1:=by simp (disch:=omega) only [wrap_ok]
 by_cases hba:b<a
 ·have hat:=strD_at (hprm b hba)
  refine rS_ Tryz.func60 ?_
  simp only [go_sem,seval,m1,m1',m2,hti,strD_len,idx_of hat,w8,w1]
  repeat' (first
   | ((first
    | (refine hf.callQ rfl ?_)
    | (refine ⟨sd,?_⟩))<;>(try simp only [go_sem,seval,m1,m1',m2,hti,strD_len,idx_of hat,w8,w1]))
   | fail)
  all_goals refine hnext (b+1) _ hba (by omega) wk1_
 ·obtain rfl:b=a:=by omega
  have hne:¬([41]:List UInt8)=63 :: dec (b:Int):=by intro h;injection h with h1 h2;exact absurd h1 (by decide)
  have hrd':Gives Tryz.prog 102 [.sl (strD T),.int .i64 ((4:Int)+((b:Int)+1))] (.tup [.d (.agg g.enc),.d (.int .i64 j),.d (.bool true)]):=by
   rw [show (4:Int)+((b:Int)+1)=((5+b:Nat):Int) by omega];exact hrd
  have wc:IntKind.i64.wrap ((c:Int) - (b:Int))=(c:Int) - (b:Int):=by simp (disch:=omega) only [wrap_ok]
  have wt:IntKind.i64.wrap ((T.length:Int) - 1)=(j:Int):=by rw [wrap_ok (by omega) (by omega)];omega
  have hge:=Gl.enc_eq g
  refine rS_ Tryz.func60 ?_
  simp only [go_sem,seval,m1,m1',m2,hti,strD_len,idx_of x4,w8,w1,hne,wc,wt,hge]
  repeat' (first
   | ((first
    | (refine hf.callQ rfl ?_)
    | (refine hrd'.calls rfl ?_)
    | (refine ⟨sd,?_⟩))<;>(try simp only [go_sem,seval,m1,m1',m2,hti,strD_len,idx_of x4,w8,w1,hne,wc,wt,hge]))
   | fail)
end Go.Proofs.YtlajhmoomlgopaaGreat
namespace Go.Proofs.YtlajhmoomlgopaaGreat
open Go.Abs
set_option maxRecDepth 100000
set_option maxHeartbeats 8000000
set_option linter.unusedSimpArgs false
set_option linter.unusedVariables false
theorem cur_snoc {T:List (List UInt8)} {i fr:Nat} {x:List UInt8} (hx:T[i]? = some x) (hf:fr≤i):(T.take (i+1)).drop fr=(T.take i).drop fr++[x]:=by
 have hil:=(List.getElem?_eq_some_iff.1 hx).1
 rw [List.take_add_one,hx,Option.toList_some,List.drop_append_of_le_length (by rw [List.length_take];omega)]
theorem strD_one1 (T:List (List UInt8)):∀x,x∈strD T→x.length=1:=fun x hx=>by
 unfold strD at hx
 obtain ⟨t,_,rfl⟩:=List.mem_map.1 hx
 rfl
theorem drop_take_self (T:List (List UInt8)) (k:Nat):(T.take k).drop k=[]:=List.drop_eq_nil_of_le (by rw [List.length_take];omega)
theorem strD_sub (T:List (List UInt8)) (a b:Nat):((strD T).take b).drop a=strD ((T.take b).drop a):=by
 unfold strD;rw [List.map_drop,List.map_take]
theorem sParseProgram_fn (s:List UInt8) (hs:s.length≤1048576) (T:List (List UInt8)) (rels:List Rl) (hT:tokV s=some T) (hl:T.length≤20000) (hm:∀t,t∈T→t≠[]∧t.length≤100000) (hp:ppT T [] 0 []=some (rels,0)) (hok:pgOk ⟨rels⟩=true) (hw:wtL (Pg.mk rels).enc≤9000000):Gives Tryz.prog 25 [.str s] (.tup [.d (.agg (Pg.mk rels).enc),.d (.bool true)]):=by
 have hmx:maxLen=9223372036854775807:=rfl
 have htk:=sTokens_fn s hs
 rw [hT] at htk
 unfold tkC at htk
 dsimp only at htk
 have hPe:(Pg.mk rels).enc=[.sl (rels.map Rl.enc)]:=Pg.enc_eq _
 have hpo:=sProgramOk_fn ⟨rels⟩ hw
 rw [hok,hPe] at hpo
 rw [hPe]
 refine aE_ Tryz.func25 ?_
 refine rS_ Tryz.func25 ?_
 simp only [go_sem,seval,strD_len]
 repeat' (first
  | ((refine htk.calls rfl ?_)<;>(try simp only [go_sem,seval,strD_len]))
  | fail)
 refine AW.adoptGB 1 0 7 81 (by decide) rfl rfl ?_
 refine AW.rng T [2,4,6,22,23] 24 22 (fun u:Nat×Int×Nat×List Rl=>[(7,.d (.int .i64 (u.1:Int))),(8,.d (.int .i64 u.2.1))]) (fun _ u=>[.box [.nil0],.box [.own 2 u.2.2.1],.grow u.2.2.1 7 81 (u.2.2.2.map Rl.enc)]) (fun r u=>u.1≤T.length - r.length∧(r.length:Int)≤u.2.1+T.length∧u.2.1+r.length≤T.length∧ppT r ((T.take (T.length - r.length)).drop u.1) u.2.1 u.2.2.2=some (rels,0)∧u.2.2.2.length≤T.length - r.length) (0,0,0,[]) rfl (by simp [strD_len]) ⟨by simp,by dsimp only;omega,by dsimp only;omega,by simpa using hp,by simp⟩ wk1_ (fun i x r u hxi hdr hlt hmm hinv hnext=>?_) (fun u hinv=>?_)
 ·obtain ⟨fr,d,q,L⟩:=u
  obtain ⟨i2,i3,i4,i1,i5⟩:=hinv
  dsimp only [List.length_cons] at i1 i2 i3 i4 i5 hnext ⊢
  have hnx:=fun a b c e s'=>hnext (a,b,c,e) s'
  clear hnext
  have hil:=(List.getElem?_eq_some_iff.1 hxi).1
  have hrl:=congrArg List.length hdr
  simp only [List.length_drop,List.length_cons] at hrl
  have hi:T.length - (r.length+1)=i:=by omega
  have hj:T.length - r.length=i+1:=by omega
  rw [hi] at i1 i2
  have hfi:fr≤i:=i2
  have hxx:=strD_at hxi
  have wi:IntKind.i64.wrap ((i:Int)+1)=(i:Int)+1:=by simp (disch:=omega) only [wrap_ok]
  have hfr:(fr:Int)≤(i:Int)+1:=by omega
  have hil1:(i:Int)+1≤(T.length:Int):=by omega
  have hin:((i:Int)+1).toNat=i+1:=by omega
  simp only [ppT] at i1
  by_cases h40:x=[40]
  ·rw [if_pos h40] at i1
   have wd:IntKind.i64.wrap (d+1)=d+1:=by simp (disch:=omega) only [wrap_ok]
   have e1:¬([40]:List UInt8)=[41]:=by decide
   have hnx':=hnx
   by_cases hd:0<d+1
   ·rw [if_pos hd] at i1
    refine rS_ Tryz.func25 ?_
    simp only [go_sem,seval,hlt,strD_len,idx_of hxx,wi,hd,h40,wd,e1]
    all_goals refine hnx fr (d+1) q L _ ⟨by dsimp only;omega,by dsimp only;omega,by dsimp only;omega,by dsimp only;rw [hj];rw [←cur_snoc hxi hfi] at i1;exact i1,by dsimp only;omega⟩ wk1_
   ·rw [if_neg hd] at i1
    cases hdf:dfT ((T.take i).drop fr++[x]) with
    | none=>rw [hdf] at i1;cases i1
    | some y =>
     rw [hdf] at i1
     dsimp only at i1
     have hdef:=l15Define_fn ((T.take i).drop fr++[x]) y (by rw [←cur_snoc hxi hfi];simp;omega) (fun t ht=>hm t (by rw [←cur_snoc hxi hfi] at ht;exact List.mem_of_mem_take (List.mem_of_mem_drop ht))) hdf
     rw [←cur_snoc hxi hfi,←strD_sub] at hdef
     have hye:=Rl.enc_eq y
     refine rS_ Tryz.func25 ?_
     simp only [go_sem,seval,hlt,strD_len,idx_of hxx,wi,hd,hfr,hil1,hin,h40,wd,e1]
     repeat' (first
      | (refine ⟨strD_one1 T,?_⟩<;>(try simp only [go_sem,seval,hlt,strD_len,idx_of hxx,wi,hd,hfr,hil1,hin,h40,wd,e1]))
      | ((first
       | (refine hdef.calls rfl ?_)
       | (refine ⟨sd,?_⟩))<;>(try simp only [go_sem,seval,hlt,strD_len,idx_of hxx,wi,hd,hfr,hil1,hin,h40,wd,e1]))
      | fail)
     all_goals refine hnx (i+1) (d+1) (q+1) (L++[y]) _ ⟨by dsimp only;omega,by dsimp only;omega,by dsimp only;omega,by dsimp only;rw [hj,drop_take_self];exact i1,by dsimp only;rw [List.length_append];dsimp only [List.length_cons,List.length_nil];omega⟩ (by refine ⟨by simp [mkS,hye],by simp [mkS,hye],by simp only [mkS,List.all_cons,List.all_nil,O.refsLt,C.refsLt,C.refsLt1,all_dmap];first | done | rfl | (simp;done),?_⟩;simp [mkS,Abs.get,C.refsLtT,C.refsLt,C.refsLt1])
  ·rw [if_neg h40] at i1
   by_cases h41:x=[41]
   ·rw [if_pos h41] at i1
    have wd:IntKind.i64.wrap (d - 1)=d - 1:=by simp (disch:=omega) only [wrap_ok]
    have e1:¬([41]:List UInt8)=[40]:=by decide
    have hnx':=hnx
    by_cases hd:0<d - 1
    ·rw [if_pos hd] at i1
     refine rS_ Tryz.func25 ?_
     simp only [go_sem,seval,hlt,strD_len,idx_of hxx,wi,hd,h41,wd,e1]
     all_goals refine hnx fr (d - 1) q L _ ⟨by dsimp only;omega,by dsimp only;omega,by dsimp only;omega,by dsimp only;rw [hj];rw [←cur_snoc hxi hfi] at i1;exact i1,by dsimp only;omega⟩ wk1_
    ·rw [if_neg hd] at i1
     cases hdf:dfT ((T.take i).drop fr++[x]) with
     | none=>rw [hdf] at i1;cases i1
     | some y =>
      rw [hdf] at i1
      dsimp only at i1
      have hdef:=l15Define_fn ((T.take i).drop fr++[x]) y (by rw [←cur_snoc hxi hfi];simp;omega) (fun t ht=>hm t (by rw [←cur_snoc hxi hfi] at ht;exact List.mem_of_mem_take (List.mem_of_mem_drop ht))) hdf
      rw [←cur_snoc hxi hfi,←strD_sub] at hdef
      have hye:=Rl.enc_eq y
      refine rS_ Tryz.func25 ?_
      simp only [go_sem,seval,hlt,strD_len,idx_of hxx,wi,hd,hfr,hil1,hin,h41,wd,e1]
      repeat' (first
       | (refine ⟨strD_one1 T,?_⟩<;>(try simp only [go_sem,seval,hlt,strD_len,idx_of hxx,wi,hd,hfr,hil1,hin,h41,wd,e1]))
       | ((first
        | (refine hdef.calls rfl ?_)
        | (refine ⟨sd,?_⟩))<;>(try simp only [go_sem,seval,hlt,strD_len,idx_of hxx,wi,hd,hfr,hil1,hin,h41,wd,e1]))
       | fail)
      all_goals refine hnx (i+1) (d - 1) (q+1) (L++[y]) _ ⟨by dsimp only;omega,by dsimp only;omega,by dsimp only;omega,by dsimp only;rw [hj,drop_take_self];exact i1,by dsimp only;rw [List.length_append];dsimp only [List.length_cons,List.length_nil];omega⟩ (by refine ⟨by simp [mkS,hye],by simp [mkS,hye],by simp only [mkS,List.all_cons,List.all_nil,O.refsLt,C.refsLt,C.refsLt1,all_dmap];first | done | rfl | (simp;done),?_⟩;simp [mkS,Abs.get,C.refsLtT,C.refsLt,C.refsLt1])
   ·rw [if_neg h41] at i1
    have hnx':=hnx
    by_cases hd:0<d
    ·rw [if_pos hd] at i1
     refine rS_ Tryz.func25 ?_
     simp only [go_sem,seval,hlt,strD_len,idx_of hxx,wi,hd,h40,h41]
     all_goals refine hnx fr (d) q L _ ⟨by dsimp only;omega,by dsimp only;omega,by dsimp only;omega,by dsimp only;rw [hj];rw [←cur_snoc hxi hfi] at i1;exact i1,by dsimp only;omega⟩ wk1_
    ·rw [if_neg hd] at i1
     cases hdf:dfT ((T.take i).drop fr++[x]) with
     | none=>rw [hdf] at i1;cases i1
     | some y =>
      rw [hdf] at i1
      dsimp only at i1
      have hdef:=l15Define_fn ((T.take i).drop fr++[x]) y (by rw [←cur_snoc hxi hfi];simp;omega) (fun t ht=>hm t (by rw [←cur_snoc hxi hfi] at ht;exact List.mem_of_mem_take (List.mem_of_mem_drop ht))) hdf
      rw [←cur_snoc hxi hfi,←strD_sub] at hdef
      have hye:=Rl.enc_eq y
      refine rS_ Tryz.func25 ?_
      simp only [go_sem,seval,hlt,strD_len,idx_of hxx,wi,hd,hfr,hil1,hin,h40,h41]
      repeat' (first
       | (refine ⟨strD_one1 T,?_⟩<;>(try simp only [go_sem,seval,hlt,strD_len,idx_of hxx,wi,hd,hfr,hil1,hin,h40,h41]))
       | ((first
        | (refine hdef.calls rfl ?_)
        | (refine ⟨sd,?_⟩))<;>(try simp only [go_sem,seval,hlt,strD_len,idx_of hxx,wi,hd,hfr,hil1,hin,h40,h41]))
       | fail)
      all_goals refine hnx (i+1) (d) (q+1) (L++[y]) _ ⟨by dsimp only;omega,by dsimp only;omega,by dsimp only;omega,by dsimp only;rw [hj,drop_take_self];exact i1,by dsimp only;rw [List.length_append];dsimp only [List.length_cons,List.length_nil];omega⟩ (by refine ⟨by simp [mkS,hye],by simp [mkS,hye],by simp only [mkS,List.all_cons,List.all_nil,O.refsLt,C.refsLt,C.refsLt1,all_dmap];first | done | rfl | (simp;done),?_⟩;simp [mkS,Abs.get,C.refsLtT,C.refsLt,C.refsLt1])
 ·obtain ⟨fr,d,q,L⟩:=u
  obtain ⟨i2,i3,i4,i1,i5⟩:=hinv
  dsimp only at i1 ⊢
  simp only [ppT] at i1
  cases i1
  refine rS_ Tryz.func25 ?_
  simp only [go_sem,seval,strD_len]
  repeat' (first
   | ((refine hpo.calls rfl ?_)<;>(try simp only [go_sem,seval,strD_len]))
   | fail)
end Go.Proofs.YtlajhmoomlgopaaGreat

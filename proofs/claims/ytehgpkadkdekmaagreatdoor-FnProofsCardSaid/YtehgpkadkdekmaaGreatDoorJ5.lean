import Derived.Test.YtehgpkadkdekmaaGreatDoorJ4
import Derived.ChangeArms
import Derived.DataReads
set_option linter.unusedSimpArgs false
set_option linter.unusedVariables false
namespace Go.Abs
inductive Lf where
 | int (k:IntKind)
 | bool
 | str
 | sl (e:TypeId)
def aq5 (g:TypeId->Option (List Lf)) (P:Program):Nat->List Field->Option (List Lf)
 | _,[]=>some []
 | o,f :: r=>if f.offset=o then (match g f.type with
   | some l=>if l.length=P.cellsOf f.type then (aq5 g P (o+l.length) r).map (l++·) else none
   | none=>none) else none
def leaves (P:Program):Nat->TypeId->Option (List Lf)
 | 0,_=>none
 | n+1,t=>match P.underlying t with
  | some (.int k)=>some [.int k]
  | some .bool=>some [.bool]
  | some .string=>some [.str]
  | some (.slice e)=>some [.sl e]
  | some (.struct fs)=>(match aq5 (leaves P n) P 0 fs.toList with
   | some ls=>if ls.length=P.cellsOf t then some ls else none
   | none=>none)
  | _=>none
inductive ShC (P:Program):Lf->D->Prop
 | int (k:IntKind) (n:Int) (h:(Lit.int k n).wf=true):ShC P (.int k) (.int k n)
 | bool (b:Bool):ShC P .bool (.bool b)
 | str (s:List UInt8) (h:s.length<=maxLen):ShC P .str (.str s)
 | sl (e:TypeId) (xs:List (List D)) (ls:List Lf) (hl:leaves P 6 e=some ls) (hm:xs.length<=maxLen) (h1:∀x,x∈xs->x.length=ls.length)
   (h2:∀x,x∈xs->∀(i:Nat) l c,ls[i]? = some l->x[i]? = some c->ShC P l c):ShC P (.sl e) (.sl xs)
def Sh (P:Program) (t:TypeId) (x:List D):Prop:=∃ls,leaves P 6 t=some ls/\x.length=ls.length/\∀(i:Nat) l c,ls[i]? = some l->x[i]? = some c->ShC P l c
theorem ShC.elems {P:Program} {e:TypeId} {d:D} (h:ShC P (.sl e) d):∃xs,d=.sl xs/\xs.length<=maxLen/\∀x,x∈xs->Sh P e x:=by
 cases h with
 | sl _ xs ls hl hm h1 h2=>exact⟨xs,rfl,hm,fun x hx=>⟨ls,hl,h1 x hx,h2 x hx⟩⟩
def closedB (P:Program) (L:List TypeId):Bool:=
 L.all fun e=>match leaves P 6 e with
  | some ls=>decide (ls.length=P.cellsOf e) && decide (0<ls.length) && ls.all (fun | .sl e'=>L.contains e' | _=>true)
  | none=>false
def inL (L:List TypeId) (ls:List Lf):Bool:=ls.all (fun | .sl e'=>L.contains e' | _=>true)
section
variable {H:Type} {enc:TypeId×Value->H} {P:Program} {w:World} {base:Nat} {sp:Nat->Bool} {held:Bool} {L:List TypeId}
def Good (P:Program) (w:World) (c:D) (v:Value) (l:Lf):Prop:=RdD w (fun b _=>b<w.heap.size) c v/\v.oneCell'=true/\ShC P l c
theorem ad3 {c:D} {v:Value} {l:Lf} (h:Good P w c v l):∃ds:List D,ds.length=[l].length/\[v].length=[l].length/\∀(i:Nat) c v' l',ds[i]? = some c->[v][i]? = some v'->[l][i]? = some l'->Good P w c v' l':=by
 refine⟨[c],rfl,rfl,fun i c' v' l' h1 h2 h3=>?_⟩;match i with
 | 0=>simp at h1 h2 h3;subst h1 h2 h3;exact h
 | i+1=>simp at h1
theorem lt_of_cell {a:Addr} {v:Value} (h:w.cell? a=some v):a.spot=none/\a.block<w.heap.size:=by
 unfold World.cell? at h;split at h
 ·rename_i hh
  split at h
  ·cases h
  ·rename_i hs
   exact⟨by simpa using hs,(Array.getElem?_eq_some_iff.1 hh).1⟩
 ·cases h
theorem au3 {n m:Nat} {cs:List Value}
  (ih:∀(t:TypeId) (cs:List Value) (x:DataW H×List MemPlace) (ls:List Lf),DataW.trod enc P w base sp held n t cs=some x->leaves P m t=some ls->inL L ls=true ->
   ∃ds:List D,ds.length=ls.length/\cs.length=ls.length/\∀(i:Nat) c v l,ds[i]? = some c->cs[i]? = some v->ls[i]? = some l->Good P w c v l) :
  ∀(fs:List Field) (o:Nat) (ls:List Lf),aq5 (leaves P m) P o fs=some ls->inL L ls=true->cs.length=o+ls.length ->
   (∀f,f∈fs->∃y,DataW.trod enc P w base sp held n f.type ((cs.drop f.offset).take (P.cellsOf f.type))=some y) ->
   ∃ds:List D,ds.length=ls.length/\∀(i:Nat) c v l,ds[i]? = some c->cs[o+i]? = some v->ls[i]? = some l->Good P w c v l
 | [],o,ls,h,_,_,_=>by cases h;exact⟨[],rfl,fun i c v l h=>by simp at h⟩
 | f :: r,o,ls,h,hin,hlen,hall=>by
  unfold aq5 at h;split at h
  ·rename_i ho
   split at h
   ·rename_i l0 hl0
    split at h
    ·rename_i hsz
     obtain⟨l1,hl1,rfl⟩:=Option.map_eq_some_iff.1 h;simp only[inL,List.all_append,Bool.and_eq_true] at hin;simp only[List.length_append] at hlen;obtain⟨y,hy⟩:=hall f (by simp);obtain⟨ds0,e1,e2,e3⟩:=ih _ _ y l0 hy hl0 hin.1;obtain⟨ds1,f1,f2⟩:=au3 ih r (o+l0.length) l1 hl1 hin.2 (by omega) (fun g hg=>hall g (by simp[hg]));refine⟨ds0++ds1,by simp[e1,f1],fun i c v l hc hv hl=>?_⟩;by_cases hi:i<l0.length
     ·rw[List.getElem?_append_left (by omega)] at hc hl
      refine e3 i c v l hc ?_ hl;rw[ho,List.getElem?_take_of_lt (by omega),List.getElem?_drop];exact hv
     ·rw[List.getElem?_append_right (by omega)] at hc hl
      rw[e1] at hc;refine f2 (i - l0.length) c v l hc ?_ hl;rw[<-hv];congr 1;omega
    ·cases h
   ·cases h
  ·cases h
theorem read (hL:closedB P L=true):∀(n m:Nat) (t:TypeId) (cs:List Value) (x:DataW H×List MemPlace) (ls:List Lf),DataW.trod enc P w base sp held n t cs=some x->leaves P m t=some ls->inL L ls=true ->
   ∃ds:List D,ds.length=ls.length/\cs.length=ls.length/\∀(i:Nat) c v l,ds[i]? = some c->cs[i]? = some v->ls[i]? = some l->Good P w c v l
 | 0,_,_,_,_,_,h,_,_=>by simp[DataW.trod] at h
 | n+1,0,_,_,_,_,_,h,_=>by simp[leaves] at h
 | n + 1,m+1,t,cs,x,ls,h,hls,hin=>by
  unfold leaves at hls;split at hls
  ·rename_i k hk
   cases hls;obtain⟨z,rfl,-,hz⟩:=DataW.trod_int hk h;exact ad3 ⟨.int _ _,rfl,.int _ _ hz⟩
  ·rename_i hk
   cases hls;obtain⟨b,rfl,-⟩:=DataW.trod_bool hk h;exact ad3 ⟨.bool _,rfl,.bool _⟩
  ·rename_i hk
   cases hls;obtain⟨s,rfl,-,hs⟩:=DataW.trod_string hk h;obtain⟨⟨s⟩⟩:=s;refine ad3 (c:=.str s) ⟨.str _,rfl,.str _ ?_⟩;simpa[ByteArray.size] using hs
  ·rename_i e hk
   cases hls;have he:e∈L:=by simpa[inL] using hin
   have hcl:=(List.all_eq_true.1 hL) e he;split at hcl
   ·rename_i le hle
    simp only[Bool.and_eq_true,decide_eq_true_eq] at hcl;obtain⟨⟨hz,hpos⟩,hin'⟩:=hcl;rcases DataW.trod_slice hk h with ⟨rfl,-⟩ | ⟨a,len,cap,elems,rest,n',hn,rfl,-,hb,hlc,hcm,hel,hall,-,-⟩
    ·exact ad3 (c:=.sl []) ⟨.nil _ _,rfl,.sl _ _ le hle (by simp) (by simp) (by simp)⟩
    ·cases hn
     by_cases h0:len=0
     ·subst h0
      exact ad3 (c:=.sl []) ⟨.nil _ _,rfl,.sl _ _ le hle (by simp) (by simp) (by simp)⟩
     ·have each:∀i:Nat,∃p:List D×List Value,i<len->p.1.length=le.length/\p.2.length=le.length/\(∀j,j<le.length->w.cell? ((a.add (i * P.cellsOf e)).add j)=p.2[j]?) /\
        ∀(j:Nat) c v l,p.1[j]? = some c->p.2[j]? = some v->le[j]? = some l->Good P w c v l:=by
       intro i;by_cases hi:i<len
       ·have h1:=hall i hi
        have h2:elems[i]? = some (elems[i]'(by omega)):=List.getElem?_eq_getElem (by omega);rw[h2] at h1;obtain⟨cs',h3,h4⟩:=Option.bind_eq_some_iff.1 h1;obtain⟨ds,g1,g2,g3⟩:=read hL n 6 e cs' _ le h4 hle hin';obtain⟨-,q1,q2⟩:=World.cells?_some h3;exact⟨(ds,cs'),fun _=>⟨g1,g2,fun j hj=>q2 j (by omega),g3⟩⟩
       ·exact⟨([],[]),fun hh=>absurd hh hi⟩
      obtain⟨F,hF⟩:=Classical.axiomOfChoice each;obtain⟨b,off,spot⟩:=a;have hcell:∀i j,i<len->j<le.length->w.cell? (((⟨b,off,spot⟩:Addr).add (i * P.cellsOf e)).add j)=some ((F i).2.getD j undef):=by
       intro i j hi hj;obtain⟨k1,k2,k3,k4⟩:=hF i hi;rw[k3 j hj,List.getD,List.getElem?_eq_getElem (by omega)];rfl
      have hspot:spot=none:=(lt_of_cell (by simpa[Addr.add] using hcell 0 0 (by omega) hpos)).1;subst hspot;have hadd:∀i j,((⟨b,off,none⟩:Addr).add (i * P.cellsOf e)).add j=⟨b,off+i * le.length+j,none⟩:=by
       intro i j;rw[<-hz];unfold Addr.add;split<;>split<;>simp_all
      have hlenR:((List.range len).map fun i=>(F i).1).length=len:=by simp
      refine ad3 (c:=.sl ((List.range len).map fun i=>(F i).1)) (v:=.slice (some ⟨b,off,none⟩) len cap) ⟨?_,rfl,?_⟩
      ·have:=RdD.sl (w:=w) (S:=fun b _=>b<w.heap.size) b off cap le.length ((List.range len).map fun i=>(F i).1) (fun i j=>(F i).2.getD j undef) (by intro hc;have:=congrArg List.length hc;simp at this;omega) (by omega) hcm
        (by intro x hx;simp only[List.mem_map,List.mem_range] at hx;obtain⟨i,hi,rfl⟩:=hx;exact(hF i hi).1)
        (by
         intro i j hi hj;have hi:i<len:=by omega
         have hc:=hcell i j hi hj;rw[hadd] at hc;obtain⟨k1,k2,k3,k4⟩:=hF i hi;have hj2:(F i).2[j]? = some ((F i).2.getD j undef):=by rw[List.getD,List.getElem?_eq_getElem (by omega)];rfl
         have hj1:(F i).1[j]? = some ((F i).1[j]'(by omega)):=List.getElem?_eq_getElem (by omega);exact⟨(lt_of_cell hc).2,hc,(k4 j _ _ _ hj1 hj2 (List.getElem?_eq_getElem hj)).2.1⟩)
        (by
         intro i j x c hx hc;simp only[List.getElem?_map,Option.map_eq_some_iff] at hx;obtain⟨i',hi',rfl⟩:=hx;obtain⟨hi,rfl⟩:=List.getElem?_eq_some_iff.1 hi';simp only[List.length_range] at hi;simp only[List.getElem_range] at hc |-;obtain⟨k1,k2,k3,k4⟩:=hF i hi;have hj:j<le.length:=by have:=(List.getElem?_eq_some_iff.1 hc).1;omega
         have hj2:(F i).2[j]? = some ((F i).2.getD j undef):=by rw[List.getD,List.getElem?_eq_getElem (by omega)];rfl
         exact(k4 j _ _ _ hc hj2 (List.getElem?_eq_getElem hj)).1)
       rwa [hlenR] at this
      ·refine .sl e _ le hle (by omega) (fun x hx=>?_) (fun x hx i l c hl hc=>?_)
       ·simp only[List.mem_map,List.mem_range] at hx;obtain⟨i,hi,rfl⟩:=hx;exact(hF i hi).1
       ·simp only[List.mem_map,List.mem_range] at hx
        obtain⟨i',hi,rfl⟩:=hx;obtain⟨k1,k2,k3,k4⟩:=hF i' hi;have hj:i<le.length:=(List.getElem?_eq_some_iff.1 hl).1;have hj2:(F i').2[i]? = some ((F i').2.getD i undef):=by rw[List.getD,List.getElem?_eq_getElem (by omega)];rfl
        exact(k4 i _ _ _ hc hj2 hl).2.2
   ·cases hcl
  ·rename_i fs hk
   split at hls
   ·rename_i ls' hfs
    split at hls
    ·rename_i hsz
     cases hls;obtain⟨xs,n',hn,-,hl,hxl,hall⟩:=DataW.trod_struct hk h;cases hn;obtain⟨ds,g1,g2⟩:=au3 (cs:=cs) (fun t cs x ls h1 h2 h3=>read hL n m t cs x ls h1 h2 h3) fs.toList 0 ls hfs hin (by omega) (by
      intro f hf;obtain⟨i,hi⟩:=List.getElem?_of_mem hf;have:=hall i f (by simpa using hi);have hi':i<xs.length:=by
       have:=(List.getElem?_eq_some_iff.1 hi).1;simp at this;omega
      exact⟨xs[i],by rw[this];exact List.getElem?_eq_getElem hi'⟩)
     exact⟨ds,g1,by omega,fun i c v l h1 h2 h3=>g2 i c v l h1 (by simpa using h2) h3⟩
    ·cases hls
   ·cases hls
  ·cases hls
end
mutual
def D.wt:D->Nat
 | .int _ _=>0
 | .bool _=>0
 | .str s=>s.length
 | .sl xs=>wtR xs
 | .agg cs=>wtL cs
 | .fset _=>0
 | .any=>0
 | .raw _=>0
def wtL:List D->Nat
 | []=>0
 | c :: r=>c.wt+wtL r
def wtR:List (List D)->Nat
 | []=>0
 | x :: r=>1+wtL x+wtR r
end
def bo6:List (List D)->Nat->Nat
 | _,0=>0
 | [],_+1=>0
 | x :: r,i+1=>wtL x+bo6 r i
theorem af7:∀(xs:List (List D)) (i:Nat),bo6 xs i+xs.length<=wtR xs
 | xs,0=>by
  cases xs with
  | nil=>simp[bo6]
  | cons x r=>have:=af7 r 0;simp only[bo6,wtR,List.length_cons] at this |-;omega
 | [],i+1=>by simp[bo6]
 | x :: r,i+1=>by have:=af7 r i;simp only[bo6,wtR,List.length_cons] at this |-;omega
theorem ai1:∀(xs:List (List D)) (x:List D),x∈xs->wtL x<wtR xs
 | y :: r,x,h=>by
  rcases List.mem_cons.1 h with rfl | h
  ·simp only[wtR];omega
  ·have:=ai1 r x h;simp only[wtR];omega
theorem l6 {m:Int} (h1:-9223372036854775808<=m) (h2:m<=9223372036854775807):IntKind.i64.wrap m=m:=wrap64 h1 h2
theorem be0 (P:Program) (s:St) (K:C->Prop) (t:TypeId) (x:Operand) :
  o6 P s (.unOp .not t x) K=(l5 x=true/\match ev s x with | .d (.bool b)=>K (.d (.bool (!b))) | _=>False):=by
 unfold o6;dsimp only;congr 1;generalize ev s x=c;split<;>split<;>simp_all
theorem be1 (P:Program) (s:St) (K:C->Prop) (t:TypeId) (x:Operand) :
  o6 P s (.unOp .neg t x) K=(l5 x=true/\match ev s x with | .d (.int k n)=>K (.d (.int k (k.wrap (0 - n)))) | _=>False):=by
 unfold o6;dsimp only;congr 1;generalize ev s x=c;split<;>split<;>simp_all
theorem ShC.int_inv {P:Program} {k:IntKind} {d:D} (h:ShC P (.int k) d):∃n,d=.int k n/\(Lit.int k n).wf=true:=by
 cases h with
 | int _ n w=>exact⟨n,rfl,w⟩
def C.still:C->Bool
 | .d _ | .nil0 | .nilp=>true
 | _=>false
def O.still:O->Bool
 | .box cs=>cs.all C.still
 | .iter ..=>false
 | .tree _ _ _ _ _ L=>L.isNone
 | _=>true
def C.one:C->Bool
 | .d _ | .nil0 | .nilp=>true
 | .ptr r _=>r == 0
 | .own r _=>r == 0
 | .rsl r _=>r == 0
 | .eptr r _ _ _=>r == 0
 | .tptr r _ _ _ _=>r == 0
 | .map r=>r == 0
 | _=>false
def C.at1 (r:Nat):C->C
 | .ptr _ o=>.ptr r o
 | .own _ q=>.own r q
 | .rsl _ n=>.rsl r n
 | .eptr _ z i o=>.eptr r z i o
 | .tptr _ q z i o=>.tptr r q z i o
 | .map _=>.map r
 | c=>c
theorem Rd.still {E E':Env} (hw:E.w=E'.w) (hS:E.S=E'.S) {c:C} (hc:c.still=true) {v:Value} (h:Rd E c v):Rd E' c v:=by
 cases h with
 | d x _ hd=>exact .d _ _ (by rw[<-hw,<-hS];exact hd)
 | nil0 a=>exact .nil0 a
 | nilp=>exact .nilp
 | _=>simp[C.still] at hc
theorem J4.ren {E E':Env} {r r':Nat} {o:O} (hw:E.w=E'.w) (hS:E.S=E'.S) (hβ:E.β r=E'.β r') (hτ:E.τ r=E'.τ r') (ho:o.still=true) (h:J4 E r o):J4 E' r' o:=by
 cases o with
 | box cs =>
  obtain⟨arr,e,h1,h2,h3,h4⟩:=h;simp only[O.still,List.all_eq_true] at ho;exact⟨arr,e,by rw[<-hw,<-hβ];exact h1,h2,fun i c v hc hv=>⟨(h3 i c v hc hv).1.still hw hS (ho c (List.mem_of_getElem? hc)),(h3 i c v hc hv).2⟩,by rw[<-hS,<-hβ];exact h4⟩
 | grow q z e xs=>simp only[J4] at h |-;rw[<-hτ,<-hw,<-hS];exact h
 | row z e xs=>simp only[J4] at h |-;rw[<-hw,<-hS,<-hβ];exact h
 | map sk es=>simp only[J4] at h |-;rw[<-hw,<-hS,<-hβ];exact h
 | iter=>simp[O.still] at ho
 | buf q z e xs=>simp only[J4] at h |-;rw[<-hτ,<-hw,<-hS];exact h
 | tree q z e xs B L =>
  cases L with
  | none=>simp only[J4,bL0] at h |-;rw[<-hτ,<-hw,<-hS];exact h
  | some=>simp[O.still] at ho
 | hole=>simp only[J4] at h |-;rw[<-hτ];exact h
 | dead=>trivial
 | pb cs=>simp only[J4] at h |-;rw[<-hτ,<-hw,<-hS];exact h
 | mix q z e ys xs B=>simp only[J4] at h |-;rw[<-hτ,<-hw,<-hS];exact h
 | crate L B=>simp only[J4] at h |-;rw[<-hw,<-hS];exact h
 | bld T e bs=>simp only[J4] at h |-;rw[<-hτ,<-hw,<-hS,<-hβ];exact h
 | tab g vs=>simp only[J4] at h |-;rw[<-hw,<-hS];exact h
 | que q z e xs=>simp only[J4] at h |-;rw[<-hτ,<-hw,<-hS];exact h
theorem O.block_ren {E E':Env} {r r':Nat} {o:O} (hβ:E.β r=E'.β r') (hτ:E.τ r=E'.τ r'):o.block E r=o.block E' r':=by
 cases o<;>simp[O.block,hβ,hτ]
def mkS (s:St) (keep:List Nat) (v:List (Nat×C)) (H:List O):St:=⟨v++keep.map (fun t=>(t,get s.σ t)),H⟩
section
variable {P:Program} {f:FuncId} {n n0:Nat} {R:C->List O->Prop}
theorem RdD.len_le {w:World} {S:Nat->Nat->Prop} {xs:List (List D)} {v:Value} (h:RdD w S (.sl xs) v):xs.length<=maxLen:=by
 cases h with
 | nil=>simp
 | sl _ _ _ _ _ _ _ hcap hmax=>omega
theorem AW.len {k:List Item} {s:St} (t:Nat) {xs:List (List D)} (ht:get s.σ t=.d (.sl xs)) (h:xs.length<=maxLen->AW P f n n0 R k s):AW P f n n0 R k s:=by
 intro hn E a b cs hst hb hk;have hv:=hst.slot t;rw[ht] at hv;generalize a.tmps.getD t undef=v at hv;cases hv with
 | d _ _ hd=>exact h hd.len_le hn E a b cs hst hb hk
theorem AW.lp {Acc:Type} (keep:List Nat) (v:Acc->List (Nat×C)) (Hs:List O->Acc->List O) (I:Acc->Prop) (μ:Acc->Nat) (acc0:Acc) {c:Code} {k:List Item} {s:St}
  (h0:I acc0) (hw:bS9 n0 s (mkS s keep (v acc0) (Hs s.H acc0)))
  (step:∀acc,I acc->(∀acc' s',I acc'->μ acc'<μ acc->bS9 n0 s' (mkS s keep (v acc') (Hs s.H acc'))->AW P f n n0 R (.inLoop c :: k) s') ->
   AW P f n n0 R (.code c :: .inLoop c :: k) (mkS s keep (v acc) (Hs s.H acc))):AW P f n n0 R (.code (.loop c) :: k) s:=
 AW.loop_ind (fun acc=>mkS s keep (v acc) (Hs s.H acc)) I μ acc0 h0 hw step
theorem AW.rng {α Acc:Type} (l:List α) (keep:List Nat) (ti tx:Nat) (v:Acc->List (Nat×C)) (Hs:List O->Acc->List O) (Inv:List α->Acc->Prop) (acc0:Acc) {c:Code} {k:List Item} {s:St}
  {xs:List (List D)} (hx:get s.σ tx=.d (.sl xs)) (hl:xs.length=l.length)
  (h0:Inv l acc0) (hw:bS9 n0 s (mkS s keep ((ti,.d (.int .i64 0)) :: v acc0) (Hs s.H acc0)))
  (step:∀(i:Nat) (x:α) (r:List α) (acc:Acc),l[i]? = some x->l.drop i=x :: r->(i:Int)<l.length->(l.length:Int)<=9223372036854775807->Inv (x :: r) acc ->
   (∀acc' s',Inv r acc'->bS9 n0 s' (mkS s keep ((ti,.d (.int .i64 (i+1:Int))) :: v acc') (Hs s.H acc'))->AW P f n n0 R (.inLoop c :: k) s') ->
   AW P f n n0 R (.code c :: .inLoop c :: k) (mkS s keep ((ti,.d (.int .i64 i)) :: v acc) (Hs s.H acc)))
  (done:∀acc,Inv [] acc->AW P f n n0 R (.code c :: .inLoop c :: k) (mkS s keep ((ti,.d (.int .i64 l.length)) :: v acc) (Hs s.H acc))) :
  AW P f n n0 R (.code (.loop c) :: k) s:=by
 refine AW.len tx hx (fun hm=>?_);have hm':(l.length:Int)<=9223372036854775807:=by simp only[maxLen] at hm;omega
 refine AW.loop_ind (fun p:Nat×Acc=>mkS s keep ((ti,.d (.int .i64 p.1)) :: v p.2) (Hs s.H p.2)) (fun p=>p.1<=l.length/\Inv (l.drop p.1) p.2) (fun p=>l.length - p.1) (0,acc0) ⟨Nat.zero_le _,h0⟩ hw ?_;rintro ⟨i,acc⟩ ⟨hi,hinv⟩ hnext;dsimp only at hi hinv hnext |-;by_cases h:i<l.length
 ·obtain⟨x,hxi⟩:∃x,l[i]? = some x:=⟨_,List.getElem?_eq_getElem h⟩
  have hd:l.drop i=x :: l.drop (i+1):=by
   obtain⟨h2,h3⟩:=List.getElem?_eq_some_iff.1 hxi;rw[<-h3];exact List.drop_eq_getElem_cons h2
  rw[hd] at hinv;refine step i x (l.drop (i+1)) acc hxi hd (by omega) hm' hinv (fun acc' s' h1 h2=>hnext (i+1,acc') s' ⟨h,h1⟩ (by dsimp only;omega) ?_);exact h2
 ·have:i=l.length:=by omega
  subst this;rw[List.drop_length] at hinv;exact done acc hinv
end
theorem aq1 (s:St):∀ds:List D,bz6 ((ds.map C.d).map (J3 s))=some ds
 | []=>rfl
 | x :: r=>by
  simp only[List.map_cons,J3,bz6];have:=aq1 s r;rw[this];rfl
theorem bD6 (s:St) (ds:List D):norm s (.agg (ds.map C.d))=.d (.agg ds):=by
 simp only[norm,aq1]
theorem aH6 (s:St) (ds:List D):G9 s (.agg (ds.map C.d))=some ds:=by
 unfold G9 cellsOf;exact aq1 s ds
theorem bB6 {α:Type} {l:List α} {n:Nat} (h:l.length=n):l.take n=l:=List.take_of_length_le (by omega)
theorem bG4 {α:Type} {l:List α} {n:Nat} (h:l.length=n):l.drop n=[]:=List.drop_eq_nil_of_le (by omega)
def encI (n:Int):List D:=[.int .i64 n]
def encS (s:List UInt8):List D:=[.str s]
def co0 {α:Type} (e:α->List D) (l:List α):List D:=[.sl (l.map e)]
def cT8 (b:Bool):List D:=[.bool b]
theorem bG1 (n:Int):(encI n).length=1:=rfl
theorem bF9 (n:List UInt8):(encS n).length=1:=rfl
theorem bG2 (n:Bool):(cT8 n).length=1:=rfl
theorem bG0 {α:Type} (e:α->List D) (n:List α):(co0 e n).length=1:=rfl
inductive Tm where
 | mk (kind:Int) (int:Int) (name:List UInt8) (args:List Tm)
def Tm.kind:Tm->Int | .mk x _ _ _=>x
def Tm.int:Tm->Int | .mk _ x _ _=>x
def Tm.name:Tm->List UInt8 | .mk _ _ x _=>x
def Tm.args:Tm->List Tm | .mk _ _ _ x=>x
mutual
def Tm.enc:Tm->List D
 | .mk a0 a1 a2 a3=>[.int .i64 a0]++[.int .i64 a1]++[.str a2]++[.sl (Tm.encs a3)]
def Tm.encs:List Tm->List (List D)
 | []=>[]
 | t :: r=>Tm.enc t :: Tm.encs r
end
theorem Tm.encs_eq:∀l:List Tm,Tm.encs l=l.map Tm.enc
 | []=>by simp only[Tm.encs,List.map_nil]
 | t :: r=>by simp only[Tm.encs,List.map_cons,Tm.encs_eq r]
theorem Tm.enc_eq (t:Tm):Tm.enc t=[.int .i64 t.kind,.int .i64 t.int,.str t.name,.sl (t.args.map Tm.enc)]:=by
 cases t;simp only[Tm.enc,Tm.encs_eq,List.cons_append,List.nil_append,List.append_nil,Tm.kind,Tm.int,Tm.name,Tm.args]
theorem Tm.ind {Q:Tm->Prop} (h:∀a0 a1 a2 a3,(∀x,x∈a3->Q x)->Q (.mk a0 a1 a2 a3)):∀t,Q t
 | .mk a0 a1 a2 a3=>h a0 a1 a2 a3 (fun x hx=>Tm.ind h x)
theorem Tm.enc_len (t:Tm):(Tm.enc t).length=4:=by simp only[Tm.enc_eq]<;>rfl
theorem Tm.enc_at0 (t:Tm):(Tm.enc t)[0]? = some (.int .i64 t.kind):=by simp only[Tm.enc_eq]<;>rfl
theorem Tm.enc_pt0 (t:Tm):((Tm.enc t).drop 0).take 1=[.int .i64 t.kind]:=by simp only[Tm.enc_eq]<;>rfl
theorem Tm.enc_at1 (t:Tm):(Tm.enc t)[1]? = some (.int .i64 t.int):=by simp only[Tm.enc_eq]<;>rfl
theorem Tm.enc_pt1 (t:Tm):((Tm.enc t).drop 1).take 1=[.int .i64 t.int]:=by simp only[Tm.enc_eq]<;>rfl
theorem Tm.enc_at2 (t:Tm):(Tm.enc t)[2]? = some (.str t.name):=by simp only[Tm.enc_eq]<;>rfl
theorem Tm.enc_pt2 (t:Tm):((Tm.enc t).drop 2).take 1=[.str t.name]:=by simp only[Tm.enc_eq]<;>rfl
theorem Tm.enc_at3 (t:Tm):(Tm.enc t)[3]? = some (.sl (t.args.map Tm.enc)):=by simp only[Tm.enc_eq]<;>rfl
theorem Tm.enc_pt3 (t:Tm):((Tm.enc t).drop 3).take 1=[.sl (t.args.map Tm.enc)]:=by simp only[Tm.enc_eq]<;>rfl
theorem Tm.enc_tk0 (t:Tm):(Tm.enc t).take 1=[.int .i64 t.kind]:=by simp only[Tm.enc_eq]<;>rfl
inductive Gl where
 | mk (kind:Int) (name:List UInt8) (terms:List Tm) (goals:List Gl)
def Gl.kind:Gl->Int | .mk x _ _ _=>x
def Gl.name:Gl->List UInt8 | .mk _ x _ _=>x
def Gl.terms:Gl->List Tm | .mk _ _ x _=>x
def Gl.goals:Gl->List Gl | .mk _ _ _ x=>x
mutual
def Gl.enc:Gl->List D
 | .mk a0 a1 a2 a3=>[.int .i64 a0]++[.str a1]++[.sl (a2.map Tm.enc)]++[.sl (Gl.encs a3)]
def Gl.encs:List Gl->List (List D)
 | []=>[]
 | t :: r=>Gl.enc t :: Gl.encs r
end
theorem Gl.encs_eq:∀l:List Gl,Gl.encs l=l.map Gl.enc
 | []=>by simp only[Gl.encs,List.map_nil]
 | t :: r=>by simp only[Gl.encs,List.map_cons,Gl.encs_eq r]
theorem Gl.enc_eq (t:Gl):Gl.enc t=[.int .i64 t.kind,.str t.name,.sl (t.terms.map Tm.enc),.sl (t.goals.map Gl.enc)]:=by
 cases t;simp only[Gl.enc,Gl.encs_eq,List.cons_append,List.nil_append,List.append_nil,Gl.kind,Gl.name,Gl.terms,Gl.goals]
theorem Gl.ind {Q:Gl->Prop} (h:∀a0 a1 a2 a3,(∀x,x∈a3->Q x)->Q (.mk a0 a1 a2 a3)):∀t,Q t
 | .mk a0 a1 a2 a3=>h a0 a1 a2 a3 (fun x hx=>Gl.ind h x)
theorem Gl.enc_len (t:Gl):(Gl.enc t).length=4:=by simp only[Gl.enc_eq]<;>rfl
theorem Gl.enc_at0 (t:Gl):(Gl.enc t)[0]? = some (.int .i64 t.kind):=by simp only[Gl.enc_eq]<;>rfl
theorem Gl.enc_pt0 (t:Gl):((Gl.enc t).drop 0).take 1=[.int .i64 t.kind]:=by simp only[Gl.enc_eq]<;>rfl
theorem Gl.enc_at1 (t:Gl):(Gl.enc t)[1]? = some (.str t.name):=by simp only[Gl.enc_eq]<;>rfl
theorem Gl.enc_pt1 (t:Gl):((Gl.enc t).drop 1).take 1=[.str t.name]:=by simp only[Gl.enc_eq]<;>rfl
theorem Gl.enc_at2 (t:Gl):(Gl.enc t)[2]? = some (.sl (t.terms.map Tm.enc)):=by simp only[Gl.enc_eq]<;>rfl
theorem Gl.enc_pt2 (t:Gl):((Gl.enc t).drop 2).take 1=[.sl (t.terms.map Tm.enc)]:=by simp only[Gl.enc_eq]<;>rfl
theorem Gl.enc_at3 (t:Gl):(Gl.enc t)[3]? = some (.sl (t.goals.map Gl.enc)):=by simp only[Gl.enc_eq]<;>rfl
theorem Gl.enc_pt3 (t:Gl):((Gl.enc t).drop 3).take 1=[.sl (t.goals.map Gl.enc)]:=by simp only[Gl.enc_eq]<;>rfl
theorem Gl.enc_tk0 (t:Gl):(Gl.enc t).take 1=[.int .i64 t.kind]:=by simp only[Gl.enc_eq]<;>rfl
inductive Pf where
 | mk (rel:List UInt8) (clause:Int) (values:List Tm) (kids:List Pf)
def Pf.rel:Pf->List UInt8 | .mk x _ _ _=>x
def Pf.clause:Pf->Int | .mk _ x _ _=>x
def Pf.values:Pf->List Tm | .mk _ _ x _=>x
def Pf.kids:Pf->List Pf | .mk _ _ _ x=>x
mutual
def Pf.enc:Pf->List D
 | .mk a0 a1 a2 a3=>[.str a0]++[.int .i64 a1]++[.sl (a2.map Tm.enc)]++[.sl (Pf.encs a3)]
def Pf.encs:List Pf->List (List D)
 | []=>[]
 | t :: r=>Pf.enc t :: Pf.encs r
end
theorem Pf.encs_eq:∀l:List Pf,Pf.encs l=l.map Pf.enc
 | []=>by simp only[Pf.encs,List.map_nil]
 | t :: r=>by simp only[Pf.encs,List.map_cons,Pf.encs_eq r]
theorem Pf.enc_eq (t:Pf):Pf.enc t=[.str t.rel,.int .i64 t.clause,.sl (t.values.map Tm.enc),.sl (t.kids.map Pf.enc)]:=by
 cases t;simp only[Pf.enc,Pf.encs_eq,List.cons_append,List.nil_append,List.append_nil,Pf.rel,Pf.clause,Pf.values,Pf.kids]
theorem Pf.ind {Q:Pf->Prop} (h:∀a0 a1 a2 a3,(∀x,x∈a3->Q x)->Q (.mk a0 a1 a2 a3)):∀t,Q t
 | .mk a0 a1 a2 a3=>h a0 a1 a2 a3 (fun x hx=>Pf.ind h x)
theorem Pf.enc_len (t:Pf):(Pf.enc t).length=4:=by simp only[Pf.enc_eq]<;>rfl
theorem Pf.enc_at0 (t:Pf):(Pf.enc t)[0]? = some (.str t.rel):=by simp only[Pf.enc_eq]<;>rfl
theorem Pf.enc_pt0 (t:Pf):((Pf.enc t).drop 0).take 1=[.str t.rel]:=by simp only[Pf.enc_eq]<;>rfl
theorem Pf.enc_at1 (t:Pf):(Pf.enc t)[1]? = some (.int .i64 t.clause):=by simp only[Pf.enc_eq]<;>rfl
theorem Pf.enc_pt1 (t:Pf):((Pf.enc t).drop 1).take 1=[.int .i64 t.clause]:=by simp only[Pf.enc_eq]<;>rfl
theorem Pf.enc_at2 (t:Pf):(Pf.enc t)[2]? = some (.sl (t.values.map Tm.enc)):=by simp only[Pf.enc_eq]<;>rfl
theorem Pf.enc_pt2 (t:Pf):((Pf.enc t).drop 2).take 1=[.sl (t.values.map Tm.enc)]:=by simp only[Pf.enc_eq]<;>rfl
theorem Pf.enc_at3 (t:Pf):(Pf.enc t)[3]? = some (.sl (t.kids.map Pf.enc)):=by simp only[Pf.enc_eq]<;>rfl
theorem Pf.enc_pt3 (t:Pf):((Pf.enc t).drop 3).take 1=[.sl (t.kids.map Pf.enc)]:=by simp only[Pf.enc_eq]<;>rfl
theorem Pf.enc_tk0 (t:Pf):(Pf.enc t).take 1=[.str t.rel]:=by simp only[Pf.enc_eq]<;>rfl
structure Fc where
 rel:List UInt8
 args:List Tm
def Fc.enc (t:Fc):List D:=[.str t.rel]++[.sl (t.args.map Tm.enc)]
theorem Fc.enc_eq (t:Fc):Fc.enc t=[.str t.rel,.sl (t.args.map Tm.enc)]:=by
 simp only[Fc.enc,List.cons_append,List.nil_append,List.append_nil]
theorem Fc.enc_len (t:Fc):(Fc.enc t).length=2:=by simp only[Fc.enc_eq]<;>rfl
theorem Fc.enc_at0 (t:Fc):(Fc.enc t)[0]? = some (.str t.rel):=by simp only[Fc.enc_eq]<;>rfl
theorem Fc.enc_pt0 (t:Fc):((Fc.enc t).drop 0).take 1=[.str t.rel]:=by simp only[Fc.enc_eq]<;>rfl
theorem Fc.enc_at1 (t:Fc):(Fc.enc t)[1]? = some (.sl (t.args.map Tm.enc)):=by simp only[Fc.enc_eq]<;>rfl
theorem Fc.enc_pt1 (t:Fc):((Fc.enc t).drop 1).take 1=[.sl (t.args.map Tm.enc)]:=by simp only[Fc.enc_eq]<;>rfl
theorem Fc.enc_tk0 (t:Fc):(Fc.enc t).take 1=[.str t.rel]:=by simp only[Fc.enc_eq]<;>rfl
structure Bd where
 var:Int
 to:Tm
def Bd.enc (t:Bd):List D:=[.int .i64 t.var]++Tm.enc t.to
theorem Bd.enc_eq (t:Bd):Bd.enc t=[.int .i64 t.var,.int .i64 t.to.kind,.int .i64 t.to.int,.str t.to.name,.sl (t.to.args.map Tm.enc)]:=by
 simp only[Bd.enc,List.cons_append,List.nil_append,List.append_nil,Tm.enc_eq]
theorem Bd.enc_len (t:Bd):(Bd.enc t).length=5:=by simp only[Bd.enc_eq]<;>rfl
theorem Bd.enc_at0 (t:Bd):(Bd.enc t)[0]? = some (.int .i64 t.var):=by simp only[Bd.enc_eq]<;>rfl
theorem Bd.enc_pt0 (t:Bd):((Bd.enc t).drop 0).take 1=[.int .i64 t.var]:=by simp only[Bd.enc_eq]<;>rfl
theorem Bd.enc_at1 (t:Bd):(Bd.enc t)[1]? = some (.int .i64 t.to.kind):=by simp only[Bd.enc_eq]<;>rfl
theorem Bd.enc_pt1 (t:Bd):((Bd.enc t).drop 1).take 1=[.int .i64 t.to.kind]:=by simp only[Bd.enc_eq]<;>rfl
theorem Bd.enc_at2 (t:Bd):(Bd.enc t)[2]? = some (.int .i64 t.to.int):=by simp only[Bd.enc_eq]<;>rfl
theorem Bd.enc_pt2 (t:Bd):((Bd.enc t).drop 2).take 1=[.int .i64 t.to.int]:=by simp only[Bd.enc_eq]<;>rfl
theorem Bd.enc_at3 (t:Bd):(Bd.enc t)[3]? = some (.str t.to.name):=by simp only[Bd.enc_eq]<;>rfl
theorem Bd.enc_pt3 (t:Bd):((Bd.enc t).drop 3).take 1=[.str t.to.name]:=by simp only[Bd.enc_eq]<;>rfl
theorem Bd.enc_at4 (t:Bd):(Bd.enc t)[4]? = some (.sl (t.to.args.map Tm.enc)):=by simp only[Bd.enc_eq]<;>rfl
theorem Bd.enc_pt4 (t:Bd):((Bd.enc t).drop 4).take 1=[.sl (t.to.args.map Tm.enc)]:=by simp only[Bd.enc_eq]<;>rfl
theorem Bd.enc_tk0 (t:Bd):(Bd.enc t).take 1=[.int .i64 t.var]:=by simp only[Bd.enc_eq]<;>rfl
theorem Bd.enc_st0 (t:Bd):((Bd.enc t).drop 1).take 4=Tm.enc t.to:=by simp only[Bd.enc_eq,Tm.enc_eq]<;>rfl
structure Rl where
 name:List UInt8
 arity:Int
 locals:Int
 body:Gl
def Rl.enc (t:Rl):List D:=[.str t.name]++[.int .i64 t.arity]++[.int .i64 t.locals]++Gl.enc t.body
theorem Rl.enc_eq (t:Rl):Rl.enc t=[.str t.name,.int .i64 t.arity,.int .i64 t.locals,.int .i64 t.body.kind,.str t.body.name,.sl (t.body.terms.map Tm.enc),.sl (t.body.goals.map Gl.enc)]:=by
 simp only[Rl.enc,List.cons_append,List.nil_append,List.append_nil,Gl.enc_eq]
theorem Rl.enc_len (t:Rl):(Rl.enc t).length=7:=by simp only[Rl.enc_eq]<;>rfl
theorem Rl.enc_at0 (t:Rl):(Rl.enc t)[0]? = some (.str t.name):=by simp only[Rl.enc_eq]<;>rfl
theorem Rl.enc_pt0 (t:Rl):((Rl.enc t).drop 0).take 1=[.str t.name]:=by simp only[Rl.enc_eq]<;>rfl
theorem Rl.enc_at1 (t:Rl):(Rl.enc t)[1]? = some (.int .i64 t.arity):=by simp only[Rl.enc_eq]<;>rfl
theorem Rl.enc_pt1 (t:Rl):((Rl.enc t).drop 1).take 1=[.int .i64 t.arity]:=by simp only[Rl.enc_eq]<;>rfl
theorem Rl.enc_at2 (t:Rl):(Rl.enc t)[2]? = some (.int .i64 t.locals):=by simp only[Rl.enc_eq]<;>rfl
theorem Rl.enc_pt2 (t:Rl):((Rl.enc t).drop 2).take 1=[.int .i64 t.locals]:=by simp only[Rl.enc_eq]<;>rfl
theorem Rl.enc_at3 (t:Rl):(Rl.enc t)[3]? = some (.int .i64 t.body.kind):=by simp only[Rl.enc_eq]<;>rfl
theorem Rl.enc_pt3 (t:Rl):((Rl.enc t).drop 3).take 1=[.int .i64 t.body.kind]:=by simp only[Rl.enc_eq]<;>rfl
theorem Rl.enc_at4 (t:Rl):(Rl.enc t)[4]? = some (.str t.body.name):=by simp only[Rl.enc_eq]<;>rfl
theorem Rl.enc_pt4 (t:Rl):((Rl.enc t).drop 4).take 1=[.str t.body.name]:=by simp only[Rl.enc_eq]<;>rfl
theorem Rl.enc_at5 (t:Rl):(Rl.enc t)[5]? = some (.sl (t.body.terms.map Tm.enc)):=by simp only[Rl.enc_eq]<;>rfl
theorem Rl.enc_pt5 (t:Rl):((Rl.enc t).drop 5).take 1=[.sl (t.body.terms.map Tm.enc)]:=by simp only[Rl.enc_eq]<;>rfl
theorem Rl.enc_at6 (t:Rl):(Rl.enc t)[6]? = some (.sl (t.body.goals.map Gl.enc)):=by simp only[Rl.enc_eq]<;>rfl
theorem Rl.enc_pt6 (t:Rl):((Rl.enc t).drop 6).take 1=[.sl (t.body.goals.map Gl.enc)]:=by simp only[Rl.enc_eq]<;>rfl
theorem Rl.enc_tk0 (t:Rl):(Rl.enc t).take 1=[.str t.name]:=by simp only[Rl.enc_eq]<;>rfl
theorem Rl.enc_st0 (t:Rl):((Rl.enc t).drop 3).take 4=Gl.enc t.body:=by simp only[Rl.enc_eq,Gl.enc_eq]<;>rfl
structure Pg where
 rels:List Rl
def Pg.enc (t:Pg):List D:=[.sl (t.rels.map Rl.enc)]
theorem Pg.enc_eq (t:Pg):Pg.enc t=[.sl (t.rels.map Rl.enc)]:=by
 simp only[Pg.enc,List.cons_append,List.nil_append,List.append_nil]
theorem Pg.enc_len (t:Pg):(Pg.enc t).length=1:=by simp only[Pg.enc_eq]<;>rfl
theorem Pg.enc_at0 (t:Pg):(Pg.enc t)[0]? = some (.sl (t.rels.map Rl.enc)):=by simp only[Pg.enc_eq]<;>rfl
theorem Pg.enc_pt0 (t:Pg):((Pg.enc t).drop 0).take 1=[.sl (t.rels.map Rl.enc)]:=by simp only[Pg.enc_eq]<;>rfl
theorem Pg.enc_tk0 (t:Pg):(Pg.enc t).take 1=[.sl (t.rels.map Rl.enc)]:=by simp only[Pg.enc_eq]<;>rfl
structure Ru where
 head:Fc
 clause:Int
 values:List Tm
 pos:List Fc
 neg:List Fc
def Ru.enc (t:Ru):List D:=Fc.enc t.head++[.int .i64 t.clause]++[.sl (t.values.map Tm.enc)]++[.sl (t.pos.map Fc.enc)]++[.sl (t.neg.map Fc.enc)]
theorem Ru.enc_eq (t:Ru):Ru.enc t=[.str t.head.rel,.sl (t.head.args.map Tm.enc),.int .i64 t.clause,.sl (t.values.map Tm.enc),.sl (t.pos.map Fc.enc),.sl (t.neg.map Fc.enc)]:=by
 simp only[Ru.enc,List.cons_append,List.nil_append,List.append_nil,Fc.enc_eq]
theorem Ru.enc_len (t:Ru):(Ru.enc t).length=6:=by simp only[Ru.enc_eq]<;>rfl
theorem Ru.enc_at0 (t:Ru):(Ru.enc t)[0]? = some (.str t.head.rel):=by simp only[Ru.enc_eq]<;>rfl
theorem Ru.enc_pt0 (t:Ru):((Ru.enc t).drop 0).take 1=[.str t.head.rel]:=by simp only[Ru.enc_eq]<;>rfl
theorem Ru.enc_at1 (t:Ru):(Ru.enc t)[1]? = some (.sl (t.head.args.map Tm.enc)):=by simp only[Ru.enc_eq]<;>rfl
theorem Ru.enc_pt1 (t:Ru):((Ru.enc t).drop 1).take 1=[.sl (t.head.args.map Tm.enc)]:=by simp only[Ru.enc_eq]<;>rfl
theorem Ru.enc_at2 (t:Ru):(Ru.enc t)[2]? = some (.int .i64 t.clause):=by simp only[Ru.enc_eq]<;>rfl
theorem Ru.enc_pt2 (t:Ru):((Ru.enc t).drop 2).take 1=[.int .i64 t.clause]:=by simp only[Ru.enc_eq]<;>rfl
theorem Ru.enc_at3 (t:Ru):(Ru.enc t)[3]? = some (.sl (t.values.map Tm.enc)):=by simp only[Ru.enc_eq]<;>rfl
theorem Ru.enc_pt3 (t:Ru):((Ru.enc t).drop 3).take 1=[.sl (t.values.map Tm.enc)]:=by simp only[Ru.enc_eq]<;>rfl
theorem Ru.enc_at4 (t:Ru):(Ru.enc t)[4]? = some (.sl (t.pos.map Fc.enc)):=by simp only[Ru.enc_eq]<;>rfl
theorem Ru.enc_pt4 (t:Ru):((Ru.enc t).drop 4).take 1=[.sl (t.pos.map Fc.enc)]:=by simp only[Ru.enc_eq]<;>rfl
theorem Ru.enc_at5 (t:Ru):(Ru.enc t)[5]? = some (.sl (t.neg.map Fc.enc)):=by simp only[Ru.enc_eq]<;>rfl
theorem Ru.enc_pt5 (t:Ru):((Ru.enc t).drop 5).take 1=[.sl (t.neg.map Fc.enc)]:=by simp only[Ru.enc_eq]<;>rfl
theorem Ru.enc_tk0 (t:Ru):(Ru.enc t).take 1=[.str t.head.rel]:=by simp only[Ru.enc_eq]<;>rfl
theorem Ru.enc_tk2 (t:Ru):(Ru.enc t).take 2=Fc.enc t.head:=by simp only[Ru.enc_eq,Fc.enc_eq]<;>rfl
theorem Ru.enc_st0 (t:Ru):((Ru.enc t).drop 0).take 2=Fc.enc t.head:=by simp only[Ru.enc_eq,Fc.enc_eq]<;>rfl
theorem bw6 {α:Type} {P:Program} {e:TypeId} {enc:α->List D} (h:∀x,Sh P e x->∃t,x=enc t):∀xs:List (List D),(∀x,x∈xs->Sh P e x)->∃l:List α,xs=l.map enc
 | [],_=>⟨[],rfl⟩
 | x :: r,hx=>by
  obtain⟨t,rfl⟩:=h x (hx x (by simp));obtain⟨l,rfl⟩:=bw6 h r (fun y hy=>hx y (by simp[hy]));exact⟨t :: l,rfl⟩
theorem cU2 {α:Type} {P:Program} {e e':TypeId} {enc:α->List D} (hl:leaves P 6 e=some [.sl e']) (h':∀x,Sh P e' x->∃t,x=enc t) (x:List D) (h:Sh P e x):∃n,x=co0 enc n:=by
 obtain⟨ls,h1,h2,h3⟩:=h;rw[hl] at h1;cases h1;match x,h2,h3 with
 | [c0],_,h3 =>
  obtain⟨b0,rfl,q0⟩:=(h3 0 _ _ rfl rfl).elems;obtain⟨l,rfl⟩:=bw6 h' b0 q0.2;exact⟨l,rfl⟩
theorem bG3 {α β:Type} (f:α->β) (l:List α) (i:Nat):(l.map f).drop i=(l.drop i).map f:=by simp
theorem bB5 {α β:Type} (f:α->β) (l:List α) (i:Nat):(l.map f).take i=(l.take i).map f:=by simp
theorem bw7 (P:Program) (t:TypeId) (l:List (List D)):ax0 P t l=(match (Q9 P t).bind (D9 P) with
 | some z=>∀x,x∈l->x.length=z
 | none=>False):=rfl
theorem bO6 (n:Int):decide (n<n)=false:=by simp
section
variable {P:Program} {f:FuncId} {n n0:Nat} {R:C->List O->Prop} {rs rs':List ResultVar} {k:List Item} {s s':St} {ops:Array Oper} {os:List Oper} {KS:St->Prop}
 {o:Oper} {K:C->Prop} {KH:C->List O->Prop} {t u:TypeId} {p p' x x' y y' i i':C}
@[congr] theorem cw5 {fuel:Nat} (h:s=s'):run P f n n0 R rs fuel k s=run P f n n0 R rs fuel k s':=by rw[h]
@[congr] theorem co3 (h:s=s'):vcR P n ops KS os s=vcR P n ops KS os s':=by rw[h]
@[congr] theorem co4 (h:s=s'):vcD P n ops KS os s=vcD P n ops KS os s':=by rw[h]
@[congr] theorem cU3 (h:s=s'):AW P f n n0 R k s=AW P f n n0 R k s':=by rw[h]
@[congr] theorem cU0 {b b':Bool} {F G:Unit->Prop} (h:b=b'):br b F G=br b' F G:=by rw[h]
@[congr] theorem cw9 {α:Type} {l l':List α} {j j':Nat} {Q:α->Prop} (h:l=l') (hj:j=j'):idx l j Q=idx l' j' Q:=by rw[h,hj]
@[congr] theorem cd3 {a a':List C} {H H':List O} (h:a=a') (hH:H=H'):ACalls P f a H KH=ACalls P f a' H' KH:=by rw[h,hH]
@[congr] theorem cg0 {a a':List C} {H H':List O} (h:a=a') (hH:H=H'):bI0 P f a H K=bI0 P f a' H' K:=by rw[h,hH]
@[congr] theorem bT3 {K:List O->Prop} (hp:p=p') (hx:x=x'):af2 P s t p x K=af2 P s t p' x' K:=by rw[hp,hx]
@[congr] theorem bL8 (hx:x=x') (hy:y=y'):U7 P s t u x y KH=U7 P s t u x' y' KH:=by rw[hx,hy]
@[congr] theorem bV7 (hx:x=x'):ar8 P s t x KH=ar8 P s t x' KH:=by rw[hx]
@[congr] theorem cf8 {pl:List (Nat×Nat)} {K:List C->Prop} {ps:List (Nat×Operand)} {cs cs':List C} (h:cs=cs'):S9 pl s K ps cs=S9 pl s K ps cs':=by rw[h]
@[congr] theorem cd4 (hr:rs=rs') (h:s=s'):aJ0 P rs n0 R s=aJ0 P rs' n0 R s':=by rw[hr,h]
@[congr] theorem bX3 {K:List C->Prop} {acc acc':List C} (h:acc=acc'):aj1 P s K rs acc=aj1 P s K rs acc':=by rw[h]
@[congr] theorem bV4 {cs cs':List C} {j j':Nat} (h:cs=cs') (hj:j=j'):X4 P cs j u K=X4 P cs' j' u K:=by rw[h,hj]
@[congr] theorem bU1 {cs cs':List D} {j j':Nat} (h:cs=cs') (hj:j=j'):P5 P cs j u K=P5 P cs' j' u K:=by rw[h,hj]
@[congr] theorem bV8 (hp:p=p'):O4 P s t p K=O4 P s t p' K:=by rw[hp]
@[congr] theorem bz5 {j:Nat} (hp:p=p'):I1 P t j p K=I1 P t j p' K:=by rw[hp]
@[congr] theorem bU2 {j:Nat} (hx:x=x'):aa6 P s t j x K=aa6 P s t j x' K:=by rw[hx]
@[congr] theorem bz4 (hx:x=x') (hi:i=i'):F6 P s t x i K=F6 P s t x' i' K:=by rw[hx,hi]
@[congr] theorem cd6 {op:BinOp} (hx:x=x') (hy:y=y'):aD9 P s op t x y K=aD9 P s op t x' y' K:=by rw[hx,hy]
@[congr] theorem bT4 {lo lo' hi hi':Option C} (hx:x=x') (h1:lo=lo') (h2:hi=hi'):aa5 P s t x lo hi K=aa5 P s t x' lo' hi' K:=by rw[hx,h1,h2]
@[congr] theorem cd5 (hx:x=x'):ay3 P s t x K=ay3 P s t x' K:=by rw[hx]
@[congr] theorem bL5 {ok:Bool} (hx:x=x') (hi:i=i'):U6 P s t x i ok K=U6 P s t x' i' ok K:=by rw[hx,hi]
@[congr] theorem bU3 (hx:x=x'):aa7 s x K=aa7 s x' K:=by rw[hx]
@[congr] theorem bL7 {K:List O->Prop} (hp:p=p') (hx:x=x') (hy:y=y'):Q0 P s t p x y K=Q0 P s t p' x' y' K:=by rw[hp,hx,hy]
@[congr] theorem bT5 (hx:x=x'):af3 s x KH=af3 s x' KH:=by rw[hx]
@[congr] theorem bV6 (hx:x=x'):ar7 s x KH=ar7 s x' KH:=by rw[hx]
@[congr] theorem bU7 {es es':List (D×D)} {l l':List Nat} {e:Unit->Prop} {g:Nat->D×D->Prop} (h:es=es') (hl:l=l'):aI4 es l e g=aI4 es' l' e g:=by rw[h,hl]
theorem bf3 {fuel id:Nat} {l:List Oper} {σ:List (Nat×C)} {H:List O}:run P f n n0 R rs (fuel+1) (.code (.region id (List.toArray l) false) :: k) ⟨σ,H⟩=vcR P n (List.toArray l) (run P f n n0 R rs fuel k) l ⟨σ,H⟩:=by
 rw[run]
theorem bC4 {fuel id:Nat} {l:List Oper} {σ:List (Nat×C)} {H:List O}:run P f n n0 R rs (fuel+1) (.code (.region id (List.toArray l) true) :: k) ⟨σ,H⟩=vcD P n (List.toArray l) (run P f n n0 R rs fuel k) l ⟨σ,H⟩:=by
 rw[run]
theorem bC2 {fuel:Nat} {c:Code} {σ:List (Nat×C)} {H:List O}:run P f n n0 R rs (fuel+1) (.code (.loop c) :: k) ⟨σ,H⟩=AW P f n n0 R (.code (.loop c) :: k) ⟨σ,H⟩:=by
 rw[run]<;>simp
theorem bf4 {fuel:Nat} {c:Code} {σ:List (Nat×C)} {H:List O}:run P f n n0 R rs (fuel+1) (.inLoop c :: k) ⟨σ,H⟩=AW P f n n0 R (.inLoop c :: k) ⟨σ,H⟩:=by
 rw[run]<;>simp
def exK (P:Program) (f:FuncId) (n n0:Nat) (R:C->List O->Prop) (rs:List ResultVar) (fuel j:Nat) (k:List Item) (s:St):Prop:=
 match Go.exitTo j k with
 | some k'=>run P f n n0 R rs fuel k' s
 | none=>False
@[congr] theorem cx0 {fuel j:Nat} (h:s=s'):exK P f n n0 R rs fuel j k s=exK P f n n0 R rs fuel j k s':=by rw[h]
theorem bC3 {fuel j:Nat} {σ:List (Nat×C)} {H:List O}:run P f n n0 R rs (fuel+1) (.code (.exit j) :: k) ⟨σ,H⟩=exK P f n n0 R rs fuel j k ⟨σ,H⟩:=by
 rw[run];rfl
theorem bF8 {fuel j:Nat} {c:Code}:exK P f n n0 R rs fuel j (.code c :: k) s=exK P f n n0 R rs fuel j k s:=rfl
theorem bj4 {fuel j:Nat} {c:Code}:exK P f n n0 R rs fuel j (.inLoop c :: k) s=exK P f n n0 R rs fuel j k s:=rfl
theorem bw4 {fuel j j':Nat}:exK P f n n0 R rs fuel j (.inBlock j' :: k) s=if j'=j then run P f n n0 R rs fuel k s else exK P f n n0 R rs fuel j k s:=by
 unfold exK;rw[exitTo.eq_1];by_cases h:j'=j
 ·simp[h]
 ·rw[if_neg (by simpa using h),if_neg h]
end
attribute [go_sem ↓] K8.eq_1 o6.eq_1 o6.eq_2 o6.eq_3 o6.eq_4 o6.eq_5 o6.eq_6 o6.eq_7 o6.eq_8 o6.eq_9 o6.eq_10 be0
attribute [go_sem ↓] be1 o6.eq_12 o6.eq_13 o6.eq_14 o6.eq_15 o6.eq_16 o6.eq_17 o6.eq_18 o6.eq_19 o6.eq_20 aZ8.eq_1 aZ8.eq_2
attribute [go_sem ↓] E9.eq_1 E9.eq_2 vcQ.eq_1 kR.eq_1 kAt.eq_1 kD.eq_1 ca1.eq_1 cw8.eq_1 ca2.eq_1 cf6.eq_1 ca3.eq_1 kSl.eq_1
attribute [go_sem ↓] cw7.eq_1 cb9
attribute [go_sem] bf3 bC4 bC2 bf4 bC3 bF8 bj4 bw4  run.eq_2 run.eq_3 run.eq_4 run.eq_5 run.eq_6 run.eq_7 run.eq_8  run.eq_10
attribute [go_sem]     vcR.eq_1 vcR.eq_2 vcD.eq_1 vcD.eq_2 aD9.eq_1 aJ0.eq_1 aj1.eq_1 aj1.eq_2
attribute [go_sem] I1.eq_1 aa6.eq_1 O4.eq_1 O4.eq_2 O4.eq_3 O4.eq_4 X4.eq_1 P5.eq_1 ay3.eq_1 af2.eq_1 U7.eq_1 S9.eq_1
attribute [go_sem] S9.eq_2 F6.eq_def aa5.eq_def ar8.eq_def cc9 cc8 cc7 cc6 cc5 cc4 cc3 cc2
attribute [go_sem] bR9 bH1 Nat.zero_add Nat.add_zero decide_true decide_false and_self decide_eq_true_eq Bool.false_eq_true Bool.true_eq_false Bool.not_true Bool.not_false
attribute [go_sem] Bool.true_and Bool.and_true Bool.and_self Bool.true_or Bool.false_or Bool.or_true Bool.or_false Bool.and_false Bool.false_and not_false_eq_true not_true_eq_false Nat.le_refl
attribute [go_sem] Bool.decide_eq_true bu8 bE7 bE8 bw7 aq1 bD6 aH6 bG3 bB5 bO6 Tm.enc_len
attribute [go_sem] Tm.enc_at0 Tm.enc_pt0 Tm.enc_at1 Tm.enc_pt1 Tm.enc_at2 Tm.enc_pt2 Tm.enc_at3 Tm.enc_pt3 Gl.enc_len Gl.enc_at0 Gl.enc_pt0 Gl.enc_at1
attribute [go_sem] Gl.enc_pt1 Gl.enc_at2 Gl.enc_pt2 Gl.enc_at3 Gl.enc_pt3 Pf.enc_len Pf.enc_at0 Pf.enc_pt0 Pf.enc_at1 Pf.enc_pt1 Pf.enc_at2 Pf.enc_pt2
attribute [go_sem] Pf.enc_at3 Pf.enc_pt3 Fc.enc_len Fc.enc_at0 Fc.enc_pt0 Fc.enc_at1 Fc.enc_pt1 Bd.enc_len Bd.enc_at0 Bd.enc_pt0 Bd.enc_at1 Bd.enc_pt1
attribute [go_sem] Bd.enc_at2 Bd.enc_pt2 Bd.enc_at3 Bd.enc_pt3 Bd.enc_at4 Bd.enc_pt4 Bd.enc_st0
attribute [go_sem] Rl.enc_len Rl.enc_at0
attribute [go_sem] Rl.enc_pt0 Rl.enc_at1 Rl.enc_pt1 Rl.enc_at2 Rl.enc_pt2 Rl.enc_at3 Rl.enc_pt3 Rl.enc_at4 Rl.enc_pt4 Rl.enc_at5 Rl.enc_pt5 Rl.enc_at6
attribute [go_sem] Rl.enc_pt6 Rl.enc_st0 Pg.enc_len Pg.enc_at0 Pg.enc_pt0 Ru.enc_len Ru.enc_at0 Ru.enc_pt0 Ru.enc_at1 Ru.enc_pt1 Ru.enc_at2 Ru.enc_pt2
attribute [go_sem] Ru.enc_at3 Ru.enc_pt3 Ru.enc_at4 Ru.enc_pt4 Ru.enc_at5 Ru.enc_pt5 Ru.enc_st0 bG1 bF9 bG2 bG0 ev
attribute [go_sem] Abs.get Abs.put H9 l5 Abs.Value.flat cv cv1 J3 norm single C.refsLtT C.refsLt
attribute [go_sem] C.refsLt1 O.refsLt N9 cellsOf G9 bz6 C.cell D.cell cvD bU6  mkS
attribute [go_sem] List.length List.range List.range.loop List.zip List.zipWith List.map List.take List.drop List.all List.any List.getD List.set
attribute [go_sem] ne_eq List.nil_append List.cons_append List.append_nil List.getElem?_cons_zero List.getElem?_cons_succ List.getElem?_map List.length_map List.length_append List.forall_mem_map Option.getD_some Option.getD_none
attribute [go_sem] Option.map_some Option.map_none Option.bind_some Option.bind_none Option.all_some Option.all_none List.getElem?_toArray List.size_toArray List.toList_toArray List.all_toArray List.length_nil List.length_cons
attribute [go_sem] beq_self_eq_true bne_self_eq_false implies_true Int.toNat_natCast Int.natCast_nonneg Int.lt_irrefl Int.natCast_add gt_iff_lt ge_iff_le beq_iff_eq Bool.beq_eq_decide_eq List.drop_zero
attribute [go_sem] bB6 bG4 List.mem_cons List.not_mem_nil forall_eq_or_imp forall_eq false_or or_false false_implies true_and and_true
attribute [go_sem ↓] o6.eq_21 o6.eq_22
attribute [go_sem] U6.eq_def aa7.eq_def Q0.eq_def af3.eq_def ar7.eq_def ah9.eq_1 ah9.eq_2 am3.eq_1 am3.eq_2 kEq.eq_1 kEq.eq_2 am7.eq_1 am7.eq_2
attribute [go_sem] Tm.enc_tk0 Gl.enc_tk0 Pf.enc_tk0 Fc.enc_tk0 Bd.enc_tk0 Rl.enc_tk0 Pg.enc_tk0 Ru.enc_tk0 Ru.enc_tk2
theorem sd {p:Prop} (h:p:=by first | omega | assumption | simp;done | simp;omega):p:=h
theorem E8 {α β:Type} {b:Bool} {F:α->Prop} {x:α} {G:β->Prop} {y:β} {p q:Prop} (h:p->F x) (k:q->G y)
  (hp:(b=true)=p:=by first | simp only[decide_eq_true_eq,decide_eq_false_iff_not,bne_iff_ne,beq_iff_eq,beq_eq_false_iff_ne,bne_eq_false_iff_eq,Bool.not_eq_true,Bool.not_eq_false,ne_eq,Decidable.not_not,Int.not_lt,Int.not_le,Bool.not_eq_eq_eq_not,Bool.not_true,Bool.not_false,gt_iff_lt,ge_iff_le,Bool.and_eq_true,Bool.or_eq_true,Bool.or_eq_false_iff,Bool.and_eq_false_imp];rfl | rfl)
  (hq:(b=false)=q:=by first | simp only[decide_eq_true_eq,decide_eq_false_iff_not,bne_iff_ne,beq_iff_eq,beq_eq_false_iff_ne,bne_eq_false_iff_eq,Bool.not_eq_true,Bool.not_eq_false,ne_eq,Decidable.not_not,Int.not_lt,Int.not_le,Bool.not_eq_eq_eq_not,Bool.not_true,Bool.not_false,gt_iff_lt,ge_iff_le,Bool.and_eq_true,Bool.or_eq_true,Bool.or_eq_false_iff,Bool.and_eq_false_imp];rfl | rfl):br b (app F x) (app G y):=
 ⟨fun e=>h (hp ▸ e),fun e=>k (hq ▸ e)⟩
theorem bO0 {P:Program} {W:World} {r:Reach} {b0:Nat} {t:TypeId} {cs:Array Value} {l:Lf} (hl:leaves P 6 t=some [l]) (hst:tAgg P t=some false) (hv:Value.okWide P W r b0 t (.agg cs)):False:=by
 unfold tAgg at hst;unfold leaves at hl;unfold Value.okWide at hv;cases hu:P.underlying t with
 | none=>rw[hu] at hst;simp at hst
 | some u =>
  rw[hu] at hst hl hv;cases u<;>simp at hst hl<;>simp[Cell.okWide,Cell.ok,hu] at hv
theorem arg_one {H:Type} {enc:TypeId×Value->H} {P:Program} {W:World} {base:Nat} {sp:Nat->Bool} {held:Bool} {r:Reach} {b0:Nat} {t:TypeId} {v:Value} {d:DataW H} {ps:List MemPlace} {l:Lf} {L:List TypeId}
  (hst:tAgg P t=some false) (hv:Value.okWide P W r b0 t v) (hd:DataW.Trod enc P W base sp held t v d ps) (hcl:closedB P L=true) (hls:leaves P 6 t=some [l]) (hin:inL L [l]=true) :
  ∃x,Sh P t [x]/\RdD W (fun b _=>b<W.heap.size) x v:=by
 obtain⟨fuel,hf⟩:=hd;obtain⟨ds,h1,h2,h3⟩:=read hcl fuel 6 t _ _ [l] hf hls hin;have hvc:v.cells=#[v]:=by
  cases v<;>first | rfl | exact(bO0 hls hst hv).elim
 match ds,h1 with
 | [x],_ =>
  have hg:=h3 0 x v l rfl (by simp[hvc]) rfl;refine⟨x,⟨[l],hls,rfl,fun i l' c hl hc=>?_⟩,hg.1⟩;match i with
  | 0=>simp at hl hc;subst hl hc;exact hg.2.2
  | i+1=>simp at hl
theorem shL {α:Type} {P:Program} {t e:TypeId} {enc:α->List D} {x:D} (hl:leaves P 6 t=some [.sl e]) (h':∀x,Sh P e x->∃t,x=enc t) (h:Sh P t [x]):∃l:List α,x=.sl (l.map enc):=by
 obtain⟨n,h⟩:=cU2 hl h' _ h;exact⟨n,by simpa[co0] using h⟩
end Go.Abs

import Derived.Test.YtehgpkadkdekmaaGreatDoorJ1
import Derived.Laws.BytesArg
open List renaming getElem?_eq_some_iff->a_,getElem?_append_left->b_,getElem?_append_right->d_,length_append->f_,getElem?_set_self->g_,getElem?_toArray->i_,getElem?_eq_getElem->j_,getElem?_set_ne->k_,eq_nil_of_length_eq_zero->l_,length_pos_iff->o_,append_assoc->p_,getElem?_eq_none->q_,mem_of_getElem?->r_,getElem?_take->s_,getElem?_map->t_,mem_append->x_
open Nat renaming le_refl->c_,mul_le_mul_right->e_,add_mul->h_,add_zero->w_,sub_add_cancel->z_,zero_add->B_
open Array renaming getElem?_toList->m_,getElem?_eq_some_iff->n_,toList_inj->u_,length_toList->y_,getElem?_eq_none->A_
open Option renaming map_eq_some_iff->v_
set_option linter.unusedSimpArgs false
set_option linter.unusedVariables false
namespace Go.Abs
section
variable {P:Program} {E:Env}
theorem Q6 {c:C} {v:Value} (hr:Rd E c v) (hok:N9 c=true) :
  v.cells.size=(cellsOf c).length/\∀(i:Nat) (c':C) (v':Value),(cellsOf c)[i]? = some c'->v.cells[i]? = some v'->Rd E c' v'/\v'.oneCell'=true:=by
 have single:∀c v,Rd E c v->c.cell=true->cellsOf c=[c]->v.cells.size=(cellsOf c).length/\∀(i:Nat) (c':C) (v':Value),(cellsOf c)[i]? = some c'->v.cells[i]? = some v'->Rd E c' v'/\v'.oneCell'=true:=by
  intro c v hr hc he;have h1:=hr.oneCell hc;have hv:v.cells=#[v]:=by cases v<;>first | rfl | simp[Value.oneCell'] at h1
  rw[he,hv];refine⟨rfl,fun i c' v' hi hj=>?_⟩;match i,hi,hj with
  | 0,hi,hj=>simp at hi hj;subst hi hj;exact⟨hr,h1⟩
  | i+1,hi,hj=>simp at hi
 cases c with
 | agg cs =>
  cases hr with
  | agg _ vs hl h1 hr=>exact⟨hl,fun i c' v' hi hj=>⟨hr i c' v' hi hj,h1 i v' hj⟩⟩
 | d x =>
  cases x with
  | agg ds =>
   cases hr with
   | d _ _ hd =>
    cases hd with
    | agg _ vs hl h1 hr =>
     refine⟨by simpa[cellsOf,Value.cells] using hl,fun i c' v' hi hj=>?_⟩;simp only[cellsOf,t_,v_] at hi;obtain⟨d,hd,rfl⟩:=hi;exact⟨.d _ _ (hr i d v' hd hj),h1 i v' hj⟩
  | _=>exact single _ _ hr (by simpa[N9] using hok) rfl
 | _=>exact single _ _ hr (by simpa[N9] using hok) rfl
theorem foldl_set (off:Nat):∀(l:List Value) (j0:Nat) (cells:Array Value),
  ((l.zipIdx j0).foldl (fun (cs:Array Value) (x:Value×Nat)=>cs.setIfInBounds (off+x.2) x.1) cells).size=cells.size /\
  ∀k,((l.zipIdx j0).foldl (fun (cs:Array Value) (x:Value×Nat)=>cs.setIfInBounds (off+x.2) x.1) cells)[k]? =
   if off+j0<=k/\k<off+j0+l.length/\k<cells.size then l[k - (off+j0)]? else cells[k]?
 | [],j0,cells=>by
  refine⟨rfl,fun k=>?_⟩;simp only[List.zipIdx_nil,List.foldl_nil];rw[if_neg (by simp;omega)]
 | v :: l,j0,cells=>by
  obtain⟨h1,h2⟩:=foldl_set off l (j0+1) (cells.setIfInBounds (off+j0) v);simp only[List.zipIdx_cons,List.foldl_cons];refine⟨by rw[h1];simp,fun k=>?_⟩;rw[h2 k];simp only[Array.size_setIfInBounds,List.length_cons];by_cases e:k=off+j0
  ·subst e
   rw[if_neg (by omega)];by_cases hk:off+j0<cells.size
   ·rw[if_pos (by omega)];simp[hk]
   ·rw[if_neg (by omega)]
    rw[A_ (by simp;omega),A_ (by omega)]
  ·by_cases hk:off+(j0+1)<=k/\k<off+(j0+1)+l.length/\k<cells.size
   ·rw[if_pos hk,if_pos (by omega),show k - (off+j0)=(k - (off+(j0+1)))+1 by omega]
    simp
   ·rw[if_neg hk,if_neg (by omega),Array.getElem?_setIfInBounds_ne (fun h=>e h.symm)]
def Fits (E:Env) (cs:List C) (arr:Array Value):Prop:=
 arr.size=cs.length/\∀(i:Nat) (c:C) (v:Value),cs[i]? = some c->arr[i]? = some v->Rd E c v/\v.oneCell'=true
theorem Fits.splice {cs ys:List C} {arr vs:Array Value} {o:Nat} (h:Fits E cs arr) (k:Fits E ys vs) (hn:o+ys.length<=cs.length) :
  Fits E (cs.take o++ys++cs.drop (o+ys.length)) (vs.zipIdx.foldl (fun (cs:Array Value) (x:Value×Nat)=>cs.setIfInBounds (o+x.2) x.1) arr):=by
 have hf:vs.zipIdx.foldl (fun (cs:Array Value) (x:Value×Nat)=>cs.setIfInBounds (o+x.2) x.1) arr=(vs.toList.zipIdx 0).foldl (fun (cs:Array Value) (x:Value×Nat)=>cs.setIfInBounds (o+x.2) x.1) arr:=by
  rw[<-Array.foldl_toList,Array.toList_zipIdx]
 obtain⟨h1,h2⟩:=foldl_set o vs.toList 0 arr;obtain⟨a1,a2⟩:=h;obtain⟨b1,b2⟩:=k;rw[hf];refine⟨by rw[h1,a1];simp;omega,fun i c v hc hv=>?_⟩;rw[h2 i] at hv;simp only[w_,y_] at hv;simp only[p_] at hc;by_cases hi:o<=i/\i<o+vs.size/\i<arr.size
 ·rw[if_pos hi] at hv
  rw[d_ (by simp;omega),b_ (by simp;omega)] at hc;simp only[List.length_take] at hc;rw[show min o cs.length=o by omega] at hc;exact b2 _ c v hc (by simpa using hv)
 ·rw[if_neg hi] at hv
  have hia:=(n_.1 hv).1;refine a2 i c v ?_ hv;by_cases hio:i<o
  ·rw[b_ (by simp;omega),s_,if_pos hio] at hc
   exact hc
  ·rw[d_ (by simp;omega),d_ (by simp;omega),List.getElem?_drop] at hc
   simp only[List.length_take] at hc;rw[show o+ys.length+(i - min o cs.length - ys.length)=i by omega] at hc;exact hc
theorem aC7 {places:List (Nat×Nat)} {s:St} {K:List C->Prop}:∀(ps:List (Nat×Operand)) (cs:List C),S9 places s K ps cs ->
  ∃cs',K cs'/\∀E n a,RepSt E n s a->∀arr,Fits E cs arr->∃arr',Instr.fill (places.toArray[·]?) arr (ps.map fun x=>(x.1,a.eval x.2))=some arr'/\Fits E cs' arr'
 | [],cs,h=>⟨cs,h,fun E n a hst arr hf=>⟨arr,rfl,hf⟩⟩
 | (i,x) :: r,cs,h=>by
  unfold S9 at h;split at h
  ·rename_i o n hp
   obtain⟨h1,h2,h3,h4,h5⟩:=h;obtain⟨cs',hk,hall⟩:=aC7 r _ h5;refine⟨cs',hk,fun E n' a hst arr hf=>?_⟩;have hx:=Q6 (o9 hst x h1) h2;have hsp:=hf.splice (o:=o) hx (by omega);rw[h3] at hsp;obtain⟨arr',h6,h7⟩:=hall E n' a hst _ hsp;refine⟨arr',?_,h7⟩;have hsz:=hx.1;have hfs:=hf.1;simp only[List.map_cons,Instr.fill];rw[i_,hp];simp only;have hno:¬((a.eval x).cells.size≠n\/o+(a.eval x).cells.size > arr.size):=by omega
   rw[if_neg (by simpa using hno)];exact h6
  ·exact h.elim
theorem aW3 {s:St} {t:TypeId} {ps:Array (Nat×Operand)} {K:C->Prop}
  (h:match R3 P t with | some (z,places)=>S9 places s (cf6 K) ps.toList (z.map cv1) | none=>False) :
  aq0 P s K fun a=>Instr.build t (ps.map fun (i,x)=>(i,a.eval x)):=by
 split at h
 ·rename_i z places hb
  obtain⟨cs',hk,hall⟩:=aC7 _ _ h;refine⟨_,hk,fun E n a hst=>?_⟩;unfold R3 at hb;cases hi:P.info? t with
  | none=>simp[hi] at hb
  | some it =>
   cases hu:P.underlying t with
   | none=>simp[hi,hu] at hb
   | some d =>
    cases d<;>simp[hi,hu] at hb;rename_i fields;cases hz:it.zero with
    | none=>simp[hz] at hb
    | some zv =>
     cases hp:fields.toList.mapM (fun f=>(P.info? f.type).map fun i=>(f.offset,i.size)) with
     | none=>simp[hz,hp] at hb
     | some pl =>
      simp only[hz,hp] at hb;split at hb
      ·rename_i hone
       simp only[Option.some.injEq,Prod.mk.injEq] at hb;obtain⟨rfl,rfl⟩:=hb;have hf:Fits E (zv.cells.toList.map cv1) zv.cells:=by
        refine⟨by simp,fun i c v hc hv=>?_⟩;simp only[t_,m_,hv,Option.map_some,Option.some.injEq] at hc;subst hc;refine⟨aL3 E v,?_⟩;obtain⟨hlt,rfl⟩:=n_.1 hv;exact hone i hlt
       obtain⟨arr',h6,h7⟩:=hall E n a hst _ hf;refine⟨.agg arr',run_build _ _ _ _ ?_,.agg _ _ h7.1 (fun i v hv=>?_) (fun i c v hc hv=>(h7.2 i c v hc hv).1)⟩
       ·unfold Program.built
        simp only[hi,hu,hz,hp];simpa using h6
       ·have hlt:i<cs'.length:=by rw[<-h7.1];exact(n_.1 hv).1
        exact(h7.2 i _ v (j_ hlt) hv).2
      ·simp at hb
 ·exact h.elim
theorem aq0.yields {s:St} {o:Oper} {K:C->Prop} {run:Act->Sem Value} (h:aq0 P s K run) (hr:∀a,execOp a.eval o=(do pure (.value (<-run a)))) :
  ∃c,K c/\∀E n a,RepSt E n s a->Yields P E a o c:=by
 obtain⟨c,hk,hall⟩:=h;refine⟨c,hk,fun E n a hst=>?_⟩;obtain⟨u,h1,h2⟩:=hall E n a hst;exact⟨u,by rw[hr a];simp[h1],h2⟩
theorem bl1 {w:World} {S:Nat->Nat->Prop} (src e:TypeId) (hs:P.underlying src=some (.slice e)) (he:P.underlying e=some (.int .u8)) {xs:List (List D)} {l:List Int} (hl:bytesOf xs=some l) {v:Value} (hd:RdD w S (.sl xs) v) :
  ∀dst,P.underlying dst=some .string->(convert src dst v).run P w=.ok (.string (strOfNums l)) w:=by
 intro dst hdst;have hxs:=aD1 _ _ hl;cases hd with
 | nil a cap =>
  cases l with
  | nil =>
   cases a with
   | none=>exact run_convert_bytes_nil w src e hs he 0 cap dst hdst
   | some a =>
    obtain⟨b,off,pt⟩:=a;rw[run_convert_bytes_string w src dst e _ 0 cap hs he hdst,run_bytesToString w _ 0 cap [] (by simpa using run_loadCells_list (P:=P) w ⟨b,off,pt⟩ [] (by simp))];rfl
  | cons=>cases hxs
 | sl b off cap z xs val hne hcap hmax hz hc hr =>
  subst hxs;have hz1:z=1:=by
   cases l with
   | nil=>exact absurd rfl hne
   | cons n l=>exact(hz [.int .u8 n] (by simp)).symm
  subst hz1;refine run_convert_bytes_arg w src e hs he b off _ cap l (by simp) (fun i hi=>?_) dst hdst;obtain⟨h1,h2,h3⟩:=hc i 0 hi (by decide);have hi':i<l.length:=by simpa using hi
  have:=hr i 0 [.int .u8 l[i]] (.int .u8 l[i]) (by simp[j_ hi']) rfl;simp only[Nat.mul_one,w_] at h2;rw[h2];generalize val i 0=v' at *;cases this;simp[List.getD,j_ hi']
theorem an6 {s:St} {o:Oper} {K:C->Prop} (h:o6 P s o.op K):∃c,K c/\∀E n a,RepSt E n s a->Yields P E a o c:=by
 obtain⟨dst,op,type,pos,after,guard⟩:=o;dsimp only at h;unfold o6 at h;split at h
 ·exact⟨_,h.2,fun E n a hst=>⟨_,by simp[execOp],o9 hst _ h.1⟩⟩
 ·exact⟨_,h.2,fun E n a hst=>⟨_,by simp[execOp],o9 hst _ h.1⟩⟩
 ·rename_i c x y
  obtain⟨h1,h2,h3,h4⟩:=h;split at h4
  ·rename_i b hb
   refine⟨_,h4,fun E n a hst=>⟨if b then a.eval x else a.eval y,?_,?_⟩⟩
   ·have hv:=o9 hst c h1
    rw[hb] at hv;generalize hg:a.eval c=v at hv;cases hv with
    | d _ _ hd=>cases hd;simp[execOp,hg,asBool]
   ·cases b
    ·exact o9 hst y h3
    ·exact o9 hst x h2
  ·exact h4.elim
 ·exact(aB6 h.1 h.2).yields (fun a=>rfl)
 ·rename_i x
  obtain⟨h1,h2⟩:=h;split at h2
  ·rename_i cs hb
   refine⟨_,h2,fun E n a hst=>⟨a.eval x,?_,by have:=o9 hst x h1;rwa [hb] at this⟩⟩;have hv:=o9 hst x h1;rw[hb] at hv;generalize hg:a.eval x=v at hv;cases hv;simp[execOp,hg]
  ·rename_i r off hb
   refine⟨_,h2,fun E n a hst=>⟨a.eval x,?_,by have:=o9 hst x h1;rwa [hb] at this⟩⟩;have hv:=o9 hst x h1;rw[hb] at hv;generalize hg:a.eval x=v at hv;cases hv;simp[execOp,hg]
  ·rename_i r z i off hb
   refine⟨_,h2,fun E n a hst=>⟨a.eval x,?_,by have:=o9 hst x h1;rwa [hb] at this⟩⟩;have hv:=o9 hst x h1;rw[hb] at hv;generalize hg:a.eval x=v at hv;cases hv;simp[execOp,hg]
  ·rename_i f cs hb
   refine⟨_,h2,fun E n a hst=>⟨a.eval x,?_,by have:=o9 hst x h1;rwa [hb] at this⟩⟩;have hv:=o9 hst x h1;rw[hb] at hv;generalize hg:a.eval x=v at hv;cases hv;simp[execOp,hg]
  ·exact h2.elim
 ·exact(aw7 h.1 h.2).yields (fun a=>rfl)
 ·exact(aU9 h.1 h.2).yields (fun a=>rfl)
 ·exact(av8 h.1 h.2.1 h.2.2).yields (fun a=>rfl)
 ·exact(aU5 h.1 h.2.1 h.2.2).yields (fun a=>rfl)
 ·exact by5 rfl h.1 h.2.1 h.2.2
 ·rename_i op t x
  obtain⟨h1,h2⟩:=h;split at h2
  ·rename_i b hb
   refine⟨_,h2,fun E n a hst=>⟨.bool (!b),?_,.d _ _ (.bool _)⟩⟩;have hv:=o9 hst x h1;rw[hb] at hv;generalize hg:a.eval x=v at hv;cases hv with
   | d _ _ hd=>cases hd;simp[execOp,hg,Op.unary]
  ·rename_i k m hb
   refine⟨_,h2,fun E n a hst=>⟨.int k (k.wrap (0 - m)),?_,.d _ _ (.int _ _)⟩⟩;have hv:=o9 hst x h1;rw[hb] at hv;generalize hg:a.eval x=v at hv;cases hv with
   | d _ _ hd=>cases hd;simp[execOp,hg,Op.unary,Op.intArith]
  ·exact h2.elim
 ·exact(aR7 h.1 h.2.1 h.2.2.1 h.2.2.2).yields (fun a=>rfl)
 ·exact(aM4 h.1 h.2.1 h.2.2).yields (fun a=>rfl)
 ·exact(aV1 h.1 h.2).yields (fun a=>rfl)
 ·rename_i x i
  obtain⟨h1,h2⟩:=h;split at h2
  ·rename_i cs hb
   obtain⟨hi,hk⟩:=h2;refine⟨_,hk,fun E n a hst=>?_⟩;have hv:=o9 hst x h1;rw[hb] at hv;generalize hg:a.eval x=v at hv;cases hv with
   | tup _ vs hl hr =>
    have hvs:vs[i]? = some (vs[i]'(by omega)):=Array.getElem?_eq_getElem _;refine⟨vs[i]'(by omega),by simp[execOp,hg,Instr.extract,hvs],hr i _ _ ?_ hvs⟩;rw[List.getD_eq_getElem?_getD,j_ hi];rfl
  ·exact h2.elim
 ·rename_i t x
  obtain⟨h1,h2,h3⟩:=h;have hu:∃e,P.underlying t=some (.slice e):=by
   unfold q9 at h2;split at h2
   ·rename_i e he;exact⟨e,he⟩
   ·simp at h2
  obtain⟨e,hu⟩:=hu;exact⟨_,h3,fun E n a hst=>⟨.iface t (a.eval x),by simp[execOp,Instr.makeInterface,run_underlying hu],.ifc _ _ _ (o9 hst x h1)⟩⟩
 ·rename_i f first cap
  obtain⟨rfl,h1,hk⟩:=h;refine⟨_,hk,fun E n a hst=>⟨.func (.func f) #[] (cap.map a.eval),by simp[execOp,Instr.makeFunc],.fn _ _ _ (by simp) (fun i c v hc hv=>?_)⟩⟩;simp only[t_,v_] at hc;obtain⟨x,hx,rfl⟩:=hc;simp only[Array.getElem?_map,v_] at hv;obtain⟨x',hx',rfl⟩:=hv;rw[m_] at hx;rw[hx] at hx';cases hx';obtain⟨hlt,rfl⟩:=n_.1 hx;exact o9 hst _ (by simp only[Array.all_eq_true] at h1;exact h1 i hlt)
 ·rename_i src dst' x
  obtain⟨h1,h2⟩:=h;split at h2
  ·rename_i k m hb
   split at h2
   ·rename_i k' hk'
    obtain⟨hs,hk⟩:=h2;refine⟨_,hk,fun E n a hst=>⟨.int k' (k'.wrap m),?_,.d _ _ (.int _ _)⟩⟩;have hv:=q8 hst (o9 hst x h1);rw[hb] at hv;generalize hg:a.eval x=v at hv;cases hv with
    | d _ _ hd =>
     cases hd;obtain⟨ds,hds⟩:=Option.isSome_iff_exists.1 hs;simp[execOp,hg,convert,run_underlying hds,run_underlying (as1 hk'),Conv.intToInt]
   ·exact h2.elim
  ·rename_i xs hb
   split at h2
   ·rename_i l hl
    obtain⟨hs,hd',hk⟩:=h2;have hd2:P.underlying dst'=some .string:=by
     unfold F9 at hd';split at hd'<;>simp_all
    obtain⟨e,he1,he2⟩:∃e,P.underlying src=some (.slice e)/\P.underlying e=some (.int .u8):=by
     unfold aE3 at hs;split at hs
     ·rename_i e h'
      split at hs
      ·exact⟨e,h',by assumption⟩
      ·cases hs
     ·cases hs
    refine⟨_,hk,fun E n a hst=>⟨.string (strOfNums l),?_,.d _ _ (.str _)⟩⟩;have hv:=q8 hst (o9 hst x h1);rw[hb] at hv;generalize hg:a.eval x=v at hv;cases hv with
    | d _ _ hd =>
     have:=bl1 (P:=P) src e he1 he2 hl hd dst' hd2;simp[execOp,hg,this]
   ·exact h2.elim
  ·exact h2.elim
 ·exact(aW3 h).yields (fun a=>rfl)
 ·rename_i cl
  obtain⟨callee,args,argTypes⟩:=cl;dsimp only at h;split at h
  ·split at h
   ·rename_i x t hargs hts
    have e1:args=#[x]:=u_.1 (by simpa using hargs);have e2:argTypes=#[t]:=u_.1 (by simpa using hts);subst e1 e2;refine(bt5 (ty:=type) h.1 h.2).yields (fun a=>?_);simp[execOp,resolve,invoke,builtin]
   ·exact h.elim
  ·split at h
   ·rename_i x y hargs
    have e1:args=#[x,y]:=u_.1 (by simpa using hargs);subst e1;obtain⟨h1,h2,h3⟩:=h;split at h3
    ·rename_i k p k' q hp hq
     obtain⟨rfl,hk⟩:=h3;refine⟨_,hk,fun E n a hst=>⟨.int k (if p<q then q else p),?_,.d _ _ (.int _ _)⟩⟩;have hv:=o9 hst x h1;have hw:=o9 hst y h2;rw[hp] at hv;rw[hq] at hw;generalize hg:a.eval x=v at hv;generalize hg':a.eval y=v' at hw;cases hv with
     | d _ _ hd =>
      cases hd;cases hw with
      | d _ _ hd=>cases hd;simp[execOp,resolve,invoke,builtin,hg,hg',Builtin.max_,Builtin.max2]
    ·exact h3.elim
   ·exact h.elim
  ·split at h
   ·rename_i x y hargs
    have e1:args=#[x,y]:=u_.1 (by simpa using hargs);subst e1;obtain⟨h1,h2,h3⟩:=h;split at h3
    ·rename_i k p k' q hp hq
     obtain⟨rfl,hk⟩:=h3;refine⟨_,hk,fun E n a hst=>⟨.int k (if q<p then q else p),?_,.d _ _ (.int _ _)⟩⟩;have hv:=o9 hst x h1;have hw:=o9 hst y h2;rw[hp] at hv;rw[hq] at hw;generalize hg:a.eval x=v at hv;generalize hg':a.eval y=v' at hw;cases hv with
     | d _ _ hd =>
      cases hd;cases hw with
      | d _ _ hd=>cases hd;simp[execOp,resolve,invoke,builtin,hg,hg',Builtin.min_,Builtin.min2]
    ·exact h3.elim
   ·exact h.elim
  ·exact h.elim
 ·exact h.elim
end
section
variable {P:Program} {E E':Env}
theorem O.block_same {r:Nat} {o:O} (hβ:E'.β r=E.β r) (hτ:E'.τ r=E.τ r):o.block E' r=o.block E r:=by
 cases o<;>simp[O.block,hβ,hτ]
theorem J4.keep {r:Nat} {o:O} (hl:Le E E') (hr:r<E.N) (hτ:E'.τ r=E.τ r)
  (hb:∀b,o.block E r b->E'.w.heap[b]? = E.w.heap[b]?/\∀i,E'.S b i->E.S b i) (h:J4 E r o):J4 E' r o:=by
 have hβ:=hl.β r hr;cases o with
 | box cs =>
  obtain⟨arr,e,h1,h2,h3,h4⟩:=h;obtain⟨k1,k2⟩:=hb _ rfl;refine⟨arr,e,by rw[hβ,k1];exact h1,h2,fun i c v hc hv=>?_,fun i hs=>h4 i (k2 i (by rwa [hβ] at hs))⟩;obtain⟨a1,a2⟩:=h3 i c v hc hv;exact⟨a1.le hl,a2⟩
 | grow q z e xs =>
  obtain⟨h0,hz,hz0,h⟩:=h;refine⟨by rw[hτ];exact h0,hz,hz0,?_⟩;rcases h with h | ⟨b,cap,arr,h1,h2,h0',h3,h4,h5,h6,h7⟩
  ·left;rw[hτ];exact h
  ·right
   obtain⟨k1,k2⟩:=hb b (by simp[O.block,h1,ownB];omega);refine⟨b,cap,arr,by rw[hτ];exact h1,by rw[k1];exact h2,h0',h3,h4,h5,fun i j x c hi hj=>?_,fun i hi hs=>h7 i hi (k2 i hs)⟩;obtain⟨a1,v,a2,a3,a4⟩:=h6 i j x c hi hj;exact⟨hl.S _ _ a1,v,a2,a3,a4.le hl⟩
 | que q z e xs =>
  obtain⟨h0,hz,hz0,h⟩:=h;refine⟨by rw[hτ];exact h0,hz,hz0,?_⟩;rcases h with h | ⟨b,o,cap,arr,h1,h2,h0',h3,h4,h5,h6,h7⟩
  ·left;rw[hτ];exact h
  ·right
   obtain⟨k1,k2⟩:=hb b (by simp[O.block,h1,ownB];omega);refine⟨b,o,cap,arr,by rw[hτ];exact h1,by rw[k1];exact h2,h0',h3,h4,h5,fun i j x c hi hj=>?_,fun i hi hs=>h7 i hi (k2 i hs)⟩;obtain⟨a1,v,a2,a3,a4⟩:=h6 i j x c hi hj;exact⟨hl.S _ _ a1,v,a2,a3,a4.le hl⟩
 | row z e xs =>
  obtain⟨arr,h1,h2,h3,h3',h4,h5⟩:=h;obtain⟨k1,k2⟩:=hb _ rfl;refine⟨arr,by rw[hβ,k1];exact h1,h2,h3,h3',fun i j x c hi hj=>?_,fun i hs=>h5 i (k2 i (by rwa [hβ] at hs))⟩;obtain⟨v,a2,a3,a4⟩:=h4 i j x c hi hj;exact⟨v,a2,a3,a4.le hl⟩
 | map sk es =>
  obtain⟨arr,h1,h2,h3,h4⟩:=h;obtain⟨k1,k2⟩:=hb _ rfl;refine⟨arr,by rw[hβ,k1];exact h1,h2,fun i x m hx hm=>?_,fun i hs=>h4 i (k2 i (by rwa [hβ] at hs))⟩;obtain⟨a0,a1,a2,a3⟩:=h3 i x m hx hm;exact⟨a0,a1.le hl,a2.le hl,a3⟩
 | iter m since c0 seen =>
  obtain⟨h0,h1,h2⟩:=h;obtain⟨k1,k2⟩:=hb _ rfl;exact⟨h0,by rw[hβ,k1,hl.β m (Nat.lt_trans h0 hr)];exact h1,fun i hs=>h2 i (k2 i (by rwa [hβ] at hs))⟩
 | buf q z e xs =>
  obtain⟨h0,hz,hz0,h⟩:=h;refine⟨by rw[hτ];exact h0,hz,hz0,?_⟩;rcases h with h | ⟨b,cap,arr,h1,h2,h0',h3,h4,h5,h6,h7⟩
  ·left;rw[hτ];exact h
  ·right
   have hx:=o_.2 h0';obtain⟨k1,k2⟩:=hb b (by simp[O.block,h1,ownB];omega);refine⟨b,cap,arr,by rw[hτ];exact h1,by rw[k1];exact h2,h0',h3,h4,h5,fun i j x c hi hj=>?_,fun i hs=>h7 i (k2 i hs)⟩;obtain⟨v,a2,a3,a4⟩:=h6 i j x c hi hj;exact⟨v,a2,a3,a4.le hl⟩
 | tree q z e xs B L =>
  obtain⟨h0,hz,hz0,hS,h⟩:=h;refine⟨by rw[hτ];exact h0,hz,hz0,fun b hB i hs=>hS b hB i ((hb b (.inr hB)).2 i hs),?_⟩;rcases h with h | ⟨b,cap,arr,h1,h2,h0',h3,h4,h5,h6,h7,h8,h9⟩
  ·left;rw[hτ];exact h
  ·right
   have hx:=o_.2 h0';obtain⟨k1,k2⟩:=hb b (.inl (by simp[h1,ownB];omega));exact⟨b,cap,arr,by rw[hτ];exact h1,by rw[k1];exact h2,h0',h3,h4,h5,h6.keep (fun b' hb'=>(hb b' (.inr hb')).1),h7,fun i hs=>h8 i (k2 i hs),h9.le hl⟩
 | hole=>simp only[J4] at h |-;rw[hτ];exact h
 | dead=>trivial
 | pb cs =>
  obtain⟨h0,b,arr,e,h1,h2,h3,h4,h5⟩:=h;obtain⟨k1,k2⟩:=hb b h1;exact⟨by rw[hτ];exact h0,b,arr,e,by rw[hτ];exact h1,by rw[k1];exact h2,h3,fun i c v hc hv=>by obtain⟨a1,a2⟩:=h4 i c v hc hv;exact⟨a1.le hl,a2⟩,fun i hs=>h5 i (k2 i hs)⟩
 | bld T e bs =>
  obtain⟨p,h1,h2,h3,h4,h5⟩:=h;obtain⟨k1,_⟩:=hb _ (.inl rfl);refine⟨p,by rw[hβ];exact h1,by rw[hβ,hτ,k1];exact h2,?_,by rw[hβ,hτ];exact h4,fun b hb' i hs=>?_⟩
  ·rw[hτ]
   rcases h3 with h3 | ⟨b,cap,arr,a1,a2,a3,a4,a5⟩
   ·exact .inl h3
   ·have:=o_.2 a3
    exact .inr ⟨b,cap,arr,a1,by rw[(hb b (.inr (by rw[a1];simp[ownB];omega))).1];exact a2,a3,a4,a5⟩
  ·rw[hβ,hτ] at hb'
   exact h5 b hb' i ((hb b hb').2 i hs)
 | mix q z e ys xs B =>
  obtain⟨h0,hz,hz0,hS,h⟩:=h;refine⟨by rw[hτ];exact h0,hz,hz0,fun b hB i hs=>hS b hB i ((hb b (.inr hB)).2 i hs),?_⟩;rcases h with h | ⟨b,cap,arr,h1,h2,h0',h3,h4,h5,h6,h7,h8,h9⟩
  ·left;rw[hτ];exact h
  ·right
   have hx:=o_.2 h0';obtain⟨k1,k2⟩:=hb b (.inl (by simp[h1,ownB];omega));exact⟨b,cap,arr,by rw[hτ];exact h1,by rw[k1];exact h2,h0',h3,h4,h5,h6.keep (fun b' hb'=>(hb b' (.inr hb')).1),h7,fun i hs=>h8 i (k2 i hs),fun i j y x c a1 a2 a3 a4=>by obtain⟨v,b1,b2,b3⟩:=h9 i j y x c a1 a2 a3 a4;exact⟨v,b1,b2,b3.le hl⟩⟩
 | crate L B =>
  obtain⟨h1,Bs,h2,h3,h4⟩:=h;exact⟨fun b hB i hs=>h1 b hB i ((hb b hB).2 i hs),Bs,fun k v d hk=>⟨(h2 k v d hk).1,(h2 k v d hk).2.keep (fun b hbb=>(hb b (h3 k b hbb)).1)⟩,h3,h4⟩
 | tab g vs=>exact fun j hj=>⟨hl.S _ _ (h j hj).1,(hl.cell _ _ (h j hj).1).trans (h j hj).2⟩
theorem RepH.keep {H:List O} (h:RepH E H) (hl:Le E E') (hN:E'.N=E.N) (hτ:∀r,r<E.N->E'.τ r=E.τ r)
  (hb:∀(r:Nat) (o:O) (b:Nat),H[r]? = some o->o.block E r b->E'.w.heap[b]? = E.w.heap[b]?/\∀i,E'.S b i->E.S b i)
  (hpv:∀b,E.pv b->E'.pv b) (hS:∀b i,E'.S b i->b<E'.w.heap.size):RepH E' H:=by
 have hlt:∀{r:Nat} {o:O},H[r]? = some o->r<E.N:=fun ho=>by rw[h.N];exact(a_.1 ho).1
 have hblk:∀{r:Nat} {o:O},H[r]? = some o->o.block E' r=o.block E r:=fun ho=>O.block_same (hl.β _ (hlt ho)) (hτ _ (hlt ho));refine⟨by rw[hN,h.N],fun r o ho=>?_,fun r o b ho hbk=>?_,fun r o b ho hbk=>?_,fun r r' o o' b ho ho' hbk hbk'=>?_,hS⟩
 ·exact(h.obj r o ho).keep hl (hlt ho) (hτ _ (hlt ho)) (fun b hbk=>hb r o b ho hbk)
 ·rw[hblk ho] at hbk;exact hpv b (h.pv r o b ho hbk)
 ·rw[hblk ho] at hbk;exact Nat.lt_of_lt_of_le (h.lt r o b ho hbk) hl.size
 ·rw[hblk ho] at hbk
  rw[hblk ho'] at hbk';exact h.apart r r' o o' b ho ho' hbk hbk'
theorem RepH.turn {H H':List O} {r0:Nat} {o0:O} (h:RepH E H) (hl:Le E E') (hN:E'.N=H'.length)
  (hH:∀(r:Nat),r≠r0->H'[r]? = H[r]?) (h0:∀o,H'[r0]? = some o->o=o0)
  (hτ:∀r,r≠r0->r<E.N->E'.τ r=E.τ r)
  (hb:∀(r:Nat) (o:O) (b:Nat),r≠r0->H[r]? = some o->o.block E r b->E'.w.heap[b]? = E.w.heap[b]?/\∀i,E'.S b i->E.S b i)
  (hpv:∀b,E.pv b->E'.pv b) (hS:∀b i,E'.S b i->b<E'.w.heap.size)
  (ho0:J4 E' r0 o0) (hblk0:∀b,o0.block E' r0 b->E'.pv b/\b<E'.w.heap.size /\
   ∀(r:Nat) (o:O),r≠r0->H[r]? = some o->¬o.block E r b):RepH E' H':=by
 have hlt:∀{r:Nat} {o:O},H[r]? = some o->r<E.N:=fun ho=>by rw[h.N];exact(a_.1 ho).1
 have hblk:∀{r:Nat} {o:O},r≠r0->H[r]? = some o->o.block E' r=o.block E r:=fun hne ho=>O.block_same (hl.β _ (hlt ho)) (hτ _ hne (hlt ho));refine⟨hN,fun r o ho=>?_,fun r o b ho hbk=>?_,fun r o b ho hbk=>?_,fun r r' o o' b ho ho' hbk hbk'=>?_,hS⟩
 ·by_cases e:r=r0
  ·subst e;rw[h0 o ho];exact ho0
  ·rw[hH r e] at ho
   exact(h.obj r o ho).keep hl (hlt ho) (hτ _ e (hlt ho)) (fun b hbk=>hb r o b e ho hbk)
 ·by_cases e:r=r0
  ·subst e;rw[h0 o ho] at hbk;exact(hblk0 b hbk).1
  ·rw[hH r e] at ho;rw[hblk e ho] at hbk;exact hpv b (h.pv r o b ho hbk)
 ·by_cases e:r=r0
  ·subst e;rw[h0 o ho] at hbk;exact(hblk0 b hbk).2.1
  ·rw[hH r e] at ho;rw[hblk e ho] at hbk;exact Nat.lt_of_lt_of_le (h.lt r o b ho hbk) hl.size
 ·by_cases e:r=r0
  ·subst e
   rw[h0 o ho] at hbk;by_cases e':r'=r
   ·exact e'.symm
   ·rw[hH r' e'] at ho'
    rw[hblk e' ho'] at hbk';exact absurd hbk' ((hblk0 b hbk).2.2 r' o' e' ho')
  ·rw[hH r e] at ho
   rw[hblk e ho] at hbk;by_cases e':r'=r0
   ·subst e'
    rw[h0 o' ho'] at hbk';exact absurd hbk ((hblk0 b hbk').2.2 r o e ho)
   ·rw[hH r' e'] at ho'
    rw[hblk e' ho'] at hbk';exact h.apart r r' o o' b ho ho' hbk hbk'
def Env.newObj (E:Env) (o:Obj):Env:=
 { E with w:=E.w.alloc o,N:=E.N+1,β:=fun r=>if r=E.N then E.w.heap.size else E.β r,pv:=fun b=>E.pv b\/b=E.w.heap.size }
theorem L6 {H:List O} (h:RepH E H) (o:Obj):Le E (E.newObj o) where
 os:=rfl
 tape:=rfl
 output:=rfl
 size:=by simp[Env.newObj]
 N:=by simp[Env.newObj]
 β r hr:=by simp only[Env.newObj];rw[if_neg (by omega)]
 τ r hr:=⟨c_ _,fun _=>rfl⟩
 S b i hs:=hs
 cell b i hs:=World.cell?_alloc_lt E.w o _ (h.Slt b i hs)
 blk b hb hp:=heap_alloc_old E.w o b hb
 newS b i hs:=.inl hs
 newP b hp:=by
  rcases hp with hp | rfl
  ·exact .inl hp
  ·exact .inr (c_ _)
 map b i arr n hs hh:=(heap_alloc_old E.w o b (h.Slt b i hs)).trans hh
theorem aB1 {H:List O} (h:RepH E H) {cs:List C} {arr:Array Value} {e:TypeId} (hf:Fits E cs arr):RepH (E.newObj (.cells arr e)) (H++[.box cs]):=by
 have hl:=L6 h (.cells arr e);refine h.turn (r0:=H.length) (o0:=.box cs) hl (by simp[Env.newObj,h.N]) (fun r hr=>?_) (fun o ho=>?_) (fun r hr hr'=>rfl) (fun r o b hr ho hb=>?_) (fun b hb=>.inl hb) (fun b i hs=>?_) ?_ (fun b hb=>?_)
 ·by_cases hlt:r<H.length
  ·rw[b_ hlt]
  ·rw[q_ (by simp;omega),q_ (by omega)]
 ·simpa using ho.symm
 ·exact⟨heap_alloc_old E.w _ b (h.lt r o b ho hb),fun i hs=>hs⟩
 ·have:=h.Slt b i hs
  simp only[Env.newObj,World.size_alloc];omega
 ·have hβ:(E.newObj (.cells arr e)).β H.length=E.w.heap.size:=by simp[Env.newObj,h.N]
  refine⟨arr,e,by rw[hβ];exact heap_alloc_new E.w _,hf.1,fun i c v hc hv=>?_,fun i hs=>?_⟩
  ·obtain⟨h1,h2⟩:=hf.2 i c v hc hv
   exact⟨h1.le hl,h2⟩
  ·rw[hβ] at hs
   have:=h.Slt _ i hs;omega
 ·have hβ:(E.newObj (.cells arr e)).β H.length=E.w.heap.size:=by simp[Env.newObj,h.N]
  simp only[O.block,hβ] at hb;subst hb;refine⟨.inr rfl,by simp[Env.newObj],fun r o hr ho hb=>?_⟩;have:=h.lt r o _ ho hb;omega
theorem bf5 {H:List O} (h:RepH E H) {xs:List (List D)} {arr:Array Value} {z e:TypeId} (hs:arr.size=xs.length * z) (hz:∀x,x∈xs->x.length=z) (hm:xs.length<=maxLen)
  (hf:∀(i j:Nat) (x:List D) (c:D),xs[i]? = some x->x[j]? = some c->∃(v:Value),arr[i * z+j]? = some v/\v.oneCell'=true/\RdD E.w E.S c v) :
  RepH (E.newObj (.cells arr e)) (H++[.row z e xs]):=by
 have hl:=L6 h (.cells arr e);refine h.turn (r0:=H.length) (o0:=.row z e xs) hl (by simp[Env.newObj,h.N]) (fun r hr=>?_) (fun o ho=>?_) (fun r hr hr'=>rfl) (fun r o b hr ho hb=>?_) (fun b hb=>.inl hb) (fun b i hs=>?_) ?_ (fun b hb=>?_)
 ·by_cases hlt:r<H.length
  ·rw[b_ hlt]
  ·rw[q_ (by simp;omega),q_ (by omega)]
 ·simpa using ho.symm
 ·exact⟨heap_alloc_old E.w _ b (h.lt r o b ho hb),fun i hs=>hs⟩
 ·have:=h.Slt b i hs
  simp only[Env.newObj,World.size_alloc];omega
 ·have hβ:(E.newObj (.cells arr e)).β H.length=E.w.heap.size:=by simp[Env.newObj,h.N]
  refine⟨arr,by rw[hβ];exact heap_alloc_new E.w _,hs,hz,hm,fun i j x c hi hj=>?_,fun i hs=>?_⟩
  ·obtain⟨v,h1,h2,h3⟩:=hf i j x c hi hj
   exact⟨v,h1,h2,h3.le hl⟩
  ·rw[hβ] at hs
   have:=h.Slt _ i hs;omega
 ·have hβ:(E.newObj (.cells arr e)).β H.length=E.w.heap.size:=by simp[Env.newObj,h.N]
  simp only[O.block,hβ] at hb;subst hb;refine⟨.inr rfl,by simp[Env.newObj],fun r o hr ho hb=>?_⟩;have:=h.lt r o _ ho hb;omega
def Env.newData (E:Env) (o:Obj):Env:=
 { E with w:=E.w.alloc o,S:=fun b i=>E.S b i\/b=E.w.heap.size }
theorem ad4 {H:List O} (h:RepH E H) (o:Obj):Le E (E.newData o) where
 os:=rfl
 tape:=rfl
 output:=rfl
 size:=by simp[Env.newData]
 N:=c_ _
 β r hr:=rfl
 τ r hr:=⟨c_ _,fun _=>rfl⟩
 S b i hs:=.inl hs
 cell b i hs:=World.cell?_alloc_lt E.w o _ (h.Slt b i hs)
 blk b hb hp:=heap_alloc_old E.w o b hb
 newS b i hs:=by
  rcases hs with hs | rfl
  ·exact .inl hs
  ·exact .inr (.inl (c_ _))
 newP b hp:=.inl hp
 map b i arr n hs hh:=(heap_alloc_old E.w o b (h.Slt b i hs)).trans hh
theorem au2 {H:List O} (h:RepH E H) (o:Obj):RepH (E.newData o) H:=
 h.keep (ad4 h o) rfl (fun _ _=>rfl) (fun r o' b ho hb=>⟨heap_alloc_old E.w _ b (h.lt r o' b ho hb),fun i hs=>by
  rcases hs with hs | rfl
  ·exact hs
  ·have:=h.lt r o' _ ho hb;omega⟩) (fun b hb=>hb) (fun b i hs=>by
  simp only[Env.newData,World.size_alloc];rcases hs with hs | rfl
  ·have:=h.Slt b i hs;omega
  ·omega)
def Env.drew (E:Env):Env:={ E with w:=E.w.drew }
theorem ag4 (E:Env):Le E E.drew:=
 ⟨rfl,rfl,rfl,c_ _,c_ _,fun _ _=>rfl,fun _ _=>⟨c_ _,fun _=>rfl⟩,fun _ _ h=>h,fun _ _ _=>rfl,fun _ _ _=>rfl,fun _ _ h=>.inl h,fun _ h=>.inl h,fun _ _ _ _ _ hh=>hh⟩
theorem aF3 {H:List O} (h:RepH E H):RepH E.drew H:=
 h.keep (ag4 E) rfl (fun _ _=>rfl) (fun _ _ _ _ _=>⟨rfl,fun _ hs=>hs⟩) (fun _ hb=>hb) (fun b i hs=>h.Slt b i hs)
def Env.setRow (E:Env) (b:Nat) (arr:Array Value):Env:={ E with w:=E.w.setRow b arr }
theorem R7 {b:Nat} {arr:Array Value} (hp:E.pv b) (hS:∀i,¬E.S b i):Le E (E.setRow b arr) where
 os:=rfl
 tape:=rfl
 output:=rfl
 size:=by simp[Env.setRow]
 N:=c_ _
 β r hr:=rfl
 τ r hr:=⟨c_ _,fun _=>rfl⟩
 S b i hs:=hs
 cell b' i hs:=cell_setRow_other E.w b arr _ (fun e=>hS i (by subst e;exact hs))
 blk b' hb hp':=setRow_other E.w b b' arr (fun e=>hp' (by subst e;exact hp))
 newS b i hs:=.inl hs
 newP b hp:=.inl hp
 map b' i a n hs hh:=(setRow_other E.w b b' arr (fun e=>hS i (by subst e;exact hs))).trans hh
theorem aA9 {H:List O} (h:RepH E H) {r0:Nat} {o o0:O} {arr:Array Value} (ho:H[r0]? = some o) (hb0:o.block E r0 (E.β r0)) (hb1:∀(E':Env) (b:Nat),o0.block E' r0 b->E'.β r0=b)
  (hS:∀i,¬E.S (E.β r0) i) (hrep:J4 (E.setRow (E.β r0) arr) r0 o0):Le E (E.setRow (E.β r0) arr)/\RepH (E.setRow (E.β r0) arr) (H.set r0 o0):=by
 have hl:Le E (E.setRow (E.β r0) arr):=R7 (h.pv r0 o _ ho hb0) hS;refine⟨hl,h.turn (r0:=r0) (o0:=o0) hl (by simp[Env.setRow,h.N]) (fun r hr=>?_) (fun o' ho'=>?_) (fun r hr hr'=>rfl) (fun r o' b hr ho' hb=>?_) (fun b hb=>hb) (fun b i hs=>?_) hrep (fun b hb=>?_)⟩
 ·rw[k_ (fun e=>hr e.symm)]
 ·rw[g_ (a_.1 ho).1] at ho'
  exact(Option.some.inj ho').symm
 ·refine⟨setRow_other E.w _ b arr (fun e=>?_),fun i hs=>hs⟩
  subst e;exact hr (h.apart r r0 o' o _ ho' ho hb hb0)
 ·have:=h.Slt b i hs
  simpa[Env.setRow] using this
 ·have hb':E.β r0=b:=hb1 _ _ hb
  subst hb';refine⟨h.pv r0 o _ ho hb0,by simpa[Env.setRow] using h.lt r0 o _ ho hb0,fun r o' hr ho' hb=>hr (h.apart r r0 o' o _ ho' ho hb hb0)⟩
end
section
variable {P:Program} {E E':Env}
structure Cells (w:World) (S:Nat->Nat->Prop) (z:Nat) (xs:List (List D)) (L:List Value):Prop where
 len:L.length=xs.length * z
 each:∀x,x∈xs->x.length=z
 rd:∀(i j:Nat) (x:List D) (c:D),xs[i]? = some x->x[j]? = some c->∃(u:Value),L[i * z+j]? = some u/\u.oneCell'=true/\RdD w S c u
 one:∀u,u∈L->u.oneCell'=true
theorem Cells.nil (w:World) (S:Nat->Nat->Prop) (z:Nat):Cells w S z [] []:=
 ⟨by simp,by simp,fun i j x c hi=>by simp at hi,by simp⟩
theorem Cells.append {w:World} {S:Nat->Nat->Prop} {z:Nat} {xs ys:List (List D)} {A B:List Value} (h:Cells w S z xs A) (k:Cells w S z ys B):Cells w S z (xs++ys) (A++B):=by
 refine⟨by simp[h.len,k.len,h_],fun x hx=>?_,fun i j x c hi hj=>?_,fun u hu=>?_⟩
 ·rcases x_.1 hx with hx | hx
  ·exact h.each x hx
  ·exact k.each x hx
 ·by_cases hlt:i<xs.length
  ·rw[b_ hlt] at hi
   obtain⟨u,h1,h2,h3⟩:=h.rd i j x c hi hj;refine⟨u,?_,h2,h3⟩;rw[b_ (a_.1 h1).1];exact h1
  ·rw[d_ (by omega)] at hi
   obtain⟨u,h1,h2,h3⟩:=k.rd _ j x c hi hj;refine⟨u,?_,h2,h3⟩;have e:i * z+j=A.length+((i - xs.length) * z+j):=by
    have:(i - xs.length+xs.length) * z=(i - xs.length) * z+xs.length * z:=h_ _ _ _;rw[z_ (by omega)] at this;rw[h.len];omega
   rw[e,d_ (by omega),Nat.add_sub_cancel_left];exact h1
 ·rcases x_.1 hu with hu | hu
  ·exact h.one u hu
  ·exact k.one u hu
theorem ap5 {w:World} {S:Nat->Nat->Prop} {xs:List (List D)} {v:Value} {z:Nat} (hz:∀x,x∈xs->x.length=z) (h:RdD w S (.sl xs) v) :
  ∃L,Cells w S z xs L/\∃ad cap,v=.slice ad xs.length cap /\
   ∀w':World,(∀b i,S b i->w'.cell? ⟨b,i,none⟩=w.cell? ⟨b,i,none⟩)->(Builtin.firstCells z xs.length v).run P w'=.ok L.toArray w':=by
 cases h with
 | nil a cap =>
  refine⟨[],Cells.nil _ _ _,a,cap,rfl,fun w' _=>?_⟩;cases a with
  | none=>simp[Builtin.firstCells]
  | some a=>simp[Builtin.firstCells,loadCells,loadCellsFrom]
 | sl b off cap z' _ val hne hcap hmax hzz hc hr =>
  have hzz':z'=z:=by
   cases xs with
   | nil=>exact absurd rfl hne
   | cons x r=>rw[<-hzz x (by simp),hz x (by simp)]
  subst hzz';have hdiv:∀k,k<xs.length * z'->k / z'<xs.length/\k % z'<z'/\k / z' * z'+k % z'=k:=fun k hk=>by
   have hz0:0<z':=by
    rcases Nat.eq_zero_or_pos z' with h0 | h0
    ·subst h0;simp at hk
    ·exact h0
   exact⟨(Nat.div_lt_iff_lt_mul hz0).2 hk,Nat.mod_lt _ hz0,Nat.div_add_mod' k z'⟩
  refine⟨(List.range (xs.length * z')).map fun k=>val (k / z') (k % z'),⟨by simp,hz,fun i j x c hi hj=>?_,fun u hu=>?_⟩,_,cap,rfl,fun w' hw'=>?_⟩
  ·have hxi:=(a_.1 hi).1
   have hx:=hz x (r_ hi);have hjz:j<z':=by rw[<-hx];exact(a_.1 hj).1
   have hlt:i * z'+j<xs.length * z':=by
    have:(i+1) * z'<=xs.length * z':=e_ _ hxi;rw[h_] at this;omega
   refine⟨val i j,?_,(hc i j hxi hjz).2.2,hr i j x c hi hj⟩;rw[t_,List.getElem?_range hlt];simp only[Option.map_some,Option.some.injEq];have h1:(i * z'+j) / z'=i:=by
    rw[Nat.mul_comm,Nat.mul_add_div (by omega),Nat.div_eq_of_lt hjz,w_]
   have h2:(i * z'+j) % z'=j:=by
    rw[Nat.mul_comm,Nat.mul_add_mod,Nat.mod_eq_of_lt hjz]
   rw[h1,h2]
  ·simp only[List.mem_map,List.mem_range] at hu
   obtain⟨k,hk,rfl⟩:=hu;obtain⟨h1,h2,_⟩:=hdiv k hk;exact(hc _ _ h1 h2).2.2
  ·simp only[Builtin.firstCells]
   refine run_loadCells w' _ _ _ (fun k hk=>?_);obtain⟨h1,h2,h3⟩:=hdiv k hk;obtain⟨h4,h5,_⟩:=hc _ _ h1 h2;rw[Addr.add_mk];rw[show off+k / z' * z'+k % z'=off+k by omega] at h4 h5;rw[hw' _ _ h4];exact h5
def Plain (P:Program) (u:TypeId):Prop:=(∃e,P.underlying u=some (.slice e))\/P.underlying u=some .string
theorem V8 {t u ty e:TypeId} {i:TypeInfo} {zv:Value} (ht:P.underlying t=some (.slice e)) (hu:Plain P u) (hi:P.info? e=some i) (hz:i.zero=some zv)
  (w:World) {base:Option Addr} {sLen sCap m:Nat} {x:Value} {olds news:Array Value}
  (hold:(Builtin.firstCells i.size sLen (.slice base sLen sCap)).run P w.drew=.ok olds w.drew)
  (hlen:(Builtin.lenOf x).run P w=.ok m w) (hnew:(Builtin.firstCells i.size m x).run P w.drew=.ok news w.drew)
  (hg:sCap<sLen+m) (h63:sLen+m<=maxLen) (hb:(sLen+m) * i.bytes<=140737488355328) :
  (Builtin.append_ #[t,u] ty #[.slice base sLen sCap,x]).run P w =
   .ok (.slice (some ⟨w.heap.size,0,none⟩) (sLen+m) (grownCap w (sLen+m) sCap e))
    (w.drew.alloc (.cells (olds++news++Builtin.zeroCells zv.cells (grownCap w (sLen+m) sCap e - (sLen+m))) e)):=by
 have hn:¬(sLen+m<=sCap):=by omega
 have h63':¬(9223372036854775807<((sLen:Int)+(m:Int))):=by simp only[maxLen] at h63;omega
 have h48':¬(281474976710656<Builtin.nextslicecap (sLen+m) sCap * i.bytes):=by
  have:=growslice_fits hg hb;omega
 unfold Builtin.append_
 rcases hu with ⟨e',hu⟩ | hu <;>
  simp[run_underlying ht,run_underlying hu,sizeOf,typeInfo,hi,hlen,hn,h63',h48',Question.forced,hold,hnew,zeroValue,hz,newRow,grownCap]
theorem I9 {t u ty e:TypeId} {i:TypeInfo} (ht:P.underlying t=some (.slice e)) (hu:Plain P u) (hi:P.info? e=some i)
  (w:World) {base:Option Addr} {sLen sCap m:Nat} {x:Value} {news:Array Value}
  (hlen:(Builtin.lenOf x).run P w=.ok m w) (hnew:(Builtin.firstCells i.size m x).run P w=.ok news w)
  (hg:sLen+m<=sCap) {w':World} (hst:∀a,base=some a->(storeCells (a.add (sLen * i.size)) news.toList).run P w=.ok () w') (hno:base=none->w'=w) :
  (Builtin.append_ #[t,u] ty #[.slice base sLen sCap,x]).run P w=.ok (.slice base (sLen+m) sCap) w':=by
 unfold Builtin.append_;cases base with
 | none =>
  obtain rfl:=hno rfl
  rcases hu with ⟨e',hu⟩ | hu <;>
   simp[run_underlying ht,run_underlying hu,sizeOf,typeInfo,hi,hlen,hg,hnew]
 | some a =>
  have hst:=hst a rfl
  rcases hu with ⟨e',hu⟩ | hu <;>
   simp[run_underlying ht,run_underlying hu,sizeOf,typeInfo,hi,hlen,hg,hnew,hst]
end
section
variable {P:Program} {E:Env}
def Env.growNew (E:Env) (w':World) (r0 q:Nat) (v:Value) (bound:Nat):Env:=
 { E with w:=w',S:=fun b i=>E.S b i\/(b=E.w.heap.size/\i<bound),τ:=fun r=>if r=r0 then (q,v) else E.τ r,pv:=fun b=>E.pv b\/b=E.w.heap.size }
def Env.growIn (E:Env) (w':World) (r0 q:Nat) (v:Value) (b0 bound:Nat):Env:=
 { E with w:=w',S:=fun b i=>E.S b i\/(b=b0/\i<bound),τ:=fun r=>if r=r0 then (q,v) else E.τ r }
theorem bF2 {H:List O} (h:RepH E H) {r0 q q' z e:Nat} {xs xs':List (List D)} (ho:H[r0]? = some (.grow q z e xs)) (hq:q<q') (hz:0<z)
  {L rest:List Value} (hL:Cells E.w E.S z xs' L) {cap:Nat} (hc:xs'.length<=cap) (hc0:0<cap) (hm:cap<=maxLen) (hs:(L++rest).length=cap * z)
  (w1:World) (hw1:w1=E.w.drew.alloc (.cells (L++rest).toArray e)) :
  Le E (E.growNew w1 r0 q' (.slice (some ⟨E.w.heap.size,0,none⟩) xs'.length cap) (xs'.length * z)) /\
  RepH (E.growNew w1 r0 q' (.slice (some ⟨E.w.heap.size,0,none⟩) xs'.length cap) (xs'.length * z)) (H.set r0 (.grow q' z e xs')):=by
 subst hw1;have hq0:(E.τ r0).1=q:=(h.obj r0 _ ho).1;have hN:r0<E.N:=by rw[h.N];exact(a_.1 ho).1
 have hl:Le E (E.growNew (E.w.drew.alloc (.cells (L++rest).toArray e)) r0 q' (.slice (some ⟨E.w.heap.size,0,none⟩) xs'.length cap) (xs'.length * z)):=by
  refine⟨rfl,rfl,rfl,by simp[Env.growNew],c_ _,fun _ _=>rfl,fun r hr=>?_,fun _ _ hs=>.inl hs,fun b i hs=>?_,fun b hb hp=>heap_alloc_old E.w.drew _ b hb,fun b i hs=>?_,fun b hp=>?_,fun b i arr n hs hh=>(heap_alloc_old E.w.drew _ b (h.Slt b i hs)).trans hh⟩
  ·simp only[Env.growNew]
   by_cases er:r=r0
   ·subst er
    rw[if_pos rfl];exact⟨by simp only;omega,fun he=>by simp only at he;omega⟩
   ·rw[if_neg er];exact⟨c_ _,fun _=>rfl⟩
  ·exact World.cell?_alloc_lt E.w.drew _ _ (h.Slt b i hs)
  ·rcases hs with hs | ⟨rfl,_⟩
   ·exact .inl hs
   ·exact .inr (.inl (c_ _))
  ·rcases hp with hp | rfl
   ·exact .inl hp
   ·exact .inr (c_ _)
 refine⟨hl,h.turn (r0:=r0) (o0:=.grow q' z e xs') hl (by simp[Env.growNew,h.N]) (fun r hr=>?_) (fun o' ho'=>?_) (fun r hr hr'=>?_) (fun r o' b hr ho' hb=>?_) (fun b hb=>.inl hb) (fun b i hs=>?_) ?_ (fun b hb=>?_)⟩
 ·rw[k_ (fun e=>hr e.symm)]
 ·rw[g_ (a_.1 ho).1] at ho'
  exact(Option.some.inj ho').symm
 ·simp only[Env.growNew];rw[if_neg hr]
 ·have hlt:=h.lt r o' b ho' hb
  refine⟨heap_alloc_old E.w.drew _ b hlt,fun i hs=>?_⟩;rcases hs with hs | ⟨rfl,_⟩
  ·exact hs
  ·exact absurd hlt (Nat.lt_irrefl _)
 ·simp only[Env.growNew,World.size_alloc,World.size_drew]
  rcases hs with hs | ⟨rfl,_⟩
  ·have:=h.Slt b i hs;omega
  ·omega
 ·refine⟨by simp[Env.growNew],hL.each,hz,.inr ⟨E.w.heap.size,cap,(L++rest).toArray,by simp[Env.growNew],heap_alloc_new E.w.drew _,hc0,hc,hm,by simpa using hs,fun i j x c hi hj=>?_,fun i hi hS=>?_⟩⟩
  ·obtain⟨u,h1,h2,h3⟩:=hL.rd i j x c hi hj
   have hlt:=(a_.1 h1).1;refine⟨.inr ⟨rfl,by rw[hL.len] at hlt;exact hlt⟩,u,?_,h2,h3.le hl⟩;rw[i_,b_ hlt];exact h1
  ·rcases hS with hS | ⟨_,hlt⟩
   ·have:=h.Slt _ i hS;omega
   ·omega
 ·simp only[O.block,Env.growNew,if_pos,ownB] at hb
  rw[if_neg (by omega)] at hb;simp only[Option.some.injEq] at hb;subst hb;refine⟨.inr rfl,by simp[Env.growNew],fun r o' hr ho' hb=>?_⟩;have:=h.lt r o' _ ho' hb;omega
theorem bQ3 {H:List O} (h:RepH E H) {r0 q q' z e:Nat} {xs ys:List (List D)} (ho:H[r0]? = some (.grow q z e xs)) (hq:q<q') (hz:0<z)
  {L:List Value} {b0 cap:Nat} {arr:Array Value} (hv:(E.τ r0).2=.slice (some ⟨b0,0,none⟩) xs.length cap) (hb0:E.w.heap[b0]? = some (.cells arr e (0,0)))
  (hc0:0<cap) (hm:cap<=maxLen) (hsz:arr.size=cap * z) (hS:∀i,xs.length * z<=i->¬E.S b0 i)
  (hX:∀(i j:Nat) (x:List D) (c:D),xs[i]? = some x->x[j]? = some c->E.S b0 (i * z+j)/\∃(v:Value),arr[i * z+j]? = some v/\v.oneCell'=true/\RdD E.w E.S c v)
  (hxz:∀x,x∈xs->x.length=z) (hL:Cells E.w E.S z ys L) (hc:xs.length+ys.length<=cap) :
  Le E (E.growIn (E.w.setRow b0 (arr.toList.take (xs.length * z)++L++arr.toList.drop (xs.length * z+L.length)).toArray) r0 q' (.slice (some ⟨b0,0,none⟩) (xs++ys).length cap) b0 ((xs++ys).length * z)) /\
  RepH (E.growIn (E.w.setRow b0 (arr.toList.take (xs.length * z)++L++arr.toList.drop (xs.length * z+L.length)).toArray) r0 q' (.slice (some ⟨b0,0,none⟩) (xs++ys).length cap) b0 ((xs++ys).length * z)) (H.set r0 (.grow q' z e (xs++ys))):=by
 have hq0:(E.τ r0).1=q:=(h.obj r0 _ ho).1;have hN:r0<E.N:=by rw[h.N];exact(a_.1 ho).1
 have hblk:(O.grow q z e xs).block E r0 b0:=by simp[O.block,hv,ownB];omega
 have hpv:=h.pv r0 _ _ ho hblk;have hlb:=h.lt r0 _ _ ho hblk;have hcz:(xs.length+ys.length) * z<=cap * z:=e_ _ hc;have hLl:=hL.len;have hadd:(xs.length+ys.length) * z=xs.length * z+ys.length * z:=h_ _ _ _;generalize hnew:(arr.toList.take (xs.length * z)++L++arr.toList.drop (xs.length * z+L.length)).toArray=arr';have hget:∀i,i<xs.length * z->arr'[i]? = arr[i]?:=fun i hi=>by
  subst hnew;rw[i_,p_,b_ (by simp;omega),s_,if_pos hi,m_]
 have hgetL:∀i,i<L.length->arr'[xs.length * z+i]? = L[i]?:=fun i hi=>by
  subst hnew;rw[i_,p_,d_ (by simp;omega),b_ (by simp;omega)];congr 1;simp;omega
 have hsz':arr'.size=cap * z:=by
  subst hnew;simp;omega
 have hrow:(E.w.setRow b0 arr').heap[b0]? = some (.cells arr' e (0,0)):=setRow_heap _ _ _ _ _ _ hb0;have hl:Le E (E.growIn (E.w.setRow b0 arr') r0 q' (.slice (some ⟨b0,0,none⟩) (xs++ys).length cap) b0 ((xs++ys).length * z)):=by
  refine⟨rfl,rfl,rfl,by simp[Env.growIn],c_ _,fun _ _=>rfl,fun r hr=>?_,fun _ _ hs=>.inl hs,fun b i hs=>?_,fun b hb hp=>setRow_other E.w b0 b _ (fun e=>hp (by subst e;exact hpv)),fun b i hs=>?_,fun b hp=>.inl hp,fun b i a n hs hh=>(setRow_other E.w b0 b _ (fun e=>by subst e;rw[hb0] at hh;cases hh)).trans hh⟩
  ·simp only[Env.growIn]
   by_cases er:r=r0
   ·subst er
    rw[if_pos rfl];exact⟨by simp only;omega,fun he=>by simp only at he;omega⟩
   ·rw[if_neg er];exact⟨c_ _,fun _=>rfl⟩
  ·by_cases hbb:b=b0
   ·subst hbb
    have hi:i<xs.length * z:=by
     rcases Nat.lt_or_ge i (xs.length * z) with h' | h'
     ·exact h'
     ·exact absurd hs (hS i h')
    show (E.w.setRow b arr').cell? _=_;rw[cell_of_row _ _ _ _ _ _ hrow,cell_of_row _ _ _ _ _ _ hb0,hget i hi]
   ·exact cell_setRow_other E.w b0 arr' _ hbb
  ·rcases hs with hs | ⟨rfl,_⟩
   ·exact .inl hs
   ·exact .inr (.inr hpv)
 refine⟨hl,h.turn (r0:=r0) (o0:=.grow q' z e (xs++ys)) hl (by simp[Env.growIn,h.N]) (fun r hr=>?_) (fun o' ho'=>?_) (fun r hr hr'=>?_) (fun r o' b hr ho' hb=>?_) (fun b hb=>hb) (fun b i hs=>?_) ?_ (fun b hb=>?_)⟩
 ·rw[k_ (fun e=>hr e.symm)]
 ·rw[g_ (a_.1 ho).1] at ho'
  exact(Option.some.inj ho').symm
 ·simp only[Env.growIn];rw[if_neg hr]
 ·have hne:b≠b0:=fun e=>by subst e;exact hr (h.apart r r0 o' _ _ ho' ho hb hblk)
  refine⟨setRow_other E.w b0 b _ hne,fun i hs=>?_⟩;rcases hs with hs | ⟨rfl,_⟩
  ·exact hs
  ·exact absurd rfl hne
 ·simp only[Env.growIn,size_setRow]
  rcases hs with hs | ⟨rfl,_⟩
  ·exact h.Slt b i hs
  ·exact hlb
 ·refine⟨by simp[Env.growIn],fun x hx=>?_,hz,.inr ⟨b0,cap,arr',by simp[Env.growIn],hrow,hc0,by simpa using hc,hm,hsz',fun i j x c hi hj=>?_,fun i hi hS'=>?_⟩⟩
  ·rcases x_.1 hx with hx | hx
   ·exact hxz x hx
   ·exact hL.each x hx
  ·by_cases hlt:i<xs.length
   ·rw[b_ hlt] at hi
    obtain⟨h1,v,h2,h3,h4⟩:=hX i j x c hi hj;have hjz:j<z:=by rw[<-hxz x (r_ hi)];exact(a_.1 hj).1
    have hb:i * z+j<xs.length * z:=by
     have:(i+1) * z<=xs.length * z:=e_ _ hlt;rw[h_] at this;omega
    exact⟨.inl h1,v,by rw[hget _ hb];exact h2,h3,h4.le hl⟩
   ·rw[d_ (by omega)] at hi
    obtain⟨u,h1,h2,h3⟩:=hL.rd _ j x c hi hj;have hlt':=(a_.1 h1).1;have e1:i * z+j=xs.length * z+((i - xs.length) * z+j):=by
     have:(i - xs.length+xs.length) * z=(i - xs.length) * z+xs.length * z:=h_ _ _ _;rw[z_ (by omega)] at this;omega
    refine⟨.inr ⟨rfl,by simp only[f_];omega⟩,u,by rw[e1,hgetL _ hlt'];exact h1,h2,h3.le hl⟩
  ·rcases hS' with hS' | ⟨_,hlt⟩
   ·exact hS i (by simp only[f_] at hi;omega) hS'
   ·omega
 ·simp only[O.block,Env.growIn,if_pos,ownB] at hb
  rw[if_neg (by omega)] at hb;simp only[Option.some.injEq] at hb;subst hb;exact⟨hpv,by simpa[Env.growIn] using hlb,fun r o' hr ho' hb=>hr (h.apart r r0 o' _ _ ho' ho hb hblk)⟩
def Env.bump (E:Env) (r0 q:Nat) (v:Value):Env:={ E with τ:=fun r=>if r=r0 then (q,v) else E.τ r }
theorem bC7 {H:List O} (h:RepH E H) {r0 q q' z e:Nat} {xs:List (List D)} (ho:H[r0]? = some (.grow q z e xs)) (hq:q<q') :
  Le E (E.bump r0 q' (E.τ r0).2)/\RepH (E.bump r0 q' (E.τ r0).2) (H.set r0 (.grow q' z e xs)):=by
 have hq0:(E.τ r0).1=q:=(h.obj r0 _ ho).1;have hl:Le E (E.bump r0 q' (E.τ r0).2):=by
  refine⟨rfl,rfl,rfl,c_ _,c_ _,fun _ _=>rfl,fun r hr=>?_,fun _ _ hs=>hs,fun b i hs=>rfl,fun b hb hp=>rfl,fun b i hs=>.inl hs,fun b hp=>.inl hp,fun _ _ _ _ _ hh=>hh⟩;simp only[Env.bump];by_cases er:r=r0
  ·subst er
   rw[if_pos rfl];exact⟨by simp only;omega,fun he=>by simp only at he;omega⟩
  ·rw[if_neg er];exact⟨c_ _,fun _=>rfl⟩
 have hb':(O.grow q' z e xs).block (E.bump r0 q' (E.τ r0).2) r0=(O.grow q z e xs).block E r0:=by simp[O.block,Env.bump]
 refine⟨hl,h.turn (r0:=r0) (o0:=.grow q' z e xs) hl (by simp[Env.bump,h.N]) (fun r hr=>?_) (fun o' ho'=>?_) (fun r hr hr'=>?_) (fun r o' b hr ho' hb=>⟨rfl,fun i hs=>hs⟩) (fun b hb=>hb) (fun b i hs=>h.Slt b i hs) ?_ (fun b hb=>?_)⟩
 ·rw[k_ (fun e=>hr e.symm)]
 ·rw[g_ (a_.1 ho).1] at ho'
  exact(Option.some.inj ho').symm
 ·simp only[Env.bump];rw[if_neg hr]
 ·obtain⟨_,h2,h3,h4⟩:=h.obj r0 _ ho
  refine⟨by simp[Env.bump],h2,h3,?_⟩;have e1:((E.bump r0 q' (E.τ r0).2).τ r0).2=(E.τ r0).2:=by simp[Env.bump]
  rw[e1];rcases h4 with h4 | ⟨b,cap,arr,h5,h6,h7,h8,h9,h10,h11,h12⟩
  ·exact .inl h4
  ·exact .inr ⟨b,cap,arr,h5,h6,h7,h8,h9,h10,fun i j x c hi hj=>by
    obtain⟨k1,v,k2,k3,k4⟩:=h11 i j x c hi hj;exact⟨k1,v,k2,k3,k4.le hl⟩,h12⟩
 ·rw[hb'] at hb
  exact⟨h.pv r0 _ b ho hb,h.lt r0 _ b ho hb,fun r o' hr ho' hb2=>hr (h.apart r r0 o' _ b ho' ho hb2 hb)⟩
theorem aD3 {H:List O} (h:RepH E H) {r0 q z e by_:Nat} {t u ty:TypeId} {xs ys:List (List D)} (ht:D6 P t=some (e,z,by_)) (hu:Plain P u)
  (ho:H[r0]? = some (.grow q z e xs)) {x:Value} {L:List Value} (hL:Cells E.w E.S z ys L) (hlen:∀w,(Builtin.lenOf x).run P w=.ok ys.length w)
  (hx:∀w':World,(∀b i,E.S b i->w'.cell? ⟨b,i,none⟩=E.w.cell? ⟨b,i,none⟩)->(Builtin.firstCells z ys.length x).run P w'=.ok L.toArray w')
  (hm:xs.length+ys.length<=maxLen) (hby:(xs.length+ys.length) * by_<=140737488355328) :
  ∃v' E',(Builtin.append_ #[t,u] ty #[(E.τ r0).2,x]).run P E.w=.ok v' E'.w/\Le E E'/\RepH E' (H.set r0 (.grow (q+1) z e (xs++ys)))/\E'.τ r0=(q+1,v')/\v'.oneCell'=true:=by
 obtain⟨hte,hz,i,zv,hi,hzv,hzs,hiz,hib⟩:=J8 ht;have hobj:=h.obj r0 _ ho;obtain⟨hq,hxz,_,halt⟩:=hobj;have hnewcase:∀(base:Option Addr) (cap:Nat) (Lx:List Value),Cells E.w E.S z xs Lx->(E.τ r0).2=.slice base xs.length cap ->
   (∀w':World,(∀b i,E.S b i->w'.cell? ⟨b,i,none⟩=E.w.cell? ⟨b,i,none⟩)->(Builtin.firstCells z xs.length (.slice base xs.length cap)).run P w'=.ok Lx.toArray w')->cap<xs.length+ys.length ->
   ∃v' E',(Builtin.append_ #[t,u] ty #[(E.τ r0).2,x]).run P E.w=.ok v' E'.w/\Le E E'/\RepH E' (H.set r0 (.grow (q+1) z e (xs++ys)))/\E'.τ r0=(q+1,v')/\v'.oneCell'=true:=by
  intro base cap Lx hLx hv hfx hg
  have hrun:=V8 (ty:=ty) hte hu hi hzv E.w (base:=base) (sLen:=xs.length) (sCap:=cap) (m:=ys.length) (x:=x)
   (by rw[hiz];exact hfx E.w.drew (fun _ _ _=>rfl)) (hlen _) (by rw[hiz];exact hx E.w.drew (fun _ _ _=>rfl)) hg hm (by rw[hib];exact hby)
  have hge:=grownCap_ge E.w (xs.length+ys.length) cap e;have hcm:=grownCap_le_maxLen E.w (xs.length+ys.length) cap e hm;have hAB:=hLx.append hL
  obtain⟨k1,k2⟩:=bF2 h (q':=q+1) ho (by omega) hz hAB (rest:=(Builtin.zeroCells zv.cells (grownCap E.w (xs.length+ys.length) cap e - (xs.length+ys.length))).toList)
   (cap:=grownCap E.w (xs.length+ys.length) cap e) (by simpa using hge) (by omega) hcm (by
    have hzc:(Builtin.zeroCells zv.cells (grownCap E.w (xs.length+ys.length) cap e - (xs.length+ys.length))).toList.length=(grownCap E.w (xs.length+ys.length) cap e - (xs.length+ys.length)) * z:=by
     rw[y_,size_zeroCells,hzs]
    rw[f_,hAB.len,hzc,f_,<-h_];congr 1;omega) _ rfl
  refine⟨.slice (some ⟨E.w.heap.size,0,none⟩) (xs++ys).length (grownCap E.w (xs.length+ys.length) cap e),_,?_,k1,k2,by simp[Env.growNew],rfl⟩;rw[hv,hrun,f_];simp only[Env.growNew];have hw:(Lx.toArray++L.toArray++Builtin.zeroCells zv.cells (grownCap E.w (xs.length+ys.length) cap e - (xs.length+ys.length)))=(Lx++L++(Builtin.zeroCells zv.cells (grownCap E.w (xs.length+ys.length) cap e - (xs.length+ys.length))).toList).toArray:=by
   apply Array.ext';simp
  rw[hw]
 rcases halt with ⟨a,hv,rfl⟩ | ⟨b,cap,arr,hv,hb,hc0,hle,hcm,hsz,hX,hS⟩
 ·by_cases h0:ys.length=0
  ·have hy:ys=[]:=l_ h0
   subst hy;obtain⟨k1,k2⟩:=bC7 h (q':=q+1) ho (by omega);have hL0:L=[]:=l_ (by rw[hL.len];simp);subst hL0;refine⟨(E.τ r0).2,_,?_,k1,k2,by simp[Env.bump],by rw[hv];rfl⟩;rw[hv];have:=I9 (P:=P) (t:=t) (u:=u) (ty:=ty) hte hu hi E.w (base:=a) (sLen:=0) (sCap:=0) (m:=0) (x:=x) (news:=#[]) (hlen _) (by rw[hiz];exact hx E.w (fun _ _ _=>rfl)) (by omega) (w':=E.w) (fun _ _=>rfl) (fun _=>rfl);simpa[Env.bump] using this
  ·refine hnewcase a 0 [] (Cells.nil _ _ _) hv (fun w' _=>?_) (by simp;omega)
   cases a with
   | none=>simp[Builtin.firstCells]
   | some a=>simp[Builtin.firstCells,loadCells,loadCellsFrom]
 ·by_cases hroom:xs.length+ys.length<=cap
  ·obtain⟨k1,k2⟩:=bQ3 h (q':=q+1) (ys:=ys) ho (by omega) hz hv hb hc0 hcm hsz hS hX hxz hL hroom
   rw[hv];have hadd:(⟨b,0,none⟩:Addr).add (xs.length * i.size)=⟨b,xs.length * z,none⟩:=by rw[Addr.add_mk,hiz,B_]
   have hLl:=hL.len;have hcz:(xs.length+ys.length) * z<=cap * z:=e_ _ hroom;rw[h_] at hcz;have hst:=run_storeCells_at P b (xs.length * z) e L 0 arr E.w hb (by simp;omega) hL.one;simp only[w_] at hst;refine⟨_,_,I9 (P:=P) (t:=t) (u:=u) (ty:=ty) hte hu hi E.w (base:=some ⟨b,0,none⟩) (sLen:=xs.length) (sCap:=cap) (m:=ys.length) (x:=x) (news:=L.toArray) (hlen _) (by rw[hiz];exact hx E.w (fun _ _ _=>rfl)) hroom (fun a ha=>?_) (fun h'=>by cases h'),k1,k2,by simp[Env.growIn],rfl⟩;cases ha;rw[hadd];exact hst
  ·have hxs:RdD E.w E.S (.sl xs) (E.τ r0).2:=aq3 (h.obj r0 _ ho)
   obtain⟨Lx,hLx,ad,cap',hv',hfx⟩:=ap5 (P:=P) hxz hxs;rw[hv] at hv';simp only[Value.slice.injEq] at hv';obtain⟨rfl,_,rfl⟩:=hv';exact hnewcase _ cap Lx hLx hv (fun w' hw'=>by rw[<-hv];exact hfx w' hw') (by omega)
end
section
variable {P:Program} {E:Env}
end
section
variable {P:Program} {E:Env}
theorem aQ1 {w:World} {S:Nat->Nat->Prop} {xs:List (List D)} {z b cap:Nat} {e:TypeId} {arr:Array Value} (hz:0<z) (hxz:∀x,x∈xs->x.length=z)
  (hX:∀(i j:Nat) (x:List D) (c:D),xs[i]? = some x->x[j]? = some c->∃(v:Value),arr[i * z+j]? = some v/\v.oneCell'=true/\RdD w S c v)
  (hsz:arr.size=cap * z) (hle:xs.length<=cap) (hb:w.heap[b]? = some (.cells arr e (0,0))) :
  ∃L,Cells w S z xs L/\(Builtin.firstCells z xs.length (.slice (some ⟨b,0,none⟩) xs.length cap)).run P w.drew=.ok L.toArray w.drew:=by
 have hcz:xs.length * z<=cap * z:=e_ _ hle;have hL:(arr.toList.take (xs.length * z)).length=xs.length * z:=by simp;omega
 have hat:∀k,k<xs.length * z->(arr.toList.take (xs.length * z))[k]? = arr[k]?:=fun k hk=>by
  rw[s_,if_pos hk,m_]
 have hdiv:∀k,k<xs.length * z->k / z<xs.length/\k % z<z/\k / z * z+k % z=k:=fun k hk=>⟨(Nat.div_lt_iff_lt_mul hz).2 hk,Nat.mod_lt _ hz,Nat.div_add_mod' k z⟩;refine⟨arr.toList.take (xs.length * z),⟨hL,hxz,fun i j x c hi hj=>?_,fun u hu=>?_⟩,?_⟩
 ·have hxi:=(a_.1 hi).1
  have hjz:j<z:=by rw[<-hxz x (r_ hi)];exact(a_.1 hj).1
  have hlt:i * z+j<xs.length * z:=by
   have:(i+1) * z<=xs.length * z:=e_ _ hxi;rw[h_] at this;omega
  obtain⟨v,h1,h2,h3⟩:=hX i j x c hi hj;exact⟨v,by rw[hat _ hlt];exact h1,h2,h3⟩
 ·obtain⟨k,hk⟩:=List.mem_iff_getElem?.1 hu
  have hkl:k<xs.length * z:=by rw[<-hL];exact(a_.1 hk).1
  obtain⟨d1,d2,d3⟩:=hdiv k hkl;have hxx:=hxz xs[k / z] (List.getElem_mem _);obtain⟨v,h1,h2,h3⟩:=hX (k / z) (k % z) xs[k / z] (xs[k / z][k % z]'(by omega)) (j_ d1) (j_ _);rw[d3] at h1;rw[hat k hkl,h1] at hk;cases hk;exact h2
 ·simp only[Builtin.firstCells]
  have:=run_loadCells_list (P:=P) w.drew ⟨b,0,none⟩ (arr.toList.take (xs.length * z)) (fun k v hk=>?_)
  ·rw[hL] at this;exact this
  ·have hkl:k<xs.length * z:=by rw[<-hL];exact(a_.1 hk).1
   rw[hat k hkl] at hk;rw[Addr.add_mk,B_];show w.cell? _=_;rw[cell_of_row _ _ _ _ _ _ hb];exact hk
theorem bR8 {H:List O} (h:RepH E H) {r0 q q' z e:Nat} {xs xs':List (List D)} (ho:H[r0]? = some (.buf q z e xs)) (hq:q<q') (hz:0<z)
  {L rest:List Value} (hL:Cells E.w E.S z xs' L) {cap:Nat} (hc:xs'.length<=cap) (hne:xs'≠[]) (hc0:0<cap) (hm:cap<=maxLen) (hs:(L++rest).length=cap * z)
  (w1:World) (hw1:w1=E.w.drew.alloc (.cells (L++rest).toArray e)) :
  Le E (E.growNew w1 r0 q' (.slice (some ⟨E.w.heap.size,0,none⟩) xs'.length cap) 0) /\
  RepH (E.growNew w1 r0 q' (.slice (some ⟨E.w.heap.size,0,none⟩) xs'.length cap) 0) (H.set r0 (.buf q' z e xs')):=by
 subst hw1;have hq0:(E.τ r0).1=q:=(h.obj r0 _ ho).1;have hN:r0<E.N:=by rw[h.N];exact(a_.1 ho).1
 have hl:Le E (E.growNew (E.w.drew.alloc (.cells (L++rest).toArray e)) r0 q' (.slice (some ⟨E.w.heap.size,0,none⟩) xs'.length cap) 0):=by
  refine⟨rfl,rfl,rfl,by simp[Env.growNew],c_ _,fun _ _=>rfl,fun r hr=>?_,fun _ _ hs=>.inl hs,fun b i hs=>?_,fun b hb hp=>heap_alloc_old E.w.drew _ b hb,fun b i hs=>?_,fun b hp=>?_,fun b i arr n hs hh=>(heap_alloc_old E.w.drew _ b (h.Slt b i hs)).trans hh⟩
  ·simp only[Env.growNew]
   by_cases er:r=r0
   ·subst er
    rw[if_pos rfl];exact⟨by simp only;omega,fun he=>by simp only at he;omega⟩
   ·rw[if_neg er];exact⟨c_ _,fun _=>rfl⟩
  ·exact World.cell?_alloc_lt E.w.drew _ _ (h.Slt b i hs)
  ·rcases hs with hs | ⟨rfl,_⟩
   ·exact .inl hs
   ·exact .inr (.inl (c_ _))
  ·rcases hp with hp | rfl
   ·exact .inl hp
   ·exact .inr (c_ _)
 refine⟨hl,h.turn (r0:=r0) (o0:=.buf q' z e xs') hl (by simp[Env.growNew,h.N]) (fun r hr=>?_) (fun o' ho'=>?_) (fun r hr hr'=>?_) (fun r o' b hr ho' hb=>?_) (fun b hb=>.inl hb) (fun b i hs=>?_) ?_ (fun b hb=>?_)⟩
 ·rw[k_ (fun e=>hr e.symm)]
 ·rw[g_ (a_.1 ho).1] at ho'
  exact(Option.some.inj ho').symm
 ·simp only[Env.growNew];rw[if_neg hr]
 ·have hlt:=h.lt r o' b ho' hb
  refine⟨heap_alloc_old E.w.drew _ b hlt,fun i hs=>?_⟩;rcases hs with hs | ⟨rfl,_⟩
  ·exact hs
  ·exact absurd hlt (Nat.lt_irrefl _)
 ·simp only[Env.growNew,World.size_alloc,World.size_drew]
  rcases hs with hs | ⟨rfl,_⟩
  ·have:=h.Slt b i hs;omega
  ·omega
 ·refine⟨by simp[Env.growNew],hL.each,hz,.inr ⟨E.w.heap.size,cap,(L++rest).toArray,by simp[Env.growNew],heap_alloc_new E.w.drew _,hne,hc,hm,by simpa using hs,fun i j x c hi hj=>?_,fun i hS=>?_⟩⟩
  ·obtain⟨u,h1,h2,h3⟩:=hL.rd i j x c hi hj
   have hlt:=(a_.1 h1).1;refine⟨u,?_,h2,h3.le hl⟩;rw[i_,b_ hlt];exact h1
  ·rcases hS with hS | ⟨_,hlt⟩
   ·have:=h.Slt _ i hS;omega
   ·omega
 ·simp only[O.block,Env.growNew,if_pos,ownB] at hb
  rw[if_neg (by omega)] at hb;simp only[Option.some.injEq] at hb;subst hb;refine⟨.inr rfl,by simp[Env.growNew],fun r o' hr ho' hb=>?_⟩;have:=h.lt r o' _ ho' hb;omega
theorem cb8 {H:List O} (h:RepH E H) {r0 q q' z e:Nat} {xs ys:List (List D)} (ho:H[r0]? = some (.buf q z e xs)) (hq:q<q') (hz:0<z)
  {L:List Value} {b0 cap:Nat} {arr:Array Value} (hv:(E.τ r0).2=.slice (some ⟨b0,0,none⟩) xs.length cap) (hb0:E.w.heap[b0]? = some (.cells arr e (0,0)))
  (hne:xs≠[]) (hc0:0<cap) (hm:cap<=maxLen) (hsz:arr.size=cap * z) (hS:∀i,¬E.S b0 i)
  (hX:∀(i j:Nat) (x:List D) (c:D),xs[i]? = some x->x[j]? = some c->∃(v:Value),arr[i * z+j]? = some v/\v.oneCell'=true/\RdD E.w E.S c v)
  (hxz:∀x,x∈xs->x.length=z) (hL:Cells E.w E.S z ys L) (hc:xs.length+ys.length<=cap) :
  Le E (E.growIn (E.w.setRow b0 (arr.toList.take (xs.length * z)++L++arr.toList.drop (xs.length * z+L.length)).toArray) r0 q' (.slice (some ⟨b0,0,none⟩) (xs++ys).length cap) b0 0) /\
  RepH (E.growIn (E.w.setRow b0 (arr.toList.take (xs.length * z)++L++arr.toList.drop (xs.length * z+L.length)).toArray) r0 q' (.slice (some ⟨b0,0,none⟩) (xs++ys).length cap) b0 0) (H.set r0 (.buf q' z e (xs++ys))):=by
 have hq0:(E.τ r0).1=q:=(h.obj r0 _ ho).1;have hN:r0<E.N:=by rw[h.N];exact(a_.1 ho).1
 have hblk:(O.buf q z e xs).block E r0 b0:=by simp[O.block,hv,ownB];omega
 have hpv:=h.pv r0 _ _ ho hblk;have hlb:=h.lt r0 _ _ ho hblk;have hcz:(xs.length+ys.length) * z<=cap * z:=e_ _ hc;have hLl:=hL.len;have hadd:(xs.length+ys.length) * z=xs.length * z+ys.length * z:=h_ _ _ _;generalize hnew:(arr.toList.take (xs.length * z)++L++arr.toList.drop (xs.length * z+L.length)).toArray=arr';have hget:∀i,i<xs.length * z->arr'[i]? = arr[i]?:=fun i hi=>by
  subst hnew;rw[i_,p_,b_ (by simp;omega),s_,if_pos hi,m_]
 have hgetL:∀i,i<L.length->arr'[xs.length * z+i]? = L[i]?:=fun i hi=>by
  subst hnew;rw[i_,p_,d_ (by simp;omega),b_ (by simp;omega)];congr 1;simp;omega
 have hsz':arr'.size=cap * z:=by
  subst hnew;simp;omega
 have hrow:(E.w.setRow b0 arr').heap[b0]? = some (.cells arr' e (0,0)):=setRow_heap _ _ _ _ _ _ hb0;have hl:Le E (E.growIn (E.w.setRow b0 arr') r0 q' (.slice (some ⟨b0,0,none⟩) (xs++ys).length cap) b0 0):=by
  refine⟨rfl,rfl,rfl,by simp[Env.growIn],c_ _,fun _ _=>rfl,fun r hr=>?_,fun _ _ hs=>.inl hs,fun b i hs=>?_,fun b hb hp=>setRow_other E.w b0 b _ (fun e=>hp (by subst e;exact hpv)),fun b i hs=>?_,fun b hp=>.inl hp,fun b i a n hs hh=>(setRow_other E.w b0 b _ (fun e=>by subst e;rw[hb0] at hh;cases hh)).trans hh⟩
  ·simp only[Env.growIn]
   by_cases er:r=r0
   ·subst er
    rw[if_pos rfl];exact⟨by simp only;omega,fun he=>by simp only at he;omega⟩
   ·rw[if_neg er];exact⟨c_ _,fun _=>rfl⟩
  ·by_cases hbb:b=b0
   ·subst hbb;exact absurd hs (hS i)
   ·exact cell_setRow_other E.w b0 arr' _ hbb
  ·rcases hs with hs | ⟨rfl,_⟩
   ·exact .inl hs
   ·exact .inr (.inr hpv)
 refine⟨hl,h.turn (r0:=r0) (o0:=.buf q' z e (xs++ys)) hl (by simp[Env.growIn,h.N]) (fun r hr=>?_) (fun o' ho'=>?_) (fun r hr hr'=>?_) (fun r o' b hr ho' hb=>?_) (fun b hb=>hb) (fun b i hs=>?_) ?_ (fun b hb=>?_)⟩
 ·rw[k_ (fun e=>hr e.symm)]
 ·rw[g_ (a_.1 ho).1] at ho'
  exact(Option.some.inj ho').symm
 ·simp only[Env.growIn];rw[if_neg hr]
 ·have hne:b≠b0:=fun e=>by subst e;exact hr (h.apart r r0 o' _ _ ho' ho hb hblk)
  refine⟨setRow_other E.w b0 b _ hne,fun i hs=>?_⟩;rcases hs with hs | ⟨rfl,_⟩
  ·exact hs
  ·exact absurd rfl hne
 ·simp only[Env.growIn,size_setRow]
  rcases hs with hs | ⟨rfl,_⟩
  ·exact h.Slt b i hs
  ·exact hlb
 ·refine⟨by simp[Env.growIn],fun x hx=>?_,hz,.inr ⟨b0,cap,arr',by simp[Env.growIn],hrow,by simp[hne],by simpa using hc,hm,hsz',fun i j x c hi hj=>?_,fun i hS'=>?_⟩⟩
  ·rcases x_.1 hx with hx | hx
   ·exact hxz x hx
   ·exact hL.each x hx
  ·by_cases hlt:i<xs.length
   ·rw[b_ hlt] at hi
    obtain⟨v,h2,h3,h4⟩:=hX i j x c hi hj;have hjz:j<z:=by rw[<-hxz x (r_ hi)];exact(a_.1 hj).1
    have hb:i * z+j<xs.length * z:=by
     have:(i+1) * z<=xs.length * z:=e_ _ hlt;rw[h_] at this;omega
    exact⟨v,by rw[hget _ hb];exact h2,h3,h4.le hl⟩
   ·rw[d_ (by omega)] at hi
    obtain⟨u,h1,h2,h3⟩:=hL.rd _ j x c hi hj;have hlt':=(a_.1 h1).1;have e1:i * z+j=xs.length * z+((i - xs.length) * z+j):=by
     have:(i - xs.length+xs.length) * z=(i - xs.length) * z+xs.length * z:=h_ _ _ _;rw[z_ (by omega)] at this;omega
    exact⟨u,by rw[e1,hgetL _ hlt'];exact h1,h2,h3.le hl⟩
  ·rcases hS' with hS' | ⟨_,hlt⟩
   ·exact hS i hS'
   ·omega
 ·simp only[O.block,Env.growIn,if_pos,ownB] at hb
  rw[if_neg (by omega)] at hb;simp only[Option.some.injEq] at hb;subst hb;exact⟨hpv,by simpa[Env.growIn] using hlb,fun r o' hr ho' hb=>hr (h.apart r r0 o' _ _ ho' ho hb hblk)⟩
theorem bq7 {H:List O} (h:RepH E H) {r0 q q' z e:Nat} {xs:List (List D)} (ho:H[r0]? = some (.buf q z e xs)) (hq:q<q') :
  Le E (E.bump r0 q' (E.τ r0).2)/\RepH (E.bump r0 q' (E.τ r0).2) (H.set r0 (.buf q' z e xs)):=by
 have hq0:(E.τ r0).1=q:=(h.obj r0 _ ho).1;have hl:Le E (E.bump r0 q' (E.τ r0).2):=by
  refine⟨rfl,rfl,rfl,c_ _,c_ _,fun _ _=>rfl,fun r hr=>?_,fun _ _ hs=>hs,fun b i hs=>rfl,fun b hb hp=>rfl,fun b i hs=>.inl hs,fun b hp=>.inl hp,fun _ _ _ _ _ hh=>hh⟩;simp only[Env.bump];by_cases er:r=r0
  ·subst er
   rw[if_pos rfl];exact⟨by simp only;omega,fun he=>by simp only at he;omega⟩
  ·rw[if_neg er];exact⟨c_ _,fun _=>rfl⟩
 have hb':(O.buf q' z e xs).block (E.bump r0 q' (E.τ r0).2) r0=(O.buf q z e xs).block E r0:=by simp[O.block,Env.bump]
 refine⟨hl,h.turn (r0:=r0) (o0:=.buf q' z e xs) hl (by simp[Env.bump,h.N]) (fun r hr=>?_) (fun o' ho'=>?_) (fun r hr hr'=>?_) (fun r o' b hr ho' hb=>⟨rfl,fun i hs=>hs⟩) (fun b hb=>hb) (fun b i hs=>h.Slt b i hs) ?_ (fun b hb=>?_)⟩
 ·rw[k_ (fun e=>hr e.symm)]
 ·rw[g_ (a_.1 ho).1] at ho'
  exact(Option.some.inj ho').symm
 ·simp only[Env.bump];rw[if_neg hr]
 ·obtain⟨_,h2,h3,h4⟩:=h.obj r0 _ ho
  refine⟨by simp[Env.bump],h2,h3,?_⟩;have e1:((E.bump r0 q' (E.τ r0).2).τ r0).2=(E.τ r0).2:=by simp[Env.bump]
  rw[e1];rcases h4 with h4 | ⟨b,cap,arr,h5,h6,h7,h8,h9,h10,h11,h12⟩
  ·exact .inl h4
  ·exact .inr ⟨b,cap,arr,h5,h6,h7,h8,h9,h10,fun i j x c hi hj=>by
    obtain⟨v,k2,k3,k4⟩:=h11 i j x c hi hj;exact⟨v,k2,k3,k4.le hl⟩,h12⟩
 ·rw[hb'] at hb
  exact⟨h.pv r0 _ b ho hb,h.lt r0 _ b ho hb,fun r o' hr ho' hb2=>hr (h.apart r r0 o' _ b ho' ho hb2 hb)⟩
theorem an4 {H:List O} (h:RepH E H) {r0 q z e by_:Nat} {t u ty:TypeId} {xs ys:List (List D)} (ht:D6 P t=some (e,z,by_)) (hu:Plain P u)
  (ho:H[r0]? = some (.buf q z e xs)) {x:Value} {L:List Value} (hL:Cells E.w E.S z ys L) (hlen:∀w,(Builtin.lenOf x).run P w=.ok ys.length w)
  (hx:∀w':World,(∀b i,E.S b i->w'.cell? ⟨b,i,none⟩=E.w.cell? ⟨b,i,none⟩)->(Builtin.firstCells z ys.length x).run P w'=.ok L.toArray w')
  (hm:xs.length+ys.length<=maxLen) (hby:(xs.length+ys.length) * by_<=140737488355328) :
  ∃v' E',(Builtin.append_ #[t,u] ty #[(E.τ r0).2,x]).run P E.w=.ok v' E'.w/\Le E E'/\RepH E' (H.set r0 (.buf (q+1) z e (xs++ys)))/\E'.τ r0=(q+1,v')/\v'.oneCell'=true:=by
 obtain⟨hte,hz,i,zv,hi,hzv,hzs,hiz,hib⟩:=J8 ht;have hobj:=h.obj r0 _ ho;obtain⟨hq,hxz,_,halt⟩:=hobj;have hnewcase:∀(base:Option Addr) (cap:Nat) (Lx:List Value),Cells E.w E.S z xs Lx->(E.τ r0).2=.slice base xs.length cap ->
   (Builtin.firstCells z xs.length (.slice base xs.length cap)).run P E.w.drew=.ok Lx.toArray E.w.drew->cap<xs.length+ys.length ->
   ∃v' E',(Builtin.append_ #[t,u] ty #[(E.τ r0).2,x]).run P E.w=.ok v' E'.w/\Le E E'/\RepH E' (H.set r0 (.buf (q+1) z e (xs++ys)))/\E'.τ r0=(q+1,v')/\v'.oneCell'=true:=by
  intro base cap Lx hLx hv hfx hg
  have hrun:=V8 (ty:=ty) hte hu hi hzv E.w (base:=base) (sLen:=xs.length) (sCap:=cap) (m:=ys.length) (x:=x)
   (by rw[hiz];exact hfx) (hlen _) (by rw[hiz];exact hx E.w.drew (fun _ _ _=>rfl)) hg hm (by rw[hib];exact hby)
  have hge:=grownCap_ge E.w (xs.length+ys.length) cap e;have hcm:=grownCap_le_maxLen E.w (xs.length+ys.length) cap e hm;have hAB:=hLx.append hL
  obtain⟨k1,k2⟩:=bR8 h (q':=q+1) ho (by omega) hz hAB (rest:=(Builtin.zeroCells zv.cells (grownCap E.w (xs.length+ys.length) cap e - (xs.length+ys.length))).toList)
   (cap:=grownCap E.w (xs.length+ys.length) cap e) (by simpa using hge) (by intro e;have:=congrArg List.length e;simp only[f_,List.length_nil] at this;omega) (by omega) hcm (by
    have hzc:(Builtin.zeroCells zv.cells (grownCap E.w (xs.length+ys.length) cap e - (xs.length+ys.length))).toList.length=(grownCap E.w (xs.length+ys.length) cap e - (xs.length+ys.length)) * z:=by
     rw[y_,size_zeroCells,hzs]
    rw[f_,hAB.len,hzc,f_,<-h_];congr 1;omega) _ rfl
  refine⟨.slice (some ⟨E.w.heap.size,0,none⟩) (xs++ys).length (grownCap E.w (xs.length+ys.length) cap e),_,?_,k1,k2,by simp[Env.growNew],rfl⟩;rw[hv,hrun,f_];simp only[Env.growNew];have hw:(Lx.toArray++L.toArray++Builtin.zeroCells zv.cells (grownCap E.w (xs.length+ys.length) cap e - (xs.length+ys.length)))=(Lx++L++(Builtin.zeroCells zv.cells (grownCap E.w (xs.length+ys.length) cap e - (xs.length+ys.length))).toList).toArray:=by
   apply Array.ext';simp
  rw[hw]
 rcases halt with ⟨a,hv,rfl⟩ | ⟨b,cap,arr,hv,hb,hne,hle,hcm,hsz,hX,hS⟩
 ·by_cases h0:ys.length=0
  ·have hy:ys=[]:=l_ h0
   subst hy;obtain⟨k1,k2⟩:=bq7 h (q':=q+1) ho (by omega);have hL0:L=[]:=l_ (by rw[hL.len];simp);subst hL0;refine⟨(E.τ r0).2,_,?_,k1,k2,by simp[Env.bump],by rw[hv];rfl⟩;rw[hv];have:=I9 (P:=P) (t:=t) (u:=u) (ty:=ty) hte hu hi E.w (base:=a) (sLen:=0) (sCap:=0) (m:=0) (x:=x) (news:=#[]) (hlen _) (by rw[hiz];exact hx E.w (fun _ _ _=>rfl)) (by omega) (w':=E.w) (fun _ _=>rfl) (fun _=>rfl);simpa[Env.bump] using this
  ·refine hnewcase a 0 [] (Cells.nil _ _ _) hv ?_ (by simp;omega)
   cases a with
   | none=>simp[Builtin.firstCells]
   | some a=>simp[Builtin.firstCells,loadCells,loadCellsFrom]
 ·have hc0:0<cap:=by have:=o_.2 hne;omega
  by_cases hroom:xs.length+ys.length<=cap
  ·obtain⟨k1,k2⟩:=cb8 h (q':=q+1) (ys:=ys) ho (by omega) hz hv hb hne hc0 hcm hsz hS hX hxz hL hroom
   rw[hv];have hadd:(⟨b,0,none⟩:Addr).add (xs.length * i.size)=⟨b,xs.length * z,none⟩:=by rw[Addr.add_mk,hiz,B_]
   have hLl:=hL.len;have hcz:(xs.length+ys.length) * z<=cap * z:=e_ _ hroom;rw[h_] at hcz;have hst:=run_storeCells_at P b (xs.length * z) e L 0 arr E.w hb (by simp;omega) hL.one;simp only[w_] at hst;refine⟨_,_,I9 (P:=P) (t:=t) (u:=u) (ty:=ty) hte hu hi E.w (base:=some ⟨b,0,none⟩) (sLen:=xs.length) (sCap:=cap) (m:=ys.length) (x:=x) (news:=L.toArray) (hlen _) (by rw[hiz];exact hx E.w (fun _ _ _=>rfl)) hroom (fun a ha=>?_) (fun h'=>by cases h'),k1,k2,by simp[Env.growIn],rfl⟩;cases ha;rw[hadd];exact hst
  ·obtain⟨Lx,hLx,hfx⟩:=aQ1 (P:=P) (w:=E.w) (S:=E.S) hz hxz hX hsz hle hb
   exact hnewcase _ cap Lx hLx hv hfx (by omega)
end
end Go.Abs

import Derived.Test.YtgkahnlbgkoplaaGreatW74
import Derived.Test.YtgkahnlbgkoplaaGreatW8
namespace Go.Proofs.YtgkahnlbgkoplaaGreat
open Go.Abs
set_option maxRecDepth 100000
set_option maxHeartbeats 4000000
set_option linter.unusedSimpArgs false
set_option linter.unusedVariables false
theorem expand_no (r : Rl) (args : List Tm) (next : Int) (hr : 0 ≤ r.arity ∧ r.arity ≤ 4) (hl : 0 ≤ r.locals ∧ r.locals ≤ 8) (h0 : 0 ≤ next ∧ next ≤ 100000) (hn : ¬ next + r.arity + r.locals ≤ 100000) : ACalls Tryz.prog 29 [.d (.agg r.enc), .d (.sl (args.map Tm.enc)), .d (.int .i64 next)] [.hole, .hole] (fun c H' => c = .tup [.agg [.d (.int .i64 0), .d (.str []), .own 0 1, .own 1 1], .d (.int .i64 0), .d (.bool false)] ∧ ∃ e B e' B', H' = [.tree 1 4 e [] B none, .tree 1 4 e' [] B' none]) := by
 have hn : 100000 < next + r.arity + r.locals := by omega
 have w1 : IntKind.i64.wrap (next + r.arity) = next + r.arity := by simp (disch := omega) only [wrap_ok]
 have w2 : IntKind.i64.wrap (next + r.arity + r.locals) = next + r.arity + r.locals := by simp (disch := omega) only [wrap_ok]
 refine ACalls.enter (fn := Tryz.f29) Tryz.func29 rfl (by show 3 ≤ _; decide) ?_
 refine run_sound Tryz.func29 mixed 10 _ _ (by kernel_rfl) ?_
 simp only [go_sem, seval, run.eq_1, w1, w2, hn]
 repeat' (first
  | ((first | (refine br_n (fun hq => ?_) (fun hq => ?_)) | (refine idx_intro (fun x hx => have hq := hx; ?_))) <;> (try simp only [go_sem, seval, w1, w2, hn, run.eq_1, hq]))
  | (simp (disch := omega) only [wrap_ok])
  | ((first
   | (refine ⟨sd, ?_⟩)
   | (refine ⟨by assumption, ?_⟩)) <;> (try simp only [go_sem, seval, w1, w2, hn, run.eq_1]))
  | assumption)
 refine AW.adoptTB 4 2 4 59 (by decide) rfl rfl ?_
 refine AW.adoptTB 4 3 4 31 (by decide) rfl rfl ?_
 refine AW.placeB 4 2 5 0 rfl rfl rfl rfl (by decide) ?_
 refine AW.placeB 4 3 6 1 rfl rfl rfl rfl (by decide) ?_
 refine run_sound Tryz.func29 mixed 200 _ _ (by kernel_rfl) ?_
 simp only [go_sem, seval]
 repeat' (first
  | (exact ⟨_, _, _, _, rfl⟩)
  | ((first | (refine br_n (fun hq => ?_) (fun hq => ?_)) | (refine idx_intro (fun x hx => have hq := hx; ?_))) <;> (try simp only [go_sem, seval, hq]))
  | (simp (disch := omega) only [wrap_ok])
  | ((first
   | (refine ⟨sd, ?_⟩)
   | (refine ⟨by assumption, ?_⟩)) <;> (try simp only [go_sem, seval]))
  | assumption)
theorem expand_T (r : Rl) (args : List Tm) (next : Int) (hr : 0 ≤ r.arity ∧ r.arity ≤ 4) (hl : 0 ≤ r.locals ∧ r.locals ≤ 8) (ha : ∀ t, t ∈ args → tmOk t = true) (hal : (args.length : Int) = r.arity) (h0 : 0 ≤ next ∧ next ≤ 100000) (hn : next + r.arity + r.locals ≤ 100000) (hw : wtL r.body.enc ≤ 1048576) (hs : r.body.shape = true) : ACalls Tryz.prog 29 [.d (.agg r.enc), .d (.sl (args.map Tm.enc)), .d (.int .i64 next)] [.hole, .hole] (fun c H' => c = .tup [.agg [.d (.int .i64 7), .d (.str []), .own 0 1, .own 1 1], .d (.int .i64 (next + r.arity + r.locals)), .d (.bool true)] ∧ ∃ e B e' B', H' = [.tree 1 4 e [] B none, .tree 1 4 e' ((xcEqs next 0 args ++ [r.body.sh next]).map Gl.enc) B' none]) := by
 have hn : ¬ 100000 < next + r.arity + r.locals := by omega
 have hmx : maxLen = 9223372036854775807 := rfl
 have w1 : IntKind.i64.wrap (next + r.arity) = next + r.arity := by simp (disch := omega) only [wrap_ok]
 have w2 : IntKind.i64.wrap (next + r.arity + r.locals) = next + r.arity + r.locals := by simp (disch := omega) only [wrap_ok]
 refine ACalls.enter (fn := Tryz.f29) Tryz.func29 rfl (by show 3 ≤ _; decide) ?_
 refine run_sound Tryz.func29 mixed 15 _ _ (by kernel_rfl) ?_
 simp only [go_sem, seval, run.eq_1, w1, w2, hn]
 repeat' (first
  | ((first | (refine br_n (fun hq => ?_) (fun hq => ?_)) | (refine idx_intro (fun x hx => have hq := hx; ?_))) <;> (try simp only [go_sem, seval, w1, w2, hn, run.eq_1, hq]))
  | (simp (disch := omega) only [wrap_ok])
  | ((first
   | (refine ⟨sd, ?_⟩)
   | (refine ⟨by assumption, ?_⟩)) <;> (try simp only [go_sem, seval, w1, w2, hn, run.eq_1]))
  | assumption)
 refine AW.adoptTB 5 2 4 59 (by decide) rfl rfl ?_
 refine AW.adoptTB 5 3 4 31 (by decide) rfl rfl ?_
 refine AW.placeB 5 2 6 0 rfl rfl rfl rfl (by decide) ?_
 refine run_sound Tryz.func29 mixed 1 _ _ (by kernel_rfl) ?_
 simp only [go_sem, seval, run.eq_1]
 refine AW.rng args [3, 5, 6, 9, 10, 26, 27] 28 26 (fun p : List Tm × (Nat → Prop) => []) (fun _ p => [.tree 1 4 59 [] (fun _ => False) none, .hole, .box (r.enc.map .d), .box [.d (.int .i64 next)], .box [.d (.int .i64 0), .d (.str []), .nil0, .nil0], .box [.d (.int .i64 7), .d (.str []), .own 0 1, .own 7 p.1.length], .dead, .tree p.1.length 4 31 ((xcEqs next 0 p.1).map Gl.enc) p.2 none]) (fun q p => p.1 ++ q = args) ([], fun _ => False) rfl (by simp) rfl (by refine ⟨by simp [mkS, xcEqs], by simp [mkS, xcEqs], by simp only [mkS, List.all_cons, List.all_nil, O.refsLt, C.refsLt, C.refsLt1, all_dmap]; first | done | rfl | (simp; done), ?_⟩; simp [mkS, Abs.get, C.refsLtT, C.refsLt, C.refsLt1]) (fun i x q p hxi hdr hlt hm hinv hnext => ?_) (fun p hinv => ?_)
 ·have hxm := List.mem_of_getElem? hxi
  have hpl : p.1.length + (q.length + 1) = args.length := by rw [← hinv]; simp
  have hdl := congrArg List.length hdr
  simp only [List.length_drop, List.length_cons] at hdl
  have hip : i = p.1.length := by omega
  have hx := copyTerm_T x.V
  unfold cpT at hx
  rw [← Tm.enc_V (ha x hxm)] at hx
  have hv := variable_fn (next + i)
  have hve : (V.var (next + i)).enc = [.int .i64 1, .int .i64 (next + i), .str [], .sl []] := by rw [V.enc_eq]; rfl
  rw [hve] at hv
  have hxe : x.enc = [.int .i64 x.V.kind, .int .i64 x.V.int, .str x.V.name, .sl (x.V.kids.map V.enc)] := by rw [Tm.enc_V (ha x hxm), V.enc_eq]
  have hqe : (xcEq next i x).enc = [.int .i64 2, .str [], .sl [[.int .i64 1, .int .i64 (next + i), .str [], .sl []], [.int .i64 x.V.kind, .int .i64 x.V.int, .str x.V.name, .sl (x.V.kids.map V.enc)]], .sl []] := by
   unfold xcEq
   rw [Gl.enc_eq]
   simp only [Gl.kind, Gl.name, Gl.terms, Gl.goals, List.map_cons, List.map_nil, hxe]
   rw [← hve]; rfl
  have hap : xcEqs next 0 (p.1 ++ [x]) = xcEqs next 0 p.1 ++ [xcEq next i x] := by
   rw [xcEqs_app, hip]; simp [xcEqs]
  have hxl1 := xcEqs_len next p.1 0
  have w3 : IntKind.i64.wrap (next + (i : Int)) = next + (i : Int) := by simp (disch := omega) only [wrap_ok]
  refine AW.hole ?_
  refine run_sound Tryz.func29 mixed 9 _ _ (by kernel_rfl) ?_
  simp only [go_sem, seval, run.eq_1, hlt, idx_of hxi]
  repeat' (first
   | ((first | (refine br_n (fun hq => ?_) (fun hq => ?_)) | (refine idx_intro (fun x hx => have hq := hx; ?_))) <;> (try simp only [go_sem, seval, hlt, idx_of hxi, run.eq_1, hq]))
   | (simp (disch := omega) only [wrap_ok])
   | ((first
    | (refine ⟨sd, ?_⟩)
    | (refine ⟨by assumption, ?_⟩)) <;> (try simp only [go_sem, seval, hlt, idx_of hxi, run.eq_1]))
   | assumption)
  refine AW.drawA mixed #[true, true, true, true, true, true, true, true, true, true, true, true, false, false] [(3, .box [.d (.int .i64 next)]), (5, .box [.d (.int .i64 7), .d (.str []), .own 0 1, .own 7 p.1.length]), (9, .box (x.enc.map .d))] [] [0, 1, 2, 3, 4, 6, 5, 7, 8, 9, 10, 11] [12, 13] none (by kernel_rfl) trivial (by simp [holdsB]) ?_
  simp only [go_sem, seval, w3]
  repeat' (first
   | ((first | (refine br_n (fun hq => ?_) (fun hq => ?_)) | (refine idx_intro (fun x hx => have hq := hx; ?_))) <;> (try simp only [go_sem, seval, w3, hxl1, hq]))
   | (simp (disch := omega) only [wrap_ok])
   | ((first
    | (refine hv.calls rfl ?_)
    | (refine ACalls.fresh (ds := [.agg x.enc]) (m := 1) hx [8] rfl rfl (by simp) (by simp) ?_ <;> (rintro c H' ⟨rfl, e2, B2, rfl⟩ _; refine ⟨rfl, rfl, ?_⟩))
    | (refine all_intro (fun Bq => ?_))
    | (refine ⟨sd, ?_⟩)
    | (refine ⟨by assumption, ?_⟩)) <;> (try simp only [go_sem, seval, w3, hxl1]))
   | assumption)
  refine run_sound Tryz.func29 mixed 200 _ _ (by kernel_rfl) ?_
  simp only [go_sem, seval]
  try simp (disch := omega) only [wrap_ok]
  refine hnext (p.1 ++ [x], Bq) _ (by simp [← hinv]) (by refine ⟨by simp [mkS, hap, hqe], by simp [mkS, hap, hqe], by simp only [mkS, List.all_cons, List.all_nil, O.refsLt, C.refsLt, C.refsLt1, all_dmap]; first | done | rfl | (simp; done), ?_⟩; simp [mkS, Abs.get, C.refsLtT, C.refsLt, C.refsLt1])
 ·simp only [List.append_nil] at hinv
  obtain ⟨al, Ba⟩ := p
  dsimp only at hinv ⊢
  subst hinv
  have hgw := goalWith_T next ⟨h0.1, by omega⟩ r.body hw hs
  unfold gwT at hgw
  have hbe : (r.body.sh next).enc = [.int .i64 r.body.kind, .str r.body.name, .sl ((r.body.terms.map (Tm.sh next)).map Tm.enc), .sl ((r.body.goals.map (Gl.sh next)).map Gl.enc)] := by
   rw [Gl.sh_eq, Gl.enc_eq]; rfl
  have hxl := xcEqs_len next al 0
  rw [List.map_append, List.map_cons, List.map_nil, hbe]
  refine AW.hole ?_
  refine AW.hole ?_
  refine run_sound Tryz.func29 mixed 8 _ _ (by kernel_rfl) ?_
  simp only [go_sem, seval, run.eq_1]
  repeat' (first
   | ((first | (refine br_n (fun hq => ?_) (fun hq => ?_)) | (refine idx_intro (fun x hx => have hq := hx; ?_))) <;> (try simp only [go_sem, seval, run.eq_1, hq]))
   | (simp (disch := omega) only [wrap_ok])
   | ((first
    | (refine (ACalls.emb hgw [8, 9, 3] rfl rfl rfl (by decide) rfl ?_) <;> (rintro c H' ⟨rfl, e2, B2, e3, B3, rfl⟩ _; refine ⟨rfl, rfl, ?_⟩))
    | (refine ⟨sd, ?_⟩)
    | (refine ⟨by assumption, ?_⟩)) <;> (try simp only [go_sem, seval, run.eq_1]))
   | assumption)
  refine AW.regT ?_
  simp only [go_sem, seval]
  repeat' (first
   | ((first | (refine br_n (fun hq => ?_) (fun hq => ?_)) | (refine idx_intro (fun x hx => have hq := hx; ?_))) <;> (try simp only [go_sem, seval, hxl, List.length_map, hq]))
   | (simp (disch := omega) only [wrap_ok])
   | ((first
    | (refine all_intro (fun Bq => ?_))
    | (refine ⟨sd, ?_⟩)
    | (refine ⟨by assumption, ?_⟩)) <;> (try simp only [go_sem, seval, hxl, List.length_map]))
   | assumption)
  refine AW.placeB 5 3 7 1 rfl rfl rfl rfl (by decide) ?_
  refine run_sound Tryz.func29 mixed 200 _ _ (by kernel_rfl) ?_
  simp only [go_sem, seval]
  repeat' (first
   | (exact ⟨_, _, _, _, rfl⟩)
   | ((first | (refine br_n (fun hq => ?_) (fun hq => ?_)) | (refine idx_intro (fun x hx => have hq := hx; ?_))) <;> (try simp only [go_sem, seval, hq]))
   | (simp (disch := omega) only [wrap_ok])
   | ((first
    | (refine ⟨sd, ?_⟩)
    | (refine ⟨by assumption, ?_⟩)) <;> (try simp only [go_sem, seval]))
   | assumption)
def xcR (p : Pg) (s : List UInt8) (args : List Tm) (next : Int) : Option Rl :=
 if (pgOk p && args.all tmOk && decide (0 ≤ next ∧ next ≤ 100000) && decide (0 ≤ p.find s)) = true then
  match p.rels[(p.find s).toNat]? with
  | some r => if r.arity = args.length ∧ next + r.arity + r.locals ≤ 100000 then some r else none
  | none => none
 else none
def xcK (o : Option Rl) : Int := match o with | some _ => 7 | none => 0
def xcS (args : List Tm) (next : Int) (o : Option Rl) : List Gl := match o with | some r => xcEqs next 0 args ++ [r.body.sh next] | none => []
def xcN (next : Int) (o : Option Rl) : Int := match o with | some r => next + r.arity + r.locals | none => 0
theorem pgOk_rel {p : Pg} (h : pgOk p = true) : ∀ r, r ∈ p.rels → (0 ≤ r.arity ∧ r.arity ≤ 4) ∧ (0 ≤ r.locals ∧ r.locals ≤ 8) ∧ r.body.shape = true := fun r hr => by
 unfold pgOk at h
 simp only [Bool.and_eq_true] at h
 obtain ⟨i, hi⟩ := okL_mem h.2 r hr
 unfold Pg.relOk at hi
 simp only [Bool.and_eq_true, decide_eq_true_eq] at hi
 exact ⟨hi.1.1.1.1.1.2, hi.1.1.1.1.2, hi.1.1.2⟩
theorem iExpandCall_T (p : Pg) (s : List UInt8) (args : List Tm) (next : Int) (hw : wtL p.enc ≤ 1048576) (ha : ∀ t, t ∈ args → wtL t.enc ≤ 9000000) (hal : args.length ≤ 1048576) : ACalls Tryz.prog 9 [.d (.agg p.enc), .d (.str s), .d (.sl (args.map Tm.enc)), .d (.int .i64 next)] [.hole, .hole] (fun c H' => c = .tup [.agg [.d (.int .i64 (xcK (xcR p s args next))), .d (.str []), .own 0 1, .own 1 1], .d (.int .i64 (xcN next (xcR p s args next))), .d (.bool (xcR p s args next).isSome)] ∧ ∃ e B e' B', H' = [.tree 1 4 e [] B none, .tree 1 4 e' ((xcS args next (xcR p s args next)).map Gl.enc) B' none]) := by
 have hmx : maxLen = 9223372036854775807 := rfl
 have hrel := relation_fn p s
 have hto := itermsOk_fn args ha
 have hpk := iProgramOk_fn p (by omega)
 by_cases hp : pgOk p = true
 ·rw [hp] at hpk
  by_cases hta : args.all tmOk = true
  ·rw [hta] at hto
   by_cases h0 : 0 ≤ next
   ·by_cases h1 : next ≤ 100000
    ·have n0 : ¬ next < 0 := by omega
     have n1 : ¬ 100000 < next := by omega
     by_cases hf : 0 ≤ p.find s
     ·obtain ⟨n, hn⟩ : ∃ n : Nat, p.find s = n := ⟨(p.find s).toNat, by omega⟩
      have hrg := p.find_range s
      rw [hn] at hrel hrg
      obtain ⟨r, hr⟩ : ∃ r, p.rels[n]? = some r := ⟨_, List.getElem?_eq_getElem (by omega)⟩
      have hR : xcR p s args next = if r.arity = args.length ∧ next + r.arity + r.locals ≤ 100000 then some r else none := by
       unfold xcR
       rw [hp, hta, hn, Int.toNat_natCast, hr]
       simp [h0, h1]
      have hrm := List.mem_of_getElem? hr
      obtain ⟨b1, b2, b3⟩ := pgOk_rel hp r hrm
      have n2 : ¬ (n : Int) < 0 := by omega
      have hre : (p.rels.map Rl.enc)[n]? = some r.enc := by rw [List.getElem?_map, hr]; rfl
      by_cases har : r.arity = args.length
      ·by_cases hx : next + r.arity + r.locals ≤ 100000
       ·rw [hR, if_pos ⟨har, hx⟩]
        simp only [xcK, xcN, xcS, Option.isSome_none, Option.isSome_some, List.map_nil]
        have hex := expand_T r args next b1 b2 (fun t ht => List.all_eq_true.1 hta t ht) har.symm ⟨h0, h1⟩ hx (by have := Pg.wt_rels hrm; have := Rl.wt_body r; omega) b3
        refine ACalls.enter (fn := Tryz.f9) Tryz.func9 rfl (by show 4 ≤ _; decide) ?_
        refine run_sound Tryz.func9 mixed 200 _ _ (by kernel_rfl) ?_
        simp only [go_sem, seval, n0, n1, n2, har]
        repeat' (first
         | (exact ⟨_, _, _, _, rfl⟩)
         | ((first | (refine br_n (fun hq => ?_) (fun hq => ?_)) | (refine idx_intro (fun x hx => have hq := hx; ?_))) <;> (try simp only [go_sem, seval, n0, n1, n2, har, idx_of hre, hq]))
         | (simp (disch := omega) only [wrap_ok])
         | ((first
          | (refine hto.calls rfl ?_)
          | (refine hpk.calls rfl ?_)
          | (refine hrel.calls rfl ?_)
          | (refine (ACalls.emb hex [0, 1] rfl rfl rfl (by decide) rfl ?_) <;> (rintro c H' ⟨rfl, e2, B2, e3, B3, rfl⟩ _; refine ⟨rfl, rfl, ?_⟩))
          | (refine (iProgramOk_fn _ sd).calls rfl ?_)
          | (refine (itermsOk_fn _ sd).calls rfl ?_)
          | (refine (relation_fn _ _).calls rfl ?_)
          | (refine ⟨sd, ?_⟩)
          | (refine ⟨by assumption, ?_⟩)) <;> (try simp only [go_sem, seval, n0, n1, n2, har, idx_of hre]))
         | assumption)
       ·rw [hR, if_neg (fun h => hx h.2)]
        simp only [xcK, xcN, xcS, Option.isSome_none, Option.isSome_some, List.map_nil]
        have hex := expand_no r args next b1 b2 ⟨h0, h1⟩ hx
        refine ACalls.enter (fn := Tryz.f9) Tryz.func9 rfl (by show 4 ≤ _; decide) ?_
        refine run_sound Tryz.func9 mixed 200 _ _ (by kernel_rfl) ?_
        simp only [go_sem, seval, n0, n1, n2, har]
        repeat' (first
         | (exact ⟨_, _, _, _, rfl⟩)
         | ((first | (refine br_n (fun hq => ?_) (fun hq => ?_)) | (refine idx_intro (fun x hx => have hq := hx; ?_))) <;> (try simp only [go_sem, seval, n0, n1, n2, har, idx_of hre, hq]))
         | (simp (disch := omega) only [wrap_ok])
         | ((first
          | (refine hto.calls rfl ?_)
          | (refine hpk.calls rfl ?_)
          | (refine hrel.calls rfl ?_)
          | (refine (ACalls.emb hex [0, 1] rfl rfl rfl (by decide) rfl ?_) <;> (rintro c H' ⟨rfl, e2, B2, e3, B3, rfl⟩ _; refine ⟨rfl, rfl, ?_⟩))
          | (refine (iProgramOk_fn _ sd).calls rfl ?_)
          | (refine (itermsOk_fn _ sd).calls rfl ?_)
          | (refine (relation_fn _ _).calls rfl ?_)
          | (refine ⟨sd, ?_⟩)
          | (refine ⟨by assumption, ?_⟩)) <;> (try simp only [go_sem, seval, n0, n1, n2, har, idx_of hre]))
         | assumption)
      ·rw [hR, if_neg (fun h => har h.1)]
       simp only [xcK, xcN, xcS, Option.isSome_none, Option.isSome_some, List.map_nil]
       have hab : (r.arity != (args.length : Int)) = true := by simp [har]
       refine ACalls.enter (fn := Tryz.f9) Tryz.func9 rfl (by show 4 ≤ _; decide) ?_
       refine run_sound Tryz.func9 mixed 15 _ _ (by kernel_rfl) ?_
       simp only [go_sem, seval, run.eq_1, n0, n1, n2, hab, idx_of hre]
       repeat' (first
        | ((first | (refine br_n (fun hq => ?_) (fun hq => ?_)) | (refine idx_intro (fun x hx => have hq := hx; ?_))) <;> (try simp only [go_sem, seval, n0, n1, n2, hab, idx_of hre, run.eq_1, hq]))
        | (simp (disch := omega) only [wrap_ok])
        | ((first
         | (refine hto.calls rfl ?_)
         | (refine hpk.calls rfl ?_)
         | (refine hrel.calls rfl ?_)
         | (refine (iProgramOk_fn _ sd).calls rfl ?_)
         | (refine (itermsOk_fn _ sd).calls rfl ?_)
         | (refine (relation_fn _ _).calls rfl ?_)
         | (refine ⟨sd, ?_⟩)
         | (refine ⟨by assumption, ?_⟩)) <;> (try simp only [go_sem, seval, n0, n1, n2, hab, idx_of hre, run.eq_1]))
        | assumption)
       refine AW.adoptTB 3 2 4 59 (by decide) rfl rfl ?_
       refine AW.adoptTB 3 3 4 31 (by decide) rfl rfl ?_
       refine AW.placeB 3 2 4 0 rfl rfl rfl rfl (by decide) ?_
       refine AW.placeB 3 3 5 1 rfl rfl rfl rfl (by decide) ?_
       refine run_sound Tryz.func9 mixed 200 _ _ (by kernel_rfl) ?_
       simp only [go_sem, seval]
       repeat' (first
        | (exact ⟨_, _, _, _, rfl⟩)
        | ((first | (refine br_n (fun hq => ?_) (fun hq => ?_)) | (refine idx_intro (fun x hx => have hq := hx; ?_))) <;> (try simp only [go_sem, seval, hq]))
        | (simp (disch := omega) only [wrap_ok])
        | ((first
         | (refine (iProgramOk_fn _ sd).calls rfl ?_)
         | (refine (itermsOk_fn _ sd).calls rfl ?_)
         | (refine (relation_fn _ _).calls rfl ?_)
         | (refine ⟨sd, ?_⟩)
         | (refine ⟨by assumption, ?_⟩)) <;> (try simp only [go_sem, seval]))
        | assumption)
     ·have hR : xcR p s args next = none := by unfold xcR; simp [hf]
      rw [hR]
      simp only [xcK, xcN, xcS, Option.isSome_none, Option.isSome_some, List.map_nil]
      have n2 : p.find s < 0 := by omega
      refine ACalls.enter (fn := Tryz.f9) Tryz.func9 rfl (by show 4 ≤ _; decide) ?_
      refine run_sound Tryz.func9 mixed 15 _ _ (by kernel_rfl) ?_
      simp only [go_sem, seval, run.eq_1, n0, n1, n2]
      repeat' (first
       | ((first | (refine br_n (fun hq => ?_) (fun hq => ?_)) | (refine idx_intro (fun x hx => have hq := hx; ?_))) <;> (try simp only [go_sem, seval, n0, n1, n2, run.eq_1, hq]))
       | (simp (disch := omega) only [wrap_ok])
       | ((first
        | (refine hto.calls rfl ?_)
        | (refine hpk.calls rfl ?_)
        | (refine hrel.calls rfl ?_)
        | (refine (iProgramOk_fn _ sd).calls rfl ?_)
        | (refine (itermsOk_fn _ sd).calls rfl ?_)
        | (refine (relation_fn _ _).calls rfl ?_)
        | (refine ⟨sd, ?_⟩)
        | (refine ⟨by assumption, ?_⟩)) <;> (try simp only [go_sem, seval, n0, n1, n2, run.eq_1]))
       | assumption)
      refine AW.adoptTB 3 2 4 59 (by decide) rfl rfl ?_
      refine AW.adoptTB 3 3 4 31 (by decide) rfl rfl ?_
      refine AW.placeB 3 2 4 0 rfl rfl rfl rfl (by decide) ?_
      refine AW.placeB 3 3 5 1 rfl rfl rfl rfl (by decide) ?_
      refine run_sound Tryz.func9 mixed 200 _ _ (by kernel_rfl) ?_
      simp only [go_sem, seval]
      repeat' (first
       | (exact ⟨_, _, _, _, rfl⟩)
       | ((first | (refine br_n (fun hq => ?_) (fun hq => ?_)) | (refine idx_intro (fun x hx => have hq := hx; ?_))) <;> (try simp only [go_sem, seval, hq]))
       | (simp (disch := omega) only [wrap_ok])
       | ((first
        | (refine (iProgramOk_fn _ sd).calls rfl ?_)
        | (refine (itermsOk_fn _ sd).calls rfl ?_)
        | (refine (relation_fn _ _).calls rfl ?_)
        | (refine ⟨sd, ?_⟩)
        | (refine ⟨by assumption, ?_⟩)) <;> (try simp only [go_sem, seval]))
       | assumption)
    ·have hR : xcR p s args next = none := by unfold xcR; simp [h1]
     rw [hR]
     simp only [xcK, xcN, xcS, Option.isSome_none, Option.isSome_some, List.map_nil]
     have n0 : ¬ next < 0 := by omega
     have n1 : 100000 < next := by omega
     refine ACalls.enter (fn := Tryz.f9) Tryz.func9 rfl (by show 4 ≤ _; decide) ?_
     refine run_sound Tryz.func9 mixed 8 _ _ (by kernel_rfl) ?_
     simp only [go_sem, seval, run.eq_1, n0, n1]
     repeat' (first
      | ((first | (refine br_n (fun hq => ?_) (fun hq => ?_)) | (refine idx_intro (fun x hx => have hq := hx; ?_))) <;> (try simp only [go_sem, seval, n0, n1, run.eq_1, hq]))
      | (simp (disch := omega) only [wrap_ok])
      | ((first
       | (refine hto.calls rfl ?_)
       | (refine hpk.calls rfl ?_)
       | (refine hrel.calls rfl ?_)
       | (refine (iProgramOk_fn _ sd).calls rfl ?_)
       | (refine (itermsOk_fn _ sd).calls rfl ?_)
       | (refine (relation_fn _ _).calls rfl ?_)
       | (refine ⟨sd, ?_⟩)
       | (refine ⟨by assumption, ?_⟩)) <;> (try simp only [go_sem, seval, n0, n1, run.eq_1]))
      | assumption)
     refine AW.adoptTB 3 2 4 59 (by decide) rfl rfl ?_
     refine AW.adoptTB 3 3 4 31 (by decide) rfl rfl ?_
     refine AW.placeB 3 2 4 0 rfl rfl rfl rfl (by decide) ?_
     refine AW.placeB 3 3 5 1 rfl rfl rfl rfl (by decide) ?_
     refine run_sound Tryz.func9 mixed 200 _ _ (by kernel_rfl) ?_
     simp only [go_sem, seval]
     repeat' (first
      | (exact ⟨_, _, _, _, rfl⟩)
      | ((first | (refine br_n (fun hq => ?_) (fun hq => ?_)) | (refine idx_intro (fun x hx => have hq := hx; ?_))) <;> (try simp only [go_sem, seval, hq]))
      | (simp (disch := omega) only [wrap_ok])
      | ((first
       | (refine (iProgramOk_fn _ sd).calls rfl ?_)
       | (refine (itermsOk_fn _ sd).calls rfl ?_)
       | (refine (relation_fn _ _).calls rfl ?_)
       | (refine ⟨sd, ?_⟩)
       | (refine ⟨by assumption, ?_⟩)) <;> (try simp only [go_sem, seval]))
      | assumption)
   ·have hR : xcR p s args next = none := by unfold xcR; simp [h0]
    rw [hR]
    simp only [xcK, xcN, xcS, Option.isSome_none, Option.isSome_some, List.map_nil]
    have n0 : next < 0 := by omega
    refine ACalls.enter (fn := Tryz.f9) Tryz.func9 rfl (by show 4 ≤ _; decide) ?_
    refine run_sound Tryz.func9 mixed 8 _ _ (by kernel_rfl) ?_
    simp only [go_sem, seval, run.eq_1, n0]
    repeat' (first
     | ((first | (refine br_n (fun hq => ?_) (fun hq => ?_)) | (refine idx_intro (fun x hx => have hq := hx; ?_))) <;> (try simp only [go_sem, seval, n0, run.eq_1, hq]))
     | (simp (disch := omega) only [wrap_ok])
     | ((first
      | (refine hto.calls rfl ?_)
      | (refine hpk.calls rfl ?_)
      | (refine hrel.calls rfl ?_)
      | (refine (iProgramOk_fn _ sd).calls rfl ?_)
      | (refine (itermsOk_fn _ sd).calls rfl ?_)
      | (refine (relation_fn _ _).calls rfl ?_)
      | (refine ⟨sd, ?_⟩)
      | (refine ⟨by assumption, ?_⟩)) <;> (try simp only [go_sem, seval, n0, run.eq_1]))
     | assumption)
    refine AW.adoptTB 3 2 4 59 (by decide) rfl rfl ?_
    refine AW.adoptTB 3 3 4 31 (by decide) rfl rfl ?_
    refine AW.placeB 3 2 4 0 rfl rfl rfl rfl (by decide) ?_
    refine AW.placeB 3 3 5 1 rfl rfl rfl rfl (by decide) ?_
    refine run_sound Tryz.func9 mixed 200 _ _ (by kernel_rfl) ?_
    simp only [go_sem, seval]
    repeat' (first
     | (exact ⟨_, _, _, _, rfl⟩)
     | ((first | (refine br_n (fun hq => ?_) (fun hq => ?_)) | (refine idx_intro (fun x hx => have hq := hx; ?_))) <;> (try simp only [go_sem, seval, hq]))
     | (simp (disch := omega) only [wrap_ok])
     | ((first
      | (refine (iProgramOk_fn _ sd).calls rfl ?_)
      | (refine (itermsOk_fn _ sd).calls rfl ?_)
      | (refine (relation_fn _ _).calls rfl ?_)
      | (refine ⟨sd, ?_⟩)
      | (refine ⟨by assumption, ?_⟩)) <;> (try simp only [go_sem, seval]))
     | assumption)
  ·have hR : xcR p s args next = none := by unfold xcR; simp only [hta, Bool.and_false, Bool.false_and, Bool.false_eq_true, if_false]
   simp only [Bool.not_eq_true] at hta
   rw [hta] at hto
   rw [hR]
   simp only [xcK, xcN, xcS, Option.isSome_none, Option.isSome_some, List.map_nil]
   refine ACalls.enter (fn := Tryz.f9) Tryz.func9 rfl (by show 4 ≤ _; decide) ?_
   refine run_sound Tryz.func9 mixed 8 _ _ (by kernel_rfl) ?_
   simp only [go_sem, seval, run.eq_1, Bool.not_false]
   repeat' (first
    | ((first | (refine br_n (fun hq => ?_) (fun hq => ?_)) | (refine idx_intro (fun x hx => have hq := hx; ?_))) <;> (try simp only [go_sem, seval, Bool.not_false, run.eq_1, hq]))
    | (simp (disch := omega) only [wrap_ok])
    | ((first
     | (refine hto.calls rfl ?_)
     | (refine hpk.calls rfl ?_)
     | (refine hrel.calls rfl ?_)
     | (refine (iProgramOk_fn _ sd).calls rfl ?_)
     | (refine (itermsOk_fn _ sd).calls rfl ?_)
     | (refine (relation_fn _ _).calls rfl ?_)
     | (refine ⟨sd, ?_⟩)
     | (refine ⟨by assumption, ?_⟩)) <;> (try simp only [go_sem, seval, Bool.not_false, run.eq_1]))
    | assumption)
   refine AW.adoptTB 3 2 4 59 (by decide) rfl rfl ?_
   refine AW.adoptTB 3 3 4 31 (by decide) rfl rfl ?_
   refine AW.placeB 3 2 4 0 rfl rfl rfl rfl (by decide) ?_
   refine AW.placeB 3 3 5 1 rfl rfl rfl rfl (by decide) ?_
   refine run_sound Tryz.func9 mixed 200 _ _ (by kernel_rfl) ?_
   simp only [go_sem, seval]
   repeat' (first
    | (exact ⟨_, _, _, _, rfl⟩)
    | ((first | (refine br_n (fun hq => ?_) (fun hq => ?_)) | (refine idx_intro (fun x hx => have hq := hx; ?_))) <;> (try simp only [go_sem, seval, hq]))
    | (simp (disch := omega) only [wrap_ok])
    | ((first
     | (refine (iProgramOk_fn _ sd).calls rfl ?_)
     | (refine (itermsOk_fn _ sd).calls rfl ?_)
     | (refine (relation_fn _ _).calls rfl ?_)
     | (refine ⟨sd, ?_⟩)
     | (refine ⟨by assumption, ?_⟩)) <;> (try simp only [go_sem, seval]))
    | assumption)
 ·have hR : xcR p s args next = none := by unfold xcR; simp [hp]
  simp only [Bool.not_eq_true] at hp
  rw [hp] at hpk
  rw [hR]
  simp only [xcK, xcN, xcS, Option.isSome_none, Option.isSome_some, List.map_nil]
  refine ACalls.enter (fn := Tryz.f9) Tryz.func9 rfl (by show 4 ≤ _; decide) ?_
  refine run_sound Tryz.func9 mixed 8 _ _ (by kernel_rfl) ?_
  simp only [go_sem, seval, run.eq_1, Bool.not_false]
  repeat' (first
   | ((first | (refine br_n (fun hq => ?_) (fun hq => ?_)) | (refine idx_intro (fun x hx => have hq := hx; ?_))) <;> (try simp only [go_sem, seval, Bool.not_false, run.eq_1, hq]))
   | (simp (disch := omega) only [wrap_ok])
   | ((first
    | (refine hto.calls rfl ?_)
    | (refine hpk.calls rfl ?_)
    | (refine hrel.calls rfl ?_)
    | (refine (iProgramOk_fn _ sd).calls rfl ?_)
    | (refine (itermsOk_fn _ sd).calls rfl ?_)
    | (refine (relation_fn _ _).calls rfl ?_)
    | (refine ⟨sd, ?_⟩)
    | (refine ⟨by assumption, ?_⟩)) <;> (try simp only [go_sem, seval, Bool.not_false, run.eq_1]))
   | assumption)
  refine AW.adoptTB 3 2 4 59 (by decide) rfl rfl ?_
  refine AW.adoptTB 3 3 4 31 (by decide) rfl rfl ?_
  refine AW.placeB 3 2 4 0 rfl rfl rfl rfl (by decide) ?_
  refine AW.placeB 3 3 5 1 rfl rfl rfl rfl (by decide) ?_
  refine run_sound Tryz.func9 mixed 200 _ _ (by kernel_rfl) ?_
  simp only [go_sem, seval]
  repeat' (first
   | (exact ⟨_, _, _, _, rfl⟩)
   | ((first | (refine br_n (fun hq => ?_) (fun hq => ?_)) | (refine idx_intro (fun x hx => have hq := hx; ?_))) <;> (try simp only [go_sem, seval, hq]))
   | (simp (disch := omega) only [wrap_ok])
   | ((first
    | (refine (iProgramOk_fn _ sd).calls rfl ?_)
    | (refine (itermsOk_fn _ sd).calls rfl ?_)
    | (refine (relation_fn _ _).calls rfl ?_)
    | (refine ⟨sd, ?_⟩)
    | (refine ⟨by assumption, ?_⟩)) <;> (try simp only [go_sem, seval]))
   | assumption)
end Go.Proofs.YtgkahnlbgkoplaaGreat

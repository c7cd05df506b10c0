import Derived.Test.YtgmfoklmkpdjdaaW145
import Derived.Test.YtgmfoklmkpdjdaaA10
namespace Go.Proofs.Ytgmfoklmkpdjdaa
open Go.Abs
set_option maxRecDepth 100000
set_option maxHeartbeats 8000000
set_option linter.unusedSimpArgs false
set_option linter.unusedVariables false
theorem l01Once_R (B : List UInt8) (hB : B.length ≤ 1048576) (n : Int) (i h : Int) (h0 : 0 ≤ i) (h1 : i ≤ B.length) : ACalls Try.prog 12 [.ptr 0 0, .d (.int .i64 n)] [cuO B i h] (fun c H' => ∃ b i' h', c = .d (.bool b) ∧ H' = [cuO B i' h'] ∧ 0 ≤ i' ∧ i' ≤ B.length) := by
 have hb := l01Below_R B i h hB h0 h1 n
 refine ACalls.enter (fn := Try.f12) Try.func12 rfl (by show 2 ≤ _; decide) ?_
 refine run_sound Try.func12 mixed 200 _ _ (by kernel_rfl) ?_
 simp only [go_sem, seval]
 repeat' (first
  | (exact ⟨_, _, _, rfl, rfl, b3, b4⟩)
  | ((first | (refine br_n (fun hq => ?_) (fun hq => ?_)) | (refine idx_intro (fun x hx => have hq := hx; ?_))) <;> (try simp only [go_sem, seval, hq]))
  | (simp (disch := omega) only [wrap_ok])
  | ((first
   | (refine (ACalls.emb hb [0] rfl rfl rfl (by decide) rfl ?_) <;> (rintro c H' ⟨x, i2, h2, rfl, rfl, ⟨b1, b2⟩, b3, b4⟩ _; refine ⟨rfl, rfl, ?_⟩))
   | (refine ⟨sd, ?_⟩)
   | (refine ⟨by assumption, ?_⟩)) <;> (try simp only [go_sem, seval]))
  | assumption)
def sgL (rels : List Rl) : List (List UInt8 × Int) := rels.map fun r => (r.name, r.arity)
theorem l14Clause_R (B : List UInt8) (hB : B.length ≤ 1048576) (rels : List Rl) (hr1 : 1 ≤ rels.length) (hr3 : rels.length ≤ 3) (har : ∀ r, r ∈ rels → isRel r.name = true ∧ 0 ≤ r.arity ∧ r.arity ≤ 4) (n : Int) (hn : n ≤ 100) (calls : Nat) (hc : calls ≤ 2) (mode : Int) (i h : Int) (h0 : 0 ≤ i) (h1 : i ≤ B.length) (q e : Nat) :
  ACalls Try.prog 29 [.ptr 0 0, .own 1 q, .d (.int .i64 n), .d (.int .i64 (calls : Int)), .d (.int .i64 mode)] [cuO B i h, .buf q 7 e (rels.map Rl.enc)] (fun c H' => ∃ g i' h', c = .d (.agg (Gl.enc g)) ∧ H' = [cuO B i' h', .buf q 7 e (rels.map Rl.enc)] ∧ g.drC (sgL rels) n mode ∧ 0 ≤ i' ∧ i' ≤ B.length) := by
 have hmx : maxLen = 9223372036854775807 := rfl
 have hbl := l01Below_R B i h hB h0 h1 2
 refine ACalls.enter (fn := Try.f29) Try.func29 rfl (by show 5 ≤ _; decide) ?_
 refine run_sound Try.func29 mixed 4 _ _ (by kernel_rfl) ?_
 simp only [go_sem, seval, run.eq_1]
 repeat' (first
  | ((first | (refine br_n (fun hq => ?_) (fun hq => ?_)) | (refine idx_intro (fun x hx => have hq := hx; ?_))) <;> (try simp only [go_sem, seval, run.eq_1, hq]))
  | (simp (disch := omega) only [wrap_ok])
  | ((first
   | (refine ⟨sd, ?_⟩)
   | (refine ⟨by assumption, ?_⟩)) <;> (try simp only [go_sem, seval, run.eq_1]))
  | assumption)
 refine AW.adoptGB 3 3 4 30 (by decide) rfl rfl ?_
 refine run_sound Try.func29 mixed 3 _ _ (by kernel_rfl) ?_
 simp only [go_sem, seval, run.eq_1]
 repeat' (first
  | ((first | (refine br_n (fun hq => ?_) (fun hq => ?_)) | (refine idx_intro (fun x hx => have hq := hx; ?_))) <;> (try simp only [go_sem, seval, run.eq_1, hq]))
  | (simp (disch := omega) only [wrap_ok])
  | ((first
   | (refine (ACalls.emb hbl [0] rfl rfl rfl (by decide) rfl ?_) <;> (rintro c H' ⟨x, i2, h2, rfl, rfl, ⟨x0, x1⟩, b3, b4⟩ _; refine ⟨rfl, rfl, ?_⟩))
   | (refine ⟨sd, ?_⟩)
   | (refine ⟨by assumption, ?_⟩)) <;> (try simp only [go_sem, seval, run.eq_1]))
  | assumption)
 obtain ⟨k0, hk0, hk2⟩ : ∃ k0 : Nat, (1 : Int) + x = (k0 : Int) ∧ k0 ≤ 2 := ⟨(1 + x).toNat, by omega, by omega⟩
 have wk : IntKind.i64.wrap (1 + x) = (k0 : Int) := by rw [wrap_ok (by omega) (by omega)]; exact hk0
 try rw [wk]
 try rw [hk0]
 refine run_sound Try.func29 mixed 200 _ _ (by kernel_rfl) ?_
 simp only [go_sem, seval]
 repeat' (first
  | ((first | (refine br_n (fun hq => ?_) (fun hq => ?_)) | (refine idx_intro (fun x hx => have hq := hx; ?_))) <;> (try simp only [go_sem, seval, hq]))
  | (simp (disch := omega) only [wrap_ok])
  | ((first
   | (refine ⟨sd, ?_⟩)
   | (refine ⟨by assumption, ?_⟩)) <;> (try simp only [go_sem, seval]))
  | assumption)
 refine AW.lp [0, 1, 2, 3, 4, 10, 11] (fun u : Nat × Nat × List Gl × Int × Int => [(12, .d (.int .i64 (u.1 : Int)))]) (fun _ u => [cuO B u.2.2.2.1 u.2.2.2.2, .buf q 7 e (rels.map Rl.enc), .box [.d (.int .i64 0), .d (.str []), .nil0, .nil0], .box [.d (.int .i64 7), .d (.str []), .nil0, .own 4 u.2.1], .grow u.2.1 4 30 (u.2.2.1.map Gl.enc)]) (fun u => u.1 + u.2.2.1.length ≤ 2 ∧ (∀ g, g ∈ u.2.2.1 → g.drA (sgL rels) n mode) ∧ 0 ≤ u.2.2.2.1 ∧ u.2.2.2.1 ≤ B.length) (fun u => u.1) (k0, 0, [], i2, h2) ⟨by simpa using hk2, (fun g hg => by cases hg), b3, b4⟩ (by refine ⟨by simp [mkS, cuO_eq], by simp [mkS, cuO_eq], by simp only [mkS, List.all_cons, List.all_nil, O.refsLt, C.refsLt, C.refsLt1, all_dmap]; first | done | rfl | (simp; done), ?_⟩; simp [mkS, Abs.get, C.refsLtT, C.refsLt, C.refsLt1]) ?_
 rintro ⟨k, q1, gs, i3, h3⟩ ⟨j1, j2, j3, j4⟩ hnext
 dsimp only at j1 j2 j3 j4 hnext ⊢
 have hnx := fun a b c d e s' => hnext (a, b, c, d, e) s'
 clear hnext
 by_cases hk : k = 0
 ·subst hk
  clear hnx
  refine run_sound Try.func29 mixed 200 _ _ (by kernel_rfl) ?_
  simp only [go_sem, seval]
  repeat' (first
   | ((first | (refine br_n (fun hq => ?_) (fun hq => ?_)) | (refine idx_intro (fun x hx => have hq := hx; ?_))) <;> (try simp only [go_sem, seval, hq]))
   | (simp (disch := omega) only [wrap_ok])
   | ((first
    | (refine ⟨sd, ?_⟩)
    | (refine ⟨by assumption, ?_⟩)) <;> (try simp only [go_sem, seval]))
   | assumption)
  refine AW.lp [0, 1, 2, 4, 10, 11] (fun u : Nat × Nat × List Gl × Int × Int => [(3, .d (.int .i64 (u.1 : Int)))]) (fun _ u => [cuO B u.2.2.2.1 u.2.2.2.2, .buf q 7 e (rels.map Rl.enc), .box [.d (.int .i64 0), .d (.str []), .nil0, .nil0], .box [.d (.int .i64 7), .d (.str []), .nil0, .own 4 u.2.1], .grow u.2.1 4 30 (u.2.2.1.map Gl.enc)]) (fun u => u.1 + u.2.2.1.length ≤ 4 ∧ (∀ g, g ∈ u.2.2.1 → g.drA (sgL rels) n mode) ∧ 0 ≤ u.2.2.2.1 ∧ u.2.2.2.1 ≤ B.length) (fun u => u.1) (calls, q1, gs, i3, h3) ⟨by dsimp only; omega, j2, j3, j4⟩ (by refine ⟨by simp [mkS, cuO_eq], by simp [mkS, cuO_eq], by simp only [mkS, List.all_cons, List.all_nil, O.refsLt, C.refsLt, C.refsLt1, all_dmap]; first | done | rfl | (simp; done), ?_⟩; simp [mkS, Abs.get, C.refsLtT, C.refsLt, C.refsLt1]) ?_
  clear j1 j2 j3 j4
  rintro ⟨k, q1, gs, i4, h4⟩ ⟨j1, j2, j3, j4⟩ hnext
  dsimp only at j1 j2 j3 j4 hnext ⊢
  have hnx := fun a b c d e s' => hnext (a, b, c, d, e) s'
  clear hnext
  by_cases hk : k = 0
  ·subst hk
   refine run_sound Try.func29 mixed 200 _ _ (by kernel_rfl) ?_
   simp only [go_sem, seval]
   repeat' (first
    | (exact ⟨⟨7, [], [], gs⟩, _, _, by rw [Gl.enc_eq]; rfl, rfl, ⟨rfl, rfl, rfl, by simpa [Gl.goals] using j1, j2⟩, j3, j4⟩)
    | ((first | (refine br_n (fun hq => ?_) (fun hq => ?_)) | (refine idx_intro (fun x hx => have hq := hx; ?_))) <;> (try simp only [go_sem, seval, hq]))
    | (simp (disch := omega) only [wrap_ok])
    | ((first
     | (refine ⟨sd, ?_⟩)
     | (refine ⟨by assumption, ?_⟩)) <;> (try simp only [go_sem, seval]))
    | assumption)
  ·obtain ⟨k, rfl⟩ : ∃ k', k = k' + 1 := ⟨k - 1, by omega⟩
   have m1 : (0 : Int) < ((k + 1 : Nat) : Int) := by omega
   have m1' : (0 : Int) < (k : Int) + 1 := by omega
   have wk1 : IntKind.i64.wrap ((k : Int) + 1 - 1) = (k : Int) := by rw [wrap_ok (by omega) (by omega)]; omega
   have hbl := l01Below_R B i4 h4 hB j3 j4 (rels.length : Int)
   have hml : ∀ l : List Rl, (l.map Rl.enc).length = l.length := fun l => List.length_map _
   refine run_sound Try.func29 mixed 8 _ _ (by kernel_rfl) ?_
   simp only [go_sem, seval, run.eq_1, m1, m1', hml]
   repeat' (first
    | ((first | (refine br_n (fun hq => ?_) (fun hq => ?_)) | (refine idx_intro (fun x hx => have hq := hx; ?_))) <;> (try simp only [go_sem, seval, m1, m1', hml, run.eq_1, hq]))
    | (simp (disch := omega) only [wrap_ok])
    | ((first
     | (refine ⟨sd, ?_⟩)
     | (refine ⟨by assumption, ?_⟩)) <;> (try simp only [go_sem, seval, m1, m1', hml, run.eq_1]))
    | assumption)
   refine AW.regA ?_
   simp only [go_sem, seval, hml]
   repeat' (first
    | ((first | (refine br_n (fun hq => ?_) (fun hq => ?_)) | (refine idx_intro (fun x hx => have hq := hx; ?_))) <;> (try simp only [go_sem, seval, hml, hq]))
    | (simp (disch := omega) only [wrap_ok])
    | ((first
     | (refine (ACalls.emb hbl [0] rfl rfl rfl (by decide) rfl ?_) <;> (rintro c H' ⟨y, i5, h5, rfl, rfl, ⟨y0, y1⟩, c3, c4⟩ _; refine ⟨rfl, rfl, ?_⟩))
     | (refine ⟨sd, ?_⟩)
     | (refine ⟨by assumption, ?_⟩)) <;> (try simp only [go_sem, seval, hml]))
    | assumption)
   have hxm := List.mem_of_getElem? hx
   obtain ⟨n1, n2, n3⟩ := har x hxm
   refine run_sound Try.func29 mixed 3 _ _ (by kernel_rfl) ?_
   simp only [go_sem, seval, run.eq_1]
   repeat' (first
    | ((first | (refine br_n (fun hq => ?_) (fun hq => ?_)) | (refine idx_intro (fun x hx => have hq := hx; ?_))) <;> (try simp only [go_sem, seval, run.eq_1, hq]))
    | (simp (disch := omega) only [wrap_ok])
    | ((first
     | (refine ⟨sd, ?_⟩)
     | (refine ⟨by assumption, ?_⟩)) <;> (try simp only [go_sem, seval, run.eq_1]))
    | assumption)
   refine AW.adoptGB 6 2 4 86 (by decide) rfl rfl ?_
   refine run_sound Try.func29 mixed 200 _ _ (by kernel_rfl) ?_
   simp only [go_sem, seval]
   repeat' (first
    | ((first | (refine br_n (fun hq => ?_) (fun hq => ?_)) | (refine idx_intro (fun x hx => have hq := hx; ?_))) <;> (try simp only [go_sem, seval, hq]))
    | (simp (disch := omega) only [wrap_ok])
    | ((first
     | (refine ⟨sd, ?_⟩)
     | (refine ⟨by assumption, ?_⟩)) <;> (try simp only [go_sem, seval]))
    | assumption)
   refine AW.lp [0, 1, 2, 3, 4, 10, 11, 13, 14] (fun u : Nat × Nat × List V × Int × Int => [(15, .d (.int .i64 (u.1 : Int)))]) (fun _ u => [cuO B u.2.2.2.1 u.2.2.2.2, .buf q 7 e (rels.map Rl.enc), .box [.d (.int .i64 0), .d (.str []), .nil0, .nil0], .box [.d (.int .i64 7), .d (.str []), .nil0, .own 4 q1], .grow q1 4 30 (gs.map Gl.enc), .box (x.enc.map .d), .box [.d (.int .i64 9), .d (.str x.name), .own 7 u.2.1, .nil0], .grow u.2.1 4 86 (u.2.2.1.map V.enc)]) (fun u => u.1 = u.2.2.1.length ∧ (u.1 : Int) ≤ x.arity ∧ (∀ v, v ∈ u.2.2.1 → drawn 7 n v) ∧ 0 ≤ u.2.2.2.1 ∧ u.2.2.2.1 ≤ B.length) (fun u => x.arity.toNat - u.1) (0, 0, [], i5, h5) ⟨rfl, n2, (fun v hv => by cases hv), c3, c4⟩ (by refine ⟨by simp [mkS, cuO_eq], by simp [mkS, cuO_eq], by simp only [mkS, List.all_cons, List.all_nil, O.refsLt, C.refsLt, C.refsLt1, all_dmap]; first | done | rfl | (simp; done), ?_⟩; simp [mkS, Abs.get, C.refsLtT, C.refsLt, C.refsLt1]) ?_
   rintro ⟨j, q2, ts, i6, h6⟩ ⟨p1, p2, p3, p4, p5⟩ hnext
   dsimp only at p1 p2 p3 p4 p5 hnext ⊢
   have hny := fun a b c d e s' => hnext (a, b, c, d, e) s'
   clear hnext
   have hj6 : (j : Int) < 6 := by omega
   by_cases hja : (j : Int) < x.arity
   ·have hb4 := l01Below_R B i6 h6 hB p4 p5 4
    refine run_sound Try.func29 mixed 7 _ _ (by kernel_rfl) ?_
    simp only [go_sem, seval, run.eq_1, hja, hj6]
    repeat' (first
     | ((first | (refine br_n (fun hq => ?_) (fun hq => ?_)) | (refine idx_intro (fun x hx => have hq := hx; ?_))) <;> (try simp only [go_sem, seval, hja, hj6, run.eq_1, hq]))
     | (simp (disch := omega) only [wrap_ok])
     | ((first
      | (refine ⟨sd, ?_⟩)
      | (refine ⟨by assumption, ?_⟩)) <;> (try simp only [go_sem, seval, hja, hj6, run.eq_1]))
     | assumption)
    refine AW.drawA mixed #[true, true, true, true, true, true, true, true, true, true, true, true, true, false] [(6, .box [.d (.int .i64 9), .d (.str x.name), .own 7 q2, .nil0])] [] [0, 1, 2, 3, 8, 4, 5, 6, 7, 9, 10, 11, 12] [13] none (by kernel_rfl) trivial (by simp [holdsB]) ?_
    simp only [go_sem, seval]
    repeat' (first
     | ((first | (refine br_n (fun hq => ?_) (fun hq => ?_)) | (refine idx_intro (fun x hx => have hq := hx; ?_))) <;> (try simp only [go_sem, seval, hq]))
     | (simp (disch := omega) only [wrap_ok])
     | ((first
      | (refine (ACalls.emb hb4 [0] rfl rfl rfl (by decide) rfl ?_) <;> (rintro c H' ⟨z, i7, h7, rfl, rfl, ⟨z0, z1⟩, d3, d4⟩ _; refine ⟨rfl, rfl, ?_⟩))
      | (refine ⟨sd, ?_⟩)
      | (refine ⟨by assumption, ?_⟩)) <;> (try simp only [go_sem, seval]))
     | assumption)
    obtain ⟨s, hs1, hs2⟩ : ∃ s : Nat, IntKind.i64.wrap (1 + IntKind.i64.wrap (IntKind.i64.wrap (Int.tdiv z 3) * 2)) = (s : Int) ∧ (s = 1 ∨ s = 3) := by
     rcases (show z = 0 ∨ z = 1 ∨ z = 2 ∨ z = 3 by omega) with rfl | rfl | rfl | rfl
     ·exact ⟨1, by decide, .inl rfl⟩
     ·exact ⟨1, by decide, .inl rfl⟩
     ·exact ⟨1, by decide, .inl rfl⟩
     ·exact ⟨3, by decide, .inr rfl⟩
    have hs5 : drawS s ≤ 7 := by rcases hs2 with rfl | rfl <;> decide
    rw [hs1]
    refine (ACalls.emb (l02Draw_R B hB n hn s i7 h7 (by omega) d3 d4) [0] rfl rfl rfl (by decide) rfl ?_)
    rintro c H' ⟨v, i8, h8, rfl, rfl, dv, e3, e4⟩ _
    refine ⟨rfl, rfl, ?_⟩
    simp only [go_sem, seval]
    repeat' (first
     | ((first | (refine br_n (fun hq => ?_) (fun hq => ?_)) | (refine idx_intro (fun x hx => have hq := hx; ?_))) <;> (try simp only [go_sem, seval, hq]))
     | (simp (disch := omega) only [wrap_ok])
     | ((first
      | (refine ⟨sd, ?_⟩)
      | (refine ⟨by assumption, ?_⟩)) <;> (try simp only [go_sem, seval]))
     | assumption)
    have dv7 := drawn_le dv hs5
    have hve := V.enc_eq v
    have wj : IntKind.i64.wrap ((j : Int) + 1) = ((j + 1 : Nat) : Int) := by rw [wrap_ok (by omega) (by omega)]; omega
    refine run_sound Try.func29 mixed 200 _ _ (by kernel_rfl) ?_
    simp only [go_sem, seval, wj, hve]
    repeat' (first
     | ((first | (refine br_n (fun hq => ?_) (fun hq => ?_)) | (refine idx_intro (fun x hx => have hq := hx; ?_))) <;> (try simp only [go_sem, seval, wj, hve, hq]))
     | (simp (disch := omega) only [wrap_ok])
     | ((first
      | (refine ⟨sd, ?_⟩)
      | (refine ⟨by assumption, ?_⟩)) <;> (try simp only [go_sem, seval, wj, hve]))
     | assumption)
    all_goals refine hny (j + 1) (q2 + 1) (ts ++ [v]) i8 h8 _ ⟨by rw [List.length_append, ← p1]; rfl, by dsimp only; omega, fun w hw => by
     rcases List.mem_append.1 hw with hw | hw
     ·exact p3 w hw
     ·simp at hw; subst hw; exact dv7, e3, e4⟩ (by dsimp only; omega) (by refine ⟨by simp [mkS, cuO_eq, hve], by simp [mkS, cuO_eq, hve], by simp only [mkS, List.all_cons, List.all_nil, O.refsLt, C.refsLt, C.refsLt1, all_dmap]; first | done | rfl | (simp; done), ?_⟩; simp [mkS, Abs.get, C.refsLtT, C.refsLt, C.refsLt1])
   ·have hje : (j : Int) = x.arity := by omega
    obtain ⟨hX1, hX2, hX3⟩ := Gl.drA_call (S := sgL rels) (n := n) (mode := mode) n1 p3 (by omega) (by
     rw [show ((ts.length : Nat) : Int) = x.arity by omega]; exact List.mem_map.2 ⟨x, hxm, rfl⟩)
    have hXe : (Gl.mk 9 x.name (ts.map V.tm) []).enc = [.int .i64 9, .str x.name, .sl (ts.map V.enc), .sl []] := by rw [Gl.enc_eq]; simp only [Gl.kind, Gl.name, Gl.terms, Gl.goals, enc_tms, List.map_nil]
    have hNe : (Gl.mk 10 [] [] [Gl.mk 9 x.name (ts.map V.tm) []]).enc = [.int .i64 10, .str [], .sl [], .sl [[.int .i64 9, .str x.name, .sl (ts.map V.enc), .sl []]]] := by rw [Gl.enc_eq]; simp only [Gl.kind, Gl.name, Gl.terms, Gl.goals, List.map_cons, List.map_nil, hXe]
    have hmk := l13Make_fn 10 [] [Gl.mk 9 x.name (ts.map V.tm) []]
    simp only [List.map_cons, List.map_nil, hXe, hNe] at hmk
    by_cases hm2 : mode = 2
    ·subst hm2
     have hNA := Gl.drA_not hX1 rfl hX2 hX3
     have ho := l01Once_R B hB 3 i6 h6 p4 p5
     refine run_sound Try.func29 mixed 200 _ _ (by kernel_rfl) ?_
     simp only [go_sem, seval, hja]
     repeat' (first
      | ((first | (refine br_n (fun hq => ?_) (fun hq => ?_)) | (refine idx_intro (fun x hx => have hq := hx; ?_))) <;> (try simp only [go_sem, seval, hja, wk1, hq]))
      | (simp (disch := omega) only [wrap_ok])
      | ((first
       | (refine (ACalls.emb ho [0] rfl rfl rfl (by decide) rfl ?_) <;> (rintro c H' ⟨b, i7, h7, rfl, rfl, d3, d4⟩ _; cases b <;> refine ⟨rfl, rfl, ?_⟩))
       | (refine hmk.calls rfl ?_)
       | (refine ⟨sd, ?_⟩)
       | (refine ⟨by assumption, ?_⟩)) <;> (try simp only [go_sem, seval, hja, wk1]))
      | assumption)
     ·refine hnx k (q1 + 1) (gs ++ [Gl.mk 9 x.name (ts.map V.tm) []]) i7 h7 _ ⟨by rw [List.length_append]; dsimp only [List.length_cons, List.length_nil]; omega, fun w hw => by
       rcases List.mem_append.1 hw with hw | hw
       ·exact j2 w hw
       ·simp at hw; subst hw; exact hX1, d3, d4⟩ (by dsimp only; omega) (by refine ⟨by simp [mkS, cuO_eq, hXe], by simp [mkS, cuO_eq, hXe], by simp only [mkS, List.all_cons, List.all_nil, O.refsLt, C.refsLt, C.refsLt1, all_dmap]; first | done | rfl | (simp; done), ?_⟩; simp [mkS, Abs.get, C.refsLtT, C.refsLt, C.refsLt1])
     ·refine hnx k (q1 + 1) (gs ++ [Gl.mk 10 [] [] [Gl.mk 9 x.name (ts.map V.tm) []]]) i7 h7 _ ⟨by rw [List.length_append]; dsimp only [List.length_cons, List.length_nil]; omega, fun w hw => by
       rcases List.mem_append.1 hw with hw | hw
       ·exact j2 w hw
       ·simp at hw; subst hw; exact hNA, d3, d4⟩ (by dsimp only; omega) (by refine ⟨by simp [mkS, cuO_eq, hNe], by simp [mkS, cuO_eq, hNe], by simp only [mkS, List.all_cons, List.all_nil, O.refsLt, C.refsLt, C.refsLt1, all_dmap]; first | done | rfl | (simp; done), ?_⟩; simp [mkS, Abs.get, C.refsLtT, C.refsLt, C.refsLt1])
    ·refine run_sound Try.func29 mixed 200 _ _ (by kernel_rfl) ?_
     simp only [go_sem, seval, hja, hm2]
     repeat' (first
      | ((first | (refine br_n (fun hq => ?_) (fun hq => ?_)) | (refine idx_intro (fun x hx => have hq := hx; ?_))) <;> (try simp only [go_sem, seval, hja, hm2, wk1, hq]))
      | (simp (disch := omega) only [wrap_ok])
      | ((first
       | (refine ⟨sd, ?_⟩)
       | (refine ⟨by assumption, ?_⟩)) <;> (try simp only [go_sem, seval, hja, hm2, wk1]))
      | assumption)
     all_goals refine hnx k (q1 + 1) (gs ++ [Gl.mk 9 x.name (ts.map V.tm) []]) i6 h6 _ ⟨by rw [List.length_append]; dsimp only [List.length_cons, List.length_nil]; omega, fun w hw => by
       rcases List.mem_append.1 hw with hw | hw
       ·exact j2 w hw
       ·simp at hw; subst hw; exact hX1, p4, p5⟩ (by dsimp only; omega) (by refine ⟨by simp [mkS, cuO_eq, hXe], by simp [mkS, cuO_eq, hXe], by simp only [mkS, List.all_cons, List.all_nil, O.refsLt, C.refsLt, C.refsLt1, all_dmap]; first | done | rfl | (simp; done), ?_⟩; simp [mkS, Abs.get, C.refsLtT, C.refsLt, C.refsLt1])
 ·obtain ⟨k, rfl⟩ : ∃ k', k = k' + 1 := ⟨k - 1, by omega⟩
  have m1 : (0 : Int) < ((k + 1 : Nat) : Int) := by omega
  have m1' : (0 : Int) < (k : Int) + 1 := by omega
  have wk1 : IntKind.i64.wrap ((k : Int) + 1 - 1) = (k : Int) := by rw [wrap_ok (by omega) (by omega)]; omega
  have hsm := l13Simple_R B hB n hn (decide (mode = 0)) i3 h3 j3 j4
  refine run_sound Try.func29 mixed 7 _ _ (by kernel_rfl) ?_
  simp only [go_sem, seval, run.eq_1, m1, m1']
  repeat' (first
   | ((first | (refine br_n (fun hq => ?_) (fun hq => ?_)) | (refine idx_intro (fun x hx => have hq := hx; ?_))) <;> (try simp only [go_sem, seval, m1, m1', run.eq_1, hq]))
   | (simp (disch := omega) only [wrap_ok])
   | ((first
    | (refine ⟨sd, ?_⟩)
    | (refine ⟨by assumption, ?_⟩)) <;> (try simp only [go_sem, seval, m1, m1', run.eq_1]))
   | assumption)
  refine AW.drawA mixed #[true, true, true, true, true, true, true, true, true, true, false] [(3, .box [.d (.int .i64 7), .d (.str []), .nil0, .own 4 q1])] [] [0, 1, 2, 3, 4, 5, 6, 7, 8, 9] [10] none (by kernel_rfl) trivial (by simp [holdsB]) ?_
  simp only [go_sem, seval]
  repeat' (first
   | ((first | (refine br_n (fun hq => ?_) (fun hq => ?_)) | (refine idx_intro (fun x hx => have hq := hx; ?_))) <;> (try simp only [go_sem, seval, hq]))
   | (simp (disch := omega) only [wrap_ok])
   | ((first
    | (refine (ACalls.emb hsm [0] rfl rfl rfl (by decide) rfl ?_) <;> (rintro c H' ⟨g, i4, h4, rfl, rfl, dg, c3, c4⟩ _; refine ⟨rfl, rfl, ?_⟩))
    | (refine ⟨sd, ?_⟩)
    | (refine ⟨by assumption, ?_⟩)) <;> (try simp only [go_sem, seval]))
   | assumption)
  have hge := Gl.enc_eq g
  refine run_sound Try.func29 mixed 200 _ _ (by kernel_rfl) ?_
  simp only [go_sem, seval, m1, m1', wk1, hge]
  repeat' (first
   | ((first | (refine br_n (fun hq => ?_) (fun hq => ?_)) | (refine idx_intro (fun x hx => have hq := hx; ?_))) <;> (try simp only [go_sem, seval, m1, m1', wk1, hge, hq]))
   | (simp (disch := omega) only [wrap_ok])
   | ((first
    | (refine ⟨sd, ?_⟩)
    | (refine ⟨by assumption, ?_⟩)) <;> (try simp only [go_sem, seval, m1, m1', wk1, hge]))
   | assumption)
  all_goals refine hnx k (q1 + 1) (gs ++ [g]) i4 h4 _ ⟨by rw [List.length_append]; dsimp only [List.length_cons, List.length_nil]; omega, fun y hy => by
   rcases List.mem_append.1 hy with hy | hy
   ·exact j2 y hy
   ·simp at hy; subst hy; exact dg _ _, c3, c4⟩ (by dsimp only; omega) (by refine ⟨by simp [mkS, cuO_eq, hge], by simp [mkS, cuO_eq, hge], by simp only [mkS, List.all_cons, List.all_nil, O.refsLt, C.refsLt, C.refsLt1, all_dmap]; first | done | rfl | (simp; done), ?_⟩; simp [mkS, Abs.get, C.refsLtT, C.refsLt, C.refsLt1])
end Go.Proofs.Ytgmfoklmkpdjdaa

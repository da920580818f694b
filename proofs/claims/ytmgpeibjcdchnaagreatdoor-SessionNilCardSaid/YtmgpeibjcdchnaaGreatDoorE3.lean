/- The engine, part 3: an abstract machine for closed calls, proved sound against the kit machine, for every tape. No condition. -/
import Derived.Test.YtmgpeibjcdchnaaGreatDoorE2
import Derived.Below
import Derived.ProofKit
import Derived.WalkKit
/- The engine: one operation of a drawn region that writes, at its time. -/
namespace Go.Eng
section
variable {P : Program} {E : Env} {self : Out → Heap → Option AEnd} {ρ : Ren} {w : World} {sz : Nat} {ops : Array Oper}

/-- One that writes takes its step. -/
theorem writer_step (ok : EnvOK P E) (hS : CallOK P E self) {s : SI} {tm : Tr AV} {h : Heap} {out : WOut} (hso : SOK E ops.toList s) (he : stepW E self sz ops.toList s tm h = some out) (r : Rel E.nG ρ h w)
    {fr : Frame} {rest : List Nat} {k : List Item}
    (hm : fr.mode = .run) (ht : fr.todo = .inRegion ops (s.i :: rest) :: k) (htm : ∀ t ∈ s.lk, ∀ v, tm.get t = some v → R ρ v (fr.tmps.getD t undef)) :
    match out with
    | .next tm' h' => ∃ v ρ' y w', putT sz tm s.o.dst v = some tm' ∧ R ρ' v y ∧ Rel E.nG ρ' h' w' ∧ Ext ρ h w ρ' h' w' ∧ ∀ cs, Steps P (lone fr cs w) (lone (fr.finish y) cs w')
    | .pan c h' => ∃ ρ' ch w', PR' ρ' c ch ∧ Rel E.nG ρ' h' w' ∧ Ext ρ h w ρ' h' w' ∧ ∀ cs, Steps P (lone fr cs w) (lone (fr.raise ch) cs w') := by
  have hoi : ops[s.i]? = some s.o := by rw [← Array.getElem?_toList]; exact hso.o
  have htm' : ∀ t ∈ looks ops.toList s.o, ∀ v, tm.get t = some v → R ρ v (fr.tmps.getD t undef) := by rw [← hso.lk]; exact htm
  have hwant : ∀ {b : Bool}, wantedA ops.toList tm s.o = some b → Region.wanted s.o (yielded ops fr.tmps) = b := fun hb =>
    wanted_ok (ρ := ρ) rfl (fun t v hg j w p hgu hpj hd => htm' t (guard_looks hgu hpj hd) v hg) hb
  have hev := ev_ok r.q (f := fr) (pick_TR htm')
  have hcong : ∀ x ∈ s.o.op.operands, ev E.nG tm x = ev E.nG (pick tm (looks ops.toList s.o)) x := pick_ev
  unfold stepW at he
  split at he
  · cases he
  · rename_i hwa
    split at he
    · rename_i tm' hp
      cases he
      exact ⟨_, ρ, undef, w, hp, by simp [R, RL, undef], r, Ext.refl _ _ _, fun cs => .one (step_unwanted hm ht hoi (hwant hwa))⟩
    · cases he
  · rename_i hwa
    split at he
    · rename_i hk
      split at he
      · rename_i v h' hq
        split at he
        · rename_i tm' hp
          cases he
          rw [aopW_congr hcong] at hq
          obtain ⟨ρ', nx, y, w', g1, g2, g3, g4, g5⟩ := aopW_ok ok r hev hq
          refine ⟨v, ρ', y, w', hp, g3, g4, g5, fun cs => .one ?_⟩
          have hnd : fr.roundOf = none ∨ ∀ c, s.o.op ≠ .defer c := .inr fun c hc => by rw [hc] at hk; cases hk
          rcases g2 with rfl | ⟨rfl, rfl⟩
          · exact step_value hm ht hoi (hwant hwa) hnd g1
          · exact step_skipped hm ht hoi (hwant hwa) hnd g1
        · cases he
      · cases he
    · rename_i hk
      split at he
      · rename_i v hq
        split at he
        · rename_i tm' hp
          cases he
          have hq' := hq
          rw [aopC_congr hcong] at hq'
          obtain ⟨y, g1, g2⟩ := aopC_ok ok r hev hq'
          refine ⟨v, ρ, y, w, hp, g2, r, Ext.refl _ _ _, fun cs => .one (step_value hm ht hoi (hwant hwa) (.inr fun c hc => ?_) g1)⟩
          rw [hc] at hq'
          obtain ⟨d, hd⟩ := aopC_defer hq'
          cases hd
        · cases he
      · rename_i o1 hno hq
        have hq' := hq
        rw [aopC_congr hcong] at hq'
        have hout := aopC_ok ok r hev hq'
        split at he
        · rename_i v h' hse
          split at he
          · rename_i tm' hp
            cases he
            obtain ⟨ρ', y, w', g1, g2, g3, g4⟩ := hS _ _ _ _ _ _ _ _ _ _ _ _ r hm ht hoi (hwant hwa) hq' hout hse
            exact ⟨v, ρ', y, w', hp, g1, g2, g3, g4⟩
          · cases he
        · rename_i c h' hse
          cases he
          exact hS _ _ _ _ _ _ _ _ _ _ _ _ r hm ht hoi (hwant hwa) hq' hout hse
        · cases he
      · cases he
    · cases he
end
end Go.Eng

/- The engine: facts about the entries of a drawn region. -/
namespace Go.Eng
section
variable {E : Env} {self : Out → Heap → Option AEnd} {sz : Nat} {ops : Array Oper}

theorem pairsOk_pw : ∀ {l : List SI}, pairsOk l = true → l.Pairwise fun x y => pairOk x y = true
  | [], _ => .nil
  | x :: l, h => by
    simp only [pairsOk, Bool.and_eq_true, List.all_eq_true] at h
    exact .cons h.1 (pairsOk_pw h.2)

theorem pairOk_i {x y : SI} (h : pairOk x y = true) : x.i ≠ y.i := by
  simp only [pairOk, Bool.and_eq_true] at h
  intro e
  rw [e, show Nat.beq y.i y.i = true from by rw [Nat.beq_eq]] at h
  simp at h

theorem pairOk_dst {x y : SI} (h : pairOk x y = true) {d : Tmp} (hx : x.o.dst = some d) : y.o.dst ≠ some d := by
  intro hy
  simp only [pairOk, Bool.and_eq_true, hx, hy] at h
  rw [show Nat.beq d d = true from by rw [Nat.beq_eq]] at h
  simp at h

theorem any_beq {l : List Nat} {d : Nat} (h : d ∈ l) : l.any (Nat.beq d) = true := by
  rw [List.any_eq_true]
  exact ⟨d, h, by rw [Nat.beq_eq]⟩

theorem pairOk_raw {x y : SI} (h : pairOk x y = true) {d : Tmp} (hx : x.o.dst = some d) (hl : d ∈ y.lk) : has y.m x.i = true := by
  simp only [pairOk, Bool.and_eq_true, hx, Bool.or_eq_true, any_beq hl] at h
  rcases h.1.2.2 with h | h
  · exact h
  · cases h

theorem pairOk_war {x y : SI} (h : pairOk x y = true) {d : Tmp} (hy : y.o.dst = some d) (hl : d ∈ x.lk) : has y.m x.i = true := by
  simp only [pairOk, Bool.and_eq_true, hy, Bool.or_eq_true, any_beq hl] at h
  rcases h.2 with h | h
  · exact h
  · cases h

theorem nextW_pre {s : SI} {post : List SI} (hs : s.w = true) : ∀ {pre : List SI}, ∃ w, nextW (pre ++ s :: post) = some w ∧ (w ∈ pre ∨ w = s)
  | [] => ⟨s, by simp [nextW, hs], .inr rfl⟩
  | x :: pre => by
    obtain ⟨w, h1, h2⟩ := nextW_pre (s := s) (post := post) hs (pre := pre)
    simp only [List.cons_append, nextW]
    split
    · exact ⟨x, rfl, .inl (List.mem_cons_self ..)⟩
    · exact ⟨w, h1, h2.imp (List.mem_cons_of_mem _) id⟩

/-- All that lies ahead of a writer that is ready is done. -/
theorem pre_listed {lst : Nat → Bool} {s : SI} {post : List SI} (hs : s.w = true) (hm : ∀ j, has s.m j = true → lst j = true) :
    ∀ {pre : List SI}, chainOk (pre ++ s :: post) = true → (∀ x ∈ pre, lst x.i = true → ∀ j, has x.m j = true → lst j = true) → ∀ x ∈ pre, lst x.i = true
  | [], _, _ => by simp
  | x :: pre, hc, hcl => by
    simp only [List.cons_append, chainOk, Bool.and_eq_true] at hc
    have ih := pre_listed hs hm hc.2 fun y hy => hcl y (List.mem_cons_of_mem _ hy)
    obtain ⟨w, h1, h2⟩ := nextW_pre (s := s) (post := post) hs (pre := pre)
    have hx : has w.m x.i = true := by
      have := hc.1
      rw [h1] at this
      exact this
    intro y hy
    rcases List.mem_cons.1 hy with rfl | hy
    · rcases h2 with h2 | rfl
      · exact hcl w (List.mem_cons_of_mem _ h2) (ih w h2) _ hx
      · exact hm _ hx
    · exact ih y hy

theorem chainOk_right : ∀ {pre l : List SI}, chainOk (pre ++ l) = true → chainOk l = true
  | [], _, h => h
  | x :: pre, l, h => by
    simp only [List.cons_append, chainOk, Bool.and_eq_true] at h
    exact chainOk_right h.2

theorem chainOk_quiet : ∀ {l : List SI}, (∀ x ∈ l, x.w = false) → chainOk l = true
  | [], _ => rfl
  | x :: l, h => by
    have hn : nextW l = none := by
      have : ∀ {l : List SI}, (∀ x ∈ l, x.w = false) → nextW l = none := by
        intro l
        induction l with
        | nil => intro _; rfl
        | cons y l ih => intro h; simp only [nextW, h y (List.mem_cons_self ..)]; exact ih fun z hz => h z (List.mem_cons_of_mem _ hz)
      exact this fun z hz => h z (List.mem_cons_of_mem _ hz)
    simp only [chainOk, hn, Bool.true_and]
    exact chainOk_quiet fun z hz => h z (List.mem_cons_of_mem _ hz)

/-- What is given of the entries that are not all taken in yet. -/
structure Trc (E : Env) (slf : Out → Heap → Option AEnd) (sz : Nat) (ops : Array Oper) (tm : Tr AV) (G : Heap) (hs : List (Nat × Heap)) (es : List Ent) : Prop where
  ch : Chained E slf sz ops.toList tm G G hs es
  sok : ∀ a ∈ es, SOK E ops.toList a.s
  pw : es.Pairwise fun x y => pairOk x.s y.s = true

theorem pw_mem {α : Type} {r : α → α → Prop} : ∀ {l : List α}, l.Pairwise r → ∀ {x y : α}, x ∈ l → y ∈ l → x = y ∨ r x y ∨ r y x
  | [], _, x, y, hx, _ => by cases hx
  | a :: l, h, x, y, hx, hy => by
    rw [List.pairwise_cons] at h
    rcases List.mem_cons.1 hx with ex | hx'
    · rcases List.mem_cons.1 hy with ey | hy'
      · exact .inl (ex.trans ey.symm)
      · exact .inr (.inl (by rw [ex]; exact h.1 _ hy'))
    · rcases List.mem_cons.1 hy with ey | hy'
      · exact .inr (.inr (by rw [ey]; exact h.1 _ hx'))
      · exact pw_mem h.2 hx' hy'

theorem pw_inj {es : List Ent} (h : es.Pairwise fun x y => pairOk x.s y.s = true) {a b : Ent} (ha : a ∈ es) (hb : b ∈ es) (e : a.s.i = b.s.i) : a = b := by
  rcases pw_mem h ha hb with h | h | h
  · exact h
  · exact absurd e (pairOk_i h)
  · exact absurd e.symm (pairOk_i h)

theorem pw_dst {es : List Ent} (h : es.Pairwise fun x y => pairOk x.s y.s = true) {a b : Ent} (ha : a ∈ es) (hb : b ∈ es) {d : Tmp} (h1 : a.s.o.dst = some d) (h2 : b.s.o.dst = some d) : a = b := by
  rcases pw_mem h ha hb with h | h | h
  · exact h
  · exact absurd h2 (pairOk_dst h h1)
  · exact absurd h1 (pairOk_dst h h2)

/-- What an entry made, if it is one that writes nothing. -/
def madeOb (a : Ent) : Option AObj :=
  match a.s.w with
  | true => none
  | false => if a.h'.next = a.h.next + 1 then a.h'.obj a.h.next else none

theorem made_cases {a : Ent} (hw : a.s.w = false) (he : EntOK E self sz ops.toList a) : (madeOb a = none ∧ a.h' = a.h) ∨ ∃ ob, madeOb a = some ob ∧ a.h' = a.h.new ob := by
  have hn : a.h' = a.h → madeOb a = none := fun h => by
    simp only [madeOb, hw]
    rw [if_neg]
    rw [h]
    omega
  obtain ⟨v, _, hc⟩ := stepQ_split hw he
  rcases hc with ⟨_, _, h⟩ | ⟨_, _, _, _, h⟩ | ⟨_, _, ob, _, h⟩
  · exact .inl ⟨hn h, h⟩
  · exact .inl ⟨hn h, h⟩
  · refine .inr ⟨ob, ?_, h⟩
    simp only [madeOb, hw]
    rw [if_pos (by rw [h]; rfl), h, obj_new, if_pos rfl]

theorem made_some {a : Ent} {ob : AObj} (h : madeOb a = some ob) : a.s.w = false ∧ a.h'.next = a.h.next + 1 := by
  unfold madeOb at h
  split at h
  · cases h
  · rename_i hw
    split at h
    · rename_i hn; exact ⟨hw, hn⟩
    · cases h

theorem ent_made {a : Ent} {ob : AObj} (h : a.Made E ops.toList ob) : madeOb a = some ob := by
  obtain ⟨hw, _, _, _, h⟩ := h
  simp only [madeOb, hw]
  rw [if_pos (by rw [h]; rfl), h, obj_new, if_pos rfl]

theorem ent_next {a : Ent} (he : EntOK E self sz ops.toList a) : a.h.next ≤ a.h'.next := by
  cases hw : a.s.w with
  | true => simp only [EntOK, hw] at he; exact he.2
  | false =>
    rcases made_cases hw he with ⟨_, h⟩ | ⟨ob, _, h⟩
    · rw [h]; exact Nat.le_refl _
    · rw [h]; exact Nat.le_succ _

theorem chained_next : ∀ {es : List Ent} {tm : Tr AV} {g h : Heap} {hs : List (Nat × Heap)}, Chained E self sz ops.toList tm g h hs es →
    h.next ≤ (endH h es).next ∧ (∀ a ∈ es, h.next ≤ a.h.next ∧ a.h'.next ≤ (endH h es).next ∧ EntOK E self sz ops.toList a) ∧ es.Pairwise fun a b => a.h'.next ≤ b.h.next
  | [], tm, g, h, hs, _ => ⟨Nat.le_refl _, by simp, .nil⟩
  | a :: es, tm, g, h, hs, hc => by
    obtain ⟨_, _, rfl, _, h5, h6⟩ := hc
    obtain ⟨i1, i2, i3⟩ := chained_next h6
    have hn := ent_next h5
    simp only [endH]
    refine ⟨Nat.le_trans hn i1, ?_, .cons (fun b hb => (i2 b hb).1) i3⟩
    intro b hb
    rcases List.mem_cons.1 hb with rfl | hb
    · exact ⟨Nat.le_refl _, i1, h5⟩
    · obtain ⟨k1, k2, k3⟩ := i2 b hb
      exact ⟨Nat.le_trans hn k1, k2, k3⟩

theorem made_inj {es : List Ent} (h : es.Pairwise fun a b => a.h'.next ≤ b.h.next) {a b : Ent} (ha : a ∈ es) (hb : b ∈ es) {oa ob : AObj} (h1 : madeOb a = some oa) (h2 : madeOb b = some ob) (e : a.h.next = b.h.next) : a = b := by
  have k1 := (made_some h1).2
  have k2 := (made_some h2).2
  rcases pw_mem h ha hb with h | h | h
  · exact h
  · omega
  · omega

/-- The entry behind so many. -/
theorem chained_at {A B : List Ent} {a : Ent} {tm : Tr AV} {G : Heap} {hs : List (Nat × Heap)} (h : Chained E self sz ops.toList tm G G hs (A ++ a :: B)) :
    a.tm = endTm tm A ∧ a.g = endG G A ∧ a.h = endH G A ∧ a.hs = endHs hs A ∧ EntOK E self sz ops.toList a ∧ Chained E self sz ops.toList tm G G hs A ∧ Chained E self sz ops.toList a.tm' a.g' a.h' a.hs' B := by
  rw [chained_append] at h
  obtain ⟨h1, h2, h3, h4, h5, h6, h7⟩ := h
  exact ⟨h2, h3, h4, h5, h6, h1, h7⟩

theorem endTm_append : ∀ {A B : List Ent} {tm : Tr AV}, endTm tm (A ++ B) = endTm (endTm tm A) B
  | [], _, _ => rfl
  | a :: A, B, tm => by simp only [List.cons_append, endTm, endTm_append (A := A)]

theorem endH_append : ∀ {A B : List Ent} {h : Heap}, endH h (A ++ B) = endH (endH h A) B
  | [], _, _ => rfl
  | a :: A, B, h => by simp only [List.cons_append, endH, endH_append (A := A)]

/-- A reader answers at an elder memory what it answered. -/
theorem back_ok {o : Op} {v : AV} {m : Nat} {t : Tr AV} : ∀ {A : List Ent} {tm : Tr AV} {g h : Heap} {hs : List (Nat × Heap)}, Chained E self sz ops.toList tm g h hs A → (∀ x ∈ A, x.s.w = true → has m x.s.i = false) →
    backOk E t o v m (endHs hs A) = true → aopQ E t (endG g A) o = some v → aopQ E t g o = some v ∧ backOk E t o v m hs = true
  | [], tm, g, h, hs, _, _, hb, hq => ⟨hq, hb⟩
  | x :: A, tm, g, h, hs, hc, hn, hb, hq => by
    obtain ⟨_, rfl, _, rfl, _, h6⟩ := hc
    simp only [endHs, endG] at hb hq
    obtain ⟨k1, k2⟩ := back_ok h6 (fun y hy => hn y (List.mem_cons_of_mem _ hy)) hb hq
    cases hw : x.s.w with
    | false =>
      simp only [Ent.g', Ent.hs', hw] at k1 k2
      exact ⟨k1, k2⟩
    | true =>
      simp only [Ent.hs', hw] at k2
      simp only [backOk, hn x (List.mem_cons_self ..) hw] at k2
      split at k2
      · rename_i u hu
        rw [Bool.and_eq_true] at k2
        rw [avEq_eq _ _ k2.1] at hu
        exact ⟨hu, k2.2⟩
      · cases k2
end
end Go.Eng

/- The engine: amid a drawn region, ahead of its last writer. -/
namespace Go.Eng
section
variable {P : Program} {E : Env} {self : Out → Heap → Option AEnd} {sz : Nat} {ops : Array Oper} {ρ ρ0 : Ren} {h0 : Heap} {w w' w0 : World}

/-- The makes taken in, as far as they ran; the others as objects of which nothing is said. -/
def KK (lst : Nat → Bool) : List Ent → Heap → Heap
  | [], h => h
  | a :: l, h => KK lst l (match madeOb a with
    | none => h
    | some ob => h.new (match lst a.s.i with
      | true => ob
      | false => .dead))

theorem Ren.cut_mono {ρ : Ren} {N M : Nat} (h : N ≤ M) : (ρ.cut N).le (ρ.cut M) := by
  intro n l hn
  rw [Ren.cut_some] at hn ⊢
  exact ⟨by omega, hn.2⟩

theorem Ren.cut_of_le {ρ ρ' : Ren} (h : ρ.le ρ') (N : Nat) : (ρ.cut N).le (ρ'.cut N) := by
  intro n l hn
  rw [Ren.cut_some] at hn ⊢
  exact ⟨hn.1, h _ _ hn.2⟩

theorem Ren.cut_put_ge {ρ : Ren} {n N : Nat} (l : Loc) (h : N ≤ n) : (ρ.put n l).cut N = ρ.cut N := by
  funext m
  unfold Ren.cut Ren.put
  by_cases hm : m < N
  · rw [if_pos hm, if_pos hm, if_neg (by omega)]
  · rw [if_neg hm, if_neg hm]

theorem Ren.cut_succ_none {ρ : Ren} {N : Nat} (h : ρ N = none) : ρ.cut (N + 1) = ρ.cut N := by
  funext m
  unfold Ren.cut
  by_cases hm : m < N
  · rw [if_pos hm, if_pos (by omega)]
  · rw [if_neg hm]
    by_cases e : m = N
    · subst e; rw [if_pos (by omega), h]
    · rw [if_neg (by omega)]

/-- A name of which nothing is said. -/
theorem Rel.newDead {nG : Nat} {h : Heap} (r : Rel nG ρ h w) : Rel nG ρ (h.new .dead) w := by
  have hlv : ∀ m, live (h.new .dead) m = true → live h m = true := by
    intro m hm
    obtain ⟨o', h1, h2⟩ := live_iff.1 hm
    rw [obj_new] at h1
    split at h1
    · cases h1; exact absurd rfl h2
    · exact live_iff.2 ⟨o', h1, h2⟩
  refine ⟨?_, fun n m l l' a b => r.inj n m l l' (hlv _ a) (hlv _ b), fun n l hn => ?_, r.glob, ?_, Nat.le_succ_of_le r.globs⟩
  · intro n o hn hd
    rw [obj_new] at hn
    split at hn
    · cases hn; exact absurd rfl hd
    · exact r.obj n o hn hd
  · have := r.lt n l hn
    exact ⟨Nat.lt_succ_of_lt this.1, this.2⟩
  · intro n hn
    have hn' : h.next + 1 ≤ n := hn
    rw [obj_new, if_neg (by omega)]
    exact r.fresh n (by omega)

theorem Ext.newDead {h : Heap} (hn : h0.next ≤ h.next) (x : Ext ρ0 h0 w0 ρ h w) : Ext ρ0 h0 w0 ρ (h.new .dead) w := by
  refine ⟨x.le, Nat.le_succ_of_le x.next, ?_, x.frame, x.size, x.fresh, x.kept⟩
  intro n hlt hl
  refine x.lives n hlt ?_
  obtain ⟨o', h1, h2⟩ := live_iff.1 hl
  rw [obj_new, if_neg (by omega)] at h1
  exact live_iff.2 ⟨o', h1, h2⟩

/-- A make that ran ahead is taken in: what is kept since the beginning. -/
theorem Ext.take {h : Heap} {o : AObj} {l : Loc} (hn : h0.next ≤ h.next) (hl : ρ h.next = some l) (hw : w0.heap.size ≤ l.b) (x : Ext ρ0 h0 w0 (ρ.cut h.next) h w) : Ext ρ0 h0 w0 (ρ.cut (h.next + 1)) (h.new o) w := by
  refine ⟨Ren.le_trans x.le (Ren.cut_mono (Nat.le_succ _)), Nat.le_succ_of_le x.next, ?_, x.frame, x.size, ?_, x.kept⟩
  · intro n hlt hl
    refine x.lives n hlt ?_
    obtain ⟨o', h1, h2⟩ := live_iff.1 hl
    rw [obj_new, if_neg (by omega)] at h1
    exact live_iff.2 ⟨o', h1, h2⟩
  · intro n l' h1 h2
    rw [Ren.cut_some] at h1
    by_cases e : n = h.next
    · subst e
      rw [hl] at h1
      obtain ⟨_, h1⟩ := h1
      cases h1
      exact ⟨hn, .inl hw⟩
    · exact x.fresh n l' (Ren.cut_some.2 ⟨by omega, h1.2⟩) h2

theorem Rel.grow {nG : Nat} {h : Heap} (r : Rel nG ρ h w) (hb : ∀ b, b < w.heap.size → w'.heap[b]? = w.heap[b]?) (hs : w.heap.size ≤ w'.heap.size) : Rel nG ρ h w' := by
  refine ⟨?_, r.inj, fun n l hn => ⟨(r.lt n l hn).1, Nat.lt_of_lt_of_le (r.lt n l hn).2 hs⟩, r.glob, r.fresh, r.globs⟩
  intro n o hn hd
  obtain ⟨l, h1, h2⟩ := r.obj n o hn hd
  exact ⟨l, h1, by rw [hb _ (r.lt n l h1).2]; exact h2⟩

theorem Ext.grow {h : Heap} (x : Ext ρ0 h0 w0 ρ h w) (hb : ∀ b, b < w.heap.size → w'.heap[b]? = w.heap[b]?) (hs : w.heap.size ≤ w'.heap.size) (hkp : Kpt w w' := by exact ⟨rfl, rfl, rfl⟩) : Ext ρ0 h0 w0 ρ h w' :=
  ⟨x.le, x.next, x.lives, fun b hlt hno => by rw [hb b (Nat.lt_of_lt_of_le hlt x.size)]; exact x.frame b hlt hno, Nat.le_trans x.size hs, x.fresh, x.kept.trans hkp⟩

/-- What is said of a make that ran. -/
def MadeR (ρ : Ren) (G : Heap) (w0 w : World) (a : Ent) (ob : AObj) : Prop :=
  ∃ l, ρ a.h.next = some l ∧ OR (ρ.cut (a.h.next + 1)) l ob w.heap[l.b]? ∧ l.b < w.heap.size ∧ w0.heap.size ≤ l.b ∧ ∀ n l', n < a.h.next → ρ n = some l' → (n < G.next → live G n = true) → l'.b ≠ l.b

theorem live_new {h : Heap} {o : AObj} {n : Nat} (hn : n < h.next) (hl : live (h.new o) n = true) : live h n = true := by
  obtain ⟨o', h1, h2⟩ := live_iff.1 hl
  rw [obj_new, if_neg (by omega)] at h1
  exact live_iff.2 ⟨o', h1, h2⟩

theorem MadeR.new {G : Heap} {a : Ent} {ob o : AObj} (h : MadeR ρ G w0 w a ob) : MadeR ρ (G.new o) w0 w a ob := by
  obtain ⟨l, h1, h2, h3, h4, h5⟩ := h
  refine ⟨l, h1, h2, h3, h4, fun n l' hn hl hv => h5 n l' hn hl fun hlt => live_new hlt (hv (Nat.lt_succ_of_lt hlt))⟩

theorem kk_rel {lst : Nat → Bool} : ∀ {A : List Ent} {tm : Tr AV} {g h : Heap} {hs : List (Nat × Heap)}, Chained E self sz ops.toList tm g h hs A → (∀ a ∈ A, a.s.w = false) → ∀ (G : Heap), G.next = h.next → h0.next ≤ G.next →
    Rel E.nG (ρ.cut G.next) G w → Ext ρ0 h0 w0 (ρ.cut G.next) G w →
    (∀ a ∈ A, lst a.s.i = true → ∀ ob, madeOb a = some ob → MadeR ρ G w0 w a ob) → (∀ a ∈ A, lst a.s.i = false → ∀ ob, madeOb a = some ob → ρ a.h.next = none) →
    (KK lst A G).next = (endH h A).next ∧ Rel E.nG (ρ.cut (KK lst A G).next) (KK lst A G) w ∧ Ext ρ0 h0 w0 (ρ.cut (KK lst A G).next) (KK lst A G) w
  | [], tm, g, h, hs, _, _, G, hG, _, hr, hx, _, _ => ⟨hG, hr, hx⟩
  | a :: A, tm, g, h, hs, hc, hq, G, hG, hn, hr, hx, hm, hu => by
    obtain ⟨_, _, rfl, _, h5, h6⟩ := hc
    have hw := hq a (List.mem_cons_self ..)
    simp only [KK, endH]
    have hq' : ∀ b ∈ A, b.s.w = false := fun b hb => hq b (List.mem_cons_of_mem _ hb)
    have hu' : ∀ b ∈ A, lst b.s.i = false → ∀ ob, madeOb b = some ob → ρ b.h.next = none := fun b hb => hu b (List.mem_cons_of_mem _ hb)
    rcases made_cases hw h5 with ⟨k1, k2⟩ | ⟨ob, k1, k2⟩
    · rw [k1]
      simp only []
      exact kk_rel h6 hq' G (by rw [k2]; exact hG) hn hr hx (fun b hb => hm b (List.mem_cons_of_mem _ hb)) hu'
    · rw [k1]
      simp only []
      have hn' : ∀ o : AObj, (G.new o).next = a.h'.next := fun o => by rw [k2]; show G.next + 1 = a.h.next + 1; rw [hG]
      refine kk_rel h6 hq' _ (hn' _) (Nat.le_succ_of_le hn) ?_ ?_ (fun b hb hl o ho => (hm b (List.mem_cons_of_mem _ hb) hl o ho).new) hu'
      · show Rel E.nG (ρ.cut (G.next + 1)) _ w
        cases hl : lst a.s.i with
        | true =>
          obtain ⟨l, g1, g2, g3, g4, g5⟩ := hm a (List.mem_cons_self ..) hl ob k1
          rw [← hG] at g1 g2 g5
          refine take_in hr g1 g3 (fun n l' hlv hcut => ?_) g2
          rw [Ren.cut_some] at hcut
          exact g5 n l' hcut.1 hcut.2 fun _ => hlv
        | false =>
          have hnone := hu a (List.mem_cons_self ..) hl ob k1
          rw [← hG] at hnone
          rw [Ren.cut_succ_none hnone]
          exact hr.newDead
      · show Ext ρ0 h0 w0 (ρ.cut (G.next + 1)) _ w
        cases hl : lst a.s.i with
        | true =>
          obtain ⟨l, g1, g2, g3, g4, g5⟩ := hm a (List.mem_cons_self ..) hl ob k1
          rw [← hG] at g1
          exact Ext.take hn g1 g4 hx
        | false =>
          have hnone := hu a (List.mem_cons_self ..) hl ob k1
          rw [← hG] at hnone
          rw [Ren.cut_succ_none hnone]
          exact Ext.newDead hn hx

theorem kk_all {lst : Nat → Bool} : ∀ {A : List Ent} {tm : Tr AV} {g G : Heap} {hs : List (Nat × Heap)}, Chained E self sz ops.toList tm g G hs A → (∀ a ∈ A, a.s.w = false) → (∀ a ∈ A, lst a.s.i = true) → KK lst A G = endH G A
  | [], tm, g, G, hs, _, _, _ => rfl
  | a :: A, tm, g, G, hs, hc, hq, hl => by
    obtain ⟨_, _, rfl, _, h5, h6⟩ := hc
    simp only [KK, endH]
    rw [← kk_all h6 (fun b hb => hq b (List.mem_cons_of_mem _ hb)) fun b hb => hl b (List.mem_cons_of_mem _ hb)]
    rcases made_cases (hq a (List.mem_cons_self ..)) h5 with ⟨k1, k2⟩ | ⟨ob, k1, k2⟩
    · rw [k1, k2]
    · rw [k1, hl a (List.mem_cons_self ..), k2]

/-- Where the model stands, amid a region: es: what is not all taken in yet; tm, G: ahead of it. -/
structure Mid (E : Env) (sz : Nat) (ρ0 : Ren) (h0 : Heap) (w0 : World) (ρ : Ren) (lst : Nat → Bool) (tm : Tr AV) (G : Heap) (es : List Ent) (tmps : Array Value) (w : World) : Prop where
  nw : ∀ a ∈ es, a.s.w = true → lst a.s.i = false
  rel : Rel E.nG (ρ.cut G.next) G w
  ext : Ext ρ0 h0 w0 (ρ.cut G.next) G w
  names : ∀ n l, ρ n = some l → n < G.next ∨ ∃ a ∈ es, lst a.s.i = true ∧ (∃ ob, madeOb a = some ob) ∧ n = a.h.next
  made : ∀ a ∈ es, lst a.s.i = true → ∀ ob, madeOb a = some ob → MadeR ρ G w0 w a ob
  tmA : ∀ a ∈ es, lst a.s.i = true → ∀ d, a.s.o.dst = some d → ∀ v, a.tm'.get d = some v → R (ρ.cut a.h'.next) v (tmps.getD d undef)
  tmB : ∀ t, (∀ a ∈ es, lst a.s.i = true → a.s.o.dst ≠ some t) → ∀ v, tm.get t = some v → R (ρ.cut G.next) v (tmps.getD t undef)
  size : tmps.size = sz

variable {lst : Nat → Bool} {tm : Tr AV} {G : Heap} {hs : List (Nat × Heap)} {es A B : List Ent} {a : Ent} {tmps : Array Value}

theorem Mid.lt (m : Mid E sz ρ0 h0 w0 ρ lst tm G es tmps w) {n : Nat} {l : Loc} (hn : ρ n = some l) : l.b < w.heap.size := by
  rcases m.names n l hn with h | ⟨a, h1, h2, ⟨ob, h3⟩, rfl⟩
  · exact (m.rel.lt n l (Ren.cut_some.2 ⟨h, hn⟩)).2
  · obtain ⟨l', g1, _, g3, _⟩ := m.made a h1 h2 ob h3
    rw [hn] at g1
    cases g1
    exact g3

theorem Mid.none (m : Mid E sz ρ0 h0 w0 ρ lst tm G es tmps w) (t : Trc E self sz ops tm G hs es) (ha : a ∈ es) {ob : AObj} (hm : madeOb a = some ob) (hl : lst a.s.i = false) : ρ a.h.next = none := by
  obtain ⟨c1, c2, c3⟩ := chained_next t.ch
  cases e : ρ a.h.next with
  | none => rfl
  | some l =>
    rcases m.names _ _ e with h | ⟨b, h1, h2, ⟨ob', h3⟩, h4⟩
    · have := (c2 a ha).1
      omega
    · have := made_inj c3 ha h1 hm h3 h4
      subst this
      rw [hl] at h2
      cases h2

/-- What an operation looks at is related. -/
theorem Mid.looks (m : Mid E sz ρ0 h0 w0 ρ lst tm G (A ++ B) tmps w) (t : Trc E self sz ops tm G hs (A ++ B)) {s : SI} (hA : ∀ b ∈ A, pairOk b.s s = true) (hB : ∀ b ∈ B, lst b.s.i = true → ∀ d, b.s.o.dst = some d → d ∉ s.lk)
    (hm : ∀ j, has s.m j = true → lst j = true) : ∀ u ∈ s.lk, ∀ v, (endTm tm A).get u = some v → R (ρ.cut (endH G A).next) v (tmps.getD u undef) := by
  intro u hu v hv
  have hcA := (chained_append.1 t.ch).1
  obtain ⟨c1, c2, c3⟩ := chained_next hcA
  by_cases hex : ∃ b ∈ A, b.s.o.dst = some u
  · obtain ⟨b, hb, hd⟩ := hex
    obtain ⟨A1, A2, rfl⟩ := List.append_of_mem hb
    have hlb := hm _ (pairOk_raw (hA b hb) hd hu)
    have hmem : b ∈ (A1 ++ b :: A2) ++ B := List.mem_append_left _ hb
    have hr := m.tmA b hmem hlb u hd v
    refine R_mono (Ren.cut_mono (c2 b hb).2.1) _ _ (hr ?_)
    rw [endTm_append] at hv
    simp only [endTm] at hv
    rw [← hv]
    obtain ⟨_, _, _, _, _, _, h7⟩ := chained_at hcA
    refine (endTm_other h7 fun x hx hdx => ?_).symm
    have hx' : x ∈ (A1 ++ b :: A2) ++ B := List.mem_append_left _ (List.mem_append_right _ (List.mem_cons_of_mem _ hx))
    have he := pw_dst t.pw hmem hx' hd hdx
    subst he
    have hp := t.pw
    rw [List.append_assoc, List.pairwise_append] at hp
    have hp2 := hp.2.1
    rw [List.cons_append, List.pairwise_cons] at hp2
    exact absurd rfl (pairOk_i (hp2.1 _ (List.mem_append_left _ hx)))
  · rw [endTm_other hcA fun b hb hd => hex ⟨b, hb, hd⟩] at hv
    refine R_mono (Ren.cut_mono c1) _ _ (m.tmB u (fun b hb hl hd => ?_) v hv)
    rcases List.mem_append.1 hb with hb | hb
    · exact hex ⟨b, hb, hd⟩
    · exact hB b hb hl u hd hu
end
end Go.Eng

/- The engine: amid a drawn region, one step more. -/
namespace Go.Eng
section
variable {P : Program} {E : Env} {self : Out → Heap → Option AEnd} {sz : Nat} {ops : Array Oper} {ρ ρ0 ρ' : Ren} {h0 : Heap} {w w' w0 : World}
  {lst : Nat → Bool} {tm : Tr AV} {G : Heap} {hs : List (Nat × Heap)} {es A B : List Ent} {a : Ent} {tmps : Array Value}

def upd (lst : Nat → Bool) (i : Nat) : Nat → Bool := fun j => if j = i then true else lst j

theorem upd_same (lst : Nat → Bool) (i : Nat) : upd lst i i = true := by simp [upd]
theorem upd_other {i j : Nat} (h : j ≠ i) : upd lst i j = lst j := by simp [upd, h]
theorem upd_true {i j : Nat} (h : upd lst i j = true) : j = i ∨ lst j = true := by
  unfold upd at h
  split at h
  · rename_i e; exact .inl e
  · exact .inr h
theorem upd_le {i j : Nat} (h : lst j = true) : upd lst i j = true := by
  unfold upd
  split
  · rfl
  · exact h

theorem finish_eq {fr : Frame} {i : Nat} {rest : List Nat} {k : List Item} {o : Oper} {y : Value} (ho : ops[i]? = some o) :
    ({ fr with tmps := tmps, todo := .inRegion ops (i :: rest) :: k } : Frame).finish y = { fr with tmps := putC tmps o.dst y, todo := .inRegion ops rest :: k } := by
  simp only [Frame.finish, ho, Option.bind_some, putC]
  cases o.dst <;> rfl

theorem putC_get {d : Option Tmp} {y : Value} {t : Tmp} : (putC tmps d y).getD t undef = if d = some t ∧ t < tmps.size then y else tmps.getD t undef := by
  unfold putC
  cases d with
  | none => simp
  | some e =>
    simp only [Option.some.injEq]
    by_cases he : e = t
    · subst he
      by_cases hlt : e < tmps.size
      · simp [hlt]
      · rw [if_neg (by intro h; exact hlt h.2)]
        simp [Array.getD_eq_getD_getElem?, hlt]
    · rw [if_neg (by intro h; exact he h.1)]
      simp [Array.getD_eq_getD_getElem?, Array.getElem?_setIfInBounds_ne he]

theorem putC_size {d : Option Tmp} {y : Value} : (putC tmps d y).size = tmps.size := by
  unfold putC
  cases d <;> simp

theorem putT_lt {tm' : Tr AV} {d : Tmp} {v : AV} (h : putT sz tm (some d) v = some tm') : d < sz := by
  simp only [putT] at h
  split at h
  · rename_i hb; rwa [Nat.blt_eq] at hb
  · cases h

/-- One that writes nothing has run. -/
theorem Mid.upd (m : Mid E sz ρ0 h0 w0 ρ lst tm G es tmps w) (t : Trc E self sz ops tm G hs es) (ha : a ∈ es) (hw : a.s.w = false) {v : AV} {y : Value} (hp : putT sz a.tm a.s.o.dst v = some a.tm')
    (hle : ρ.le ρ') (hb : ∀ b, b < w.heap.size → w'.heap[b]? = w.heap[b]?) (hs' : w.heap.size ≤ w'.heap.size) (hkp : Kpt w w')
    (hnew : ∀ n l', ρ' n = some l' → ρ n = some l' ∨ ((∃ ob, madeOb a = some ob) ∧ n = a.h.next ∧ w.heap.size ≤ l'.b)) (hmade : ∀ ob, madeOb a = some ob → MadeR ρ' G w0 w' a ob) (hy : R (ρ'.cut a.h'.next) v y) :
    Mid E sz ρ0 h0 w0 ρ' (upd lst a.s.i) tm G es (putC tmps a.s.o.dst y) w' := by
  obtain ⟨c1, c2, c3⟩ := chained_next t.ch
  have hcut : ρ'.cut G.next = ρ.cut G.next := by
    funext n
    cases e : ρ'.cut G.next n with
    | none =>
      cases e2 : ρ.cut G.next n with
      | none => rfl
      | some l =>
        rw [Ren.cut_some] at e2
        rw [Ren.cut_some.2 ⟨e2.1, hle _ _ e2.2⟩] at e
        cases e
    | some l =>
      rw [Ren.cut_some] at e
      rcases hnew n l e.2 with h | ⟨_, h, _⟩
      · exact (Ren.cut_some.2 ⟨e.1, h⟩).symm
      · have := (c2 a ha).1
        omega
  have hina : ∀ b ∈ es, Eng.upd lst a.s.i b.s.i = true → b = a ∨ lst b.s.i = true := fun b hb h => by
    rcases upd_true h with h | h
    · exact .inl (pw_inj t.pw hb ha h)
    · exact .inr h
  refine ⟨?_, by rw [hcut]; exact m.rel.grow hb hs', by rw [hcut]; exact m.ext.grow hb hs' hkp, ?_, ?_, ?_, ?_, by rw [putC_size]; exact m.size⟩
  · intro b hb' hbw
    have : b.s.i ≠ a.s.i := fun e => by
      have := pw_inj t.pw hb' ha e
      subst this
      rw [hw] at hbw
      cases hbw
    rw [upd_other this]
    exact m.nw b hb' hbw
  · intro n l hn
    rcases hnew n l hn with h | ⟨h1, h2, _⟩
    · rcases m.names n l h with h | ⟨b, h1, h2, h3⟩
      · exact .inl h
      · exact .inr ⟨b, h1, upd_le h2, h3⟩
    · exact .inr ⟨a, ha, upd_same _ _, h1, h2⟩
  · intro b hb' hl ob ho
    rcases hina b hb' hl with rfl | hl
    · exact hmade ob ho
    · obtain ⟨l, g1, g2, g3, g4, g5⟩ := m.made b hb' hl ob ho
      refine ⟨l, hle _ _ g1, ?_, Nat.lt_of_lt_of_le g3 hs', g4, ?_⟩
      · rw [hb _ g3]
        exact g2.mono (Ren.cut_of_le hle _)
      · intro n l' hn hl' hlv
        rcases hnew n l' hl' with h | ⟨_, _, h⟩
        · exact g5 n l' hn h hlv
        · omega
  · intro b hb' hl d hd u hu
    rw [putC_get]
    rcases hina b hb' hl with rfl | hl
    · have hlt := putT_lt (by rw [hd] at hp; exact hp)
      rw [if_pos ⟨hd, by rw [m.size]; exact hlt⟩]
      rw [putT_get hp, if_pos hd] at hu
      cases hu
      exact hy
    · by_cases e : a.s.o.dst = some d
      · have := pw_dst t.pw ha hb' e hd
        subst this
        have hlt := putT_lt (by rw [hd] at hp; exact hp)
        rw [if_pos ⟨hd, by rw [m.size]; exact hlt⟩]
        rw [putT_get hp, if_pos hd] at hu
        cases hu
        exact hy
      · rw [if_neg fun h => e h.1]
        exact R_mono (Ren.cut_of_le hle _) _ _ (m.tmA b hb' hl d hd u hu)
  · intro u hno v' hv'
    have hne := hno a ha (upd_same _ _)
    rw [putC_get, if_neg fun h => hne h.1, hcut]
    exact m.tmB u (fun b hb' hl => hno b hb' (upd_le hl)) v' hv'

theorem alloc_get {ob : Obj} : ∀ b, b < w.heap.size → (w.alloc ob).heap[b]? = w.heap[b]? := fun b hb => by
  show (w.heap.push _)[b]? = _
  rw [Array.getElem?_push, if_neg (by omega)]
theorem alloc_size {ob : Obj} : (w.alloc ob).heap.size = w.heap.size + 1 := by show (w.heap.push _).size = _; simp
theorem alloc_new {ob : Obj} : (w.alloc ob).heap[w.heap.size]? = some ob := by show (w.heap.push _)[w.heap.size]? = _; simp

/-- One that writes nothing runs. -/
theorem Mid.quiet (ok : EnvOK P E) (m : Mid E sz ρ0 h0 w0 ρ lst tm G (A ++ a :: B) tmps w) (t : Trc E self sz ops tm G hs (A ++ a :: B)) (hw : a.s.w = false) (hl : lst a.s.i = false)
    (hm : ∀ j, has a.s.m j = true → lst j = true) (hcl : ∀ b ∈ A ++ a :: B, lst b.s.i = true → ∀ j, has b.s.m j = true → lst j = true) {fr : Frame} (hmode : fr.mode = .run) (rest : List Nat) (k : List Item) :
    ∃ ρ' tmps' w', Mid E sz ρ0 h0 w0 ρ' (Eng.upd lst a.s.i) tm G (A ++ a :: B) tmps' w' ∧
      ∀ cs, step P (lone { fr with tmps := tmps, todo := .inRegion ops (a.s.i :: rest) :: k } cs w) = .next (lone { fr with tmps := tmps', todo := .inRegion ops rest :: k } cs w') := by
  obtain ⟨q1, q2, q3, q4, q5, q6, q7⟩ := chained_at t.ch
  obtain ⟨c1, c2, c3⟩ := chained_next t.ch
  have ha : a ∈ A ++ a :: B := List.mem_append_right _ (List.mem_cons_self ..)
  have hso := t.sok a ha
  have hpw := List.pairwise_append.1 t.pw
  have hpw2 := List.pairwise_cons.1 hpw.2.1
  have htm : ∀ u ∈ a.s.lk, ∀ v, a.tm.get u = some v → R (ρ.cut a.h.next) v (tmps.getD u undef) := by
    rw [q1, q3]
    refine m.looks t (s := a.s) (fun b hb => hpw.2.2 b hb a (List.mem_cons_self ..)) ?_ hm
    intro b hb hlb d hd hlk
    rcases List.mem_cons.1 hb with rfl | hb
    · rw [hl] at hlb; cases hlb
    · have := hcl b (List.mem_append_right _ (List.mem_cons_of_mem _ hb)) hlb _ (pairOk_war (hpw2.1 b hb) hd hlk)
      rw [hl] at this
      cases this
  have hGa := (c2 a ha).1
  have rq : RelQ E.nG (ρ.cut a.h.next) G w := by
    refine ⟨fun n o hn hd => ?_, fun g hg => ?_⟩
    · obtain ⟨l, h1, h2⟩ := m.rel.obj n o hn hd
      exact ⟨l, Ren.cut_mono hGa _ _ h1, h2.mono (Ren.cut_mono hGa)⟩
    · obtain ⟨l, h1, h2⟩ := m.rel.glob g hg
      exact ⟨l, Ren.cut_mono hGa _ _ h1, h2⟩
  have hG : ∀ v, kindOf E a.s.o.op = .q → aopQ E a.tm a.g a.s.o.op = some v → (isR a.s.o.op = true → backOk E a.tm a.s.o.op v a.s.m a.hs = true) → aopQ E a.tm G a.s.o.op = some v := by
    intro v _ hq hb
    cases hr : isR a.s.o.op with
    | false => rw [← aopQ_free (h := a.g) (h' := G) hr]; exact hq
    | true =>
      have hb' := hb hr
      rw [q4] at hb'
      rw [q2] at hq
      refine (back_ok q6 (fun x hx hxw => ?_) hb' hq).1
      cases e : has a.s.m x.s.i with
      | false => rfl
      | true =>
        have h1 := hm _ e
        rw [m.nw x (List.mem_append_left _ hx) hxw] at h1
        cases h1
  have hoi : ops[a.s.i]? = some a.s.o := by rw [← Array.getElem?_toList]; exact hso.o
  obtain ⟨v, y, w', hp, hst, hcase⟩ := quiet_step (rest := rest) (k := k) ok hw q5 hso rq (fr := { fr with tmps := tmps, todo := .inRegion ops (a.s.i :: rest) :: k }) hmode rfl htm hG
  have hfin : ∀ cs, step P (lone { fr with tmps := tmps, todo := .inRegion ops (a.s.i :: rest) :: k } cs w) = .next (lone { fr with tmps := putC tmps a.s.o.dst y, todo := .inRegion ops rest :: k } cs w') := fun cs => by
    rw [hst cs, finish_eq hoi]
  rcases hcase with ⟨rfl, hh, hR⟩ | ⟨ob, ob', c, s, hmd, rfl, hR⟩
  · refine ⟨ρ, _, _, m.upd t ha hw hp (Ren.le_refl _) (fun _ _ => rfl) (Nat.le_refl _) ⟨rfl, rfl, rfl⟩ (fun n l' h => .inl h) ?_ (by rw [hh]; exact hR), hfin⟩
    intro ob ho
    have := (made_some ho).2
    rw [hh] at this
    omega
  · have hob := ent_made hmd
    have hnone := m.none t ha hob hl
    have hn1 := (made_some hob).2
    have hle : (ρ.cut a.h.next).le ((ρ.put a.h.next ⟨w.heap.size, 0, c, s⟩).cut (a.h.next + 1)) :=
      Ren.le_trans (Ren.cut_mono (Nat.le_succ _)) (Ren.cut_of_le (Ren.le_put _ hnone) _)
    obtain ⟨hR1, hR2⟩ := hR _ hle (Ren.cut_some.2 ⟨Nat.lt_succ_self _, Ren.put_same _ _ _⟩)
    refine ⟨ρ.put a.h.next ⟨w.heap.size, 0, c, s⟩, _, _, m.upd t ha hw hp (Ren.le_put _ hnone) alloc_get (by rw [alloc_size]; omega) ⟨rfl, rfl, rfl⟩ ?_ ?_ (by rw [hn1]; exact hR1), hfin⟩
    · intro n l' h
      by_cases e : n = a.h.next
      · subst e
        rw [Ren.put_same] at h
        cases h
        exact .inr ⟨⟨ob, hob⟩, rfl, Nat.le_refl _⟩
      · rw [Ren.put_other _ _ e] at h
        exact .inl h
    · intro o2 ho2
      rw [hob] at ho2
      cases ho2
      refine ⟨_, Ren.put_same _ _ _, by rw [alloc_new]; exact hR2, by rw [alloc_size]; show w.heap.size < _; omega, m.ext.size, ?_⟩
      intro n l' hn hl' _
      rw [Ren.put_other _ _ (by omega)] at hl'
      have := m.lt hl'
      show l'.b ≠ w.heap.size
      omega

/-- A heap of which a run is the rest: names of both. -/
def glue (ρ1 ρ : Ren) (N : Nat) : Ren := fun n => if n < N then ρ1 n else ρ n

/-- All ahead of a writer is taken in. -/
theorem Mid.taken (m : Mid E sz ρ0 h0 w0 ρ lst tm G (A ++ B) tmps w) (t : Trc E self sz ops tm G hs (A ++ B)) (h0n : h0.next ≤ G.next) (hA : ∀ b ∈ A, lst b.s.i = true) :
    (∀ b ∈ A, b.s.w = false) ∧ Rel E.nG (ρ.cut (endH G A).next) (endH G A) w ∧ Ext ρ0 h0 w0 (ρ.cut (endH G A).next) (endH G A) w := by
  have hq : ∀ b ∈ A, b.s.w = false := fun b hb => by
    cases e : b.s.w with
    | false => rfl
    | true =>
      have := m.nw b (List.mem_append_left _ hb) e
      rw [hA b hb] at this
      cases this
  have hcA := (chained_append.1 t.ch).1
  obtain ⟨k1, k2, k3⟩ := kk_rel (lst := lst) (ρ0 := ρ0) (h0 := h0) (w0 := w0) hcA hq G rfl h0n m.rel m.ext (fun b hb hl ob ho => m.made b (List.mem_append_left _ hb) hl ob ho) (fun b hb hl => by rw [hA b hb] at hl; cases hl)
  rw [kk_all hcA hq hA] at k2 k3
  exact ⟨hq, k2, k3⟩

theorem live_taken : ∀ {A : List Ent} {tm : Tr AV} {g G : Heap} {hs : List (Nat × Heap)}, Chained E self sz ops.toList tm g G hs A → (∀ b ∈ A, b.s.w = false) → ∀ {n : Nat}, live (endH G A) n = true →
    (n < G.next ∧ live G n = true) ∨ (G.next ≤ n ∧ ∃ b ∈ A, (∃ ob, madeOb b = some ob) ∧ n = b.h.next) ∨ (G.next ≤ n ∧ live G n = true)
  | [], tm, g, G, hs, _, _, n, hl => by
    rcases Nat.lt_or_ge n G.next with h | h
    · exact .inl ⟨h, hl⟩
    · exact .inr (.inr ⟨h, hl⟩)
  | a :: A, tm, g, G, hs, hc, hq, n, hl => by
    obtain ⟨_, _, rfl, _, h5, h6⟩ := hc
    simp only [endH] at hl
    have hq' : ∀ b ∈ A, b.s.w = false := fun b hb => hq b (List.mem_cons_of_mem _ hb)
    have ih := live_taken h6 hq' hl
    rcases made_cases (hq a (List.mem_cons_self ..)) h5 with ⟨k1, k2⟩ | ⟨ob, k1, k2⟩
    · rw [k2] at ih
      rcases ih with h | ⟨h, b, hb, h2⟩ | h
      · exact .inl h
      · exact .inr (.inl ⟨h, b, List.mem_cons_of_mem _ hb, h2⟩)
      · exact .inr (.inr h)
    · rw [k2] at ih
      have hnx : (a.h.new ob).next = a.h.next + 1 := rfl
      rw [hnx] at ih
      have hlv : n ≠ a.h.next → live (a.h.new ob) n = true → live a.h n = true := fun e hl => by
        obtain ⟨o', h1, h2⟩ := live_iff.1 hl
        rw [obj_new, if_neg e] at h1
        exact live_iff.2 ⟨o', h1, h2⟩
      rcases ih with ⟨h1, h2⟩ | ⟨h, b, hb, h2⟩ | ⟨h1, h2⟩
      · by_cases e : n = a.h.next
        · exact .inr (.inl ⟨by omega, a, List.mem_cons_self .., ⟨ob, k1⟩, e⟩)
        · exact .inl ⟨by omega, hlv e h2⟩
      · exact .inr (.inl ⟨by omega, b, List.mem_cons_of_mem _ hb, h2⟩)
      · exact .inr (.inr ⟨by omega, hlv (by omega) h2⟩)

/-- One that writes runs. -/
theorem Mid.writer {slf : Out → Heap → Option AEnd} (ok : EnvOK P E) (hS : CallOK P E slf) (r0 : Rel E.nG ρ0 h0 w0) (h0n : h0.next ≤ G.next) (m : Mid E sz ρ0 h0 w0 ρ lst tm G (A ++ a :: B) tmps w) (t : Trc E slf sz ops tm G hs (A ++ a :: B)) (hw : a.s.w = true) (hl : lst a.s.i = false)
    (hA : ∀ b ∈ A, lst b.s.i = true) (hm : ∀ j, has a.s.m j = true → lst j = true) (hcl : ∀ b ∈ A ++ a :: B, lst b.s.i = true → ∀ j, has b.s.m j = true → lst j = true) {fr : Frame} (hmode : fr.mode = .run) (rest : List Nat) (k : List Item) :
    ∃ ρ' tmps' w', Mid E sz ρ0 h0 w0 ρ' (Eng.upd lst a.s.i) a.tm' a.h' B tmps' w' ∧
      ∀ cs, Steps P (lone { fr with tmps := tmps, todo := .inRegion ops (a.s.i :: rest) :: k } cs w) (lone { fr with tmps := tmps', todo := .inRegion ops rest :: k } cs w') := by
  obtain ⟨q1, q2, q3, q4, q5, q6, q7⟩ := chained_at t.ch
  obtain ⟨c1, c2, c3⟩ := chained_next t.ch
  have ha : a ∈ A ++ a :: B := List.mem_append_right _ (List.mem_cons_self ..)
  have hso := t.sok a ha
  have hpw := List.pairwise_append.1 t.pw
  have hpw2 := List.pairwise_cons.1 hpw.2.1
  have hc3 := (List.pairwise_cons.1 (List.pairwise_append.1 c3).2.1)
  have htm : ∀ u ∈ a.s.lk, ∀ v, a.tm.get u = some v → R (ρ.cut a.h.next) v (tmps.getD u undef) := by
    rw [q1, q3]
    refine m.looks t (s := a.s) (fun b hb => hpw.2.2 b hb a (List.mem_cons_self ..)) ?_ hm
    intro b hb hlb d hd hlk
    rcases List.mem_cons.1 hb with rfl | hb
    · rw [hl] at hlb; cases hlb
    · have := hcl b (List.mem_append_right _ (List.mem_cons_of_mem _ hb)) hlb _ (pairOk_war (hpw2.1 b hb) hd hlk)
      rw [hl] at this
      cases this
  obtain ⟨hq, hrel, hext⟩ := m.taken t h0n hA
  rw [← q3] at hrel hext
  have he := q5
  simp only [EntOK, hw] at he
  obtain ⟨he1, he2⟩ := he
  have hoi : ops[a.s.i]? = some a.s.o := by rw [← Array.getElem?_toList]; exact hso.o
  obtain ⟨v, ρ1, y, w', hp, hR, hr1, hx1, hst⟩ := writer_step (rest := rest) (k := k) ok hS hso he1 hrel (fr := { fr with tmps := tmps, todo := .inRegion ops (a.s.i :: rest) :: k }) hmode rfl htm
  have hGn := (c2 a ha).1
  -- the names
  have hnm : ∀ n l, ρ n = some l → n < a.h.next ∨ ∃ b ∈ B, lst b.s.i = true ∧ (∃ ob, madeOb b = some ob) ∧ n = b.h.next := by
    intro n l hn
    rcases m.names n l hn with h | ⟨b, h1, h2, h3, h4⟩
    · exact .inl (by omega)
    · rcases List.mem_append.1 h1 with h1 | h1
      · left
        have hcc := (List.pairwise_append.1 c3).2.2 b h1 a (List.mem_cons_self ..)
        obtain ⟨ob, h3⟩ := h3
        have := (made_some h3).2
        omega
      · rcases List.mem_cons.1 h1 with rfl | h1
        · rw [hl] at h2; cases h2
        · exact .inr ⟨b, h1, h2, h3, h4⟩
  have hBn : ∀ b ∈ B, a.h'.next ≤ b.h.next := hc3.1
  have hle1 : ∀ n l, n < a.h'.next → ρ n = some l → ρ1 n = some l := by
    intro n l hn hρ
    rcases hnm n l hρ with h | ⟨b, hb, _, _, h4⟩
    · exact hx1.le _ _ (Ren.cut_some.2 ⟨h, hρ⟩)
    · have := hBn b hb
      omega
  have hle : ρ.le (glue ρ1 ρ a.h'.next) := by
    intro n l hn
    unfold glue
    split
    · rename_i h; exact hle1 n l h hn
    · exact hn
  have hcut : (glue ρ1 ρ a.h'.next).cut a.h'.next = ρ1 := by
    funext n
    unfold glue Ren.cut
    split
    · rename_i h; simp only [h, if_true]
    · rename_i h
      cases e : ρ1 n with
      | none => rfl
      | some l => exact absurd (hr1.lt n l e).1 h
  -- the blocks of early makes stay
  have hmk : ∀ b ∈ B, lst b.s.i = true → ∀ ob, madeOb b = some ob → ∃ l, ρ b.h.next = some l ∧ OR (ρ.cut (b.h.next + 1)) l ob w.heap[l.b]? ∧ l.b < w.heap.size ∧ w0.heap.size ≤ l.b ∧ w'.heap[l.b]? = w.heap[l.b]? ∧
      (∀ n l', live a.h n = true → ρ.cut a.h.next n = some l' → l'.b ≠ l.b) ∧ ∀ n l', n < b.h.next → ρ n = some l' → (n < G.next → live G n = true) → l'.b ≠ l.b := by
    intro b hb hlb ob ho
    obtain ⟨l, g1, g2, g3, g4, g5⟩ := m.made b (List.mem_append_right _ (List.mem_cons_of_mem _ hb)) hlb ob ho
    have hno : ∀ n l', live a.h n = true → ρ.cut a.h.next n = some l' → l'.b ≠ l.b := by
      intro n l' hlv hcn
      rw [Ren.cut_some] at hcn
      have hnb : n < b.h.next := by have := hBn b hb; omega
      refine g5 n l' hnb hcn.2 fun hG => ?_
      rw [q3] at hlv
      rcases live_taken q6 hq hlv with ⟨_, h⟩ | ⟨h, _⟩ | ⟨h, _⟩
      · exact h
      · omega
      · omega
    exact ⟨l, g1, g2, g3, g4, hx1.frame _ g3 fun n l' hlv hcn => hno n l' hlv hcn, hno, g5⟩
  refine ⟨glue ρ1 ρ a.h'.next, putC tmps a.s.o.dst y, w', ⟨?_, by rw [hcut]; exact hr1, by rw [hcut]; exact Ext.trans r0 hrel hext hx1, ?_, ?_, ?_, ?_, by rw [putC_size]; exact m.size⟩, fun cs => ?_⟩
  · intro b hb hbw
    have : b.s.i ≠ a.s.i := (pairOk_i (hpw2.1 b hb)).symm
    rw [upd_other this]
    exact m.nw b (List.mem_append_right _ (List.mem_cons_of_mem _ hb)) hbw
  · intro n l hn
    unfold glue at hn
    split at hn
    · rename_i h; exact .inl h
    · rename_i h
      rcases hnm n l hn with h' | ⟨b, h1, h2, h3⟩
      · omega
      · exact .inr ⟨b, h1, upd_le h2, h3⟩
  · intro b hb hlb ob ho
    have hbi : b.s.i ≠ a.s.i := (pairOk_i (hpw2.1 b hb)).symm
    rw [upd_other hbi] at hlb
    obtain ⟨l, g1, g2, g3, g4, g5, g6, g7⟩ := hmk b hb hlb ob ho
    refine ⟨l, hle _ _ g1, by rw [g5]; exact g2.mono (Ren.cut_of_le hle _), Nat.lt_of_lt_of_le g3 hx1.size, g4, ?_⟩
    intro n l' hn hl' hlv
    unfold glue at hl'
    split at hl'
    · rename_i hlt
      have hlive := hlv hlt
      cases e : ρ.cut a.h.next n with
      | some l0 =>
        have h1 := hx1.le _ _ e
        rw [hl'] at h1
        cases h1
        rw [Ren.cut_some] at e
        exact g6 n l' (hx1.lives n e.1 hlive) (Ren.cut_some.2 e)
      | none =>
        rcases (hx1.fresh n l' hl' e).2 with h | ⟨n2, l0, h1, h2, h3⟩
        · omega
        · rw [← h3]
          exact g6 n2 l0 h1 h2
    · rename_i hge
      exact g7 n l' hn hl' fun h => by omega
  · intro b hb hlb d hd u hu
    have hbi : b.s.i ≠ a.s.i := (pairOk_i (hpw2.1 b hb)).symm
    rw [upd_other hbi] at hlb
    have hne : a.s.o.dst ≠ some d := fun h => pairOk_dst (hpw2.1 b hb) h hd
    rw [putC_get, if_neg fun h => hne h.1]
    exact R_mono (Ren.cut_of_le hle _) _ _ (m.tmA b (List.mem_append_right _ (List.mem_cons_of_mem _ hb)) hlb d hd u hu)
  · intro u hno v' hv'
    rw [hcut]
    by_cases e : a.s.o.dst = some u
    · have hlt := putT_lt (by rw [e] at hp; exact hp)
      rw [putC_get, if_pos ⟨e, by rw [m.size]; exact hlt⟩]
      rw [putT_get hp, if_pos e] at hv'
      cases hv'
      exact hR
    · rw [putC_get, if_neg fun h => e h.1]
      rw [putT_get hp, if_neg e, q1] at hv'
      have hnoB : ∀ b ∈ B, lst b.s.i = true → b.s.o.dst ≠ some u := fun b hb hlb => hno b hb (upd_le hlb)
      -- as the temporaries that an operation looks at
      have hR0 : R (ρ.cut (endH G A).next) v' (tmps.getD u undef) := by
        by_cases hex : ∃ b ∈ A, b.s.o.dst = some u
        · obtain ⟨b, hb, hd⟩ := hex
          obtain ⟨A1, A2, hA12⟩ := List.append_of_mem hb
          have hmem : b ∈ A ++ a :: B := List.mem_append_left _ hb
          have hr := m.tmA b hmem (hA b hb) u hd v'
          refine R_mono (Ren.cut_mono ((chained_next q6).2.1 b hb).2.1) _ _ (hr ?_)
          rw [hA12, endTm_append] at hv'
          simp only [endTm] at hv'
          rw [← hv']
          have q6' := q6
          rw [hA12] at q6'
          obtain ⟨_, _, _, _, _, _, h7⟩ := chained_at q6'
          refine (endTm_other h7 fun x hx hdx => ?_).symm
          have hpA := hpw.1
          rw [hA12] at hpA
          have hp2 := (List.pairwise_cons.1 (List.pairwise_append.1 hpA).2.1).1 x hx
          exact pairOk_dst hp2 hd hdx
        · rw [endTm_other q6 fun b hb hd => hex ⟨b, hb, hd⟩] at hv'
          refine R_mono (Ren.cut_mono (chained_next q6).1) _ _ (m.tmB u (fun b hb hlb hd => ?_) v' hv')
          rcases List.mem_append.1 hb with hb | hb
          · exact hex ⟨b, hb, hd⟩
          · rcases List.mem_cons.1 hb with rfl | hb
            · exact e hd
            · exact hnoB b hb hlb hd
      rw [← q3] at hR0
      exact R_mono hx1.le _ _ hR0
  · rw [← finish_eq hoi]
    exact hst cs
end
end Go.Eng

/- The engine: the stores at the end of a drawn region, that lie in no order. -/
namespace Go.Eng
section
variable {P : Program} {E : Env} {self : Out → Heap → Option AEnd} {sz : Nat} {ops : Array Oper} {ρ ρ0 ρ' : Ren} {h h0 k : Heap} {w w' w0 : World}
  {lst : Nat → Bool} {tm : Tr AV} {G : Heap} {hs : List (Nat × Heap)} {es A B : List Ent} {a : Ent} {tmps : Array Value}

/-- Objects that say the same. -/
def OEq (x y : Option AObj) : Prop := x = y ∨ ∃ t t' s d e z g, x = some (.cells t s d e z g) ∧ y = some (.cells t' s d e z g) ∧ ∀ i, t.get i = t'.get i

theorem OEq.rfl' {x : Option AObj} : OEq x x := .inl rfl
theorem OEq.symm {x y : Option AObj} (h : OEq x y) : OEq y x := by
  rcases h with h | ⟨t, t', s, d, e, z, g, h1, h2, h3⟩
  · exact .inl h.symm
  · exact .inr ⟨t', t, s, d, e, z, g, h2, h1, fun i => (h3 i).symm⟩
theorem OEq.trans {x y u : Option AObj} (h : OEq x y) (h' : OEq y u) : OEq x u := by
  rcases h with rfl | ⟨t, t', s, d, e, z, g, h1, h2, h3⟩
  · exact h'
  · rcases h' with rfl | ⟨u1, u2, s', d', e', z', g', k1, k2, k3⟩
    · exact .inr ⟨t, t', s, d, e, z, g, h1, h2, h3⟩
    · rw [h2] at k1
      cases k1
      exact .inr ⟨t, u2, s, d, e, z, g, h1, k2, fun i => (h3 i).trans (k3 i)⟩

def HE (h k : Heap) : Prop := h.next = k.next ∧ ∀ n, OEq (h.obj n) (k.obj n)
theorem HE.rfl' : HE h h := ⟨rfl, fun _ => .rfl'⟩
theorem HE.symm (x : HE h k) : HE k h := ⟨x.1.symm, fun n => (x.2 n).symm⟩
theorem HE.trans {l : Heap} (x : HE h k) (y : HE k l) : HE h l := ⟨x.1.trans y.1, fun n => (x.2 n).trans (y.2 n)⟩

theorem HE.live (x : HE h k) {n : Nat} (hl : live k n = true) : live h n = true := by
  obtain ⟨o, h1, h2⟩ := live_iff.1 hl
  rcases x.2 n with e | ⟨t, t', s, d, e, z, g, k1, k2, _⟩
  · exact live_iff.2 ⟨o, by rw [e]; exact h1, h2⟩
  · exact live_iff.2 ⟨_, k1, by intro h; cases h⟩

theorem Rel.of_HE {nG : Nat} (r : Rel nG ρ h w) (x : HE h k) : Rel nG ρ k w := by
  refine ⟨?_, fun n m l l' a b => r.inj n m l l' (x.live a) (x.live b), fun n l hn => by rw [← x.1]; exact r.lt n l hn, r.glob, ?_, by rw [← x.1]; exact r.globs⟩
  · intro n o hn hd
    rcases x.2 n with e | ⟨t, t', s, d, e, z, g, k1, k2, k3⟩
    · exact r.obj n o (by rw [e]; exact hn) hd
    · rw [k2] at hn
      cases hn
      obtain ⟨l, g1, g2⟩ := r.obj n _ k1 (by intro h; cases h)
      refine ⟨l, g1, ?_⟩
      obtain ⟨q1, q2, q3, c, fr, q4, q5, q6, q7⟩ := g2
      refine ⟨q1, q2, q3, c, fr, q4, q5, q6, ?_⟩
      intro i v hv
      refine q7 i v ?_
      unfold cellA at hv ⊢
      rw [k3]
      exact hv
  · intro n hn
    rw [← x.1] at hn
    have := r.fresh n hn
    rcases x.2 n with e | ⟨t, t', s, d, e, z, g, k1, k2, k3⟩
    · rw [← e]; exact this
    · rw [k1] at this; cases this

theorem Ext.of_HE (x : Ext ρ0 h0 w0 ρ h w) (y : HE h k) : Ext ρ0 h0 w0 ρ k w :=
  ⟨x.le, by rw [← y.1]; exact x.next, fun n hn hl => x.lives n hn (y.live hl), x.frame, x.size, x.fresh, x.kept⟩

/-- A store, as it is. -/
structure TS where
  i : Nat
  m : Nat
  n : Nat
  off : Nat
  cs : List AV

def TS.ok (x : TS) (size : Nat) : Bool := Nat.ble (x.off + x.cs.length) size && x.cs.all simple

def TS.wr (x : TS) (h : Heap) : Heap := (h.write x.n x.off x.cs).getD h

variable {x y : TS}

theorem wr_cells {t : Tr AV} {size : Nat} {d : List AV} {e : TypeId} {z : Nat} {g : Bool} (ho : h.obj x.n = some (.cells t size d e z g)) :
    x.cs = [] ∧ x.wr h = h ∨ x.cs ≠ [] ∧ x.ok size = true ∧ h.write x.n x.off x.cs = some (x.wr h) ∧ x.wr h = h.put x.n (.cells (setCells t x.off x.cs) size d e z g) ∨ x.cs ≠ [] ∧ x.ok size = false ∧ x.wr h = h := by
  unfold TS.wr Heap.write TS.ok
  cases hc : x.cs with
  | nil => exact .inl ⟨rfl, rfl⟩
  | cons v vs =>
    rw [ho]
    simp only []
    cases hb : (Nat.ble (x.off + (v :: vs).length) size && (v :: vs).all simple) with
    | true => exact .inr (.inl ⟨by simp, rfl, rfl, rfl⟩)
    | false => exact .inr (.inr ⟨by simp, rfl, rfl⟩)

theorem wr_other {m : Nat} (hm : m ≠ x.n) : (x.wr h).obj m = h.obj m := by
  unfold TS.wr Heap.write
  split
  · rfl
  · split
    · split
      · simp only [Option.getD_some]
        rw [obj_put, if_neg hm]
      · rfl
    · rfl

theorem wr_next : (x.wr h).next = h.next := by
  unfold TS.wr Heap.write
  split
  · rfl
  · split
    · split
      · rfl
      · rfl
    · rfl

/-- Whether it writes a cell. -/
def TS.at (x : TS) (size i : Nat) : Prop := x.ok size = true ∧ x.off ≤ i ∧ i < x.off + x.cs.length

theorem wr_at {t : Tr AV} {size : Nat} {d : List AV} {e : TypeId} {z : Nat} {g : Bool} (ho : h.obj x.n = some (.cells t size d e z g)) :
    ∃ t', (x.wr h).obj x.n = some (.cells t' size d e z g) ∧ ∀ i, (x.at size i → t'.get i = x.cs[i - x.off]?) ∧ (¬ x.at size i → t'.get i = t.get i) := by
  rcases wr_cells ho with ⟨h1, h2⟩ | ⟨h1, h2, _, h3⟩ | ⟨h1, h2, h3⟩
  · refine ⟨t, by rw [h2]; exact ho, fun i => ⟨fun ⟨_, h4, h5⟩ => ?_, fun _ => rfl⟩⟩
    rw [h1] at h5
    simp at h5
    omega
  · refine ⟨_, by rw [h3, obj_put, if_pos rfl], fun i => ⟨fun ⟨_, h4, h5⟩ => ?_, fun hn => ?_⟩⟩
    · rw [setCells_get, if_pos ⟨h4, h5⟩]
    · rw [setCells_get, if_neg fun hi => hn ⟨h2, hi⟩]
  · refine ⟨t, by rw [h3]; exact ho, fun i => ⟨fun ⟨h4, _⟩ => (by rw [h2] at h4; cases h4), fun _ => rfl⟩⟩

theorem wr_none (ho : ∀ t s d e z g, h.obj x.n ≠ some (.cells t s d e z g)) : (x.wr h).obj x.n = h.obj x.n := by
  unfold TS.wr Heap.write
  split
  · rfl
  · split
    · rename_i hh; exact absurd hh (ho _ _ _ _ _ _)
    · rfl

theorem cells_or (o : Option AObj) : (∃ t s d e z g, o = some (.cells t s d e z g)) ∨ ∀ t s d e z g, o ≠ some (.cells t s d e z g) := by
  by_cases hh : ∃ t s d e z g, o = some (.cells t s d e z g)
  · exact .inl hh
  · exact .inr fun t s d e z g e' => hh ⟨t, s, d, e, z, g, e'⟩

theorem wr_HE (x : TS) (q : HE h k) : HE (x.wr h) (x.wr k) := by
  refine ⟨by rw [wr_next, wr_next]; exact q.1, fun n => ?_⟩
  by_cases hn : n = x.n
  · subst hn
    rcases cells_or (h.obj x.n) with ⟨t, s, d, e, z, g, ho⟩ | hno
    · have : ∃ t', k.obj x.n = some (.cells t' s d e z g) ∧ ∀ i, t.get i = t'.get i := by
        rcases q.2 x.n with e' | ⟨t1, t2, s', d', e', z', g', k1, k2, k3⟩
        · exact ⟨t, by rw [← e']; exact ho, fun _ => rfl⟩
        · rw [ho] at k1; cases k1; exact ⟨t2, k2, k3⟩
      obtain ⟨t', hk, ht⟩ := this
      obtain ⟨u1, g1, g2⟩ := wr_at ho
      obtain ⟨u2, g3, g4⟩ := wr_at hk
      refine .inr ⟨_, _, _, _, _, _, _, g1, g3, fun i => ?_⟩
      by_cases hi : x.at s i
      · rw [(g2 i).1 hi, (g4 i).1 hi]
      · rw [(g2 i).2 hi, (g4 i).2 hi, ht]
    · have hk : ∀ t s d e z g, k.obj x.n ≠ some (.cells t s d e z g) := by
        intro t s d e z g hh
        rcases q.2 x.n with e' | ⟨t1, t2, s', d', e', z', g', k1, k2, k3⟩
        · exact hno _ _ _ _ _ _ (e'.trans hh)
        · exact hno _ _ _ _ _ _ k1
      rw [wr_none hno, wr_none hk]
      exact q.2 _
  · rw [wr_other hn, wr_other hn]
    exact q.2 n

def TS.apart (x y : TS) : Prop := x.n ≠ y.n ∨ x.off + x.cs.length ≤ y.off ∨ y.off + y.cs.length ≤ x.off

theorem wr_comm (q : x.apart y) : HE (x.wr (y.wr h)) (y.wr (x.wr h)) := by
  refine ⟨by rw [wr_next, wr_next, wr_next, wr_next], fun n => ?_⟩
  by_cases hx : n = x.n
  · by_cases hy : n = y.n
    · subst hx
      rcases cells_or (h.obj x.n) with ⟨t, s, d, e, z, g, ho⟩ | hno
      · have ho' := ho
        rw [hy] at ho'
        obtain ⟨u1, g1, g2⟩ := wr_at ho
        obtain ⟨u2, g3, g4⟩ := wr_at (x := y) ho'
        rw [hy] at g1
        rw [← hy] at g3
        obtain ⟨u3, g5, g6⟩ := wr_at (x := x) (h := y.wr h) g3
        obtain ⟨u4, g7, g8⟩ := wr_at (x := y) (h := x.wr h) g1
        rw [← hy] at g7
        refine .inr ⟨_, _, _, _, _, _, _, g5, g7, fun i => ?_⟩
        by_cases h1 : x.at s i <;> by_cases h2 : y.at s i
        · exfalso
          rcases q with q | q | q
          · exact q hy
          · have := h1.2; have := h2.2; omega
          · have := h1.2; have := h2.2; omega
        · rw [(g6 i).1 h1, (g8 i).2 h2, (g2 i).1 h1]
        · rw [(g6 i).2 h1, (g8 i).1 h2, (g4 i).1 h2]
        · rw [(g6 i).2 h1, (g8 i).2 h2, (g4 i).2 h2, (g2 i).2 h1]
      · have hno' : ∀ t s d e z g, h.obj y.n ≠ some (.cells t s d e z g) := by rw [← hy]; exact hno
        have h1 : (x.wr h).obj x.n = h.obj x.n := wr_none hno
        have h2 : (y.wr h).obj y.n = h.obj y.n := wr_none hno'
        have h3 : (x.wr (y.wr h)).obj x.n = (y.wr h).obj x.n := wr_none (by rw [hy, h2]; exact hno')
        have h4 : (y.wr (x.wr h)).obj y.n = (x.wr h).obj y.n := wr_none (by rw [← hy, h1]; exact hno)
        rw [h3]
        rw [show (y.wr (x.wr h)).obj x.n = (y.wr (x.wr h)).obj y.n from by rw [← hy], h4, ← hy, h1, hy, h2]
        exact .rfl'
    · subst hx
      rw [wr_other hy]
      have e : (y.wr h).obj x.n = h.obj x.n := wr_other hy
      rcases cells_or (h.obj x.n) with ⟨t, s, d, e', z, g, ho⟩ | hno
      · obtain ⟨u1, g1, g2⟩ := wr_at ho
        obtain ⟨u3, g5, g6⟩ := wr_at (x := x) (h := y.wr h) (by rw [e]; exact ho)
        refine .inr ⟨_, _, _, _, _, _, _, g5, g1, fun i => ?_⟩
        by_cases h1 : x.at s i
        · rw [(g6 i).1 h1, (g2 i).1 h1]
        · rw [(g6 i).2 h1, (g2 i).2 h1]
      · rw [wr_none hno, wr_none (by rw [e]; exact hno), e]
        exact .rfl'
  · rw [wr_other hx]
    by_cases hy : n = y.n
    · subst hy
      have e : (x.wr h).obj y.n = h.obj y.n := wr_other hx
      rcases cells_or (h.obj y.n) with ⟨t, s, d, e', z, g, ho⟩ | hno
      · obtain ⟨u1, g1, g2⟩ := wr_at ho
        obtain ⟨u3, g5, g6⟩ := wr_at (x := y) (h := x.wr h) (by rw [e]; exact ho)
        refine .inr ⟨_, _, _, _, _, _, _, g1, g5, fun i => ?_⟩
        by_cases h1 : y.at s i
        · rw [(g6 i).1 h1, (g2 i).1 h1]
        · rw [(g6 i).2 h1, (g2 i).2 h1]
      · rw [wr_none hno, wr_none (by rw [e]; exact hno), e]
        exact .rfl'
    · rw [wr_other hy, wr_other hy, wr_other hx]
      exact .rfl'

/-- The stores that ran, in the engine's order. -/
def KT (lst : Nat → Bool) : List TS → Heap → Heap
  | [], h => h
  | x :: l, h => KT lst l (match lst x.i with
    | true => x.wr h
    | false => h)

theorem KT_HE : ∀ {l : List TS} {h k : Heap}, HE h k → HE (KT lst l h) (KT lst l k)
  | [], _, _, q => q
  | x :: l, h, k, q => by
    simp only [KT]
    cases lst x.i with
    | true => exact KT_HE (wr_HE x q)
    | false => exact KT_HE q

theorem KT_next : ∀ {l : List TS} {h : Heap}, (KT lst l h).next = h.next
  | [], _ => rfl
  | x :: l, h => by
    simp only [KT]
    rw [KT_next]
    split
    · exact wr_next
    · rfl

theorem KT_congr {lst' : Nat → Bool} : ∀ {l : List TS} {h : Heap}, (∀ x ∈ l, lst x.i = lst' x.i) → KT lst l h = KT lst' l h
  | [], _, _ => rfl
  | x :: l, h, q => by
    simp only [KT, q x (List.mem_cons_self ..)]
    exact KT_congr fun y hy => q y (List.mem_cons_of_mem _ hy)

theorem KT_none : ∀ {l : List TS} {h : Heap}, (∀ x ∈ l, lst x.i = false) → KT lst l h = h
  | [], _, _ => rfl
  | x :: l, h, q => by
    simp only [KT, q x (List.mem_cons_self ..)]
    exact KT_none fun y hy => q y (List.mem_cons_of_mem _ hy)

theorem KT_append : ∀ {l l' : List TS} {h : Heap}, KT lst (l ++ l') h = KT lst l' (KT lst l h)
  | [], _, _ => rfl
  | x :: l, l', h => by simp only [List.cons_append, KT, KT_append]

theorem KT_late : ∀ {l : List TS} {h : Heap}, (∀ y ∈ l, lst y.i = true → x.apart y) → HE (KT lst l (x.wr h)) (x.wr (KT lst l h))
  | [], _, _ => .rfl'
  | y :: l, h, q => by
    simp only [KT]
    have hq : ∀ y ∈ l, lst y.i = true → x.apart y := fun z hz => q z (List.mem_cons_of_mem _ hz)
    cases hy : lst y.i with
    | true =>
      refine HE.trans (KT_HE ?_) (KT_late hq)
      exact (wr_comm (q y (List.mem_cons_self ..) hy)).symm
    | false => exact KT_late hq

/-- One store more. -/
theorem KT_upd {l l' : List TS} (h1 : ∀ y ∈ l, y.i ≠ x.i) (h2 : ∀ y ∈ l', y.i ≠ x.i) (hx : lst x.i = false) (h3 : ∀ y ∈ l', lst y.i = true → x.apart y) : HE (KT (upd lst x.i) (l ++ x :: l') h) (x.wr (KT lst (l ++ x :: l') h)) := by
  rw [KT_append, KT_append]
  simp only [KT, upd_same, hx]
  rw [KT_congr (lst := upd lst x.i) (lst' := lst) fun y hy => upd_other (h1 y hy), KT_congr (lst := upd lst x.i) (lst' := lst) fun y hy => upd_other (h2 y hy)]
  exact KT_late h3

/-- How many cells an object has. -/
def shape (o : Option AObj) : Option Nat :=
  match o with
  | some (.cells _ s _ _ _ _) => some s
  | _ => none

theorem wr_shape {n : Nat} : shape ((x.wr h).obj n) = shape (h.obj n) := by
  by_cases hn : n = x.n
  · subst hn
    rcases cells_or (h.obj x.n) with ⟨t, s, d, e, z, g, ho⟩ | hno
    · obtain ⟨u, g1, _⟩ := wr_at ho
      rw [g1, ho]
      rfl
    · rw [wr_none hno]
  · rw [wr_other hn]

theorem KT_shape {n : Nat} : ∀ {l : List TS} {h : Heap}, shape ((KT lst l h).obj n) = shape (h.obj n)
  | [], _ => rfl
  | x :: l, h => by
    simp only [KT]
    rw [KT_shape]
    split
    · exact wr_shape
    · rfl

/-- Can it be done there? -/
def TS.can (x : TS) (h : Heap) : Prop := x.cs = [] ∨ ∃ s, shape (h.obj x.n) = some s ∧ x.ok s = true

theorem can_write (hc : x.can h) : h.write x.n x.off x.cs = some (x.wr h) := by
  rcases hc with hc | ⟨s, h1, h2⟩
  · unfold TS.wr Heap.write
    rw [hc]
    rfl
  · rcases cells_or (h.obj x.n) with ⟨t, s', d, e, z, g, ho⟩ | hno
    · rw [ho] at h1
      cases h1
      rcases wr_cells ho with ⟨g1, g2⟩ | ⟨_, _, g3, _⟩ | ⟨_, g2, _⟩
      · unfold TS.wr Heap.write
        rw [g1]
        rfl
      · exact g3
      · rw [h2] at g2; cases g2
    · exfalso
      unfold shape at h1
      split at h1
      · rename_i hh; exact hno _ _ _ _ _ _ hh
      · cases h1

theorem write_can {h' : Heap} (hw : h.write x.n x.off x.cs = some h') : x.can h := by
  unfold Heap.write at hw
  split at hw
  · rename_i hc; exact .inl hc
  · rename_i v vs hc
    split at hw
    · rename_i t size d e z g ho
      split at hw
      · rename_i hb
        refine .inr ⟨size, by rw [ho]; rfl, ?_⟩
        unfold TS.ok
        exact hb
      · cases hw
    · cases hw
end
end Go.Eng

/- The engine: a drawn region behind its last writer. -/
namespace Go.Eng
section
variable {P : Program} {E : Env} {self : Out → Heap → Option AEnd} {sz : Nat} {ops : Array Oper} {ρ ρ0 ρ' : Ren} {h h0 k : Heap} {w w' w0 : World}
  {lst : Nat → Bool} {tm : Tr AV} {G : Heap} {hs : List (Nat × Heap)} {es A B : List Ent} {a : Ent} {tmps : Array Value} {ts : List TS}

theorem KK_append : ∀ {A B : List Ent} {h : Heap}, KK lst (A ++ B) h = KK lst B (KK lst A h)
  | [], _, _ => rfl
  | a :: A, B, h => by simp only [List.cons_append, KK, KK_append (A := A)]

theorem KK_congr {lst' : Nat → Bool} : ∀ {A : List Ent} {h : Heap}, (∀ b ∈ A, ∀ ob, madeOb b = some ob → lst b.s.i = lst' b.s.i) → KK lst A h = KK lst' A h
  | [], _, _ => rfl
  | a :: A, h, q => by
    simp only [KK]
    have ih := fun h => KK_congr (A := A) (h := h) fun b hb => q b (List.mem_cons_of_mem _ hb)
    cases hm : madeOb a with
    | none => exact ih _
    | some ob =>
      simp only [q a (List.mem_cons_self ..) ob hm]
      exact ih _

theorem kk_next : ∀ {A : List Ent} {tm : Tr AV} {g h : Heap} {hs : List (Nat × Heap)}, Chained E self sz ops.toList tm g h hs A → (∀ b ∈ A, b.s.w = false) → ∀ {G : Heap}, G.next = h.next → (KK lst A G).next = (endH h A).next
  | [], tm, g, h, hs, _, _, G, hn => hn
  | a :: A, tm, g, h, hs, hc, hq, G, hn => by
    obtain ⟨_, _, rfl, _, h5, h6⟩ := hc
    simp only [KK, endH]
    refine kk_next h6 (fun b hb => hq b (List.mem_cons_of_mem _ hb)) ?_
    rcases made_cases (hq a (List.mem_cons_self ..)) h5 with ⟨k1, k2⟩ | ⟨ob, k1, k2⟩
    · rw [k1, k2]
      exact hn
    · rw [k1, k2]
      show G.next + 1 = a.h.next + 1
      rw [hn]

/-- Where nothing is left out, all is as at the engine's end. -/
theorem kk_same {n : Nat} : ∀ {A : List Ent} {tm : Tr AV} {g h : Heap} {hs : List (Nat × Heap)}, Chained E self sz ops.toList tm g h hs A → (∀ b ∈ A, b.s.w = false) → (∀ b ∈ A, lst b.s.i = false → ∀ ob, madeOb b = some ob → n ≠ b.h.next) →
    ∀ {G : Heap}, G.next = h.next → G.obj n = h.obj n → (KK lst A G).obj n = (endH h A).obj n
  | [], tm, g, h, hs, _, _, _, G, _, ho => ho
  | a :: A, tm, g, h, hs, hc, hq, hu, G, hn, ho => by
    obtain ⟨_, _, rfl, _, h5, h6⟩ := hc
    simp only [KK, endH]
    have hq' : ∀ b ∈ A, b.s.w = false := fun b hb => hq b (List.mem_cons_of_mem _ hb)
    have hu' : ∀ b ∈ A, lst b.s.i = false → ∀ ob, madeOb b = some ob → n ≠ b.h.next := fun b hb => hu b (List.mem_cons_of_mem _ hb)
    rcases made_cases (hq a (List.mem_cons_self ..)) h5 with ⟨k1, k2⟩ | ⟨ob, k1, k2⟩
    · rw [k1]
      simp only []
      exact kk_same h6 hq' hu' (by rw [k2]; exact hn) (by rw [k2]; exact ho)
    · rw [k1]
      simp only []
      refine kk_same h6 hq' hu' (by rw [k2]; show G.next + 1 = a.h.next + 1; rw [hn]) ?_
      rw [k2, obj_new, obj_new, hn]
      by_cases e : n = a.h.next
      · rw [if_pos e, if_pos e]
        cases hl : lst a.s.i with
        | true => rfl
        | false => exact absurd e (hu a (List.mem_cons_self ..) hl ob k1)
      · rw [if_neg e, if_neg e]
        exact ho

/-- Two memories that differ at one name. -/
structure Dif (n : Nat) (x y : Option AObj) (h k : Heap) : Prop where
  next : h.next = k.next
  lt : n < h.next
  l : h.obj n = x
  r : k.obj n = y
  rest : ∀ m, m ≠ n → h.obj m = k.obj m

theorem Dif.new {n : Nat} {x y : Option AObj} (d : Dif n x y h k) (o : AObj) : Dif n x y (h.new o) (k.new o) := by
  have hlt := d.lt
  refine ⟨by show h.next + 1 = k.next + 1; rw [d.next], Nat.lt_succ_of_lt hlt, ?_, ?_, ?_⟩
  · rw [obj_new, if_neg (by omega)]; exact d.l
  · rw [obj_new, if_neg (by rw [← d.next]; omega)]; exact d.r
  · intro m hm
    rw [obj_new, obj_new, d.next, d.rest m hm]

theorem Dif.kk {n : Nat} {x y : Option AObj} : ∀ {A : List Ent} {h k : Heap}, Dif n x y h k → Dif n x y (KK lst A h) (KK lst A k)
  | [], _, _, d => d
  | a :: A, h, k, d => by
    simp only [KK]
    refine Dif.kk ?_
    cases madeOb a with
    | none => exact d
    | some ob => exact d.new _

theorem Dif.wr {n : Nat} {x y : Option AObj} (d : Dif n x y h k) {s : TS} (hs : s.cs = [] ∨ s.n ≠ n) : Dif n x y (s.wr h) (s.wr k) := by
  rcases hs with hs | hs
  · have e : ∀ h : Heap, s.wr h = h := fun h => by unfold TS.wr Heap.write; rw [hs]; rfl
    rw [e, e]
    exact d
  · refine ⟨by rw [wr_next, wr_next]; exact d.next, by rw [wr_next]; exact d.lt, by rw [wr_other (Ne.symm hs)]; exact d.l, by rw [wr_other (Ne.symm hs)]; exact d.r, ?_⟩
    intro m hm
    by_cases e : m = s.n
    · subst e
      have ho := d.rest s.n hm
      rcases cells_or (h.obj s.n) with ⟨t, sz, dd, e, z, g, hh⟩ | hno
      · have hk : k.obj s.n = some (.cells t sz dd e z g) := by rw [← ho]; exact hh
        rcases wr_cells (x := s) hh with ⟨h1, h2⟩ | ⟨h1, h2, _, h3⟩ | ⟨h1, h2, h3⟩
        · rcases wr_cells (x := s) hk with ⟨_, k2⟩ | ⟨k1, _⟩ | ⟨k1, _⟩
          · rw [h2, k2]; exact ho
          · exact absurd h1 k1
          · exact absurd h1 k1
        · rcases wr_cells (x := s) hk with ⟨k1, _⟩ | ⟨_, _, _, k3⟩ | ⟨_, k2, _⟩
          · exact absurd k1 h1
          · rw [h3, k3, obj_put, obj_put, if_pos rfl, if_pos rfl]
          · rw [h2] at k2; cases k2
        · rcases wr_cells (x := s) hk with ⟨k1, _⟩ | ⟨_, k2, _⟩ | ⟨_, _, k3⟩
          · exact absurd k1 h1
          · rw [h2] at k2; cases k2
          · rw [h3, k3]; exact ho
      · rw [wr_none hno, wr_none (by rw [← ho]; exact hno)]
        exact ho
    · rw [wr_other e, wr_other e]
      exact d.rest m hm

theorem Dif.kt {n : Nat} {x y : Option AObj} : ∀ {l : List TS} {h k : Heap}, (∀ s ∈ l, lst s.i = true → s.cs = [] ∨ s.n ≠ n) → Dif n x y h k → Dif n x y (KT lst l h) (KT lst l k)
  | [], _, _, _, d => d
  | s :: l, h, k, hl, d => by
    simp only [KT]
    refine Dif.kt (fun u hu => hl u (List.mem_cons_of_mem _ hu)) ?_
    cases e : lst s.i with
    | true => exact d.wr (hl s (List.mem_cons_self ..) e)
    | false => exact d

/-- An object of which nothing was said is made. -/
theorem Rel.revive {nG n : Nat} {ob : AObj} {l : Loc} (r : Rel nG ρ h w) (hn : ρ n = Option.none) (d : Dif n (some .dead) (some ob) h k) (hb : ∀ b, b < w.heap.size → w'.heap[b]? = w.heap[b]?) (_hs : w.heap.size ≤ w'.heap.size)
    (hl : w.heap.size ≤ l.b) (hlt : l.b < w'.heap.size) (ho : OR (ρ.put n l) l ob w'.heap[l.b]?) : Rel nG (ρ.put n l) k w' := by
  have hle : ρ.le (ρ.put n l) := Ren.le_put l hn
  have hlv : ∀ m, m ≠ n → live k m = true → live h m = true := by
    intro m hm hk
    obtain ⟨o, h1, h2⟩ := live_iff.1 hk
    exact live_iff.2 ⟨o, by rw [d.rest m hm]; exact h1, h2⟩
  refine ⟨?_, ?_, ?_, ?_, ?_, by rw [← d.next]; exact r.globs⟩
  · intro m o hm hd
    by_cases e : m = n
    · subst e
      rw [d.r] at hm
      cases hm
      exact ⟨l, Ren.put_same _ _ _, ho⟩
    · rw [← d.rest m e] at hm
      obtain ⟨l', h1, h2⟩ := r.obj m o hm hd
      exact ⟨l', hle _ _ h1, by rw [hb _ (r.lt m l' h1).2]; exact h2.mono hle⟩
  · intro p q lp lq hp hq h1 h2 h3
    by_cases ep : p = n <;> by_cases eq : q = n
    · rw [ep, eq]
    · subst ep
      rw [Ren.put_same] at h1
      rw [Ren.put_other _ _ eq] at h2
      cases h1
      have := (r.lt q lq h2).2
      omega
    · subst eq
      rw [Ren.put_same] at h2
      rw [Ren.put_other _ _ ep] at h1
      cases h2
      have := (r.lt p lp h1).2
      omega
    · rw [Ren.put_other _ _ ep] at h1
      rw [Ren.put_other _ _ eq] at h2
      exact r.inj p q lp lq (hlv p ep hp) (hlv q eq hq) h1 h2 h3
  · intro m l' hm
    rw [← d.next]
    by_cases e : m = n
    · subst e
      rw [Ren.put_same] at hm
      cases hm
      exact ⟨d.lt, hlt⟩
    · rw [Ren.put_other _ _ e] at hm
      have := r.lt m l' hm
      exact ⟨this.1, by omega⟩
  · intro g hg
    obtain ⟨l', h1, h2⟩ := r.glob g hg
    exact ⟨l', hle _ _ h1, h2⟩
  · intro m hm
    rw [← d.next] at hm
    have := d.lt
    rw [← d.rest m (by omega)]
    exact r.fresh m hm

theorem Ext.revive {n : Nat} {ob : AObj} {l : Loc} (x : Ext ρ0 h0 w0 ρ h w) (hn : ρ n = Option.none) (hn0 : h0.next ≤ n) (d : Dif n (some .dead) (some ob) h k) (hb : ∀ b, b < w.heap.size → w'.heap[b]? = w.heap[b]?) (hs : w.heap.size ≤ w'.heap.size)
    (hl : w.heap.size ≤ l.b) (hkp : Kpt w w' := by exact ⟨rfl, rfl, rfl⟩) : Ext ρ0 h0 w0 (ρ.put n l) k w' := by
  refine ⟨Ren.le_trans x.le (Ren.le_put l hn), by rw [← d.next]; exact x.next, ?_, fun b hlt hno => by rw [hb b (Nat.lt_of_lt_of_le hlt x.size)]; exact x.frame b hlt hno, Nat.le_trans x.size hs, ?_, x.kept.trans hkp⟩
  · intro m hm hk
    obtain ⟨o, h1, h2⟩ := live_iff.1 hk
    exact x.lives m hm (live_iff.2 ⟨o, by rw [d.rest m (by omega)]; exact h1, h2⟩)
  · intro m l' hm hno
    by_cases e : m = n
    · subst e
      rw [Ren.put_same] at hm
      cases hm
      exact ⟨hn0, .inl (Nat.le_trans x.size hl)⟩
    · rw [Ren.put_other _ _ e] at hm
      exact x.fresh m l' hm hno

/-- Where the model stands behind the region's last writer. -/
structure Late (E : Env) (sz : Nat) (ρ0 : Ren) (h0 : Heap) (w0 : World) (ρ : Ren) (lst : Nat → Bool) (tm : Tr AV) (G : Heap) (es : List Ent) (ts : List TS) (tmps : Array Value) (w : World) : Prop where
  nw : ∀ a ∈ es, a.s.w = false
  rel : Rel E.nG ρ (KT lst ts (KK lst es G)) w
  ext : Ext ρ0 h0 w0 ρ (KT lst ts (KK lst es G)) w
  un : ∀ a ∈ es, lst a.s.i = false → ∀ ob, madeOb a = some ob → ρ a.h.next = none
  tgt : ∀ s ∈ ts, lst s.i = true → s.cs = [] ∨ ∃ l, ρ s.n = some l
  tmA : ∀ a ∈ es, lst a.s.i = true → ∀ d, a.s.o.dst = some d → ∀ v, a.tm'.get d = some v → R ρ v (tmps.getD d undef)
  tmB : ∀ t, (∀ a ∈ es, lst a.s.i = true → a.s.o.dst ≠ some t) → ∀ v, tm.get t = some v → R ρ v (tmps.getD t undef)
  size : tmps.size = sz

/-- All writers have run. -/
theorem Mid.late (m : Mid E sz ρ0 h0 w0 ρ lst tm G es tmps w) (t : Trc E self sz ops tm G hs es) (h0n : h0.next ≤ G.next) (hq : ∀ a ∈ es, a.s.w = false) (ht : ∀ s ∈ ts, lst s.i = false) : Late E sz ρ0 h0 w0 ρ lst tm G es ts tmps w := by
  obtain ⟨c1, c2, c3⟩ := chained_next t.ch
  have hun : ∀ a ∈ es, lst a.s.i = false → ∀ ob, madeOb a = some ob → ρ a.h.next = Option.none := fun a ha hl ob ho => m.none t ha ho hl
  obtain ⟨k1, k2, k3⟩ := kk_rel (lst := lst) (ρ0 := ρ0) (h0 := h0) (w0 := w0) t.ch hq G rfl h0n m.rel m.ext m.made hun
  have hcut : ρ.cut (KK lst es G).next = ρ := by
    funext n
    unfold Ren.cut
    split
    · rfl
    · rename_i hn
      cases e : ρ n with
      | none => rfl
      | some l =>
        rw [k1] at hn
        rcases m.names n l e with h | ⟨a, h1, h2, ⟨ob, h3⟩, h4⟩
        · omega
        · have := (c2 a h1).2.1
          have := (made_some h3).2
          omega
  rw [hcut] at k2 k3
  refine ⟨hq, by rw [KT_none ht]; exact k2, by rw [KT_none ht]; exact k3, hun, fun s hs hl => (by rw [ht s hs] at hl; cases hl), ?_, ?_, m.size⟩
  · intro a ha hl d hd v hv
    exact R_mono (Ren.cut_le _ _) _ _ (m.tmA a ha hl d hd v hv)
  · intro u hno v hv
    exact R_mono (Ren.cut_le _ _) _ _ (m.tmB u hno v hv)

/-- What is related of the temporaries at the engine's end. -/
theorem Late.get (m : Late E sz ρ0 h0 w0 ρ lst tm G es ts tmps w) (t : Trc E self sz ops tm G hs es) {u : Tmp} (hu : ∀ b ∈ es, b.s.o.dst = some u → lst b.s.i = true) {v : AV} (hv : (endTm tm es).get u = some v) : R ρ v (tmps.getD u undef) := by
  by_cases hex : ∃ b ∈ es, b.s.o.dst = some u
  · obtain ⟨b, hb, hd⟩ := hex
    obtain ⟨A1, A2, rfl⟩ := List.append_of_mem hb
    refine m.tmA b hb (hu b hb hd) u hd v ?_
    rw [endTm_append] at hv
    simp only [endTm] at hv
    rw [← hv]
    obtain ⟨_, _, _, _, _, _, h7⟩ := chained_at t.ch
    refine (endTm_other h7 fun x hx hdx => ?_).symm
    have hp2 := (List.pairwise_cons.1 (List.pairwise_append.1 t.pw).2.1).1 x hx
    exact pairOk_dst hp2 hd hdx
  · rw [endTm_other t.ch fun b hb hd => hex ⟨b, hb, hd⟩] at hv
    exact m.tmB u (fun b hb _ hd => hex ⟨b, hb, hd⟩) v hv

/-- One that writes nothing, and does not look at the memory, runs. -/
theorem Late.quiet (ok : EnvOK P E) (h0n : h0.next ≤ G.next) (m : Late E sz ρ0 h0 w0 ρ lst tm G (A ++ a :: B) ts tmps w) (t : Trc E self sz ops tm G hs (A ++ a :: B)) (hl : lst a.s.i = false) (hr : isR a.s.o.op = false)
    (hts : ∀ s ∈ ts, s.i ≠ a.s.i) (hm : ∀ j, has a.s.m j = true → lst j = true) (hcl : ∀ b ∈ A ++ a :: B, lst b.s.i = true → ∀ j, has b.s.m j = true → lst j = true) {fr : Frame} (hmode : fr.mode = .run) (rest : List Nat) (k : List Item) :
    ∃ ρ' tmps' w', Late E sz ρ0 h0 w0 ρ' (upd lst a.s.i) tm G (A ++ a :: B) ts tmps' w' ∧
      ∀ cs, step P (lone { fr with tmps := tmps, todo := .inRegion ops (a.s.i :: rest) :: k } cs w) = .next (lone { fr with tmps := tmps', todo := .inRegion ops rest :: k } cs w') := by
  obtain ⟨q1, q2, q3, q4, q5, q6, q7⟩ := chained_at t.ch
  obtain ⟨c1, c2, c3⟩ := chained_next t.ch
  have ha : a ∈ A ++ a :: B := List.mem_append_right _ (List.mem_cons_self ..)
  have hw := m.nw a ha
  have hso := t.sok a ha
  have hpw := List.pairwise_append.1 t.pw
  have hpw2 := List.pairwise_cons.1 hpw.2.1
  have htm : ∀ u ∈ a.s.lk, ∀ v, a.tm.get u = some v → R ρ v (tmps.getD u undef) := by
    intro u hu v hv
    rw [q1] at hv
    by_cases hex : ∃ b ∈ A, b.s.o.dst = some u
    · obtain ⟨b, hb, hd⟩ := hex
      have hlb := hm _ (pairOk_raw (hpw.2.2 b hb a (List.mem_cons_self ..)) hd hu)
      obtain ⟨A1, A2, hA12⟩ := List.append_of_mem hb
      refine m.tmA b (List.mem_append_left _ hb) hlb u hd v ?_
      rw [hA12, endTm_append] at hv
      simp only [endTm] at hv
      rw [← hv]
      have q6' := q6
      rw [hA12] at q6'
      obtain ⟨_, _, _, _, _, _, h7⟩ := chained_at q6'
      refine (endTm_other h7 fun x hx hdx => ?_).symm
      have hpA := hpw.1
      rw [hA12] at hpA
      exact pairOk_dst ((List.pairwise_cons.1 (List.pairwise_append.1 hpA).2.1).1 x hx) hd hdx
    · rw [endTm_other q6 fun b hb hd => hex ⟨b, hb, hd⟩] at hv
      refine m.tmB u (fun b hb hlb hd => ?_) v hv
      rcases List.mem_append.1 hb with hb | hb
      · exact hex ⟨b, hb, hd⟩
      · rcases List.mem_cons.1 hb with rfl | hb
        · rw [hl] at hlb; cases hlb
        · have := hcl b (List.mem_append_right _ (List.mem_cons_of_mem _ hb)) hlb _ (pairOk_war (hpw2.1 b hb) hd hu)
          rw [hl] at this
          cases this
  have hoi : ops[a.s.i]? = some a.s.o := by rw [← Array.getElem?_toList]; exact hso.o
  obtain ⟨v, y, w', hp, hst, hcase⟩ := quiet_step (rest := rest) (k := k) ok hw q5 hso m.rel.q (fr := { fr with tmps := tmps, todo := .inRegion ops (a.s.i :: rest) :: k }) hmode rfl htm
    (fun v _ hq _ => by rw [← aopQ_free (h := a.g) hr]; exact hq)
  have hfin : ∀ cs, step P (lone { fr with tmps := tmps, todo := .inRegion ops (a.s.i :: rest) :: k } cs w) = .next (lone { fr with tmps := putC tmps a.s.o.dst y, todo := .inRegion ops rest :: k } cs w') := fun cs => by
    rw [hst cs, finish_eq hoi]
  -- what is the same in both cases
  have hina : ∀ b ∈ A ++ a :: B, upd lst a.s.i b.s.i = true → b = a ∨ lst b.s.i = true := fun b hb h => by
    rcases upd_true h with h | h
    · exact .inl (pw_inj t.pw hb ha h)
    · exact .inr h
  have hA : ∀ {ρ' : Ren}, ρ.le ρ' → R ρ' v y → (∀ b ∈ A ++ a :: B, upd lst a.s.i b.s.i = true → ∀ d, b.s.o.dst = some d → ∀ u, b.tm'.get d = some u → R ρ' u ((putC tmps a.s.o.dst y).getD d undef)) ∧
      ∀ u, (∀ b ∈ A ++ a :: B, upd lst a.s.i b.s.i = true → b.s.o.dst ≠ some u) → ∀ v, tm.get u = some v → R ρ' v ((putC tmps a.s.o.dst y).getD u undef) := by
    intro ρ' hle hy
    constructor
    · intro b hb hlb d hd u hu
      rw [putC_get]
      by_cases e : a.s.o.dst = some d
      · have := pw_dst t.pw ha hb e hd
        subst this
        have hlt := putT_lt (by rw [hd] at hp; exact hp)
        rw [if_pos ⟨hd, by rw [m.size]; exact hlt⟩]
        rw [putT_get hp, if_pos hd] at hu
        cases hu
        exact hy
      · rw [if_neg fun h => e h.1]
        rcases hina b hb hlb with rfl | hlb
        · exact absurd hd e
        · exact R_mono hle _ _ (m.tmA b hb hlb d hd u hu)
    · intro u hno v' hv'
      rw [putC_get, if_neg fun h => hno a ha (upd_same _ _) h.1]
      exact R_mono hle _ _ (m.tmB u (fun b hb hlb => hno b hb (upd_le hlb)) v' hv')
  have hkt : ∀ H, KT (upd lst a.s.i) ts H = KT lst ts H := fun H => KT_congr fun s hs => upd_other (hts s hs)
  have htg : ∀ s ∈ ts, upd lst a.s.i s.i = true → lst s.i = true := fun s hs h => by rw [upd_other (hts s hs)] at h; exact h
  rcases hcase with ⟨rfl, hh, hR⟩ | ⟨ob, ob', c, s, hmd, rfl, hR⟩
  · have hno : madeOb a = none := by
      cases e : madeOb a with
      | none => rfl
      | some ob =>
        have := (made_some e).2
        rw [hh] at this
        omega
    have hkk : KK (upd lst a.s.i) (A ++ a :: B) G = KK lst (A ++ a :: B) G := KK_congr fun b hb ob ho => upd_other fun e => by
      have := pw_inj t.pw hb ha e
      subst this
      rw [hno] at ho
      cases ho
    obtain ⟨t1, t2⟩ := hA (Ren.le_refl ρ) hR
    refine ⟨ρ, _, _, ⟨m.nw, by rw [hkt, hkk]; exact m.rel, by rw [hkt, hkk]; exact m.ext, ?_, fun s hs hl => m.tgt s hs (htg s hs hl), t1, t2, by rw [putC_size]; exact m.size⟩, hfin⟩
    intro b hb hlb ob ho
    refine m.un b hb ?_ ob ho
    cases e : lst b.s.i with
    | false => rfl
    | true => rw [upd_le e] at hlb; cases hlb
  · have hob := ent_made hmd
    have hnone := m.un a ha hl ob hob
    have hn1 := (made_some hob).2
    have hle : ρ.le (ρ.put a.h.next ⟨w.heap.size, 0, c, s⟩) := Ren.le_put _ hnone
    obtain ⟨hR1, hR2⟩ := hR _ hle (Ren.put_same _ _ _)
    obtain ⟨t1, t2⟩ := hA hle hR1
    have hqA : ∀ b ∈ A, b.s.w = false := fun b hb => m.nw b (List.mem_append_left _ hb)
    have hne : ∀ b ∈ A ++ a :: B, b ≠ a → b.s.i ≠ a.s.i := fun b hb hba e => hba (pw_inj t.pw hb ha e)
    have hnA : ∀ b ∈ A, b.s.i ≠ a.s.i := fun b hb => pairOk_i (hpw.2.2 b hb a (List.mem_cons_self ..))
    have hnB : ∀ b ∈ B, b.s.i ≠ a.s.i := fun b hb => (pairOk_i (hpw2.1 b hb)).symm
    have hdif : Dif a.h.next (some .dead) (some ob) (KT lst ts (KK lst (A ++ a :: B) G)) (KT (upd lst a.s.i) ts (KK (upd lst a.s.i) (A ++ a :: B) G)) := by
      rw [hkt, KK_append, KK_append]
      rw [KK_congr (lst := upd lst a.s.i) (lst' := lst) (A := A) fun b hb ob ho => upd_other (hnA b hb)]
      have hnx : (KK lst A G).next = a.h.next := by rw [kk_next q6 hqA rfl, ← q3]
      have e1 : ∀ H, KK lst (a :: B) H = KK lst B (H.new .dead) := fun H => by simp only [KK, hob, hl]
      have e2 : ∀ H, KK (upd lst a.s.i) (a :: B) H = KK lst B (H.new ob) := fun H => by
        simp only [KK, hob, upd_same]
        exact KK_congr fun b hb ob ho => upd_other (hnB b hb)
      rw [e1, e2]
      refine Dif.kt (fun s hs hls => (m.tgt s hs hls).imp id fun h e => (by obtain ⟨l, hl'⟩ := h; rw [e, hnone] at hl'; cases hl')) (Dif.kk ?_)
      · rw [← hnx]
        refine ⟨rfl, Nat.lt_succ_self _, by rw [obj_new, if_pos rfl], by rw [obj_new, if_pos rfl], fun m hm => by rw [obj_new, obj_new, if_neg hm, if_neg hm]⟩
    have hsz : w.heap.size ≤ (w.alloc ob').heap.size := by rw [alloc_size]; omega
    refine ⟨_, _, _, ⟨m.nw, m.rel.revive hnone hdif alloc_get hsz (Nat.le_refl _) (by rw [alloc_size]; show w.heap.size < _; omega) (by rw [alloc_new]; exact hR2), m.ext.revive hnone (Nat.le_trans h0n (c2 a ha).1) hdif alloc_get hsz (Nat.le_refl _),
      ?_, fun s hs hl => (m.tgt s hs (htg s hs hl)).imp id fun ⟨l, hl'⟩ => ⟨l, hle _ _ hl'⟩, t1, t2, by rw [putC_size]; exact m.size⟩, hfin⟩
    intro b hb hlb ob2 ho
    have hlb' : lst b.s.i = false := by
      cases e : lst b.s.i with
      | false => rfl
      | true => rw [upd_le e] at hlb; cases hlb
    have hba : b.h.next ≠ a.h.next := fun e => by
      have := made_inj c3 hb ha ho hob e
      subst this
      rw [upd_same] at hlb
      cases hlb
    rw [Ren.put_other _ _ hba]
    exact m.un b hb hlb' ob2 ho
end
end Go.Eng

/- The engine: the last stores of a drawn region, in whatever order. -/
namespace Go.Eng
section
variable {P : Program} {E : Env} {self : Out → Heap → Option AEnd} {sz : Nat} {ops : Array Oper} {ρ ρ0 ρ' : Ren} {h h0 k : Heap} {w w' w0 : World}
  {lst : Nat → Bool} {tm : Tr AV} {G : Heap} {hs : List (Nat × Heap)} {es A B : List Ent} {a : Ent} {tmps : Array Value} {ts : List TS}

def StoreAt (E : Env) (tm : Tr AV) (o : Op) (x : TS) : Prop :=
  (∀ h, aopW E tm h o = match h.write x.n x.off x.cs with | some h' => some (.tup [], h') | none => none) ∧ ∃ t a v, o = .store t a v ∧ ev E.nG tm a = some (.ptr x.n x.off)

/-- The stores, as they are. -/
def TailR (E : Env) (tm : Tr AV) : List SI → List TS → Prop
  | [], ts => ts = []
  | s :: l, ts => ∃ x xs, ts = x :: xs ∧ x.i = s.i ∧ x.m = s.m ∧ s.o.guard = none ∧ s.o.dst = none ∧ StoreAt E tm s.o.op x ∧ TailR E tm l xs

theorem TailR.get : ∀ {l : List SI} {ts : List TS}, TailR E tm l ts → ∀ {s : SI}, s ∈ l → ∃ x ∈ ts, x.i = s.i ∧ x.m = s.m ∧ s.o.guard = none ∧ s.o.dst = none ∧ StoreAt E tm s.o.op x
  | [], _, _, s, hs => by cases hs
  | s0 :: l, ts, h, s, hs => by
    obtain ⟨x, xs, rfl, h1, h2, h3, h4, h5, h6⟩ := h
    rcases List.mem_cons.1 hs with rfl | hs
    · exact ⟨x, List.mem_cons_self .., h1, h2, h3, h4, h5⟩
    · obtain ⟨y, hy, hr⟩ := TailR.get h6 hs
      exact ⟨y, List.mem_cons_of_mem _ hy, hr⟩

theorem TailR.back : ∀ {l : List SI} {ts : List TS}, TailR E tm l ts → ∀ {x : TS}, x ∈ ts → ∃ s ∈ l, x.i = s.i ∧ x.m = s.m
  | [], ts, h, x, hx => by simp only [TailR] at h; subst h; cases hx
  | s0 :: l, ts, h, x, hx => by
    obtain ⟨x0, xs, rfl, h1, h2, h3, h4, h5, h6⟩ := h
    rcases List.mem_cons.1 hx with rfl | hx
    · exact ⟨s0, List.mem_cons_self .., h1, h2⟩
    · obtain ⟨y, hy, hr⟩ := TailR.back h6 hx
      exact ⟨y, List.mem_cons_of_mem _ hy, hr⟩

theorem TailR.idx : ∀ {l : List SI} {ts : List TS}, TailR E tm l ts → ts.map (·.i) = l.map (·.i)
  | [], ts, h => by simp only [TailR] at h; subst h; rfl
  | s0 :: l, ts, h => by
    obtain ⟨x0, xs, rfl, h1, h2, h3, h4, h5, h6⟩ := h
    simp only [List.map_cons, h1, h6.idx]

def TS.tr (x : TS) : Nat × Nat × Nat := (x.n, x.off, x.cs.length)

theorem apart_tr {x y : TS} (h : Eng.apart y.tr x.tr = true) : x.apart y := by
  unfold Eng.apart TS.tr at h
  simp only [Bool.or_eq_true, Bool.not_eq_true', Nat.ble_eq] at h
  unfold TS.apart
  rcases h with (h | h) | h
  · left
    intro e
    rw [e, show Nat.beq y.n y.n = true from by rw [Nat.beq_eq]] at h
    cases h
  · exact .inr (.inr h)
  · exact .inr (.inl h)

theorem can_shape {x : TS} (hs : ∀ n, shape (h.obj n) = shape (k.obj n)) (hc : x.can h) : x.can k := by
  rcases hc with hc | ⟨s, h1, h2⟩
  · exact .inl hc
  · exact .inr ⟨s, by rw [← hs]; exact h1, h2⟩

/-- What a store is, of which it is known that it was done once. -/
theorem store_at {o : Op} {t : Nat × Nat × Nat} {u : AV} {h1 : Heap} (ht : target E tm o = some t) (hw : aopW E tm h o = some (u, h1)) : ∃ cs : List AV, t.2.2 = cs.length ∧ h.write t.1 t.2.1 cs = some h1 ∧
    ∀ i m, StoreAt E tm o ⟨i, m, t.1, t.2.1, cs⟩ := by
  unfold target at ht
  split at ht
  · rename_i ty a x
    split at ht
    · rename_i n off v ha hv
      cases ht
      simp only [aopW_def, aopW0, ha, hv] at hw
      split at hw
      · rename_i n' off' v' s' hh1 hh2 hs
        cases hh1
        cases hh2
        split at hw
        · rename_i hc
          split at hw
          · rename_i h2 hh
            cases hw
            refine ⟨cellsOf v, rfl, hh, fun i m => ⟨fun hp => ?_, _, _, _, rfl, ha⟩⟩
            simp only [aopW_def, aopW0, ha, hv, hs, hc]
            cases hp.write n off (cellsOf v) <;> rfl
          · cases hw
        · cases hw
      · cases hw
    · cases ht
  · cases ht

theorem runTail_ok : ∀ {l : List SI} {done : List Done} {h h' : Heap}, runTail E tm l done h = some h' → ∃ ts, TailR E tm l ts ∧ (∀ lst : Nat → Bool, (∀ x ∈ ts, lst x.i = true) → KT lst ts h = h') ∧
    ts.Pairwise (fun x y => has y.m x.i = true ∨ x.apart y) ∧ (∀ x ∈ ts, x.can h) ∧ ∀ y ∈ ts, ∀ d ∈ done, has y.m d.i = true ∨ Eng.apart y.tr d.t = true
  | [], done, h, h', hv => by
    simp only [runTail, Option.some.injEq] at hv
    subst hv
    exact ⟨[], rfl, fun _ _ => rfl, .nil, by simp, by simp⟩
  | s :: l, done, h, h', hv => by
    simp only [runTail] at hv
    split at hv
    · rename_i t u h1 hg hd ht hw
      split at hv
      · rename_i hall
        obtain ⟨cs, k1, k2, k3⟩ := store_at ht hw
        obtain ⟨ts, g1, g2, g3, g4, g5⟩ := runTail_ok hv
        have hwr : (⟨s.i, s.m, t.1, t.2.1, cs⟩ : TS).wr h = h1 := by
          unfold TS.wr
          simp only [k2, Option.getD_some]
        have htr : (⟨s.i, s.m, t.1, t.2.1, cs⟩ : TS).tr = t := by
          unfold TS.tr
          simp only [← k1]
        refine ⟨⟨s.i, s.m, t.1, t.2.1, cs⟩ :: ts, ⟨_, _, rfl, rfl, rfl, hg, hd, k3 _ _, g1⟩, ?_, .cons ?_ g3, ?_, ?_⟩
        · intro lst hl
          simp only [KT, hl _ (List.mem_cons_self ..), hwr]
          exact g2 lst fun x hx => hl x (List.mem_cons_of_mem _ hx)
        · intro y hy
          rcases g5 y hy ⟨s.i, t⟩ (List.mem_cons_self ..) with h2 | h2
          · exact .inl h2
          · refine .inr (apart_tr ?_)
            rw [htr]
            exact h2
        · intro x hx
          rcases List.mem_cons.1 hx with rfl | hx
          · exact write_can k2
          · refine can_shape (fun n => ?_) (g4 x hx)
            rw [← hwr, wr_shape]
        · intro y hy d hd
          rcases List.mem_cons.1 hy with rfl | hy
          · rw [htr]
            rw [List.all_eq_true] at hall
            have := hall d hd
            rwa [Bool.or_eq_true] at this
          · exact g5 y hy d (List.mem_cons_of_mem _ hd)
      · cases hv
    · cases hv

/-- One of the last stores runs. -/
theorem Late.tail (ok : EnvOK P E) (m : Late E sz ρ0 h0 w0 ρ lst tm G es ts tmps w) (r0 : Rel E.nG ρ0 h0 w0) (t : Trc E self sz ops tm G hs es) {s : SI} (hso : SOK E ops.toList s) {x : TS} {l l' : List TS} (hts : ts = l ++ x :: l') (hi : x.i = s.i)
    (h1 : ∀ y ∈ l, y.i ≠ x.i) (h2 : ∀ y ∈ l', y.i ≠ x.i) (hx : lst x.i = false) (hap : ∀ y ∈ l', lst y.i = true → x.apart y) (hg : s.o.guard = none) (hd : s.o.dst = none) (hst : StoreAt E (endTm tm es) s.o.op x)
    (hcan : x.can (endH G es)) (hes : ∀ b ∈ es, pairOk b.s s = true) (hm : ∀ j, has s.m j = true → lst j = true) {fr : Frame} (hmode : fr.mode = .run) (rest : List Nat) (k : List Item) :
    ∃ w', Late E sz ρ0 h0 w0 ρ (upd lst s.i) tm G es ts tmps w' ∧
      ∀ cs, step P (lone { fr with tmps := tmps, todo := .inRegion ops (s.i :: rest) :: k } cs w) = .next (lone { fr with tmps := tmps, todo := .inRegion ops rest :: k } cs w') := by
  have hoi : ops[s.i]? = some s.o := by rw [← Array.getElem?_toList]; exact hso.o
  have hlk : ∀ u ∈ looks ops.toList s.o, ∀ v, (endTm tm es).get u = some v → R ρ v (tmps.getD u undef) := by
    rw [← hso.lk]
    intro u hu v hv
    exact m.get t (fun b hb hdb => hm _ (pairOk_raw (hes b hb) hdb hu)) hv
  have hev := ev_ok m.rel.q (f := { fr with tmps := tmps, todo := .inRegion ops (s.i :: rest) :: k }) (pick_TR hlk)
  have hcong : ∀ y ∈ s.o.op.operands, ev E.nG (endTm tm es) y = ev E.nG (pick (endTm tm es) (looks ops.toList s.o)) y := pick_ev
  obtain ⟨hst1, ty, ad, vv, hop, had⟩ := hst
  have hρ : ∃ l, ρ x.n = some l := by
    have ha' : ev E.nG (pick (endTm tm es) (looks ops.toList s.o)) ad = some (.ptr x.n x.off) := by
      rw [← hcong ad (by rw [hop]; simp [Op.operands])]
      exact had
    have := hev _ _ ha'
    simp only [R] at this
    obtain ⟨l, hl, _⟩ := this
    exact ⟨l, hl⟩
  have hshape : shape ((KT lst ts (KK lst es G)).obj x.n) = shape ((endH G es).obj x.n) := by
    rw [KT_shape, kk_same t.ch m.nw (fun b hb hlb ob hob e => ?_) rfl rfl]
    have := m.un b hb hlb ob hob
    rw [← e] at this
    obtain ⟨l, hl⟩ := hρ
    rw [this] at hl
    cases hl
  have hcan' : x.can (KT lst ts (KK lst es G)) := by
    rcases hcan with hc | ⟨s', k1, k2⟩
    · exact .inl hc
    · exact .inr ⟨s', by rw [hshape]; exact k1, k2⟩
  have hw := hst1 (KT lst ts (KK lst es G))
  rw [can_write hcan'] at hw
  rw [aopW_congr hcong] at hw
  obtain ⟨ρ1, nx, y, w', g1, g2, g3, g4, g5⟩ := aopW_ok ok m.rel hev hw
  have hρ1 : ρ1 = ρ := by
    funext n
    cases e : ρ n with
    | some l => exact g5.le _ _ e
    | none =>
      cases e1 : ρ1 n with
      | none => rfl
      | some l =>
        have h3 := (g5.fresh n l e1 e).1
        have h4 := (g4.lt n l e1).1
        rw [wr_next] at h4
        omega
  subst hρ1
  have hkk : KK (upd lst s.i) es G = KK lst es G := KK_congr fun b hb ob ho => upd_other (pairOk_i (hes b hb))
  have hHE : HE (x.wr (KT lst ts (KK lst es G))) (KT (upd lst s.i) ts (KK (upd lst s.i) es G)) := by
    rw [hkk, hts, ← hi]
    exact (KT_upd h1 h2 hx hap).symm
  have hub : ∀ b ∈ es, upd lst s.i b.s.i = lst b.s.i := fun b hb => upd_other (pairOk_i (hes b hb))
  refine ⟨w', ⟨m.nw, g4.of_HE hHE, (Ext.trans r0 m.rel m.ext g5).of_HE hHE, fun b hb hl => m.un b hb (by rw [← hub b hb]; exact hl), ?_, fun b hb hl => m.tmA b hb (by rw [← hub b hb]; exact hl), fun u hno => m.tmB u fun b hb hl => hno b hb (by rw [hub b hb]; exact hl), m.size⟩, fun cs => ?_⟩
  · intro z hz hl
    rcases upd_true hl with e | e
    · have : z = x := by
        rw [hts] at hz
        rcases List.mem_append.1 hz with hz | hz
        · exact absurd (e.trans hi.symm) (h1 z hz)
        · rcases List.mem_cons.1 hz with rfl | hz
          · rfl
          · exact absurd (e.trans hi.symm) (h2 z hz)
      subst this
      exact .inr hρ
    · exact m.tgt z hz e
  · have hwant : Region.wanted s.o (yielded ops ({ fr with tmps := tmps, todo := .inRegion ops (s.i :: rest) :: k } : Frame).tmps) = true := by simp [Region.wanted, hg]
    have hnd : ({ fr with tmps := tmps, todo := .inRegion ops (s.i :: rest) :: k } : Frame).roundOf = none ∨ ∀ c, s.o.op ≠ .defer c := .inr fun c hc => by rw [hop] at hc; cases hc
    have hf : ∀ z, ({ fr with tmps := tmps, todo := .inRegion ops (s.i :: rest) :: k } : Frame).finish z = { fr with tmps := tmps, todo := .inRegion ops rest :: k } := fun z => by
      rw [finish_eq hoi, hd]
      rfl
    rcases g2 with rfl | ⟨rfl, rfl⟩
    · rw [step_value (fr := { fr with tmps := tmps, todo := .inRegion ops (s.i :: rest) :: k }) hmode rfl hoi hwant hnd g1, hf]
    · rw [step_skipped (fr := { fr with tmps := tmps, todo := .inRegion ops (s.i :: rest) :: k }) hmode rfl hoi hwant hnd g1, hf]
end
end Go.Eng

/- The engine: drawn regions, whole. -/
namespace Go.Eng
section
variable {P : Program} {E : Env} {self : Out → Heap → Option AEnd} {sz : Nat} {ops : Array Oper} {ρ ρ0 ρ' : Ren} {h h0 k : Heap} {w w' w0 : World}

theorem cover_get {l : List SI} : ∀ {n : Nat}, coverOk l n = true → ∀ {i : Nat}, i < n → ∃ s ∈ l, s.i = i
  | 0, _, i, hi => absurd hi (Nat.not_lt_zero _)
  | n + 1, h, i, hi => by
    simp only [coverOk, Bool.and_eq_true, List.any_eq_true] at h
    obtain ⟨⟨s, hs, he⟩, h2⟩ := h
    rw [Nat.beq_eq] at he
    by_cases e : i = n
    · exact ⟨s, hs, by rw [he, e]⟩
    · exact cover_get h2 (by omega)

/-- What is listed, as a function. -/
def lst (listed : Array Bool) : Nat → Bool := fun i => listed.getD i false

theorem lst_set {listed : Array Bool} {i : Nat} (hi : i < listed.size) : lst (listed.setIfInBounds i true) = upd (lst listed) i := by
  funext j
  exact getD_set hi

theorem SOK.lt {s : SI} (h : SOK E ops.toList s) : s.i < ops.size := by
  have := h.o
  rw [Array.getElem?_toList] at this
  rcases Nat.lt_or_ge s.i ops.size with hh | hh
  · exact hh
  · rw [Array.getElem?_eq_none hh] at this; cases this

theorem cut_all (r : Rel E.nG ρ h w) : ρ.cut h.next = ρ := by
  funext n
  unfold Ren.cut
  split
  · rfl
  · rename_i hn
    cases e : ρ n with
    | none => rfl
    | some l => exact absurd (r.lt n l e).1 hn

/-- At a region's beginning. -/
theorem mid_start {tm : Tr AV} {tmps : Array Value} {es : List Ent} (r : Rel E.nG ρ h w) (e : w'.heap = w.heap) (hkp : Kpt w w') (ht : TR ρ tm tmps) (hs : tmps.size = sz) : Mid E sz ρ h w ρ (lst (Array.replicate ops.size false)) tm h es tmps w' := by
  have hl : ∀ i, lst (Array.replicate ops.size false) i = false := by
    intro i
    simp only [lst, Array.getD_eq_getD_getElem?, Array.getElem?_replicate]
    split <;> rfl
  refine ⟨fun a _ _ => hl _, by rw [cut_all r]; exact r.same e, by rw [cut_all r]; exact Ext.same e hkp, fun n l hn => .inl (r.lt n l hn).1, fun a _ h => (by rw [hl] at h; cases h), fun a _ h => (by rw [hl] at h; cases h), ?_, hs⟩
  intro t _ v hv
  rw [cut_all r]
  exact ht t v hv

theorem pw_map {es : List Ent} (h : (es.map (·.s)).Pairwise fun x y => pairOk x y = true) : es.Pairwise fun x y => pairOk x.s y.s = true := List.pairwise_map.1 h

/-- What is given of a region's entries amid the region. -/
structure Amid (E : Env) (slf : Out → Heap → Option AEnd) (sz : Nat) (ops : Array Oper) (run : List SI) (h0 : Heap) (tmD : Tr AV) (hD : Heap) (lst : Nat → Bool) (tm : Tr AV) (G : Heap) (hs : List (Nat × Heap)) (es : List Ent) : Prop where
  trc : Trc E slf sz ops tm G hs es
  h0n : h0.next ≤ G.next
  tmD : endTm tm es = tmD
  hD : endH G es = hD
  mem : ∀ a ∈ es, a.s ∈ run
  chain : chainOk (es.map (·.s)) = true
  cover : ∀ s ∈ run, lst s.i = true ∨ ∃ a ∈ es, a.s = s

theorem Amid.upd {slf : Out → Heap → Option AEnd} {run : List SI} {tmD tm : Tr AV} {hD G : Heap} {lst : Nat → Bool} {hs : List (Nat × Heap)} {es : List Ent} (m : Amid E slf sz ops run h0 tmD hD lst tm G hs es) (i : Nat) :
    Amid E slf sz ops run h0 tmD hD (upd lst i) tm G hs es :=
  ⟨m.trc, m.h0n, m.tmD, m.hD, m.mem, m.chain, fun s hs => (m.cover s hs).imp upd_le id⟩

theorem Amid.cut {slf : Out → Heap → Option AEnd} {run : List SI} {tmD tm : Tr AV} {hD G : Heap} {lst : Nat → Bool} {hs : List (Nat × Heap)} {A B : List Ent} {a : Ent} (m : Amid E slf sz ops run h0 tmD hD lst tm G hs (A ++ a :: B)) (hw : a.s.w = true) (hA : ∀ b ∈ A, lst b.s.i = true) :
    Amid E slf sz ops run h0 tmD hD (Eng.upd lst a.s.i) a.tm' a.h' a.hs' B := by
  obtain ⟨q1, q2, q3, q4, q5, q6, q7⟩ := chained_at m.trc.ch
  obtain ⟨c1, c2, c3⟩ := chained_next m.trc.ch
  have ha : a ∈ A ++ a :: B := List.mem_append_right _ (List.mem_cons_self ..)
  have hB : ∀ b ∈ B, b ∈ A ++ a :: B := fun b hb => List.mem_append_right _ (List.mem_cons_of_mem _ hb)
  refine ⟨⟨?_, fun b hb => m.trc.sok b (hB b hb), (List.pairwise_cons.1 (List.pairwise_append.1 m.trc.pw).2.1).2⟩, ?_, ?_, ?_, fun b hb => m.mem b (hB b hb), ?_, ?_⟩
  · have : a.g' = a.h' := by simp [Ent.g', hw]
    rw [this] at q7
    exact q7
  · have := (c2 a ha).1
    have := ent_next q5
    have := m.h0n
    omega
  · rw [← m.tmD, endTm_append]
    rfl
  · rw [← m.hD, endH_append]
    rfl
  · have := m.chain
    rw [List.map_append, List.map_cons] at this
    have h2 := chainOk_right this
    simp only [chainOk, Bool.and_eq_true] at h2
    exact h2.2
  · intro s hs
    rcases m.cover s hs with h1 | ⟨b, hb, rfl⟩
    · exact .inl (upd_le h1)
    · rcases List.mem_append.1 hb with hb | hb
      · exact .inl (upd_le (hA b hb))
      · rcases List.mem_cons.1 hb with rfl | hb
        · exact .inl (upd_same _ _)
        · exact .inr ⟨b, hb, rfl⟩

set_option maxHeartbeats 1000000 in
/-- A drawn region that comes to its end. -/
theorem drawn_done (ok : EnvOK P E) (hS : CallOK P E self) {a : AFrame} {fr : Frame} {id : Nat} {k : List AItem} {tmD : Tr AV} {hD h' : Heap} (hmode : a.mode = .run) (htd : a.todo = .code (.region id ops true) :: k) (hf : FR ρ a fr) (r : Rel E.nG ρ h w)
    (hp : planOk ops.toList (planOf E ops.toList) = true) (hrun : runD E self a.sz ops.toList (planOf E ops.toList).run a.tm h h [] = some (.done tmD hD)) (htail : runTail E tmD (planOf E ops.toList).tail [] hD = some h') :
    ∃ ρ' fr' w', FR ρ' { a with tm := tmD, todo := k } fr' ∧ Rel E.nG ρ' h' w' ∧ Ext ρ h w ρ' h' w' ∧ ∀ cs, Steps P (lone fr cs w) (lone fr' cs w') := by
  simp only [planOk, Bool.and_eq_true] at hp
  obtain ⟨he, hcov, hpairs, hchain, htl⟩ := hp
  have hsok : ∀ s, s ∈ (planOf E ops.toList).run ++ (planOf E ops.toList).tail → SOK E ops.toList s := fun s hs => plan_mem hs
  generalize (planOf E ops.toList).run = run at *
  generalize (planOf E ops.toList).tail = tail at *
  have hpw := pairsOk_pw hpairs
  have hpw3 := List.pairwise_append.1 hpw
  obtain ⟨es, hes, hch, rfl, rfl⟩ := runD_chain hrun
  obtain ⟨ts, ht1, ht2, ht3, ht4, _⟩ := runTail_ok htail
  have hm : fr.mode = .run := by have := hf.mode; rw [hmode] at this; exact this
  have htodo := hf.todo hmode
  rw [htd] at htodo
  obtain ⟨b, bs, h1, rfl, h3⟩ := htodo
  rw [Array.length_toList] at hcov
  have hidx : ts.map (·.i) = tail.map (·.i) := ht1.idx
  have htsi : ∀ x ∈ ts, ∃ s ∈ tail, x.i = s.i ∧ x.m = s.m := fun x hx => ht1.back hx
  have hrt : ∀ s ∈ run, ∀ s' ∈ tail, pairOk s s' = true := fun s hs s' hs' => hpw3.2.2 s hs s' hs'
  have htail1 : ∀ s ∈ tail, ∀ b ∈ run, has s.m b.i = true ∨ (b.w = false ∧ isR b.o.op = false) := by
    intro s hs b hb
    simp only [tailOk, List.all_eq_true, Bool.and_eq_true, Bool.or_eq_true, Bool.not_eq_true', Bool.or_eq_false_iff] at htl
    exact (htl s hs).2 b hb
  have htsn : ts.Pairwise fun x y => x.i ≠ y.i := by
    have h4 : (tail.map (·.i)).Pairwise fun x y => x ≠ y := List.pairwise_map.2 (hpw3.2.1.imp fun hp => pairOk_i hp)
    rw [← hidx] at h4
    exact List.pairwise_map.1 h4
  have haMid : Amid E self a.sz ops run h (endTm a.tm es) (endH h es) (lst (Array.replicate ops.size false)) a.tm h [] es := by
    refine ⟨⟨hch, ?_, pw_map (by rw [hes]; exact hpw3.1)⟩, Nat.le_refl _, rfl, rfl, ?_, by rw [hes]; exact hchain, ?_⟩
    · intro x hx
      exact hsok _ (List.mem_append_left _ (by rw [← hes]; exact List.mem_map_of_mem hx))
    · intro x hx
      rw [← hes]
      exact List.mem_map_of_mem hx
    · intro s hs
      rw [← hes] at hs
      obtain ⟨x, hx, hxs⟩ := List.mem_map.1 hs
      exact .inr ⟨x, hx, hxs⟩
  refine region_run (fr := fr) (P := P) ok.mixed he hm h1
    (fun listed tmps w1 => (∃ ρ1 tm1 G hs es1, Amid E self a.sz ops run h (endTm a.tm es) (endH h es) (lst listed) tm1 G hs es1 ∧ Mid E a.sz ρ h w ρ1 (lst listed) tm1 G es1 tmps w1 ∧ ∀ s ∈ tail, lst listed s.i = false) ∨
      (∃ ρ1 tm1 G hs es1, Amid E self a.sz ops run h (endTm a.tm es) (endH h es) (lst listed) tm1 G hs es1 ∧ Late E a.sz ρ h w ρ1 (lst listed) tm1 G es1 ts tmps w1 ∧ ∀ x ∈ es1, lst listed x.s.i = false → isR x.s.o.op = false))
    (fun fr' w' => ∃ ρ', FR ρ' { a with tm := endTm a.tm es, todo := k } fr' ∧ Rel E.nG ρ' h' w' ∧ Ext ρ h w ρ' h' w') ?_ ?_ ?_ |> fun ⟨fr', w', ⟨ρ', g1, g2, g3⟩, g4⟩ => ⟨ρ', fr', w', g1, g2, g3, g4⟩
  · -- one step
    intro listed tmps w1 i rest hsz hcl hrd inv
    have hl : lst listed i = false := ready_not hsz hrd
    have hlt := (ready_mem.1 hrd).1
    have hset : lst (listed.setIfInBounds i true) = upd (lst listed) i := lst_set (by omega)
    have hmk : ∀ j, has (mk0 ops.toList i) j = true → lst listed j = true := fun j hj => ready_mask hcl hrd hj
    have hcls : ∀ s, SOK E ops.toList s → lst listed s.i = true → ∀ j, has s.m j = true → lst listed j = true := fun s hs hls j hj => hcl s.i j hls (by rw [← hs.m]; exact hj)
    obtain ⟨s, hs, rfl⟩ := cover_get hcov hlt
    have hso := hsok s hs
    have hms : ∀ j, has s.m j = true → lst listed j = true := fun j hj => hmk j (by rw [← hso.m]; exact hj)
    rw [hset]
    left
    -- behind the last writer: a store
    have lateTail : ∀ {ρ1 tm1 G hs es1}, Amid E self a.sz ops run h (endTm a.tm es) (endH h es) (lst listed) tm1 G hs es1 → Late E a.sz ρ h w ρ1 (lst listed) tm1 G es1 ts tmps w1 → (∀ x ∈ es1, lst listed x.s.i = false → isR x.s.o.op = false) → s ∈ tail →
        ∃ w', Late E a.sz ρ h w ρ1 (upd (lst listed) s.i) tm1 G es1 ts tmps w' ∧
          ∀ cs, step P (lone { fr with tmps := tmps, todo := .inRegion ops (s.i :: rest) :: bs } cs w1) = .next (lone { fr with tmps := tmps, todo := .inRegion ops rest :: bs } cs w') := by
      intro ρ1 tm1 G hs es1 am lt hr hst
      obtain ⟨x, hx, k1, k2, k3, k4, k5⟩ := ht1.get hst
      obtain ⟨l1, l2, hl12⟩ := List.append_of_mem hx
      have hn := htsn
      rw [hl12] at hn
      have hn2 := List.pairwise_append.1 hn
      have hn3 := List.pairwise_cons.1 hn2.2.1
      have ht3' := ht3
      rw [hl12] at ht3'
      have ht3'' := (List.pairwise_cons.1 (List.pairwise_append.1 ht3').2.1).1
      refine lt.tail ok r am.trc hso hl12 k1 (fun y hy => hn2.2.2 y hy x (List.mem_cons_self ..)) (fun y hy => (hn3.1 y hy).symm) (by rw [k1]; exact hl) ?_ k3 k4 (by rw [am.tmD]; exact k5) (by rw [am.hD]; exact ht4 x hx) (fun b hb => hrt _ (am.mem b hb) _ hst) hms hm rest bs
      intro y hy hly
      rcases ht3'' y hy with hh | hh
      · exfalso
        obtain ⟨s', hs', j1, j2⟩ := htsi y (by rw [hl12]; exact List.mem_append_right _ (List.mem_cons_of_mem _ hy))
        rw [j1] at hly
        rw [j2] at hh
        have := hcls s' (hsok s' (List.mem_append_right _ hs')) hly _ hh
        rw [k1, hl] at this
        cases this
      · exact hh
    rcases List.mem_append.1 hs with hsr | hst
    · -- not one of the last stores
      rcases inv with ⟨ρ1, tm1, G, hs1, es1, am, md, htu⟩ | ⟨ρ1, tm1, G, hs1, es1, am, lt, hr⟩
      · rcases am.cover s hsr with h5 | ⟨x, hx, rfl⟩
        · rw [hl] at h5; cases h5
        · obtain ⟨A, B, rfl⟩ := List.append_of_mem hx
          have hclE : ∀ b ∈ A ++ x :: B, lst listed b.s.i = true → ∀ j, has b.s.m j = true → lst listed j = true := fun b hb => hcls b.s (am.trc.sok b hb)
          have htu' : ∀ s ∈ tail, upd (lst listed) x.s.i s.i = false := fun s' hs' => by
            rw [upd_other (pairOk_i (hrt x.s hsr s' hs')).symm]
            exact htu s' hs'
          cases hw : x.s.w with
          | false =>
            obtain ⟨ρ2, tmps', w', g1, g2⟩ := md.quiet ok am.trc hw hl hms hclE hm rest bs
            exact ⟨tmps', w', .inl ⟨ρ2, tm1, G, hs1, _, am.upd _, g1, htu'⟩, fun cs => .one (g2 cs)⟩
          | true =>
            have hch1 := am.chain
            rw [List.map_append, List.map_cons] at hch1
            have hA : ∀ b ∈ A, lst listed b.s.i = true := by
              have := pre_listed (lst := lst listed) hw hms hch1 (fun y hy => by
                obtain ⟨b, hb, rfl⟩ := List.mem_map.1 hy
                exact hclE b (List.mem_append_left _ hb))
              intro b hb
              exact this b.s (List.mem_map_of_mem hb)
            obtain ⟨ρ2, tmps', w', g1, g2⟩ := md.writer ok hS r am.h0n am.trc hw hl hA hms hclE hm rest bs
            exact ⟨tmps', w', .inl ⟨ρ2, _, _, _, _, am.cut hw hA, g1, htu'⟩, g2⟩
      · rcases am.cover s hsr with h5 | ⟨x, hx, rfl⟩
        · rw [hl] at h5; cases h5
        · obtain ⟨A, B, rfl⟩ := List.append_of_mem hx
          have hclE : ∀ b ∈ A ++ x :: B, lst listed b.s.i = true → ∀ j, has b.s.m j = true → lst listed j = true := fun b hb => hcls b.s (am.trc.sok b hb)
          obtain ⟨ρ2, tmps', w', g1, g2⟩ := lt.quiet ok am.h0n am.trc hl (hr x hx hl) (fun y hy => by
            obtain ⟨s', hs', j1, _⟩ := htsi y hy
            rw [j1]
            exact (pairOk_i (hrt x.s hsr s' hs')).symm) hms hclE hm rest bs
          refine ⟨tmps', w', .inr ⟨ρ2, tm1, G, hs1, _, am.upd _, g1, fun y hy hly => ?_⟩, fun cs => .one (g2 cs)⟩
          refine hr y hy ?_
          cases e : lst listed y.s.i with
          | false => rfl
          | true => rw [upd_le e] at hly; cases hly
    · rcases inv with ⟨ρ1, tm1, G, hs1, es1, am, md, htu⟩ | ⟨ρ1, tm1, G, hs1, es1, am, lt, hr⟩
      · have hmust : ∀ b ∈ es1, lst listed b.s.i = true ∨ (b.s.w = false ∧ isR b.s.o.op = false) := fun b hb => (htail1 s hst b.s (am.mem b hb)).imp (hms _) fun h => h
        have hq : ∀ b ∈ es1, b.s.w = false := fun b hb => by
          cases e : b.s.w with
          | false => rfl
          | true =>
            rcases hmust b hb with h5 | h5
            · rw [md.nw b hb e] at h5; cases h5
            · rw [e] at h5; cases h5.1
        have lt := md.late am.trc am.h0n hq (ts := ts) (fun x hx => by
          obtain ⟨s', hs', j1, _⟩ := htsi x hx
          rw [j1]
          exact htu s' hs')
        have hr : ∀ x ∈ es1, lst listed x.s.i = false → isR x.s.o.op = false := fun x hx hlx => by
          rcases hmust x hx with h5 | h5
          · rw [hlx] at h5; cases h5
          · exact h5.2
        obtain ⟨w', g1, g2⟩ := lateTail am lt hr hst
        refine ⟨tmps, w', .inr ⟨ρ1, tm1, G, hs1, es1, am.upd _, g1, fun y hy hly => hr y hy ?_⟩, fun cs => .one (g2 cs)⟩
        cases e : lst listed y.s.i with
        | false => rfl
        | true => rw [upd_le e] at hly; cases hly
      · obtain ⟨w', g1, g2⟩ := lateTail am lt hr hst
        refine ⟨tmps, w', .inr ⟨ρ1, tm1, G, hs1, es1, am.upd _, g1, fun y hy hly => hr y hy ?_⟩, fun cs => .one (g2 cs)⟩
        cases e : lst listed y.s.i with
        | false => rfl
        | true => rw [upd_le e] at hly; cases hly
  · -- the end
    intro listed tmps w1 hsz hall inv
    have hall' : ∀ s, SOK E ops.toList s → lst listed s.i = true := fun s hs => hall s.i hs.lt
    have fin : ∀ {ρ1 tm1 G hs es1}, Amid E self a.sz ops run h (endTm a.tm es) (endH h es) (lst listed) tm1 G hs es1 → Late E a.sz ρ h w ρ1 (lst listed) tm1 G es1 ts tmps w1 →
        ∃ ρ', FR ρ' { a with tm := endTm a.tm es, todo := k } { fr with tmps := tmps, todo := bs } ∧ Rel E.nG ρ' h' w1 ∧ Ext ρ h w ρ' h' w1 := by
      intro ρ1 tm1 G hs es1 am lt
      have hkt : KT (lst listed) ts (KK (lst listed) es1 G) = h' := by
        rw [kk_all am.trc.ch lt.nw fun b hb => hall' _ (am.trc.sok b hb), am.hD]
        exact ht2 _ fun x hx => by
          obtain ⟨s', hs', j1, _⟩ := htsi x hx
          rw [j1]
          exact hall' s' (hsok s' (List.mem_append_right _ hs'))
      have hrel := lt.rel
      have hext := lt.ext
      rw [hkt] at hrel hext
      have hle := hext.le
      refine ⟨ρ1, ⟨hf.fn, ?_, lt.size, fun _ => h3.mono hle, hf.ds.mono hle, hf.mode.mono hle, hf.kind, hf.rnd.mono hle⟩, hrel, hext⟩
      intro u v hv
      rw [← am.tmD] at hv
      exact lt.get am.trc (fun b hb _ => hall' _ (am.trc.sok b hb)) hv
    rcases inv with ⟨ρ1, tm1, G, hs1, es1, am, md, htu⟩ | ⟨ρ1, tm1, G, hs1, es1, am, lt, hr⟩
    · refine fin am (md.late am.trc am.h0n (fun b hb => ?_) fun x hx => ?_)
      · cases e : b.s.w with
        | false => rfl
        | true =>
          have := md.nw b hb e
          rw [hall' _ (am.trc.sok b hb)] at this
          cases this
      · obtain ⟨s', hs', j1, _⟩ := htsi x hx
        rw [j1]
        exact htu s' hs'
    · exact fin am lt
  · -- the beginning
    intro w' hw' hkp
    refine .inl ⟨ρ, _, _, _, _, haMid, mid_start r hw' hkp hf.tm hf.sz, fun s hs => ?_⟩
    simp only [lst, Array.getD_eq_getD_getElem?, Array.getElem?_replicate]
    split <;> rfl
end
end Go.Eng

/- The engine: drawn regions that panic; drawn regions, whole. -/
namespace Go.Eng
section
variable {P : Program} {E : Env} {self : Out → Heap → Option AEnd} {sz : Nat} {ops : Array Oper} {ρ ρ0 ρ' : Ren} {h h0 k : Heap} {w w' w0 : World}

theorem forget_get : ∀ {l : List Oper} {tm tm' : Tr AV}, forget sz tm l = some tm' → ∀ {u : Tmp} {v : AV}, tm'.get u = some v → v = .any ∨ ((∀ o ∈ l, o.dst ≠ some u) ∧ tm.get u = some v)
  | [], tm, tm', h, u, v, hv => by
    simp only [forget, Option.some.injEq] at h
    subst h
    exact .inr ⟨by simp, hv⟩
  | o :: l, tm, tm', h, u, v, hv => by
    simp only [forget] at h
    split at h
    · rename_i t1 hp
      rcases forget_get h hv with h1 | ⟨h1, h2⟩
      · exact .inl h1
      · rw [putT_get hp] at h2
        split at h2
        · cases h2; exact .inl rfl
        · rename_i hne
          refine .inr ⟨fun o' ho' => ?_, h2⟩
          rcases List.mem_cons.1 ho' with rfl | ho'
          · exact hne
          · exact h1 o' ho'
    · cases h

theorem ent_dst {es : List Ent} {slf : Out → Heap → Option AEnd} {tm : Tr AV} {G : Heap} {hs : List (Nat × Heap)} (t : Trc E slf sz ops tm G hs es) {u : Tmp} (hu : ∀ o ∈ ops.toList, o.dst ≠ some u) : ∀ a ∈ es, a.s.o.dst ≠ some u := by
  intro a ha
  exact hu _ (List.mem_of_getElem? (t.sok a ha).o)

/-- What is given amid a region that panics. -/
structure Fails (E : Env) (slf : Out → Heap → Option AEnd) (sz : Nat) (ops : Array Oper) (run post : List SI) (s0 : SI) (h0 : Heap) (tm0 tmA : Tr AV) (hA : Heap) (lst : Nat → Bool) (tm : Tr AV) (G : Heap) (hs : List (Nat × Heap)) (eA qs : List Ent) : Prop where
  trc : Trc E slf sz ops tm G hs (eA ++ qs)
  h0n : h0.next ≤ G.next
  eTm : endTm tm eA = tmA
  eH : endH G eA = hA
  chain : chainOk (eA.map (·.s) ++ s0 :: post) = true
  quiet : ∀ q ∈ qs, q.s.w = false ∧ pairOk s0 q.s = true ∧ has q.s.m s0.i = false
  pA : ∀ b ∈ eA, pairOk b.s s0 = true
  cover : ∀ s ∈ run, s = s0 ∨ has s.m s0.i = true ∨ lst s.i = true ∨ ∃ a ∈ eA ++ qs, a.s = s
  un : lst s0.i = false
  base : ∀ u, (∀ o ∈ ops.toList, o.dst ≠ some u) → tm.get u = tm0.get u

set_option maxHeartbeats 1000000 in
theorem drawn_pan (ok : EnvOK P E) (hS : CallOK P E self) {a : AFrame} {fr : Frame} {id : Nat} {k : List AItem} {i0 : Nat} {c : List (AV × Bool)} {tm2 : Tr AV} {h' : Heap} (hmode : a.mode = .run) (htd : a.todo = .code (.region id ops true) :: k) (hf : FR ρ a fr) (r : Rel E.nG ρ h w)
    (hp : planOk ops.toList (planOf E ops.toList) = true) (hrun : runD E self a.sz ops.toList (planOf E ops.toList).run a.tm h h [] = some (.pan i0 c h')) (htail : (planOf E ops.toList).tail.all (fun b => has b.m i0) = true)
    (hfor : forget a.sz a.tm ops.toList = some tm2) :
    ∃ ρ' fr' w', FR ρ' (raiseA { a with tm := tm2 } c) fr' ∧ Rel E.nG ρ' h' w' ∧ Ext ρ h w ρ' h' w' ∧ ∀ cs, Steps P (lone fr cs w) (lone fr' cs w') := by
  simp only [planOk, Bool.and_eq_true] at hp
  obtain ⟨he, hcov, hpairs, hchain, htl⟩ := hp
  have hsok : ∀ s, s ∈ (planOf E ops.toList).run ++ (planOf E ops.toList).tail → SOK E ops.toList s := fun s hs => plan_mem hs
  generalize (planOf E ops.toList).run = run at *
  generalize (planOf E ops.toList).tail = tail at *
  have hpw3 := List.pairwise_append.1 (pairsOk_pw hpairs)
  obtain ⟨pre, s0, post, es, qs, hrunE, hes, hch, hqs, hqw, rfl, hw0, hst⟩ := runD_chain hrun
  have hm : fr.mode = .run := by have := hf.mode; rw [hmode] at this; exact this
  have htodo := hf.todo hmode
  rw [htd] at htodo
  obtain ⟨b, bs, h1, rfl, h3⟩ := htodo
  rw [Array.length_toList] at hcov
  have hs0 : s0 ∈ run := by rw [hrunE]; exact List.mem_append_right _ (List.mem_cons_self ..)
  have hso0 := hsok s0 (List.mem_append_left _ hs0)
  have hpr := hpw3.1
  rw [hrunE] at hpr
  have hpr2 := List.pairwise_append.1 hpr
  have hpr3 := List.pairwise_cons.1 hpr2.2.1
  have hqmem : ∀ q ∈ qs, q.s ∈ post ∧ has q.s.m s0.i = false := by
    intro q hq
    have : q.s ∈ qs.map (·.s) := List.mem_map_of_mem hq
    rw [hqs] at this
    obtain ⟨h4, h5⟩ := List.mem_filter.1 this
    exact ⟨h4, by simpa using h5⟩
  have hst0 : Fails E self a.sz ops run post s0 h a.tm (endTm a.tm es) (endH h es) (lst (Array.replicate ops.size false)) a.tm h [] es qs := by
    refine ⟨⟨hch, ?_, ?_⟩, Nat.le_refl _, rfl, rfl, by rw [hes, ← hrunE]; exact hchain, ?_, ?_, ?_, ?_, fun _ _ => rfl⟩
    · intro x hx
      refine hsok _ (List.mem_append_left _ ?_)
      rw [hrunE]
      rcases List.mem_append.1 hx with hx | hx
      · exact List.mem_append_left _ (by rw [← hes]; exact List.mem_map_of_mem hx)
      · exact List.mem_append_right _ (List.mem_cons_of_mem _ (hqmem x hx).1)
    · refine pw_map ?_
      rw [List.map_append, hes, hqs]
      refine List.pairwise_append.2 ⟨hpr2.1, hpr3.2.sublist List.filter_sublist, fun x hx y hy => hpr2.2.2 x hx y (List.mem_cons_of_mem _ (List.mem_filter.1 hy).1)⟩
    · intro q hq
      obtain ⟨h4, h5⟩ := hqmem q hq
      refine ⟨hqw q.s ?_, hpr3.1 _ h4, h5⟩
      rw [← hqs]
      exact List.mem_map_of_mem hq
    · intro x hx
      exact hpr2.2.2 x.s (by rw [← hes]; exact List.mem_map_of_mem hx) s0 (List.mem_cons_self ..)
    · intro s hs
      rw [hrunE] at hs
      rcases List.mem_append.1 hs with hs | hs
      · rw [← hes] at hs
        obtain ⟨x, hx, hxs⟩ := List.mem_map.1 hs
        exact .inr (.inr (.inr ⟨x, List.mem_append_left _ hx, hxs⟩))
      · rcases List.mem_cons.1 hs with rfl | hs
        · exact .inl rfl
        · cases e : has s.m s0.i with
          | true => exact .inr (.inl rfl)
          | false =>
            have : s ∈ qs.map (·.s) := by
              rw [hqs]
              exact List.mem_filter.2 ⟨hs, by rw [e]; rfl⟩
            obtain ⟨x, hx, hxs⟩ := List.mem_map.1 this
            exact .inr (.inr (.inr ⟨x, List.mem_append_right _ hx, hxs⟩))
    · simp only [lst, Array.getD_eq_getD_getElem?, Array.getElem?_replicate]
      split <;> rfl
  refine region_run (fr := fr) (P := P) ok.mixed he hm h1
    (fun listed tmps w1 => ∃ ρ1 tm1 G hs eA qs, Fails E self a.sz ops run post s0 h a.tm (endTm a.tm es) (endH h es) (lst listed) tm1 G hs eA qs ∧ Mid E a.sz ρ h w ρ1 (lst listed) tm1 G (eA ++ qs) tmps w1)
    (fun fr' w' => ∃ ρ', FR ρ' (raiseA { a with tm := tm2 } c) fr' ∧ Rel E.nG ρ' h' w' ∧ Ext ρ h w ρ' h' w') ?_ ?_ ?_ |> fun ⟨fr', w', ⟨ρ', g1, g2, g3⟩, g4⟩ => ⟨ρ', fr', w', g1, g2, g3, g4⟩
  · -- one step
    intro listed tmps w1 i rest hsz hcl hrd inv
    have hl : lst listed i = false := ready_not hsz hrd
    have hlt := (ready_mem.1 hrd).1
    have hset : lst (listed.setIfInBounds i true) = upd (lst listed) i := lst_set (by omega)
    have hmk : ∀ j, has (mk0 ops.toList i) j = true → lst listed j = true := fun j hj => ready_mask hcl hrd hj
    have hcls : ∀ s, SOK E ops.toList s → lst listed s.i = true → ∀ j, has s.m j = true → lst listed j = true := fun s hs hls j hj => hcl s.i j hls (by rw [← hs.m]; exact hj)
    obtain ⟨s, hs, rfl⟩ := cover_get hcov hlt
    have hso := hsok s hs
    have hms : ∀ j, has s.m j = true → lst listed j = true := fun j hj => hmk j (by rw [← hso.m]; exact hj)
    rw [hset]
    obtain ⟨ρ1, tm1, G, hs1, eA, qs', fl, md⟩ := inv
    have hno : has s.m s0.i = true → False := fun hh => by
      have := hms _ hh
      rw [fl.un] at this
      cases this
    rcases List.mem_append.1 hs with hsr | hst'
    · rcases fl.cover s hsr with rfl | hh | hh | ⟨x, hx, rfl⟩
      · -- it panics
        right
        have hA : ∀ b ∈ eA, lst listed b.s.i = true := by
          have := pre_listed (lst := lst listed) hw0 hms fl.chain (fun y hy => by
            obtain ⟨b, hb, rfl⟩ := List.mem_map.1 hy
            exact hcls b.s (fl.trc.sok b (List.mem_append_left _ hb)))
          intro b hb
          exact this b.s (List.mem_map_of_mem hb)
        obtain ⟨_, hrel, hext⟩ := md.taken fl.trc fl.h0n hA
        have hlk := md.looks fl.trc (s := s) fl.pA (fun b hb _ d hd hlk => by
          obtain ⟨_, h5, h6⟩ := fl.quiet b hb
          rw [pairOk_war h5 hd hlk] at h6
          cases h6) hms
        have hst1 := hst
        rw [← fl.eTm, ← fl.eH] at hst1
        obtain ⟨ρ2, ch, w', g1, g2, g3, g4⟩ := writer_step (rest := rest) (k := bs) ok hS hso0 hst1 hrel (fr := { fr with tmps := tmps, todo := .inRegion ops (s.i :: rest) :: bs }) hm rfl hlk
        refine ⟨_, w', ⟨ρ2, ?_, g2, Ext.trans r hrel hext g3⟩, g4⟩
        have hle : ρ.le ρ2 := Ren.le_trans hext.le g3.le
        have hra : raiseA { a with tm := tm2 } c = { a with tm := tm2, mode := .pan c } := by
          unfold raiseA
          simp only [hmode]
        have hrf : ({ fr with tmps := tmps, todo := .inRegion ops (s.i :: rest) :: bs } : Frame).raise ch = { fr with tmps := tmps, todo := .inRegion ops (s.i :: rest) :: bs, mode := .panicking ch } := by
          unfold Frame.raise
          simp only [hm]
        rw [hra, hrf]
        refine ⟨hf.fn, ?_, md.size, fun hh => (by cases hh), hf.ds.mono hle, ⟨ch, rfl, g1⟩, hf.kind, hf.rnd.mono hle⟩
        intro u v hv
        rcases forget_get hfor hv with rfl | ⟨k1, k2⟩
        · simp [R]
        · rw [← fl.base u k1] at k2
          have := md.tmB u (fun b hb _ => ent_dst fl.trc k1 b hb) v k2
          refine R_mono g3.le _ _ (R_mono (Ren.cut_mono ?_) _ _ this)
          exact (chained_next (chained_append.1 fl.trc.ch).1).1
      · exact (hno hh).elim
      · rw [hl] at hh; cases hh
      · left
        have hclE : ∀ b ∈ eA ++ qs', lst listed b.s.i = true → ∀ j, has b.s.m j = true → lst listed j = true := fun b hb => hcls b.s (fl.trc.sok b hb)
        have hne : s0.i ≠ x.s.i := by
          rcases List.mem_append.1 hx with hx | hx
          · exact (pairOk_i (fl.pA x hx)).symm
          · exact pairOk_i (fl.quiet x hx).2.1
        have hs0' : upd (lst listed) x.s.i s0.i = false := by rw [upd_other hne]; exact fl.un
        cases hw : x.s.w with
        | false =>
          have hup : Fails E self a.sz ops run post s0 h a.tm (endTm a.tm es) (endH h es) (upd (lst listed) x.s.i) tm1 G hs1 eA qs' :=
            ⟨fl.trc, fl.h0n, fl.eTm, fl.eH, fl.chain, fl.quiet, fl.pA, fun s hs => (fl.cover s hs).imp _root_.id fun h => h.imp _root_.id fun h => h.imp upd_le _root_.id, hs0', fl.base⟩
          obtain ⟨A, B, hAB⟩ := List.append_of_mem hx
          have trc := fl.trc
          rw [hAB] at md trc hclE
          obtain ⟨ρ2, tmps', w', g1, g2⟩ := md.quiet ok trc hw hl hms hclE hm rest bs
          rw [← hAB] at g1
          exact ⟨tmps', w', ⟨ρ2, tm1, G, hs1, _, _, hup, g1⟩, fun cs => .one (g2 cs)⟩
        | true =>
          have hxA : x ∈ eA := by
            rcases List.mem_append.1 hx with hx | hx
            · exact hx
            · rw [(fl.quiet x hx).1] at hw; cases hw
          obtain ⟨A, B, rfl⟩ := List.append_of_mem hxA
          have hch1 := fl.chain
          rw [List.map_append, List.map_cons, List.append_assoc, List.cons_append] at hch1
          have hA : ∀ b ∈ A, lst listed b.s.i = true := by
            have := pre_listed (lst := lst listed) hw hms hch1 (fun y hy => by
              obtain ⟨b, hb, rfl⟩ := List.mem_map.1 hy
              exact hclE b (List.mem_append_left _ (List.mem_append_left _ hb)))
            intro b hb
            exact this b.s (List.mem_map_of_mem hb)
          have hass : (A ++ x :: B) ++ qs' = A ++ x :: (B ++ qs') := by simp
          have trc := fl.trc
          have tmA := fl.eTm
          have hAe := fl.eH
          rw [hass] at md trc hclE
          obtain ⟨ρ2, tmps', w', g1, g2⟩ := md.writer ok hS r fl.h0n trc hw hl hA hms hclE hm rest bs
          obtain ⟨q1, q2, q3, q4, q5, q6, q7⟩ := chained_at trc.ch
          obtain ⟨c1, c2, c3⟩ := chained_next trc.ch
          have hB : ∀ b ∈ B ++ qs', b ∈ A ++ x :: (B ++ qs') := fun b hb => List.mem_append_right _ (List.mem_cons_of_mem _ hb)
          refine ⟨tmps', w', ⟨ρ2, _, _, x.hs', _, _, ⟨⟨?_, fun b hb => trc.sok b (hB b hb), (List.pairwise_cons.1 (List.pairwise_append.1 trc.pw).2.1).2⟩, ?_, ?_, ?_, ?_, fl.quiet, fun b hb => fl.pA b (List.mem_append_right _ (List.mem_cons_of_mem _ hb)), ?_, hs0', ?_⟩, g1⟩, g2⟩
          · have : x.g' = x.h' := by simp [Ent.g', hw]
            rw [this] at q7
            exact q7
          · have := (c2 x (List.mem_append_right _ (List.mem_cons_self ..))).1
            have := ent_next q5
            have := fl.h0n
            omega
          · rw [← tmA, endTm_append]
            rfl
          · rw [← hAe, endH_append]
            rfl
          · have h2 := chainOk_right hch1
            simp only [chainOk, Bool.and_eq_true] at h2
            exact h2.2
          · intro s' hs'
            rcases fl.cover s' hs' with h5 | h5 | h5 | ⟨b, hb, rfl⟩
            · exact .inl h5
            · exact .inr (.inl h5)
            · exact .inr (.inr (.inl (upd_le h5)))
            · rw [hass] at hb
              rcases List.mem_append.1 hb with hb | hb
              · exact .inr (.inr (.inl (upd_le (hA b hb))))
              · rcases List.mem_cons.1 hb with rfl | hb
                · exact .inr (.inr (.inl (upd_same _ _)))
                · exact .inr (.inr (.inr ⟨b, hb, rfl⟩))
          · intro u hu
            obtain ⟨v, hpv⟩ := ent_put q5
            rw [putT_get hpv, if_neg (ent_dst trc hu x (List.mem_append_right _ (List.mem_cons_self ..))), q1, endTm_other q6 fun b hb => ent_dst trc hu b (List.mem_append_left _ hb)]
            exact fl.base u hu
    · rw [List.all_eq_true] at htail
      exact (hno (htail s hst')).elim
  · -- it never comes to its end
    intro listed tmps w1 hsz hall inv
    obtain ⟨ρ1, tm1, G, hs1, eA, qs', fl, md⟩ := inv
    have := hall s0.i hso0.lt
    have h5 := fl.un
    simp only [lst] at h5
    rw [this] at h5
    cases h5
  · intro w' hw' hkp
    exact ⟨ρ, _, _, _, _, _, hst0, mid_start r hw' hkp hf.tm hf.sz⟩

/-- Drawn regions. -/
theorem drawn_hyp (ok : EnvOK P E) (hS : CallOK P E self) : DrawnHyp P E self := by
  intro a fr ρ h w id ops k tm' h' oc hmode htodo hf r hv
  unfold drawn at hv
  split at hv
  · rename_i hp
    split at hv
    · rename_i tmD hD hrun
      split at hv
      · rename_i h2 htl
        cases hv
        exact drawn_done ok hS hmode htodo hf r hp hrun htl
      · cases hv
    · rename_i i c h2 hrun
      split at hv
      · rename_i htl
        split at hv
        · rename_i tm2 hfor
          cases hv
          exact drawn_pan ok hS hmode htodo hf r hp hrun htl hfor
        · cases hv
      · cases hv
    · cases hv
  · cases hv
end
end Go.Eng

/- The engine: what a row of regions without calls leaves as it was. -/
namespace Go.Eng
section
variable {E : Env} {sz : Nat} {tm tm' : Tr AV} {h h' k : Heap} {all : List Oper}

/-- What is not in the log is as it was. -/
structure Keep (h h' : Heap) : Prop where
  next : h.next ≤ h'.next
  log : ∀ n, n ∈ h.log → n ∈ h'.log
  obj : ∀ n, n < h.next → n ∉ h'.log → h'.obj n = h.obj n

theorem Keep.refl (h : Heap) : Keep h h := ⟨Nat.le_refl _, fun _ h => h, fun _ _ _ => rfl⟩
theorem Keep.trans (a : Keep h h') (b : Keep h' k) : Keep h k :=
  ⟨Nat.le_trans a.next b.next, fun n hn => b.log n (a.log n hn), fun n hn hno => by rw [b.obj n (Nat.lt_of_lt_of_le hn a.next) hno, a.obj n hn fun h => hno (b.log n h)]⟩
theorem Keep.put (h : Heap) (n : Nat) (o : AObj) : Keep h (h.put n o) := by
  refine ⟨Nat.le_refl _, fun m hm => List.mem_cons_of_mem _ hm, fun m _ hno => ?_⟩
  rw [obj_put, if_neg]
  intro e
  exact hno (by rw [e]; exact List.mem_cons_self ..)
theorem Keep.new (h : Heap) (o : AObj) : Keep h (h.new o) := by
  refine ⟨Nat.le_succ _, fun m hm => hm, fun m hm _ => ?_⟩
  rw [obj_new, if_neg (by omega)]
theorem Keep.write {n off : Nat} {vs : List AV} (hw : h.write n off vs = some h') : Keep h h' := by
  unfold Heap.write at hw
  split at hw
  · cases hw; exact .refl _
  · split at hw
    · split at hw
      · cases hw; exact .put _ _ _
      · cases hw
    · cases hw

theorem appendA_keep {e : TypeId} {s v : AV} {more : List AV} {m : Nat} (hv : appendA E h e s more m = some (v, h')) : Keep h h' := by
  unfold appendA at hv
  repeat' (split at hv)
  all_goals (first
    | (cases hv; done)
    | (cases hv; exact .refl _)
    | (cases hv; exact .new _ _)
    | (cases hv; exact .trans (.put _ _ _) (.new _ _))
    | (cases hv; exact .write (by assumption)))

theorem builtinW_keep {b : Builtin} {ts : Array TypeId} {args : List AV} {v : AV} (hv : builtinW E h b ts args = some (v, h')) : Keep h h' := by
  unfold builtinW at hv
  repeat' (split at hv)
  all_goals (first
    | (cases hv; done)
    | exact appendA_keep hv
    | (cases hv; exact .refl _)
    | (cases hv; exact .put _ _ _)
    | (cases hv; exact .write (by assumption)))

theorem aopW_keep {o : Op} {v : AV} (hv : aopW E tm h o = some (v, h')) : Keep h h' := by
  rw [aopW_def] at hv
  unfold aopW0 at hv
  repeat' (split at hv)
  all_goals (first
    | (cases hv; done)
    | exact builtinW_keep hv
    | (cases hv; exact .refl _)
    | (cases hv; exact .put _ _ _)
    | (cases hv; exact .new _ _)
    | (cases hv; exact .write (by assumption)))

theorem aop_keep {o : Op} {v : AV} (hv : aop E tm h o = some (.val v h')) : Keep h h' := by
  unfold aop at hv
  split at hv
  · split at hv
    · cases hv; exact .refl _
    · cases hv
  · split at hv
    · cases hv; exact .new _ _
    · cases hv
  · split at hv
    · rename_i hw; cases hv; exact aopW_keep hw
    · cases hv
  · split at hv
    · cases hv; exact .refl _
    · cases hv
    · cases hv

theorem runOps_keep : ∀ {l : List Oper} {tm : Tr AV} {h : Heap}, runOps E sz all l tm h = some (.done tm' h') → Keep h h' ∧ ∀ u, (∀ o ∈ l, o.dst ≠ some u) → tm'.get u = tm.get u
  | [], tm, h, hv => by
    simp only [runOps, Option.some.injEq, ROut.done.injEq] at hv
    obtain ⟨rfl, rfl⟩ := hv
    exact ⟨.refl _, fun _ _ => rfl⟩
  | o :: l, tm, h, hv => by
    simp only [runOps] at hv
    split at hv
    · cases hv
    · split at hv
      · rename_i t1 hp
        obtain ⟨k1, k2⟩ := runOps_keep hv
        refine ⟨k1, fun u hu => ?_⟩
        rw [k2 u fun o' ho' => hu o' (List.mem_cons_of_mem _ ho'), putT_get hp, if_neg (hu o (List.mem_cons_self ..))]
      · cases hv
    · split at hv
      · cases hv
      · rename_i v h1 ha
        split at hv
        · rename_i t1 hp
          obtain ⟨k1, k2⟩ := runOps_keep hv
          refine ⟨(aop_keep ha).trans k1, fun u hu => ?_⟩
          rw [k2 u fun o' ho' => hu o' (List.mem_cons_of_mem _ ho'), putT_get hp, if_neg (hu o (List.mem_cons_self ..))]
        · cases hv
      · cases hv

def noSelf : Out → Heap → Option AEnd := fun _ _ => none

theorem ent_keep {a : Ent} (he : EntOK E noSelf sz all a) : Keep a.h a.h' := by
  unfold EntOK at he
  split at he
  · unfold stepQ at he
    repeat' (split at he)
    all_goals (first
      | (cases he; done)
      | (simp only [Option.some.injEq, Prod.mk.injEq] at he; rw [← he.2]; exact .refl _)
      | (simp only [Option.some.injEq, Prod.mk.injEq] at he; rw [← he.2]; exact .new _ _))
  · replace he := he.1
    unfold stepW at he
    split at he
    · cases he
    · split at he
      · simp only [Option.some.injEq, WOut.next.injEq] at he; rw [← he.2]; exact .refl _
      · cases he
    · split at he
      · split at he
        · rename_i hw
          split at he
          · simp only [Option.some.injEq, WOut.next.injEq] at he; rw [← he.2]; exact aopW_keep hw
          · cases he
        · cases he
      · split at he
        · split at he
          · simp only [Option.some.injEq, WOut.next.injEq] at he; rw [← he.2]; exact .refl _
          · cases he
        · cases he
        · cases he
      · cases he

theorem chained_keep : ∀ {es : List Ent} {tm : Tr AV} {g h : Heap} {hs : List (Nat × Heap)}, Chained E noSelf sz all tm g h hs es → Keep h (endH h es)
  | [], _, _, _, _, _ => .refl _
  | a :: es, tm, g, h, hs, hc => by
    obtain ⟨_, _, rfl, _, h5, h6⟩ := hc
    exact (ent_keep h5).trans (chained_keep h6)

theorem runTail_keep : ∀ {l : List SI} {done : List Done} {h h' : Heap}, runTail E tm l done h = some h' → Keep h h'
  | [], done, h, h', hv => by simp only [runTail, Option.some.injEq] at hv; subst hv; exact .refl _
  | s :: l, done, h, h', hv => by
    simp only [runTail] at hv
    split at hv
    · rename_i hw
      split at hv
      · exact (aopW_keep hw).trans (runTail_keep hv)
      · cases hv
    · cases hv

theorem drawn_keep (hv : drawn E noSelf sz all tm h = some (tm', h', none)) : Keep h h' ∧ ∀ u, (∀ o ∈ all, o.dst ≠ some u) → tm'.get u = tm.get u := by
  unfold drawn at hv
  split at hv
  · split at hv
    · rename_i tmD hD hrun
      split at hv
      · rename_i h2 htl
        cases hv
        obtain ⟨es, hes, hch, rfl, rfl⟩ := runD_chain hrun
        refine ⟨(chained_keep hch).trans (runTail_keep htl), fun u hu => endTm_other hch fun a ha => ?_⟩
        have hmem : a.s ∈ (planOf E all).run ++ (planOf E all).tail := List.mem_append_left _ (by rw [← hes]; exact List.mem_map_of_mem ha)
        exact hu _ (List.mem_of_getElem? (plan_mem hmem).o)
      · cases hv
    · split at hv
      · split at hv
        · cases hv
        · cases hv
      · cases hv
    · cases hv
  · cases hv

theorem straight_keep : ∀ {c : Code} {tm tm' : Tr AV} {h h' : Heap}, straight E sz c tm h = some (tm', h') → Keep h h' ∧ ∀ u, u ∉ dsts c → tm'.get u = tm.get u := by
  intro c
  induction c with
  | skip =>
    intro tm tm' h h' hv
    simp only [straight, Option.some.injEq, Prod.mk.injEq] at hv
    obtain ⟨rfl, rfl⟩ := hv
    exact ⟨.refl _, fun _ _ => rfl⟩
  | seq a b iha ihb =>
    intro tm tm' h h' hv
    simp only [straight] at hv
    split at hv
    · rename_i t1 h1 h2
      obtain ⟨k1, k2⟩ := iha h2
      obtain ⟨k3, k4⟩ := ihb hv
      refine ⟨k1.trans k3, fun u hu => ?_⟩
      simp only [dsts, List.mem_append, not_or] at hu
      rw [k4 u hu.2, k2 u hu.1]
    · cases hv
  | region id ops d =>
    intro tm tm' h h' hv
    have hd : ∀ u, u ∉ dsts (.region id ops d) → ∀ o ∈ ops.toList, o.dst ≠ some u := by
      intro u hu o ho e
      exact hu (List.mem_filterMap.2 ⟨o, ho, e⟩)
    simp only [straight] at hv
    split at hv
    · split at hv
      · rename_i hr
        simp only [Option.some.injEq, Prod.mk.injEq] at hv
        obtain ⟨rfl, rfl⟩ := hv
        obtain ⟨k1, k2⟩ := runOps_keep hr
        exact ⟨k1, fun u hu => k2 u (hd u hu)⟩
      · cases hv
    · split at hv
      · rename_i hr
        simp only [Option.some.injEq, Prod.mk.injEq] at hv
        obtain ⟨rfl, rfl⟩ := hv
        obtain ⟨k1, k2⟩ := drawn_keep hr
        exact ⟨k1, fun u hu => k2 u (hd u hu)⟩
      · cases hv
  | _ => intro tm tm' h h' hv; simp [straight] at hv
end
end Go.Eng

/- The engine: the regions by which a mode is drawn. -/
namespace Go.Eng
section
variable {P : Program} {E : Env} {ρ ρ' : Ren} {h h' : Heap} {w w' : World} {tm : Tr AV}

/-- A row of regions without calls. -/
theorem straight_ok (ok : EnvOK P E) {a : AFrame} {k : List AItem} (hmode : a.mode = .run) : ∀ {c : Code} {tm tm' : Tr AV} {h h' : Heap} {ρ : Ren} {w : World} {fr : Frame},
    FR ρ { a with tm := tm, todo := .code c :: k } fr → Rel E.nG ρ h w → straight E a.sz c tm h = some (tm', h') →
    ∃ ρ' fr' w', FR ρ' { a with tm := tm', todo := k } fr' ∧ Rel E.nG ρ' h' w' ∧ Ext ρ h w ρ' h' w' ∧ ∀ cs, Steps P (lone fr cs w) (lone fr' cs w') := by
  intro c
  induction c generalizing k with
  | skip =>
    intro tm tm' h h' ρ w fr hf r hv
    simp only [straight, Option.some.injEq, Prod.mk.injEq] at hv
    obtain ⟨rfl, rfl⟩ := hv
    obtain ⟨b, bs, h1, rfl, h3⟩ := hf.todo hmode
    have hm : fr.mode = .run := by have := hf.mode; rw [show ({ a with tm := tm, todo := .code .skip :: k } : AFrame).mode = a.mode from rfl, hmode] at this; exact this
    exact ⟨ρ, { fr with todo := bs }, w, ⟨hf.fn, hf.tm, hf.sz, fun _ => h3, hf.ds, hf.mode, hf.kind, hf.rnd⟩, r, Ext.refl _ _ _, fun cs => .one (step_lone_go (by simp [stepG, hm, stepG.exec, h1]))⟩
  | seq x y ihx ihy =>
    intro tm tm' h h' ρ w fr hf r hv
    simp only [straight] at hv
    split at hv
    · rename_i t1 g1 hx
      obtain ⟨b, bs, h1, rfl, h3⟩ := hf.todo hmode
      have hm : fr.mode = .run := by have := hf.mode; rw [show ({ a with tm := tm, todo := .code (.seq x y) :: k } : AFrame).mode = a.mode from rfl, hmode] at this; exact this
      have hf1 : FR ρ { a with tm := tm, todo := .code x :: .code y :: k } { fr with todo := .code x :: .code y :: bs } :=
        ⟨hf.fn, hf.tm, hf.sz, fun _ => IRL_cons rfl (IRL_cons rfl h3), hf.ds, hf.mode, hf.kind, hf.rnd⟩
      obtain ⟨ρ1, fr1, w1, q1, q2, q3, q4⟩ := ihx hf1 r hx
      obtain ⟨ρ2, fr2, w2, q5, q6, q7, q8⟩ := ihy q1 q2 hv
      exact ⟨ρ2, fr2, w2, q5, q6, Ext.trans r q2 q3 q7, fun cs => .head (step_lone_go (by simp [stepG, hm, stepG.exec, h1])) ((q4 cs).trans (q8 cs))⟩
    · cases hv
  | region id ops d =>
    intro tm tm' h h' ρ w fr hf r hv
    obtain ⟨b, bs, h1, rfl, h3⟩ := hf.todo hmode
    have hm : fr.mode = .run := by have := hf.mode; rw [show ({ a with tm := tm, todo := .code (.region id ops d) :: k } : AFrame).mode = a.mode from rfl, hmode] at this; exact this
    simp only [straight] at hv
    split at hv
    · split at hv
      · rename_i hr
        simp only [Option.some.injEq, Prod.mk.injEq] at hv
        obtain ⟨rfl, rfl⟩ := hv
        have hf2 : FR ρ { a with tm := tm, todo := .ops ops.toList ops.toList :: k } { fr with todo := .inRegion ops (List.range ops.size) :: bs } :=
          ⟨hf.fn, hf.tm, hf.sz, fun _ => ⟨_, _, rfl, ⟨ops, _, rfl, rfl, range_some ops⟩, h3⟩, hf.ds, hf.mode, hf.kind, hf.rnd⟩
        obtain ⟨ρ1, fr1, w1, q1, q2, q3, q4⟩ := runOps_ok ok (a := a) (all := ops.toList) (k := k) hmode hf2 r hr
        exact ⟨ρ1, fr1, w1, q1, q2, q3, fun cs => .head (step_lone_go (by simp [stepG, hm, stepG.exec, h1])) (q4 cs)⟩
      · cases hv
    · split at hv
      · rename_i hr
        simp only [Option.some.injEq, Prod.mk.injEq] at hv
        obtain ⟨rfl, rfl⟩ := hv
        exact drawn_hyp ok noTbl_ok { a with tm := tm, todo := .code (.region id ops true) :: k } fr ρ h w id ops k _ _ none hmode rfl hf r hr
      · cases hv
  | _ => intro tm tm' h h' ρ w fr hf r hv; simp [straight] at hv

theorem joinT_get {a b : Tr AV} : ∀ {l : List Tmp} {t : Tr AV} {u : Tmp} {v : AV}, (joinT a b l t).get u = some v → (v = .any ∨ (a.get u = some v ∧ b.get u = some v)) ∨ (u ∉ l ∧ t.get u = some v)
  | [], t, u, v, hv => .inr ⟨by simp, hv⟩
  | d :: ds, t, u, v, hv => by
    simp only [joinT] at hv
    rcases joinT_get hv with h1 | ⟨h1, h2⟩
    · exact .inl h1
    · rw [Tr.get_set] at h2
      split at h2
      · rename_i e
        subst e
        left
        split at h2
        · rename_i x y hx hy
          split at h2
          · rename_i he
            cases h2
            have := avEq_eq _ _ he
            subst this
            exact .inr ⟨hx, hy⟩
          · cases h2; exact .inl rfl
        · cases h2; exact .inl rfl
      · rename_i e
        exact .inr ⟨fun hm => (List.mem_cons.1 hm).elim e h1, h2⟩

def sameOb (a b : Heap) (n : Nat) : Bool :=
  match a.obj n, b.obj n with
  | some x, some y => objEq x y
  | _, _ => false

theorem joinH_get {a b : Heap} : ∀ {l : List Nat} {t : Tr AObj} {n : Nat}, (joinH a b l t).get n = if n ∈ l ∧ sameOb a b n = false then some .dead else t.get n
  | [], t, n => by simp [joinH]
  | m :: l, t, n => by
    have step : ∀ t' : Tr AObj, (t' = t ∧ sameOb a b m = true) ∨ (t' = t.set m .dead ∧ sameOb a b m = false) → (joinH a b l t').get n = if n ∈ m :: l ∧ sameOb a b n = false then some .dead else t.get n := by
      intro t' ht'
      rw [joinH_get]
      rcases ht' with ⟨rfl, hs⟩ | ⟨rfl, hs⟩
      · by_cases h1 : n ∈ l ∧ sameOb a b n = false
        · rw [if_pos h1, if_pos ⟨List.mem_cons_of_mem _ h1.1, h1.2⟩]
        · rw [if_neg h1, if_neg]
          rintro ⟨h2, h3⟩
          rcases List.mem_cons.1 h2 with rfl | h2
          · rw [hs] at h3; cases h3
          · exact h1 ⟨h2, h3⟩
      · by_cases h1 : n ∈ l ∧ sameOb a b n = false
        · rw [if_pos h1, if_pos ⟨List.mem_cons_of_mem _ h1.1, h1.2⟩]
        · rw [if_neg h1, Tr.get_set]
          by_cases e : n = m
          · subst e
            rw [if_pos rfl, if_pos ⟨List.mem_cons_self .., hs⟩]
          · rw [if_neg e, if_neg]
            rintro ⟨h2, h3⟩
            rcases List.mem_cons.1 h2 with rfl | h2
            · exact e rfl
            · exact h1 ⟨h2, h3⟩
    simp only [joinH]
    refine step _ ?_
    unfold sameOb
    cases hx : a.obj m with
    | none => exact .inr ⟨rfl, rfl⟩
    | some x =>
      cases hy : b.obj m with
      | none => exact .inr ⟨rfl, rfl⟩
      | some y =>
        simp only []
        cases he : objEq x y with
        | true => exact .inl ⟨rfl, rfl⟩
        | false => exact .inr ⟨rfl, rfl⟩

theorem cellsEq_get {t u : Tr AV} {d e : List AV} {size : Nat} : ∀ {n : Nat}, cellsEq t u d e size n = true → ∀ {i : Nat}, i < n → cellA t size d i = cellA u size e i
  | 0, _, i, hi => absurd hi (Nat.not_lt_zero _)
  | n + 1, h, i, hi => by
    simp only [cellsEq, Bool.and_eq_true] at h
    by_cases e' : i = n
    · subst e'
      have := h.1
      split at this
      · rename_i x y hx hy
        rw [hx, hy, avEq_eq _ _ this]
      · cases this
    · exact cellsEq_get h.2 (by omega)

theorem objEq_OR {x y : AObj} {l : Loc} {ob : Option Obj} (h : objEq x y = true) : x ≠ .dead ∧ y ≠ .dead ∧ (OR ρ l y ob → OR ρ l x ob) := by
  unfold objEq at h
  split at h
  · rename_i t s d e z g t' s' d' e' z' g'
    simp only [Bool.and_eq_true, Nat.beq_eq, beq_iff_eq] at h
    obtain ⟨⟨⟨⟨rfl, rfl⟩, rfl⟩, rfl⟩, hc⟩ := h
    refine ⟨(by intro h; cases h), (by intro h; cases h), ?_⟩
    rintro ⟨q1, q2, q3, c, fr, q4, q5, q6, q7⟩
    refine ⟨q1, q2, q3, c, fr, q4, q5, q6, fun i v hv => q7 i v ?_⟩
    rw [← cellsEq_get hc (cellA_lt hv)]
    exact hv
  · cases h

theorem upto_mem : ∀ {k a n : Nat}, n ∈ upto a k ↔ a ≤ n ∧ n < a + k
  | 0, a, n => by
    simp only [upto, List.not_mem_nil, false_iff]
    omega
  | k + 1, a, n => by
    simp only [upto, List.mem_cons, upto_mem (k := k)]
    omega

theorem mayDiffer_mem {ha hb : Heap} {n : Nat} : n ∈ mayDiffer h ha hb ↔ ((n ∈ ha.log ∨ n ∈ hb.log) ∧ n < h.next) ∨ (h.next ≤ n ∧ n < h.next + (max ha.next hb.next - h.next)) := by
  unfold mayDiffer
  simp only [List.mem_append, List.mem_filter, upto_mem, Nat.blt_eq]

/-- The memory joined of two. -/
def joined (h ha hb : Heap) : Heap := ⟨joinH ha hb (mayDiffer h ha hb) ha.tr, max ha.next hb.next, []⟩

theorem joined_obj {ha hb : Heap} {n : Nat} {o : AObj} (ho : (joined h ha hb).obj n = some o) (hd : o ≠ .dead) : ha.obj n = some o ∧ (n ∈ mayDiffer h ha hb → sameOb ha hb n = true) := by
  unfold joined Heap.obj at ho
  simp only [] at ho
  rw [joinH_get] at ho
  split at ho
  · cases ho; exact absurd rfl hd
  · rename_i hno
    refine ⟨ho, fun hm => ?_⟩
    cases e : sameOb ha hb n with
    | true => rfl
    | false => exact absurd ⟨hm, e⟩ hno

/-- The first of the two, weakened. -/
theorem join_left {ha hb : Heap} (ka : Keep ⟨h.tr, h.next, []⟩ ha) (kb : Keep ⟨h.tr, h.next, []⟩ hb) {ρa : Ren} {wa : World} (r : Rel E.nG ρa ha wa) (x : Ext ρ h w ρa ha wa) : Rel E.nG ρa (joined h ha hb) wa ∧ Ext ρ h w ρa (joined h ha hb) wa := by
  have hlv : ∀ n, live (joined h ha hb) n = true → live ha n = true := fun n hl => by
    obtain ⟨o, h1, h2⟩ := live_iff.1 hl
    exact live_iff.2 ⟨o, (joined_obj h1 h2).1, h2⟩
  refine ⟨⟨fun n o hn hd => r.obj n o (joined_obj hn hd).1 hd, fun n m l l' a b => r.inj n m l l' (hlv n a) (hlv m b), ?_, r.glob, ?_, ?_⟩, ⟨x.le, ?_, fun n hn hl => x.lives n hn (hlv n hl), x.frame, x.size, x.fresh, x.kept⟩⟩
  · intro n l hn
    have := r.lt n l hn
    refine ⟨?_, this.2⟩
    show n < max ha.next hb.next
    omega
  · intro n hn
    have hn' : max ha.next hb.next ≤ n := hn
    unfold joined Heap.obj
    simp only []
    rw [joinH_get, if_neg]
    · exact r.fresh n (by omega)
    · rintro ⟨h1, _⟩
      rw [mayDiffer_mem] at h1
      have h2 : h.next ≤ ha.next := ka.next
      have h3 : h.next ≤ hb.next := kb.next
      omega
  · have := r.globs
    show E.nG ≤ max ha.next hb.next
    omega
  · have := x.next
    show h.next ≤ max ha.next hb.next
    omega

/-- The second of the two, weakened. -/
theorem join_right {ha hb : Heap} (ka : Keep ⟨h.tr, h.next, []⟩ ha) (kb : Keep ⟨h.tr, h.next, []⟩ hb) {ρa ρb : Ren} {wa wb : World} (ra : Rel E.nG ρa ha wa) (r : Rel E.nG ρb hb wb) (x : Ext ρ h w ρb hb wb) :
    Rel E.nG ρb (joined h ha hb) wb ∧ Ext ρ h w ρb (joined h ha hb) wb := by
  have h2 : h.next ≤ ha.next := ka.next
  have h3 : h.next ≤ hb.next := kb.next
  have hob : ∀ n o, (joined h ha hb).obj n = some o → o ≠ .dead → ∃ y, hb.obj n = some y ∧ y ≠ .dead ∧ ∀ l ob, OR ρb l y ob → OR ρb l o ob := by
    intro n o hn hd
    obtain ⟨h1, h4⟩ := joined_obj hn hd
    by_cases hm : n ∈ mayDiffer h ha hb
    · have hs := h4 hm
      unfold sameOb at hs
      split at hs
      · rename_i x' y hx hy
        rw [h1] at hx
        cases hx
        exact ⟨y, hy, (objEq_OR (ρ := ρb) (l := ⟨0, 0, 0, 0⟩) (ob := none) hs).2.1, fun l ob => (objEq_OR hs).2.2⟩
      · cases hs
    · rw [mayDiffer_mem] at hm
      have hlt : n < h.next := by
        rcases Nat.lt_or_ge n h.next with h5 | h5
        · exact h5
        · exfalso
          have := ra.fresh n (by omega)
          rw [this] at h1
          cases h1
      have hla : n ∉ ha.log := fun hh => hm (.inl ⟨.inl hh, hlt⟩)
      have hlb : n ∉ hb.log := fun hh => hm (.inl ⟨.inr hh, hlt⟩)
      have e1 := ka.obj n hlt hla
      have e2 := kb.obj n hlt hlb
      exact ⟨o, by rw [e2, ← e1]; exact h1, hd, fun _ _ h => h⟩
  have hlv : ∀ n, live (joined h ha hb) n = true → live hb n = true := fun n hl => by
    obtain ⟨o, h1, h2⟩ := live_iff.1 hl
    obtain ⟨y, g1, g2, _⟩ := hob n o h1 h2
    exact live_iff.2 ⟨y, g1, g2⟩
  refine ⟨⟨?_, fun n m l l' a b => r.inj n m l l' (hlv n a) (hlv m b), ?_, r.glob, ?_, ?_⟩, ⟨x.le, ?_, fun n hn hl => x.lives n hn (hlv n hl), x.frame, x.size, x.fresh, x.kept⟩⟩
  · intro n o hn hd
    obtain ⟨y, g1, g2, g3⟩ := hob n o hn hd
    obtain ⟨l, g4, g5⟩ := r.obj n y g1 g2
    exact ⟨l, g4, g3 _ _ g5⟩
  · intro n l hn
    have := r.lt n l hn
    refine ⟨?_, this.2⟩
    show n < max ha.next hb.next
    omega
  · intro n hn
    have hn' : max ha.next hb.next ≤ n := hn
    unfold joined Heap.obj
    simp only []
    rw [joinH_get, if_neg]
    · exact ra.fresh n (by omega)
    · rintro ⟨h1, _⟩
      rw [mayDiffer_mem] at h1
      omega
  · have := r.globs
    show E.nG ≤ max ha.next hb.next
    omega
  · show h.next ≤ max ha.next hb.next
    omega

theorem joinT_left {ta tb : Tr AV} {l : List Tmp} {tmps : Array Value} (ht : TR ρ ta tmps) (hs : ∀ u, u ∉ l → ta.get u = tm.get u) : TR ρ (joinT ta tb l tm) tmps := by
  intro u v hv
  rcases joinT_get hv with (rfl | ⟨h1, _⟩) | ⟨h1, h2⟩
  · simp [R]
  · exact ht u v h1
  · exact ht u v (by rw [hs u h1]; exact h2)

theorem joinT_right {ta tb : Tr AV} {l : List Tmp} {tmps : Array Value} (ht : TR ρ tb tmps) (hs : ∀ u, u ∉ l → tb.get u = tm.get u) : TR ρ (joinT ta tb l tm) tmps := by
  intro u v hv
  rcases joinT_get hv with (rfl | ⟨_, h1⟩) | ⟨h1, h2⟩
  · simp [R]
  · exact ht u v h1
  · exact ht u v (by rw [hs u h1]; exact h2)

/-- The next one of an order that is drawn. -/
theorem go_step {ops : Array Oper} {listed : Array Bool} (he : edgesOk 0 ops.toList = true) (hs : listed.size = ops.size) (fuel t : Nat) {q : Nat} (hq : q < ops.size) (hl : listed.getD q false = false) :
    ∃ i t', i ∈ Region.ready .any ops listed ∧ Region.linearise.go .any ops (fuel + 1) t listed [] = i :: Region.linearise.go .any ops fuel t' (listed.setIfInBounds i true) [] := by
  obtain ⟨j0, hj0⟩ := ready_some he hs q hq hl
  have hrne : (Region.ready .any ops listed) ≠ [] := by intro h; rw [h] at hj0; simp at hj0
  have hpos : 0 < (Region.ready .any ops listed).length := List.length_pos_iff.2 hrne
  have hmod := Nat.mod_lt t hpos
  obtain ⟨i, hget⟩ : ∃ i, (Region.ready .any ops listed)[t % (Region.ready .any ops listed).length]? = some i := ⟨_, List.getElem?_eq_getElem hmod⟩
  refine ⟨i, t / (Region.ready .any ops listed).length, List.mem_of_getElem? hget, ?_⟩
  simp only [Region.linearise.go]
  change (match (Region.ready .any ops listed)[t % (Region.ready .any ops listed).length]? with
    | some i => Region.linearise.go .any ops fuel (t / (Region.ready .any ops listed).length) (listed.setIfInBounds i true) [i]
    | none => [].reverse) = _
  rw [hget]
  simp only []
  rw [linearise_go_acc, List.reverse_singleton, List.singleton_append]

/-- The orders of a mode's region: two. -/
theorem mode_orders {ops : Array Oper} (he : edgesOk 0 ops.toList = true) (hmk : modeMasks (masksGo [] ops.toList) = true) (t : Nat) :
    Region.linearise .any ops t = [0, 1, 2, 3] ∨ Region.linearise .any ops t = [0, 2, 1, 3] := by
  have hlen : (masksGo [] ops.toList).length = ops.size := by rw [masksGo_length]; simp
  unfold modeMasks at hmk
  split at hmk
  case h_2 => cases hmk
  rename_i m0 m1 m2 m3 hms
  simp only [Bool.and_eq_true] at hmk
  obtain ⟨⟨⟨⟨h10, h20⟩, h30⟩, h31⟩, h32⟩ := hmk
  rw [hms] at hlen
  have hsz : ops.size = 4 := hlen.symm
  have e1 : mk0 ops.toList 1 = m1 := by unfold mk0; rw [hms]; rfl
  have e2 : mk0 ops.toList 2 = m2 := by unfold mk0; rw [hms]; rfl
  have e3 : mk0 ops.toList 3 = m3 := by unfold mk0; rw [hms]; rfl
  have hL : Region.linearise .any ops t = Region.linearise.go .any ops 4 t (Array.replicate 4 false) [] := by unfold Region.linearise; rw [hsz]
  rw [hL]
  have hc0 : Closed ops (Array.replicate 4 false) := by rw [← hsz]; exact closed_none
  have hs0 : (Array.replicate 4 false : Array Bool).size = ops.size := by rw [hsz]; rfl
  obtain ⟨i0, t1, hr0, g0⟩ := go_step he hs0 3 t (q := 0) (by omega) rfl
  rw [g0]
  have hi0 : i0 = 0 := by
    have hlt := (ready_mem.1 hr0).1
    have hno : ∀ j, has (mk0 ops.toList i0) j = true → False := fun j hj => by
      have := ready_mask hc0 hr0 hj
      simp only [Array.getD_eq_getD_getElem?, Array.getElem?_replicate] at this
      split at this <;> cases this
    have : i0 = 0 ∨ i0 = 1 ∨ i0 = 2 ∨ i0 = 3 := by omega
    rcases this with h | h | h | h
    · exact h
    · subst h; exact (hno 0 (by rw [e1]; exact h10)).elim
    · subst h; exact (hno 0 (by rw [e2]; exact h20)).elim
    · subst h; exact (hno 0 (by rw [e3]; exact h30)).elim
  subst hi0
  have hc1 := closed_set hs0 hc0 hr0
  have hs1 : ((Array.replicate 4 false).setIfInBounds 0 true : Array Bool).size = ops.size := by rw [hsz]; rfl
  obtain ⟨i1, t2, hr1, g1⟩ := go_step he hs1 2 t1 (q := 1) (by omega) rfl
  rw [g1]
  have hi1 : i1 = 1 ∨ i1 = 2 := by
    have hlt := (ready_mem.1 hr1).1
    have hn := ready_not hs1 hr1
    have : i1 = 0 ∨ i1 = 1 ∨ i1 = 2 ∨ i1 = 3 := by omega
    rcases this with h | h | h | h
    · subst h; cases hn
    · exact .inl h
    · exact .inr h
    · subst h
      have := ready_mask hc1 hr1 (j := 1) (by rw [e3]; exact h31)
      cases this
  have hc2 := closed_set hs1 hc1 hr1
  rcases hi1 with rfl | rfl
  · have hs2 : (((Array.replicate 4 false).setIfInBounds 0 true).setIfInBounds 1 true : Array Bool).size = ops.size := by rw [hsz]; rfl
    obtain ⟨i2, t3, hr2, g2⟩ := go_step he hs2 1 t2 (q := 2) (by omega) rfl
    rw [g2]
    have hi2 : i2 = 2 := by
      have hlt := (ready_mem.1 hr2).1
      have hn := ready_not hs2 hr2
      have : i2 = 0 ∨ i2 = 1 ∨ i2 = 2 ∨ i2 = 3 := by omega
      rcases this with h | h | h | h
      · subst h; cases hn
      · subst h; cases hn
      · exact h
      · subst h
        have := ready_mask hc2 hr2 (j := 2) (by rw [e3]; exact h32)
        cases this
    subst hi2
    have hs3 : ((((Array.replicate 4 false).setIfInBounds 0 true).setIfInBounds 1 true).setIfInBounds 2 true : Array Bool).size = ops.size := by rw [hsz]; rfl
    obtain ⟨i3, t4, hr3, g3⟩ := go_step he hs3 0 t3 (q := 3) (by omega) rfl
    rw [g3]
    have hi3 : i3 = 3 := by
      have hlt := (ready_mem.1 hr3).1
      have hn := ready_not hs3 hr3
      have : i3 = 0 ∨ i3 = 1 ∨ i3 = 2 ∨ i3 = 3 := by omega
      rcases this with h | h | h | h
      · subst h; cases hn
      · subst h; cases hn
      · subst h; cases hn
      · exact h
    subst hi3
    exact .inl rfl
  · have hs2 : (((Array.replicate 4 false).setIfInBounds 0 true).setIfInBounds 2 true : Array Bool).size = ops.size := by rw [hsz]; rfl
    obtain ⟨i2, t3, hr2, g2⟩ := go_step he hs2 1 t2 (q := 1) (by omega) rfl
    rw [g2]
    have hi2 : i2 = 1 := by
      have hlt := (ready_mem.1 hr2).1
      have hn := ready_not hs2 hr2
      have : i2 = 0 ∨ i2 = 1 ∨ i2 = 2 ∨ i2 = 3 := by omega
      rcases this with h | h | h | h
      · subst h; cases hn
      · exact h
      · subst h; cases hn
      · subst h
        have := ready_mask hc2 hr2 (j := 1) (by rw [e3]; exact h31)
        cases this
    subst hi2
    have hs3 : ((((Array.replicate 4 false).setIfInBounds 0 true).setIfInBounds 2 true).setIfInBounds 1 true : Array Bool).size = ops.size := by rw [hsz]; rfl
    obtain ⟨i3, t4, hr3, g3⟩ := go_step he hs3 0 t3 (q := 3) (by omega) rfl
    rw [g3]
    have hi3 : i3 = 3 := by
      have hlt := (ready_mem.1 hr3).1
      have hn := ready_not hs3 hr3
      have : i3 = 0 ∨ i3 = 1 ∨ i3 = 2 ∨ i3 = 3 := by omega
      rcases this with h | h | h | h
      · subst h; cases hn
      · subst h; cases hn
      · subst h; cases hn
      · exact h
    subst hi3
    exact .inr rfl

/-- One order of a mode's region, and what it chooses. -/
theorem modeRun_ok (ok : EnvOK P E) {a : AFrame} {fr : Frame} {all order : List Oper} {k : List AItem} {q : Tmp} {x y : Code} {tm' : Tr AV} (hmode : a.mode = .run)
    (hf : FR ρ { a with todo := .ops all order :: .code (.cond (.tmp q) x y) :: k } fr) (r : Rel E.nG ρ h w) (hv : modeRun E a.sz all order q x y a.tm h = some (tm', h')) :
    ∃ ρ' fr' w', FR ρ' { a with tm := tm', todo := k } fr' ∧ Rel E.nG ρ' h' w' ∧ Ext ρ h w ρ' h' w' ∧ ∀ cs, Steps P (lone fr cs w) (lone fr' cs w') := by
  unfold modeRun at hv
  split at hv
  case h_2 => cases hv
  rename_i t1 h1' hro
  obtain ⟨ρ2, fr2, w2, g1, g2, g3, g4⟩ := runOps_ok ok (a := a) (all := all) (k := .code (.cond (.tmp q) x y) :: k) hmode hf r hro
  have hm2 : fr2.mode = .run := by have := g1.mode; rw [show ({ a with tm := t1, todo := .code (.cond (.tmp q) x y) :: k } : AFrame).mode = a.mode from rfl, hmode] at this; exact this
  obtain ⟨b3, bs3, j1, rfl, j3⟩ := g1.todo hmode
  have branch : ∀ {bv : Bool} {c : Code}, t1.get q = some (.sc (.bool bv)) → (if bv then x else y) = c → straight E a.sz c t1 h1' = some (tm', h') →
      ∃ ρ' fr' w', FR ρ' { a with tm := tm', todo := k } fr' ∧ Rel E.nG ρ' h' w' ∧ Ext ρ h w ρ' h' w' ∧ ∀ cs, Steps P (lone fr cs w) (lone fr' cs w') := by
    intro bv c hq hc hs
    have he := ev_ok g2.q (f := fr2) g1.tm (.tmp q) _ (show ev E.nG t1 (.tmp q) = some (.sc (.bool bv)) from hq)
    simp only [R] at he
    have hf3 : FR ρ2 { a with tm := t1, todo := .code c :: k } { fr2 with todo := .code c :: bs3 } := ⟨g1.fn, g1.tm, g1.sz, fun _ => IRL_cons rfl j3, g1.ds, g1.mode, g1.kind, g1.rnd⟩
    obtain ⟨ρ3, fr3, w3, m1, m2, m3, m4⟩ := straight_ok ok hmode hf3 g2 hs
    refine ⟨ρ3, fr3, w3, m1, m2, Ext.trans r g2 g3 m3, fun cs => (g4 cs).trans (.head (step_lone_go ?_) (m4 cs))⟩
    simp [stepG, hm2, stepG.exec, j1, he, hc]
  split at hv
  · rename_i hq
    exact branch hq rfl hv
  · rename_i hq
    exact branch hq rfl hv
  · cases hv

theorem modeRun_keep {sz : Nat} {all order : List Oper} {q : Tmp} {x y : Code} {tm' : Tr AV} (hv : modeRun E sz all order q x y tm h = some (tm', h')) : Keep h h' ∧ ∀ u, (∀ o ∈ order, o.dst ≠ some u) → u ∉ dsts x → u ∉ dsts y → tm'.get u = tm.get u := by
  unfold modeRun at hv
  split at hv
  · rename_i t1 h1 hro
    obtain ⟨k1, k2⟩ := runOps_keep hro
    split at hv
    · obtain ⟨k3, k4⟩ := straight_keep hv
      exact ⟨k1.trans k3, fun u hu hx hy => by rw [k4 u hx, k2 u hu]⟩
    · obtain ⟨k3, k4⟩ := straight_keep hv
      exact ⟨k1.trans k3, fun u hu hx hy => by rw [k4 u hy, k2 u hu]⟩
    · cases hv
  · cases hv

theorem Rel.logless {nG : Nat} (r : Rel nG ρ h w) : Rel nG ρ ⟨h.tr, h.next, []⟩ w := ⟨r.obj, r.inj, r.lt, r.glob, r.fresh, r.globs⟩
theorem Ext.logless (x : Ext ρ ⟨h.tr, h.next, []⟩ w ρ' h' w') : Ext ρ h w ρ' h' w' := ⟨x.le, x.next, x.lives, x.frame, x.size, x.fresh, x.kept⟩

theorem isMode_ok {ops : List Oper} {p q : Tmp} (h : isMode ops = some (p, q)) : edgesOk 0 ops = true ∧ modeMasks (masksGo [] ops) = true := by
  unfold isMode at h
  split at h
  · split at h
    · split at h
      · split at h
        · rename_i hc
          simp only [Bool.and_eq_true] at hc
          exact hc.2
        · cases h
      · cases h
    · cases h
  · cases h

/-- Modes. -/
theorem mode_hyp (ok : EnvOK P E) : ModeHyp P E := by
  intro a as fr cs ρ h w id ops k p q c' hmode htd hf hcs r hq hv
  obtain ⟨he, hmk⟩ := isMode_ok hq
  unfold stepMode at hv
  split at hv
  case h_2 => cases hv
  rename_i o0 o1 o2 o3 q' x y k' hops
  split at hv
  case h_2 => cases hv
  rename_i hqq
  rw [Nat.beq_eq] at hqq
  subst hqq
  split at hv
  case h_2 => cases hv
  rename_i ta ha tb hb hra hrb
  cases hv
  have hget : ∀ i, ops[i]? = [o0, o1, o2, o3][i]? := fun i => by rw [← Array.getElem?_toList, hops]
  have rl := r.logless
  obtain ⟨ka, kta⟩ := modeRun_keep hra
  obtain ⟨kb, ktb⟩ := modeRun_keep hrb
  have hda : ∀ u, u ∉ ops.toList.filterMap (·.dst) ++ (dsts x ++ dsts y) → ta.get u = a.tm.get u ∧ tb.get u = a.tm.get u := by
    intro u hu
    simp only [List.mem_append, not_or] at hu
    have hno : ∀ o ∈ ops.toList, o.dst ≠ some u := fun o ho e => hu.1 (List.mem_filterMap.2 ⟨o, ho, e⟩)
    rw [hops] at hno
    exact ⟨kta u hno hu.2.1 hu.2.2, ktb u (fun o ho => hno o (by simp only [List.mem_cons, List.not_mem_nil, or_false] at ho ⊢; rcases ho with rfl | rfl | rfl | rfl <;> simp)) hu.2.1 hu.2.2⟩
  have hm : fr.mode = .run := by have := hf.mode; rw [hmode] at this; exact this
  have htodo := hf.todo hmode
  rw [htd] at htodo
  obtain ⟨b, bs, h1, rfl, h3⟩ := htodo
  have hst : ∀ cs, step P (lone fr cs w) = .next (lone { fr with todo := .inRegion ops (Region.linearise .any ops (w.tape w.drawn (.order fr.fn id))) :: bs } cs { w with drawn := w.drawn + 1 }) := fun cs => by
    refine step_lone_go ?_
    simp [stepG, hm, stepG.exec, h1, choose, Sem.run, Question.forced, Question.cut, Region.schedule, ok.mixed]
  have hfr : ∀ (order : List Oper) (todo : List Nat), order.map some = (todo.map fun i => ops[i]?) → FR ρ { a with todo := .ops ops.toList order :: .code (.cond (.tmp q') x y) :: k' } { fr with todo := .inRegion ops todo :: bs } :=
    fun order todo hord => ⟨hf.fn, hf.tm, hf.sz, fun _ => ⟨_, _, rfl, ⟨ops, todo, rfl, rfl, hord⟩, h3⟩, hf.ds, hf.mode, hf.kind, hf.rnd⟩
  have r1 : Rel E.nG ρ ⟨h.tr, h.next, []⟩ { w with drawn := w.drawn + 1 } := rl.same rfl
  have x1 : Ext ρ ⟨h.tr, h.next, []⟩ w ρ ⟨h.tr, h.next, []⟩ { w with drawn := w.drawn + 1 } := Ext.same rfl
  obtain ⟨ρa, fa, wa, a1, a2, a3, a4⟩ := modeRun_ok ok hmode (hfr [o0, o1, o2, o3] [0, 1, 2, 3] (by simp [hget])) r1 hra
  rcases mode_orders he hmk (w.tape w.drawn (.order fr.fn id)) with hs | hs
  · obtain ⟨j1, j2⟩ := join_left (w := w) ka kb a2 (Ext.trans rl r1 x1 a3).logless
    refine nx_top (a' := { a with tm := joinT ta tb (ops.toList.filterMap (·.dst) ++ (dsts x ++ dsts y)) a.tm, todo := k' }) (fr' := fa) ?_ (hcs.mono j2.le) j1 j2 fun cs0 => .head (hst _) (by rw [hs]; exact a4 _)
    exact ⟨a1.fn, joinT_left a1.tm fun u hu => (hda u hu).1, a1.sz, a1.todo, a1.ds, a1.mode, a1.kind, a1.rnd⟩
  · obtain ⟨ρb, fb, wb, b1, b2, b3, b4⟩ := modeRun_ok ok hmode (hfr [o0, o2, o1, o3] [0, 2, 1, 3] (by simp [hget])) r1 hrb
    obtain ⟨j1, j2⟩ := join_right (w := w) ka kb a2 b2 (Ext.trans rl r1 x1 b3).logless
    refine nx_top (a' := { a with tm := joinT ta tb (ops.toList.filterMap (·.dst) ++ (dsts x ++ dsts y)) a.tm, todo := k' }) (fr' := fb) ?_ (hcs.mono j2.le) j1 j2 fun cs0 => .head (hst _) (by rw [hs]; exact b4 _)
    exact ⟨b1.fn, joinT_right b1.tm fun u hu => (hda u hu).2, b1.sz, b1.todo, b1.ds, b1.mode, b1.kind, b1.rnd⟩
end
end Go.Eng

/- The engine is sound. -/
namespace Go.Eng
section
variable {P : Program} {E : Env}

theorem arun_sound (ok : EnvOK P E) {tbl : Out → Heap → Option AEnd} (hT : CallOK P E tbl) (n : Nat) : SelfOK P E (arun E tbl n) := arun_ok ok (mode_hyp ok) (fun _ hS => drawn_hyp ok hS) hT n

/-- What a run's calls out of drawn regions are done by. -/
def cdOf (E : Env) (tbl : Out → Heap → Option AEnd) (d : Nat) : Out → Heap → Option AEnd := callT E tbl (arun E tbl d)

theorem cdOf_ok (ok : EnvOK P E) {tbl : Out → Heap → Option AEnd} (hT : CallOK P E tbl) (d : Nat) : CallOK P E (cdOf E tbl d) := callT_ok ok hT (arun_sound ok hT d)

theorem asteps_sound (ok : EnvOK P E) {tbl : Out → Heap → Option AEnd} (hT : CallOK P E tbl) (d : Nat) {n : Nat} {c c' : Cfg} {fs : List Frame} {w : World} {ρ : Ren} (s : St E ρ c fs w) (hv : asteps E (cdOf E tbl d) n c = some c') (hne : c'.fs ≠ []) :
    ∃ ρ' fs' w', St E ρ' c' fs' w' ∧ Ext ρ c.h w ρ' c'.h w' ∧ ∀ cs0, Steps P (mk (fs ++ cs0) w) (mk (fs' ++ cs0) w') :=
  asteps_ok ok (drawn_hyp ok (cdOf_ok ok hT d)) (mode_hyp ok) s hv hne
end
end Go.Eng

/- The engine: runs cut into parts; what is known of calls. -/
namespace Go.Eng

def trLe {α : Type} (eq : α → α → Bool) : Tr α → Tr α → Bool
  | .nil, _ => true
  | .node v l r, u => match u with
    | .nil => false
    | .node v' l' r' => (match v with
      | none => true
      | some a => match v' with
        | some b => eq a b
        | none => false) && (trLe eq l l' && trLe eq r r')

def trSame {α : Type} (eq : α → α → Bool) : Tr α → Tr α → Bool
  | .nil, u => match u with
    | .nil => true
    | .node _ _ _ => false
  | .node v l r, u => match u with
    | .nil => false
    | .node v' l' r' => (match v, v' with
      | none, none => true
      | some a, some b => eq a b
      | _, _ => false) && (trSame eq l l' && trSame eq r r')

def mapEsEq : List MapE → List MapE → Bool
  | [], [] => true
  | a :: l, b :: r => avEq a.key b.key && (avEq a.val b.val && (Nat.beq a.born b.born && mapEsEq l r))
  | _, _ => false

def adefEq : ADef → ADef → Bool
  | .mark n, .mark m => Nat.beq n m
  | .call f a, .call g b => Nat.beq f g && avsEq a b
  | _, _ => false

def adefsEq : List ADef → List ADef → Bool
  | [], [] => true
  | a :: l, b :: r => adefEq a b && adefsEq l r
  | _, _ => false

def objSame : AObj → AObj → Bool
  | .cells t s d e z g, .cells t' s' d' e' z' g' => Nat.beq s s' && (avsEq d d' && (Nat.beq e e' && (Nat.beq z z' && (g == g' && trSame avEq t t'))))
  | .map es c, .map es' c' => mapEsEq es es' && Nat.beq c c'
  | .deferred ds, .deferred ds' => adefsEq ds ds'
  | .siter s p, .siter s' p' => natsEq s s' && Nat.beq p p'
  | _, _ => false

/-- Is the first one's memory as the second one's, as far as it goes? -/
def leH (lit h : Heap) : Bool := Nat.beq lit.next h.next && trLe objSame lit.tr h.tr

def modeEq : AMode → AMode → Bool
  | .run, .run => true
  | .ret, .ret => true
  | _, _ => false

def leF (lit a : AFrame) : Bool :=
  Nat.beq lit.fn a.fn && (Nat.beq lit.sz a.sz && (modeEq lit.mode a.mode && (lit.dfr == a.dfr && (optNatEq lit.rnd a.rnd && (adefsEq lit.ds a.ds && trLe avEq lit.tm a.tm)))))

def leFs : List AFrame → List AFrame → Bool
  | [], [] => true
  | a :: l, b :: r => leF a b && leFs l r
  | _, _ => false

def leC (lit c : Cfg) : Bool := lit.fin.isNone && (c.fin.isNone && (leFs lit.fs c.fs && leH lit.h c.h))

section
variable {α : Type} {eq : α → α → Bool}

theorem trLe_get (he : ∀ a b, eq a b = true → a = b) : ∀ {t u : Tr α}, trLe eq t u = true → ∀ {i : Nat} {v : α}, t.get i = some v → u.get i = some v
  | .nil, u, _, i, v, hv => by rw [Tr.get_nil] at hv; cases hv
  | .node x l r, .nil, h, i, v, hv => by simp [trLe] at h
  | .node x l r, .node x' l' r', h, i, v, hv => by
    simp only [trLe, Bool.and_eq_true] at h
    obtain ⟨h1, h2, h3⟩ := h
    cases i with
    | zero =>
      simp only [Tr.get] at hv ⊢
      subst hv
      simp only [] at h1
      split at h1
      · rw [he _ _ h1]
      · cases h1
    | succ n =>
      rcases Nat.mod_two_eq_zero_or_one n with h4 | h4
      · simp only [Tr.get, h4] at hv ⊢
        exact trLe_get he h2 hv
      · simp only [Tr.get, h4] at hv ⊢
        exact trLe_get he h3 hv

theorem trSame_eq (he : ∀ a b, eq a b = true → a = b) : ∀ {t u : Tr α}, trSame eq t u = true → t = u
  | .nil, .nil, _ => rfl
  | .nil, .node _ _ _, h => by simp [trSame] at h
  | .node _ _ _, .nil, h => by simp [trSame] at h
  | .node x l r, .node x' l' r', h => by
    simp only [trSame, Bool.and_eq_true] at h
    obtain ⟨h1, h2, h3⟩ := h
    rw [trSame_eq he h2, trSame_eq he h3]
    split at h1
    · rfl
    · rw [he _ _ h1]
    · cases h1
end

theorem avsEq_eq' : ∀ {a b : List AV}, avsEq a b = true → a = b
  | [], [], _ => rfl
  | [], _ :: _, h => by simp [avsEq] at h
  | _ :: _, [], h => by simp [avsEq] at h
  | a :: l, b :: r, h => by
    simp only [avsEq, Bool.and_eq_true] at h
    rw [avEq_eq _ _ h.1, avsEq_eq' h.2]

theorem natsEq_eq' : ∀ {a b : List Nat}, natsEq a b = true → a = b
  | [], [], _ => rfl
  | [], _ :: _, h => by simp [natsEq] at h
  | _ :: _, [], h => by simp [natsEq] at h
  | a :: l, b :: r, h => by
    simp only [natsEq] at h
    split at h
    · rename_i hb
      rw [Nat.beq_eq] at hb
      rw [hb, natsEq_eq' h]
    · cases h

theorem mapEsEq_eq : ∀ {a b : List MapE}, mapEsEq a b = true → a = b
  | [], [], _ => rfl
  | [], _ :: _, h => by simp [mapEsEq] at h
  | _ :: _, [], h => by simp [mapEsEq] at h
  | ⟨k, v, n⟩ :: l, ⟨k', v', n'⟩ :: r, h => by
    simp only [mapEsEq, Bool.and_eq_true, Nat.beq_eq] at h
    obtain ⟨h1, h2, h3, h4⟩ := h
    rw [avEq_eq _ _ h1, avEq_eq _ _ h2, h3, mapEsEq_eq h4]

theorem adefEq_eq {a b : ADef} (h : adefEq a b = true) : a = b := by
  cases a <;> cases b <;> simp only [adefEq, Bool.and_eq_true, Nat.beq_eq] at h
  · rw [h]
  · cases h
  · cases h
  · rw [h.1, avsEq_eq' h.2]

theorem adefsEq_eq : ∀ {a b : List ADef}, adefsEq a b = true → a = b
  | [], [], _ => rfl
  | [], _ :: _, h => by simp [adefsEq] at h
  | _ :: _, [], h => by simp [adefsEq] at h
  | a :: l, b :: r, h => by
    simp only [adefsEq, Bool.and_eq_true] at h
    rw [adefEq_eq h.1, adefsEq_eq h.2]

theorem objSame_eq (a b : AObj) (h : objSame a b = true) : a = b := by
  unfold objSame at h
  split at h
  · simp only [Bool.and_eq_true, Nat.beq_eq, beq_iff_eq] at h
    obtain ⟨rfl, h2, rfl, rfl, rfl, h6⟩ := h
    rw [avsEq_eq' h2, trSame_eq avEq_eq h6]
  · simp only [Bool.and_eq_true, Nat.beq_eq] at h
    rw [mapEsEq_eq h.1, h.2]
  · rw [adefsEq_eq h]
  · simp only [Bool.and_eq_true, Nat.beq_eq] at h
    rw [natsEq_eq' h.1, h.2]
  · cases h

section
variable {P : Program} {E : Env} {ρ ρ' ρ0 : Ren} {h h0 lit : Heap} {w w' w0 : World}

theorem leH_obj (hl : leH lit h = true) {n : Nat} {o : AObj} (ho : lit.obj n = some o) : h.obj n = some o := by
  simp only [leH, Bool.and_eq_true] at hl
  exact trLe_get objSame_eq hl.2 ho

theorem leH_next (hl : leH lit h = true) : lit.next = h.next := by
  simp only [leH, Bool.and_eq_true, Nat.beq_eq] at hl
  exact hl.1

theorem leH_live (hl : leH lit h = true) {n : Nat} (hn : live lit n = true) : live h n = true := by
  obtain ⟨o, h1, h2⟩ := live_iff.1 hn
  exact live_iff.2 ⟨o, leH_obj hl h1, h2⟩

theorem Rel.le {nG : Nat} (r : Rel nG ρ h w) (hl : leH lit h = true) : Rel nG ρ lit w := by
  refine ⟨fun n o hn hd => r.obj n o (leH_obj hl hn) hd, fun n m l l' a b => r.inj n m l l' (leH_live hl a) (leH_live hl b), fun n l hn => by rw [leH_next hl]; exact r.lt n l hn, r.glob, ?_, by rw [leH_next hl]; exact r.globs⟩
  intro n hn
  rw [leH_next hl] at hn
  cases e : lit.obj n with
  | none => rfl
  | some o =>
    have := leH_obj hl e
    rw [r.fresh n hn] at this
    cases this

theorem Ext.le' (x : Ext ρ0 h0 w0 ρ h w) (hl : leH lit h = true) : Ext ρ0 h0 w0 ρ lit w :=
  ⟨x.le, by rw [leH_next hl]; exact x.next, fun n hn hlv => x.lives n hn (leH_live hl hlv), x.frame, x.size, x.fresh, x.kept⟩

theorem leF_ok {a b : AFrame} {f : Frame} (hl : leF a b = true) (htd : a.todo = b.todo) (hf : FR ρ b f) : FR ρ a f := by
  simp only [leF, Bool.and_eq_true, Nat.beq_eq, beq_iff_eq] at hl
  obtain ⟨h1, h2, h3, h4, h5, h6, h7⟩ := hl
  have hm : a.mode = b.mode := by
    cases ha : a.mode <;> cases hb : b.mode <;> rw [ha, hb] at h3 <;> simp [modeEq] at h3 <;> rfl
  have hr : a.rnd = b.rnd := by
    cases ha : a.rnd with
    | none => cases hb : b.rnd with
      | none => rfl
      | some y => rw [ha, hb] at h5; simp [optNatEq] at h5
    | some x => cases hb : b.rnd with
      | none => rw [ha, hb] at h5; simp [optNatEq] at h5
      | some y =>
        rw [ha, hb] at h5
        simp only [optNatEq, Nat.beq_eq] at h5
        rw [h5]
  refine ⟨by rw [h1]; exact hf.fn, fun t v hv => hf.tm t v (trLe_get avEq_eq h7 hv), by rw [h2]; exact hf.sz, ?_, by rw [adefsEq_eq h6]; exact hf.ds, by rw [hm]; exact hf.mode, by rw [h4]; exact hf.kind, by rw [hr]; exact hf.rnd⟩
  rw [hm, htd]
  exact hf.todo

theorem leFs_ok : ∀ {as bs : List AFrame} {fs : List Frame}, leFs as bs = true → bs.map (·.todo) = as.map (·.todo) → FsR ρ bs fs → FsR ρ as fs
  | [], [], fs, _, _, h => h
  | [], _ :: _, _, h, _, _ => by simp [leFs] at h
  | _ :: _, [], _, h, _, _ => by simp [leFs] at h
  | a :: as, b :: bs, fs, h, ht, hf => by
    simp only [leFs, Bool.and_eq_true] at h
    simp only [List.map_cons, List.cons.injEq] at ht
    obtain ⟨f, fs', rfl, h1, h2⟩ := hf
    exact ⟨f, fs', rfl, leF_ok h.1 ht.1.symm h1, leFs_ok h.2 ht.2 h2⟩

variable (P E) in
/-- From one place of a run to another one. -/
def Reach (c c' : Cfg) : Prop := ∀ (ρ : Ren) (fs : List Frame) (w : World), St E ρ c fs w → ∃ ρ' fs' w', St E ρ' c' fs' w' ∧ Ext ρ c.h w ρ' c'.h w' ∧ ∀ cs0, Steps P (mk (fs ++ cs0) w) (mk (fs' ++ cs0) w')

theorem Reach.trans {a b c : Cfg} (h : Reach P E a b) (k : Reach P E b c) : Reach P E a c := by
  intro ρ fs w s
  obtain ⟨ρ1, fs1, w1, s1, x1, p1⟩ := h ρ fs w s
  obtain ⟨ρ2, fs2, w2, s2, x2, p2⟩ := k ρ1 fs1 w1 s1
  exact ⟨ρ2, fs2, w2, s2, Ext.trans s.rel s1.rel x1 x2, fun cs0 => (p1 cs0).trans (p2 cs0)⟩

/-- What is looked at of a part's end. -/
def cutAt (lit : Cfg) : Option Cfg → Option (Bool × List (List AItem))
  | some c => some (leC lit c, c.fs.map (·.todo))
  | none => none

theorem reach_cut (ok : EnvOK P E) {tbl : Out → Heap → Option AEnd} (hT : CallOK P E tbl) {d n : Nat} {c lit : Cfg} (h : cutAt lit (asteps E (cdOf E tbl d) n c) = some (true, lit.fs.map (·.todo))) (hne : lit.fs.isEmpty = false) : Reach P E c lit := by
  intro ρ fs w s
  cases hc : asteps E (cdOf E tbl d) n c with
  | none => rw [hc] at h; cases h
  | some c' =>
    rw [hc] at h
    simp only [cutAt, Option.some.injEq, Prod.mk.injEq] at h
    obtain ⟨h1, h2⟩ := h
    simp only [leC, Bool.and_eq_true, Option.isNone_iff_eq_none] at h1
    obtain ⟨h3, h4, h5, h6⟩ := h1
    have hne' : c'.fs ≠ [] := by
      intro e
      rw [e] at h2
      cases hl : lit.fs with
      | nil => rw [hl] at hne; cases hne
      | cons a l => rw [hl] at h2; cases h2
    obtain ⟨ρ', fs', w', s', x, p⟩ := asteps_sound ok hT d s hc hne'
    exact ⟨ρ', fs', w', ⟨h3, leFs_ok h5 h2 s'.frs, s'.rel.le h6⟩, x.le' h6, p⟩

variable (P E) in
/-- How a call ends. -/
def Ends (c : Cfg) (e : AEnd) : Prop := ∀ (ρ : Ren) (fs : List Frame) (w : World), St E ρ c fs w → EndR P E ρ c.h w fs e

theorem Reach.ends {c c' : Cfg} {e : AEnd} (h : Reach P E c c') (k : Ends P E c' e) : Ends P E c e := by
  intro ρ fs w s
  obtain ⟨ρ1, fs1, w1, s1, x1, p1⟩ := h ρ fs w s
  exact EndR.of_steps s.rel s1.rel x1 p1 (k ρ1 fs1 w1 s1)

/-- Does it end so? -/
def endAt (v : AV) (lit : Heap) : Option AEnd → Bool
  | some (.ret u h) => avEq v u && leH lit h
  | _ => false

theorem ends_cut (ok : EnvOK P E) {tbl : Out → Heap → Option AEnd} (hT : CallOK P E tbl) {n : Nat} {c : Cfg} {v : AV} {lit : Heap} (h : endAt v lit (arun E tbl n c) = true) (hne : c.fs.isEmpty = false) : Ends P E c (.ret v lit) := by
  intro ρ fs w s
  have hne' : c.fs ≠ [] := by intro e; rw [e] at hne; cases hne
  unfold endAt at h
  split at h
  · rename_i u h1 hr
    rw [Bool.and_eq_true] at h
    obtain ⟨ρ', x, w', g1, g2, g3, g4⟩ := arun_sound ok hT n c fs w ρ _ s hne' hr
    rw [← avEq_eq _ _ h.1] at g1
    exact ⟨ρ', x, w', g1, g2.le h.2, g3.le' h.2, g4⟩
  · cases h

/-- A call of which it is known how it ends. -/
structure Summ where
  g : FuncId
  args : List AV
  hK : Heap
  v : AV
  hL : Heap

def killT : Tr AObj → Tr AObj → Tr AObj
  | .nil, c => c
  | .node v l r, c => match c with
    | .nil => .nil
    | .node v' l' r' => .node (match v with
      | some _ => some .dead
      | none => v') (killT l l') (killT r r')

def layT : Tr AObj → Tr AObj → Tr AObj
  | .nil, c => c
  | .node v l r, c => match c with
    | .nil => .node v l r
    | .node v' l' r' => .node (match v with
      | some a => some a
      | none => v') (layT l l') (layT r r')

/-- A memory behind a call, of which it is known what it needs and what it leaves. -/
def over (hK hL h : Heap) : Heap := ⟨layT hL.tr (killT hK.tr h.tr), hL.next, []⟩

def findS (g : FuncId) (args : List AV) (h : Heap) : List Summ → Option AEnd
  | [] => none
  | s :: l => match Nat.beq s.g g && (avsEq s.args args && leH s.hK h) with
    | true => some (.ret s.v (over s.hK s.hL h))
    | false => findS g args h l

def tblOf (l : List Summ) : Out → Heap → Option AEnd := fun o h => match o with
  | .enter g args => findS g args h l
  | _ => none

variable (P E) in
def SummOK (s : Summ) : Prop := ∃ a, enterA E s.g s.args = some a ∧ Ends P E ⟨[a], s.hK, none⟩ (.ret s.v s.hL)

theorem killT_none : ∀ {k c : Tr AObj} {n : Nat}, k.get n = none → (killT k c).get n = c.get n
  | .nil, c, n, _ => by simp [killT]
  | .node v l r, .nil, n, _ => by simp [killT]
  | .node v l r, .node v' l' r', n, h => by
    cases n with
    | zero =>
      simp only [Tr.get] at h
      subst h
      simp [killT, Tr.get]
    | succ m =>
      rcases Nat.mod_two_eq_zero_or_one m with h4 | h4
      · simp only [killT, Tr.get, h4] at h ⊢
        exact killT_none h
      · simp only [killT, Tr.get, h4] at h ⊢
        exact killT_none h

theorem killT_some : ∀ {k c : Tr AObj} {n : Nat} {o : AObj}, (killT k c).get n = some o → o ≠ .dead → k.get n = none
  | .nil, c, n, o, _, _ => by simp [Tr.get_nil]
  | .node v l r, .nil, n, o, h, _ => by simp [killT, Tr.get_nil] at h
  | .node v l r, .node v' l' r', n, o, h, hd => by
    cases n with
    | zero =>
      simp only [killT, Tr.get] at h ⊢
      split at h
      · cases h; exact absurd rfl hd
      · rfl
    | succ m =>
      rcases Nat.mod_two_eq_zero_or_one m with h4 | h4
      · simp only [killT, Tr.get, h4] at h ⊢
        exact killT_some h hd
      · simp only [killT, Tr.get, h4] at h ⊢
        exact killT_some h hd

theorem layT_get : ∀ {l c : Tr AObj} {n : Nat}, (layT l c).get n = match l.get n with | some a => some a | none => c.get n
  | .nil, c, n => by simp [layT, Tr.get_nil]
  | .node v l r, .nil, n => by
    simp only [layT, Tr.get_nil]
    split <;> simp_all
  | .node v l r, .node v' l' r', n => by
    cases n with
    | zero => simp only [layT, Tr.get]
    | succ m =>
      rcases Nat.mod_two_eq_zero_or_one m with h4 | h4
      · simp only [layT, Tr.get, h4]
        exact layT_get
      · simp only [layT, Tr.get, h4]
        exact layT_get

/-- What lies beside what a call needs stays. -/
theorem over_ok {hK hL : Heap} (r : Rel E.nG ρ h w) (hl : leH hK h = true) (r' : Rel E.nG ρ' hL w') (x : Ext ρ hK w ρ' hL w') : Rel E.nG ρ' (over hK hL h) w' ∧ Ext ρ h w ρ' (over hK hL h) w' := by
  have hnx := leH_next hl
  have rK := r.le hl
  have hob : ∀ n o, (over hK hL h).obj n = some o → o ≠ .dead → hL.obj n = some o ∨ (hL.obj n = none ∧ hK.obj n = none ∧ h.obj n = some o) := by
    intro n o ho hd
    unfold over Heap.obj at ho
    simp only [] at ho
    rw [layT_get] at ho
    split at ho
    · rename_i a ha
      cases ho
      exact .inl ha
    · rename_i ha
      have hk := killT_some ho hd
      rw [killT_none hk] at ho
      exact .inr ⟨ha, hk, ho⟩
  have hlv : ∀ n, live (over hK hL h) n = true → live hL n = true ∨ (hK.obj n = none ∧ live h n = true) := by
    intro n hn
    obtain ⟨o, h1, h2⟩ := live_iff.1 hn
    rcases hob n o h1 h2 with h3 | ⟨_, h3, h4⟩
    · exact .inl (live_iff.2 ⟨o, h3, h2⟩)
    · exact .inr ⟨h3, live_iff.2 ⟨o, h4, h2⟩⟩
  have notK : ∀ m l, hK.obj m = none → live h m = true → ρ m = some l → ∀ n l', live hK n = true → ρ n = some l' → l'.b ≠ l.b := by
    intro m l hm hlm hρ n l' hn hρ' e
    have := r.inj n m l' l (leH_live hl hn) hlm hρ' hρ e
    subst this
    obtain ⟨o, h1, _⟩ := live_iff.1 hn
    rw [hm] at h1
    cases h1
  have mixed : ∀ n m l l', live hL n = true → hK.obj m = none → live h m = true → ρ' n = some l → ρ' m = some l' → l.b = l'.b → n = m := by
    intro n m l l' hn hm hlm h1 h2 h3
    obtain ⟨o, ho1, ho2⟩ := live_iff.1 hlm
    obtain ⟨lm, hρm, _⟩ := r.obj m o ho1 ho2
    have := x.le _ _ hρm
    rw [h2] at this
    cases this
    cases e : ρ n with
    | some ln =>
      have := x.le _ _ e
      rw [h1] at this
      cases this
      have hlt := (r.lt n l e).1
      have hKn := x.lives n (by rw [hnx]; exact hlt) hn
      exact absurd h3 (notK m l' hm hlm hρm n l hKn e)
    | none =>
      rcases (x.fresh n l h1 e).2 with h4 | ⟨m2, l0, h4, h5, h6⟩
      · have := (r.lt m l' hρm).2
        omega
      · exact absurd (h6.trans h3) (notK m l' hm hlm hρm m2 l0 h4 h5)
  refine ⟨⟨?_, ?_, fun n l hn => r'.lt n l hn, r'.glob, ?_, r'.globs⟩, ⟨x.le, by rw [← hnx]; exact x.next, ?_, ?_, x.size, ?_, x.kept⟩⟩
  · intro n o hn hd
    rcases hob n o hn hd with h1 | ⟨_, h1, h2⟩
    · exact r'.obj n o h1 hd
    · obtain ⟨l, g1, g2⟩ := r.obj n o h2 hd
      refine ⟨l, x.le _ _ g1, ?_⟩
      rw [x.frame l.b (r.lt n l g1).2 fun m lm hm hρm => notK n l h1 (live_iff.2 ⟨o, h2, hd⟩) g1 m lm hm hρm]
      exact g2.mono x.le
  · intro n m l l' hn hm h1 h2 h3
    rcases hlv n hn with a | ⟨a1, a2⟩
    · rcases hlv m hm with b | ⟨b1, b2⟩
      · exact r'.inj n m l l' a b h1 h2 h3
      · exact mixed n m l l' a b1 b2 h1 h2 h3
    · rcases hlv m hm with b | ⟨b1, b2⟩
      · exact (mixed m n l' l b a1 a2 h2 h1 h3.symm).symm
      · obtain ⟨o, ho1, ho2⟩ := live_iff.1 a2
        obtain ⟨ln, hρn, _⟩ := r.obj n o ho1 ho2
        obtain ⟨o', ho1', ho2'⟩ := live_iff.1 b2
        obtain ⟨lm, hρm, _⟩ := r.obj m o' ho1' ho2'
        have e1 := x.le _ _ hρn
        rw [h1] at e1
        cases e1
        have e2 := x.le _ _ hρm
        rw [h2] at e2
        cases e2
        exact r.inj n m l l' a2 b2 hρn hρm h3
  · intro n hn
    have hn' : hL.next ≤ n := hn
    have hx := x.next
    unfold over Heap.obj
    simp only []
    rw [layT_get]
    have h1 : hL.tr.get n = none := r'.fresh n hn'
    have h2 : hK.tr.get n = none := rK.fresh n (by omega)
    rw [h1]
    simp only []
    rw [killT_none h2]
    exact r.fresh n (by omega)
  · intro n hn hlive
    rcases hlv n hlive with a | ⟨_, a⟩
    · exact leH_live hl (x.lives n (by omega) a)
    · exact a
  · intro b hb hno
    exact x.frame b hb fun n l hn hρ => hno n l (leH_live hl hn) hρ
  · intro n l h1 h2
    obtain ⟨h3, h4⟩ := x.fresh n l h1 h2
    refine ⟨by omega, h4.imp id fun ⟨m, l0, h5, h6⟩ => ⟨m, l0, leH_live hl h5, h6⟩⟩

theorem tbl_ok (ok : EnvOK P E) {l : List Summ} (hl : ∀ s ∈ l, SummOK P E s) : CallOK P E (tblOf l) := by
  intro ρ h w fr ops i rest k o tm out e r hm ht ho hw hC hout hv
  have hnd : (∀ d, out ≠ .defer d) → fr.roundOf = none ∨ ∀ c, o.op ≠ .defer c := fun hno => .inr fun c hc => by
    rw [hc] at hC
    obtain ⟨d, hd⟩ := aopC_defer hC
    exact hno d hd
  unfold tblOf at hv
  cases out with
  | enter g args =>
    simp only [] at hv
    obtain ⟨args', g1, g2⟩ := hout
    have hst := fun cs => step_enter (cs := cs) hm ht ho hw (hnd (by intro d h; cases h)) g1
    induction l with
    | nil => cases hv
    | cons s l ih =>
      simp only [findS] at hv
      split at hv
      · rename_i hc
        cases hv
        simp only [Bool.and_eq_true, Nat.beq_eq] at hc
        obtain ⟨rfl, h2, h3⟩ := hc
        have := avsEq_eq' h2
        subst this
        obtain ⟨a, ha, hE⟩ := hl s (List.mem_cons_self ..)
        have hfr := (enter_ok ok g2 ha).1
        obtain ⟨ρ', x, w', q1, q2, q3, q4⟩ := hE ρ [_] w ⟨rfl, ⟨_, _, rfl, hfr, rfl⟩, r.le h3⟩
        obtain ⟨k1, k2⟩ := over_ok r h3 q2 q3
        exact ⟨ρ', x, w', q1, k1, k2, fun cs => .head (hst cs) (q4 fr cs)⟩
      · exact ih (fun s hs => hl s (List.mem_cons_of_mem _ hs)) hv
  | _ => cases hv

/-- The empty memory, but for the package-level variables' names. -/
def heap0 (nG : Nat) : Heap := ⟨.nil, nG, []⟩

def ren0 (nG : Nat) : Ren := fun g => if g < nG then some ⟨g, 0, 0, 0⟩ else none

theorem rel0 (hg : E.nG ≤ w.heap.size) : Rel E.nG (ren0 E.nG) (heap0 E.nG) w := by
  have hno : ∀ n, (heap0 E.nG).obj n = none := fun n => Tr.get_nil n
  refine ⟨fun n o hn => (by rw [hno] at hn; cases hn), fun n m l l' hn => ?_, fun n l hn => ?_, fun g hg' => ⟨⟨g, 0, 0, 0⟩, by simp [ren0, hg'], rfl, rfl⟩, fun n _ => hno n, Nat.le_refl _⟩
  · obtain ⟨o, h1, _⟩ := live_iff.1 hn
    rw [hno] at h1
    cases h1
  · unfold ren0 at hn
    split at hn
    · rename_i h1
      cases hn
      exact ⟨h1, by show n < _; omega⟩
    · cases hn

/-- A call that needs nothing of the memory, as a contract. -/
theorem calls_of (ok : EnvOK P E) (hg : E.nG ≤ w.heap.size) {g : FuncId} {args : List AV} {args' : Array Value} {a fE : AFrame} {hE : Heap} {v : AV} (ha : enterA E g args = some a) (hargs : RL (ren0 E.nG) args args'.toList)
    (hr : Reach P E ⟨[a], heap0 E.nG, none⟩ ⟨[fE], hE, none⟩) (h1 : fE.mode = .ret) (h2 : fE.ds = []) (h4 : fE.dfr = false) (h5 : fE.fn = g) (h6 : retA E hE fE = some v) :
    Calls P g args' w fun e w' => ∃ ρ' x, e = .returned x ∧ R ρ' v x ∧ Rel E.nG ρ' hE w' ∧ RowKit.Below w.heap.size w w' := by
  intro cs
  have r0 := rel0 (w := w) hg
  have hfr := (enter_ok (P := P) ok hargs ha).1
  obtain ⟨ρ', fs', w', s', x, p⟩ := hr _ [Frame.enter P g args' .normal] w ⟨rfl, ⟨_, _, rfl, hfr, rfl⟩, r0⟩
  obtain ⟨f, fs2, rfl, hf, hfs2⟩ := s'.frs
  simp only [FsR] at hfs2
  subst hfs2
  obtain ⟨fn, y, g1, g2, g3⟩ := retA_ok ok s'.rel hf h6
  have hfm : f.mode = .returning := by have := hf.mode; rw [h1] at this; exact this
  have hfd : f.defers = [] := by have := hf.ds; rw [h2] at this; exact this
  refine ⟨.returned y, w', f, ⟨ρ', y, rfl, g3, s'.rel, ?_⟩, p cs, by rw [hf.fn, h5], hfm, hfd, kindNorm hf h4, fn, g1, g2⟩
  refine ⟨x.kept.1, x.kept.2.1, x.kept.2.2, x.size, fun b hb => x.frame b hb fun n l hn => ?_⟩
  obtain ⟨o, ho, _⟩ := live_iff.1 hn
  rw [show ((⟨[a], heap0 E.nG, none⟩ : Cfg).h).obj n = none from Tr.get_nil n] at ho
  cases ho
end
end Go.Eng

/- The engine: the tables of a program. -/
namespace Go.Eng
section
variable {P : Program}

theorem tiOf_ok {t : TypeId} {i : TI} (h : tiOf P t = some i) : TIok P t i := by
  unfold tiOf at h
  split at h
  · rename_i ti d h1 h2
    split at h
    · rename_i z h3
      split at h
      · rename_i hc
        cases h
        simp only [Bool.and_eq_true, Nat.beq_eq, beq_iff_eq] at hc
        refine ⟨h2, ⟨ti, z, h1, rfl, rfl, rfl, h3, rfl, hc.1, fun ha => ?_, fun ha cs e => ?_⟩, ?_, rfl, rfl⟩
        · rw [show (isAggD d = true) from ha] at hc
          cases z <;> first | exact ⟨_, rfl⟩ | (have := hc.2; simp [isAggV] at this)
        · subst e
          rw [show (isAggD d = false) from ha] at hc
          have := hc.2
          simp [isAggV] at this
        · show isAggD d = _
          unfold isAggD
          cases d <;> rfl
      · cases h
    · cases h
  · cases h

theorem typesOf_get : ∀ {k t : Nat} {T : Tr TI} {u : Nat} {i : TI}, (typesOf P k t T).get u = some i → tiOf P u = some i ∨ T.get u = some i
  | 0, t, T, u, i, h => .inr h
  | k + 1, t, T, u, i, h => by
    simp only [typesOf] at h
    rcases typesOf_get h with h1 | h1
    · exact .inl h1
    · split at h1
      · rename_i j hj
        rw [Tr.get_set] at h1
        split at h1
        · rename_i e
          subst e
          cases h1
          exact .inl hj
        · exact .inr h1
      · exact .inr h1

theorem ofListGo_get {α : Type} : ∀ {l : List α} {i : Nat} {t : Tr α} {k : Nat} {a : α}, (Tr.ofListGo i l t).get k = some a → (i ≤ k ∧ l[k - i]? = some a) ∨ t.get k = some a
  | [], i, t, k, a, h => .inr h
  | b :: l, i, t, k, a, h => by
    simp only [Tr.ofListGo] at h
    rcases ofListGo_get h with ⟨h1, h2⟩ | h1
    · refine .inl ⟨by omega, ?_⟩
      rw [show k - i = (k - (i + 1)) + 1 from by omega]
      simpa using h2
    · rw [Tr.get_set] at h1
      split at h1
      · rename_i e
        subst e
        cases h1
        exact .inl ⟨Nat.le_refl _, by simp⟩
      · exact .inr h1

/-- The tables of a program serve. -/
theorem envOf_ok (hmx : P.follows .mixedOrders = true) (hng : (P.funcs.toList.all fun f => f.name != "runtime.NumGoroutine") = true) : EnvOK P (envOf P) := by
  have hF : ∀ f fn, (envOf P).F.get f = some fn → P.funcs[f]? = some fn := by
    intro f fn h
    rcases ofListGo_get h with ⟨_, h1⟩ | h1
    · rw [← Array.getElem?_toList]
      simpa using h1
    · rw [Tr.get_nil] at h1; cases h1
  refine ⟨fun t i h => ?_, hF, hmx, rfl, fun f fn h => ?_⟩
  · rcases typesOf_get h with h1 | h1
    · exact tiOf_ok h1
    · rw [Tr.get_nil] at h1; cases h1
  · have h1 := hF f fn h
    rw [← Array.getElem?_toList] at h1
    have := List.all_eq_true.1 hng fn (List.mem_of_getElem? h1)
    simpa using this

/-- A piece of a function's code, by the way to it. -/
def codeAt : List Nat → Code → Code
  | [], c => c
  | i :: l, c => match c with
    | .seq a b => match i with
      | 0 => codeAt l a
      | _ => codeAt l b
    | .cond _ a b => match i with
      | 0 => codeAt l a
      | _ => codeAt l b
    | .block _ a => codeAt l a
    | .loop a => codeAt l a
    | .scope a => codeAt l a
    | .rangeFunc _ _ a b => match i with
      | 0 => codeAt l a
      | _ => codeAt l b
    | c => c

def opsAt : Code → List Oper
  | .region _ ops _ => ops.toList
  | _ => []

def c0of (c : Cfg) : AFrame :=
  match c.fs with
  | a :: _ => a
  | [] => ⟨0, .nil, 0, [], [], .run, false, none⟩

variable {E : Env}
theorem sums_nil : ∀ s ∈ ([] : List Summ), SummOK P E s := fun s h => by cases h
theorem sums_cons {s : Summ} {l : List Summ} (h : SummOK P E s) (hl : ∀ x ∈ l, SummOK P E x) : ∀ x ∈ s :: l, SummOK P E x := by
  intro x hx
  rcases List.mem_cons.1 hx with rfl | hx
  · exact h
  · exact hl x hx
end
end Go.Eng

/- Laws: what a row asks, out of a run. -/
namespace Go.Eng
open Go

/-- As 'returnsInHanded_of_change_and', the world's shape handed on. -/
theorem returns_law {H : Type} {enc : TypeId × Value → H} {a : Assume} {C : Checked} {os : Os} {f : FuncId} {fn : Func} {s : ChangeSpec} {conds : List PathCond} {apart fresh handsOn again : Bool} {X : World → Array Value → Prop}
    (hX : ∀ (w w' : World) (args : Array Value), w.heap = w'.heap → X w args → X w' args)
    (own : ownKnob C.prog.godebug = none) (started : os.Started) (noInit : C.prog.inits.idxOf? f = none) (hfn : C.prog.funcs[f]? = some fn)
    (witness : ∃ (w : World) (tape : Tape) (i : Input), w.os = os ∧ (w.forCall tape i).Shaped C.prog ∧ i.vars = [] ∧ Input.okWide C.prog (w.forCall tape i) .any w.heap.size f i ∧
      ((s.pre enc C.prog fn conds apart (w.forCall tape i).memory i.args ∧ X (w.forCall tape i).memory i.args) ∧ sizedMet enc C.prog fn (OpenSpec.ofChange s) apart (w.forCall tape i).memory i.args) ∧ a.holds C.prog (lone (Frame.enter C.prog f i.args .normal) [] (w.forCall tape i)))
    (contract : ∀ (W : World) (base : Nat) (args : Array Value) (ds gs : List (DataW H)) (before : List MemPlace),
      W.ShapedOpen C.prog →
      (∀ (j : Nat) t v, fn.params[j]? = some t → args[j]? = some v → Value.okWide C.prog W .any base t v) →
      DataW.Whole enc C.prog fn.params.toList s.vars apart W args.toList ds gs before →
      (DataW.weightsEach C.prog (fn.params.toList ++ s.plain.varTypes C.prog) (ds ++ gs)).all (· ≤ reachBytes) = true → X W args →
      Calls C.prog f args W fun e W' => ∃ v, e = .returned v ∧ s.post enc C.prog fn apart fresh handsOn again W args v W') :
    ReturnsInHanded a C os f .any (fun w args => (s.pre enc C.prog fn conds apart w args ∧ X w args) ∧ sizedMet enc C.prog fn (OpenSpec.ofChange s) apart w args) (s.post enc C.prog fn apart fresh handsOn again) := by
  refine returnsInHanded_of_calls own started noInit witness ?_
  intro w tape i _ hsh _ hok hpre _
  obtain ⟨_, _, _, fn', hfn', _, _, _, _, hval⟩ := hok
  have e : fn' = fn := Option.some.inj (hfn'.symm.trans hfn)
  subst e
  obtain ⟨⟨⟨ds, gs, before, hw, _⟩, hx⟩, hz⟩ := hpre
  have hw' := DataW.Whole.of_heap (w' := w.forCall tape i) (by rfl) hw
  refine (contract (w.forCall tape i) w.heap.size i.args ds gs before hsh hval hw' (hz.weights hw) (hX _ _ _ (by rfl) hx)).mono fun e W' ⟨v, he, hp⟩ => ?_
  subst he
  exact ChangeSpec.post_blind hp

/-- The package-level variables' blocks are there. -/
theorem room_of {P : Program} {w : World} (h : w.ShapedOpen P) (hlt : P.globals.size < (begin P (fun _ _ => 0) default).world.heap.size) : P.globals.size ≤ w.heap.size := by
  obtain ⟨o, _, h1, _⟩ := h.2 P.globals.size (Nat.le_refl _) hlt
  rcases Nat.lt_or_ge P.globals.size w.heap.size with h2 | h2
  · omega
  · rw [Array.getElem?_eq_none h2] at h1; cases h1

/-- The arguments read behind a call as they did, if below nothing has turned. -/
theorem trodAll_below {H : Type} {enc : TypeId × Value → H} {P : Program} (hl : laidOutB P = true) {W W' : World} (hb : RowKit.Below W.heap.size W W') :
    ∀ {ts : List TypeId} {vs : List Value} {ds : List (DataW H)} {ps : List MemPlace}, (ts.all fun t => P.readableRec t && decide (t < P.types.size)) = true → DataW.TrodAll enc P W 0 (fun _ => true) true ts vs ds ps → (∀ x ∈ ps, x.block < W.heap.size) →
      DataW.TrodAll enc P W' 0 (fun b => decide (b < W.heap.size)) true ts vs ds ps
  | [], vs, ds, ps, _, h, _ => by
    cases vs <;> cases ds <;> simp_all [DataW.TrodAll]
  | t :: ts, [], ds, ps, _, h, _ => by simp [DataW.TrodAll] at h
  | t :: ts, v :: vs, [], ps, _, h, _ => by simp [DataW.TrodAll] at h
  | t :: ts, v :: vs, d :: ds, ps, ht, h, hlt => by
    obtain ⟨p, q, h1, h2, rfl⟩ := h
    simp only [List.all_cons, Bool.and_eq_true, decide_eq_true_eq] at ht
    exact ⟨p, q, RowKit.Below.trod hl ht.1.1 ht.1.2 h1 hb fun x hx => hlt x (List.mem_append_left _ hx), trodAll_below hl hb ht.2 h2 fun x hx => hlt x (List.mem_append_right _ hx), rfl⟩
end Go.Eng

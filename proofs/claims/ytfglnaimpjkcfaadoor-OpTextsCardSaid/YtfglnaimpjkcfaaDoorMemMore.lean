/-
  PROVED HERE: append of any slice onto a row of the call's own, telling where the new row lies.
  CONDITIONS: each lemma names its own.
-/
import Derived.Test.YtfglnaimpjkcfaaDoorMem
import Derived.Maps.AppendAt
namespace Go.Proofs.YtfglnaimpjkcfaaDoor.mem
set_option linter.unusedVariables false
open Go.RowKit Go.Proofs.YtfglnaimpjkcfaaDoor.base Go.Proofs.YtfglnaimpjkcfaaDoor.obj

theorem app_at {P : Program} {t e size bytes : Nat} (T : SlT P t e size bytes) {ops : Array Oper} {rest : List Oper} {o : Oper} {a : Act} {Q : Exit → Act → World → Prop} {w : World} (hgd : o.guard = none) (s x : Operand)
    (ho : o.op = .call { callee := .builtin .append, args := #[s, x], argTypes := #[t, t] })
    {base : Nat} {v : Value} {n : Nat} {xs : List Value} (hown : w.ownsRow base e size v n xs) (hs : a.eval s = v) {B m c : Nat} {A : Option Addr} {ys : List Value} (hx : a.eval x = .slice A m c) (hA : A = none → c = 0)
    (hr : Sl w B size A m ys) (h1 : ∀ u ∈ ys, u.oneCell' = true) (hb : (n + m) * bytes ≤ 140737488355328) (h63 : n + m ≤ maxLen) (hbase : base ≤ w.heap.size)
    (h : ∀ v' w', w'.ownsRow base e size v' (n + m) (xs ++ ys) → w.grownBy w' v.ownBlock → (∀ g, v'.ownBlock = some g → v.ownBlock = some g ∨ w.heap.size ≤ g) → wpList P ops Q rest (a.put o.dst v') w') :
    wpList P ops Q (o :: rest) a w := by
  obtain ⟨i, z, hi, hz, h2, h3, h4⟩ := T.hi
  rcases A with _ | ad
  · have hm : m = 0 := by
      rcases Nat.eq_zero_or_pos m with h0 | h0
      · exact h0
      · obtain ⟨b, off, h, _⟩ := hr.2 h0
        cases h
    subst hm
    obtain rfl : ys = [] := List.eq_nil_of_length_eq_zero (by simpa using hr.1)
    rw [hA rfl] at hx
    refine wpList_append_own_none hgd s x t ho base e i size T.ht hi v n xs hs hown hx ?_
    exact h v w (by simpa using hown) (World.grownBy.refl w _) fun g hg => .inl hg
  · refine wpList_append_own_at _ hgd s x t ho base e i z size bytes T.ht hi hz h2 h3 h4 T.hs v n xs hs hown ad m c ys hx hr.1 ?_ h1 h63 hb hbase fun v' w' hown' hg _ hloc => h v' w' hown' hg fun g hg2 => ?_
    · intro j u hu
      have hm : 0 < m := by
        rcases Nat.eq_zero_or_pos m with h0 | h0
        · subst h0
          have hn : ys = [] := List.eq_nil_of_length_eq_zero (by simpa using hr.1)
          subst hn
          simp at hu
        · exact h0
      obtain ⟨b, off, he, _, hc⟩ := hr.2 hm
      injection he with he
      subst he
      have hadd : (⟨b, off, none⟩ : Addr).add j = ⟨b, off + j, none⟩ := by unfold Addr.add; split <;> simp_all
      rw [hadd]
      exact hc j u hu
    · rcases hloc with h5 | h5
      · exact .inl (by rw [← h5]; exact hg2)
      · rw [h5] at hg2
        injection hg2 with hg2
        exact .inr (by omega)
end Go.Proofs.YtfglnaimpjkcfaaDoor.mem


/- Sorted lists of dominoes: the plain law of inserting. No program here. -/
import Derived.Test.YtokihekhelbijaaBase
namespace Go.Proofs.Ytokihekhelbijaa

def Dom.ord (d : Dom) : Int := 2 * (8 * d.y + d.x) + (if d.d then 1 else 0)
def Dom.valid (d : Dom) : Prop := 0 ≤ d.x ∧ d.x ≤ 7 ∧ 0 ≤ d.y ∧ d.y ≤ 7
theorem ord_inj {a b : Dom} (ha : a.valid) (hb : b.valid) (h : a.ord = b.ord) : a = b := by
  obtain ⟨ax, ay, ad⟩ := a
  obtain ⟨bx, by', bd⟩ := b
  simp only [Dom.valid, Dom.ord] at *
  cases ad <;> cases bd <;> simp at h ⊢ <;> omega
def insD (out : List Dom) (d : Dom) : List Dom := out.filter (fun e => decide (e.ord < d.ord)) ++ d :: out.filter (fun e => decide (d.ord < e.ord))
def SS (l : List Dom) : Prop := l.Pairwise (fun a b => a.ord < b.ord)
theorem SS_nil : SS [] := List.Pairwise.nil
theorem insD_SS {l : List Dom} (h : SS l) (d : Dom) : SS (insD l d) := by
  unfold SS insD
  rw [List.pairwise_append]
  refine ⟨h.filter _, ?_, ?_⟩
  · rw [List.pairwise_cons]
    refine ⟨fun e he => ?_, h.filter _⟩
    simpa using (List.mem_filter.1 he).2
  · intro a ha b hb
    have h1 : a.ord < d.ord := by simpa using (List.mem_filter.1 ha).2
    rcases List.mem_cons.1 hb with rfl | hb
    · exact h1
    · have h2 : d.ord < b.ord := by simpa using (List.mem_filter.1 hb).2
      omega
theorem insD_valid {l : List Dom} (h : ∀ e ∈ l, e.valid) {d : Dom} (hd : d.valid) : ∀ e ∈ insD l d, e.valid := by
  intro e he
  unfold insD at he
  rcases List.mem_append.1 he with he | he
  · exact h e (List.mem_filter.1 he).1
  · rcases List.mem_cons.1 he with rfl | he
    · exact hd
    · exact h e (List.mem_filter.1 he).1
def sortBy (ok : Dom → Bool) (l : List Dom) : List Dom := (l.filter ok).foldl insD []
theorem foldl_ins {l out : List Dom} (h : SS out) (hv : ∀ e ∈ out, e.valid) (hl : ∀ e ∈ l, e.valid) : SS (l.foldl insD out) ∧ ∀ e ∈ l.foldl insD out, e.valid := by
  induction l generalizing out with
  | nil => exact ⟨h, hv⟩
  | cons a l ih => exact ih (insD_SS h a) (insD_valid hv (hl a (by simp))) (fun e he => hl e (by simp [he]))
theorem sortBy_SS {ok : Dom → Bool} (hok : ∀ d, ok d = true → d.valid) (l : List Dom) : SS (sortBy ok l) ∧ ∀ e ∈ sortBy ok l, e.valid :=
  foldl_ins SS_nil (by simp) (fun e he => hok e (List.mem_filter.1 he).2)
theorem sortBy_ok {ok : Dom → Bool} (l : List Dom) : ∀ e ∈ sortBy ok l, ok e = true := by
  have h : ∀ (l out : List Dom), (∀ e ∈ out, ok e = true) → (∀ e ∈ l, ok e = true) → ∀ e ∈ l.foldl insD out, ok e = true := by
    intro l
    induction l with
    | nil => intro out h _; exact h
    | cons a l ih =>
      intro out h1 h2
      refine ih _ (fun e he => ?_) (fun e he => h2 e (by simp [he]))
      unfold insD at he
      rcases List.mem_append.1 he with he | he
      · exact h1 e (List.mem_filter.1 he).1
      · rcases List.mem_cons.1 he with rfl | he
        · exact h2 _ (by simp)
        · exact h1 e (List.mem_filter.1 he).1
  exact h _ [] (by simp) (fun e he => (List.mem_filter.1 he).2)
end Go.Proofs.Ytokihekhelbijaa

/-
  What an operation's reckoning says is what the machine does: all operations; regions; code; calls. No statement is proved here.
-/
import Derived.Test.YtkkfiadefekbbaaDs8
namespace Go.Proofs.Ytkkfiadefekbbaa
open Go.RowKit
set_option linter.unusedSimpArgs false
set_option linter.unusedVariables false

section
variable {P : Program} {seq : Bool} {o : Oper} {env : Env} {H : List AObj} {K : Cont}
/-- Every operation. -/
theorem step_sound {p : POp} (hc : cop P o = some p) (h : step P seq p env H K) : Sound P o env H K ∨ (seq = true ∧ SoundSeq P o env H K) := by
  unfold cop at hc
  split at hc
  · rename_i x ho; cases hc; exact .inl (s_move (.inl ho) h)
  · rename_i x ho; cases hc; exact .inl (s_move (.inr ho) h)
  · rename_i c a b ho; cases hc; exact .inl (s_pick ho h)
  · rename_i t ho
    split at hc
    · rename_i z hz
      split at hc
      · rename_i hone; cases hc; exact .inl (s_alloc hz hone ho h)
      · cases hc
    · cases hc
  · rename_i t x ho; cases hc; exact .inl (s_box ho h)
  · rename_i t parts ho
    split at hc
    · rename_i z fs hz hu
      split at hc
      · rename_i places hp
        cases e : placeParts (places.toArray[·]?) parts.toList with
        | none => rw [e] at hc; cases hc
        | some l' =>
          rw [e] at hc; cases hc
          refine .inl (s_build_of hz (fun l cells hf => ?_) e ho h)
          unfold Program.built
          cases hi : P.info? t with
          | none => rw [hi] at hz; cases hz
          | some it =>
            have hz' : it.zero = some z := by simpa [hi] using hz
            simp only [hu, hz', hp]
            exact hf
      · cases hc
    · rename_i z n e hz hu
      split at hc
      · rename_i ie hie
        cases e' : placeParts (fun i => some (i * ie.size, ie.size)) parts.toList with
        | none => rw [e'] at hc; cases hc
        | some l' =>
          rw [e'] at hc; cases hc
          refine .inl (s_build_of hz (fun l cells hf => ?_) e' ho h)
          unfold Program.built
          cases hi : P.info? t with
          | none => rw [hi] at hz; cases hz
          | some it =>
            have hz' : it.zero = some z := by simpa [hi] using hz
            simp only [hu, hz', hie]
            exact hf
      · cases hc
    · cases hc
  · rename_i t n parts ho
    split at hc
    · rename_i e ht
      split at hc
      · rename_i z hz
        split at hc
        · rename_i hq
          cases e' : inOrder 0 parts.toList with
          | none => rw [e'] at hc; cases hc
          | some xs => rw [e'] at hc; cases hc; exact .inl (s_bslice ht hz hq.1 hq.2 e' ho h)
        · cases hc
      · cases hc
    · cases hc
  · rename_i t x ho
    split at hc
    · rename_i ht; cases hc; exact .inl (s_loadA ht ho h)
    · rename_i ht; cases hc; exact .inl (s_load1 ht ho h)
    · cases hc
  · rename_i t x y ho
    split at hc
    · cases hc
    · rename_i hz; cases hc; exact .inl (s_store hz ho h)
  · rename_i x ho; cases hc; exact .inl (s_nilchk ho h)
  · rename_i op t x y yt ho
    split at hc
    · cases hc; exact .inl (s_bin ho h)
    · split at hc
      · split at hc
        · rename_i hb
          cases hc
          refine .inl (s_eqb (op := .eql) rfl ?_ ho h)
          unfold isBoolT at hb
          split at hb
          · assumption
          · cases hb
        · cases e : nilKind P t y with
          | none => rw [e] at hc; cases hc
          | some k => rw [e] at hc; cases hc; exact .inl (s_isnil (op := .eql) rfl e ho h)
      · split at hc
        · rename_i hb
          cases hc
          refine .inl (s_eqb (op := .neq) rfl ?_ ho h)
          unfold isBoolT at hb
          split at hb
          · assumption
          · cases hb
        · cases e : nilKind P t y with
          | none => rw [e] at hc; cases hc
          | some k => rw [e] at hc; cases hc; exact .inl (s_isnil (op := .neq) rfl e ho h)
      · cases hc
  · rename_i op t x ho; cases hc; exact .inl (s_un ho h)
  · rename_i x i ho; cases hc; exact .inl (s_ext ho h)
  · rename_i s x f ho
    split at hc
    · rename_i fs hs
      split at hc
      · rename_i fd hf
        split at hc
        · cases hc
        · rename_i hz; cases hc; exact .inl (s_faddr hs hf hz ho h)
      · cases hc
    · cases hc
  · rename_i s x f ho
    split at hc
    · rename_i fs hs
      split at hc
      · rename_i fd hf
        split at hc
        · rename_i ag hag; cases hc; exact .inl (s_field hs hf hag ho h)
        · cases hc
      · cases hc
    · cases hc
  · rename_i t x i ho
    split at hc
    · rename_i e ht
      split at hc
      · cases hc
      · rename_i hz; cases hc; exact .inl (s_iaddr ht hz ho h)
    · rename_i n e ht
      split at hc
      · cases hc
      · rename_i hz; cases hc; exact .inl (s_aaddr ht hz ho h)
    · cases hc
  · rename_i t x i ho
    split at hc
    · rename_i ht; cases hc; exact .inl (s_sidx ht ho h)
    · cases hc
  · rename_i f first cap ho; cases hc; exact .inl (s_mkfn ho h)
  · rename_i t l c ho
    split at hc
    · rename_i e ht
      split at hc
      · rename_i z hz
        split at hc
        · rename_i hq; cases hc; exact .inl (s_mslice ht hz hq.1 hq.2.1 hq.2.2.1 hq.2.2.2 ho h)
        · cases hc
      · cases hc
    · cases hc
  · rename_i t x lo hi mx ho
    split at hc
    · rename_i e ht
      split at hc
      · rename_i hz; cases hc; exact .inl (s_slc ht hz ho h)
      · cases hc
    · rename_i ht
      split at hc
      · cases hc; exact .inl (s_sslc ht ho h)
      · cases hc
    · cases hc
  · rename_i args ts ho
    split at hc
    · rename_i x t ha hts
      split at hc
      · rename_i e ht; cases hc; exact .inl (s_len ha hts ht ho h)
      · rename_i ht; cases hc; exact .inl (s_slen ha hts ht ho h)
      · cases hc
    · cases hc
  · rename_i args ts ho
    split at hc
    · rename_i x y t u ha hts
      split at hc
      · rename_i e e' ht hu
        split at hc
        · rename_i z hz
          split at hc
          · rename_i hq; cases hc; exact .inl (s_append ha hts ht hu hz hq.1 hq.2.1 hq.2.2 ho h)
          · cases hc
        · cases hc
      · cases hc
    · cases hc
  · rename_i f args ts ho
    split at hc
    · split at hc
      · cases hc
      · cases hc; exact s_call ho h
    · cases hc
  · rename_i x args ts _ ho; cases hc; exact s_callv ho h
  · rename_i t x ho
    split at hc
    · cases hc
    · rename_i d hd ht
      cases hc
      exact .inl (s_mkif (fun ms e => by rw [e] at ht; cases ht; exact hd _ rfl) (fun e => by rw [e] at ht; cases ht) ho h)
    · cases hc
  · cases hc
end
end Go.Proofs.Ytkkfiadefekbbaa

/- A part of the walk: contracts of functions that the statement reaches. -/
import Derived.Test.YtlldeiikcfaegaaGreatAbsC
import Derived.Test.YtlldeiikcfaegaaGreatD1
set_option linter.unusedSimpArgs false
set_option linter.unusedVariables false
set_option linter.unnecessarySimpa false
set_option maxRecDepth 100000
set_option maxHeartbeats 2000000
set_option linter.unusedSimpArgs false
set_option linter.unusedVariables false
namespace Go.Abs
open Go.Proofs
open Api

theorem s_slices_Clone_Vec (l : List Vec) (hl : l.length ≤ 1048576) : CallsA Tryz.prog F_slices_Clone_Vec [encD 2 Vec.enc default l] [] (.sl 1 0 l.length l.length) [(1, .arr 2 (encQ Vec.enc default l))] := by
  by_cases hn : l = []
  · subst hn
    refine CallsA.nil_split (g := encAt Vec.enc default ([] : List Vec)) [] [] ?_ (fun a c => ?_)
    · refine callsIO_of (rs := [_]) hm Tryz.func314 (by kernel_rfl) (by kernel_rfl) is_slices_Clone_Vec (by kernel_rfl : tmpsOf Tryz.f314.results.toList = some [2]) (by decide) (by kernel_rfl) ?_
      simp only [c_slices_Clone_Vec, go_sem]
      refine retW_of [.adopt] [] [1] rfl rfl (by simp) (by simp) (by simp) ?_
      simp only [go_sem]
    · refine callsIO_of (rs := [_]) hm Tryz.func314 (by kernel_rfl) (by kernel_rfl) is_slices_Clone_Vec (by kernel_rfl : tmpsOf Tryz.f314.results.toList = some [2]) (by decide) (by kernel_rfl) ?_
      simp only [c_slices_Clone_Vec, go_sem]
      refine ⟨by simp [maxLen], ?_⟩
      refine retW_of [.share] [(1, 96)] [] rfl rfl (by simp) (by simp) (by simp) ?_
      simp only [go_sem]
      exact ⟨rfl, rfl, fun i hi => absurd hi (by simp)⟩
  · have hpos : 0 < l.length := List.length_pos_iff.2 hn
    refine callsIO_of (rs := [_]) hm Tryz.func314 (by kernel_rfl) (by kernel_rfl) is_slices_Clone_Vec (by kernel_rfl : tmpsOf Tryz.f314.results.toList = some [2]) (by decide) (by kernel_rfl) ?_
    simp only [c_slices_Clone_Vec, go_sem]
    refine ⟨hpos, ⟨by omega, by simp only [maxLen]; omega⟩, ?_⟩
    refine retW_of [.share] [(1, 96)] [] rfl rfl (by simp) (by simp) (by simp) ?_
    simp only [go_sem]

theorem s_slices_Clone_ContactPoint (l : List ContactPoint) (hl : l.length ≤ 1048576) : CallsA Tryz.prog F_slices_Clone_ContactPoint [encD 6 ContactPoint.enc default l] [] (.sl 1 0 l.length l.length) [(1, .arr 6 (encQ ContactPoint.enc default l))] := by
  by_cases hn : l = []
  · subst hn
    refine CallsA.nil_split (g := encAt ContactPoint.enc default ([] : List ContactPoint)) [] [] ?_ (fun a c => ?_)
    · refine callsIO_of (rs := [_]) hm Tryz.func291 (by kernel_rfl) (by kernel_rfl) is_slices_Clone_ContactPoint (by kernel_rfl : tmpsOf Tryz.f291.results.toList = some [2]) (by decide) (by kernel_rfl) ?_
      simp only [c_slices_Clone_ContactPoint, go_sem]
      refine retW_of [.adopt] [] [1] rfl rfl (by simp) (by simp) (by simp) ?_
      simp only [go_sem]
    · refine callsIO_of (rs := [_]) hm Tryz.func291 (by kernel_rfl) (by kernel_rfl) is_slices_Clone_ContactPoint (by kernel_rfl : tmpsOf Tryz.f291.results.toList = some [2]) (by decide) (by kernel_rfl) ?_
      simp only [c_slices_Clone_ContactPoint, go_sem]
      refine ⟨by simp [maxLen], ?_⟩
      refine retW_of [.share] [(1, 96)] [] rfl rfl (by simp) (by simp) (by simp) ?_
      simp only [go_sem]
      exact ⟨rfl, rfl, fun i hi => absurd hi (by simp)⟩
  · have hpos : 0 < l.length := List.length_pos_iff.2 hn
    refine callsIO_of (rs := [_]) hm Tryz.func291 (by kernel_rfl) (by kernel_rfl) is_slices_Clone_ContactPoint (by kernel_rfl : tmpsOf Tryz.f291.results.toList = some [2]) (by decide) (by kernel_rfl) ?_
    simp only [c_slices_Clone_ContactPoint, go_sem]
    refine ⟨hpos, ⟨by omega, by simp only [maxLen]; omega⟩, ?_⟩
    refine retW_of [.share] [(1, 96)] [] rfl rfl (by simp) (by simp) (by simp) ?_
    simp only [go_sem]

theorem s_slices_Clone_Body (l : List Body) (hl : l.length ≤ 1048576) : CallsA Tryz.prog F_slices_Clone_Body [encD 20 Body.enc default l] [] (.sl 1 0 l.length l.length) [(1, .arr 20 (encQ Body.enc default l))] := by
  by_cases hn : l = []
  · subst hn
    refine CallsA.nil_split (g := encAt Body.enc default ([] : List Body)) [] [] ?_ (fun a c => ?_)
    · refine callsIO_of (rs := [_]) hm Tryz.func250 (by kernel_rfl) (by kernel_rfl) is_slices_Clone_Body (by kernel_rfl : tmpsOf Tryz.f250.results.toList = some [2]) (by decide) (by kernel_rfl) ?_
      simp only [c_slices_Clone_Body, go_sem]
      refine retW_of [.adopt] [] [1] rfl rfl (by simp) (by simp) (by simp) ?_
      simp only [go_sem]
    · refine callsIO_of (rs := [_]) hm Tryz.func250 (by kernel_rfl) (by kernel_rfl) is_slices_Clone_Body (by kernel_rfl : tmpsOf Tryz.f250.results.toList = some [2]) (by decide) (by kernel_rfl) ?_
      simp only [c_slices_Clone_Body, go_sem]
      refine ⟨by simp [maxLen], ?_⟩
      refine retW_of [.share] [(1, 96)] [] rfl rfl (by simp) (by simp) (by simp) ?_
      simp only [go_sem]
      exact ⟨rfl, rfl, fun i hi => absurd hi (by simp)⟩
  · have hpos : 0 < l.length := List.length_pos_iff.2 hn
    refine callsIO_of (rs := [_]) hm Tryz.func250 (by kernel_rfl) (by kernel_rfl) is_slices_Clone_Body (by kernel_rfl : tmpsOf Tryz.f250.results.toList = some [2]) (by decide) (by kernel_rfl) ?_
    simp only [c_slices_Clone_Body, go_sem]
    refine ⟨hpos, ⟨by omega, by simp only [maxLen]; omega⟩, ?_⟩
    refine retW_of [.share] [(1, 96)] [] rfl rfl (by simp) (by simp) (by simp) ?_
    simp only [go_sem]

theorem s_slices_Clone_Joint (l : List Joint) (hl : l.length ≤ 1048576) : CallsA Tryz.prog F_slices_Clone_Joint [encD 24 Joint.enc default l] [] (.sl 1 0 l.length l.length) [(1, .arr 24 (encQ Joint.enc default l))] := by
  by_cases hn : l = []
  · subst hn
    refine CallsA.nil_split (g := encAt Joint.enc default ([] : List Joint)) [] [] ?_ (fun a c => ?_)
    · refine callsIO_of (rs := [_]) hm Tryz.func251 (by kernel_rfl) (by kernel_rfl) is_slices_Clone_Joint (by kernel_rfl : tmpsOf Tryz.f251.results.toList = some [2]) (by decide) (by kernel_rfl) ?_
      simp only [c_slices_Clone_Joint, go_sem]
      refine retW_of [.adopt] [] [1] rfl rfl (by simp) (by simp) (by simp) ?_
      simp only [go_sem]
    · refine callsIO_of (rs := [_]) hm Tryz.func251 (by kernel_rfl) (by kernel_rfl) is_slices_Clone_Joint (by kernel_rfl : tmpsOf Tryz.f251.results.toList = some [2]) (by decide) (by kernel_rfl) ?_
      simp only [c_slices_Clone_Joint, go_sem]
      refine ⟨by simp [maxLen], ?_⟩
      refine retW_of [.share] [(1, 96)] [] rfl rfl (by simp) (by simp) (by simp) ?_
      simp only [go_sem]
      exact ⟨rfl, rfl, fun i hi => absurd hi (by simp)⟩
  · have hpos : 0 < l.length := List.length_pos_iff.2 hn
    refine callsIO_of (rs := [_]) hm Tryz.func251 (by kernel_rfl) (by kernel_rfl) is_slices_Clone_Joint (by kernel_rfl : tmpsOf Tryz.f251.results.toList = some [2]) (by decide) (by kernel_rfl) ?_
    simp only [c_slices_Clone_Joint, go_sem]
    refine ⟨hpos, ⟨by omega, by simp only [maxLen]; omega⟩, ?_⟩
    refine retW_of [.share] [(1, 96)] [] rfl rfl (by simp) (by simp) (by simp) ?_
    simp only [go_sem]

theorem s_slices_Clone_Contact (l : List Contact) (hl : l.length ≤ 1048576) : CallsA Tryz.prog F_slices_Clone_Contact [encD 7 Contact.enc default l] [] (.sl 1 0 l.length l.length) [(1, .arr 7 (encQ Contact.enc default l))] := by
  by_cases hn : l = []
  · subst hn
    refine CallsA.nil_split (g := encAt Contact.enc default ([] : List Contact)) [] [] ?_ (fun a c => ?_)
    · refine callsIO_of (rs := [_]) hm Tryz.func252 (by kernel_rfl) (by kernel_rfl) is_slices_Clone_Contact (by kernel_rfl : tmpsOf Tryz.f252.results.toList = some [2]) (by decide) (by kernel_rfl) ?_
      simp only [c_slices_Clone_Contact, go_sem]
      refine retW_of [.adopt] [] [1] rfl rfl (by simp) (by simp) (by simp) ?_
      simp only [go_sem]
    · refine callsIO_of (rs := [_]) hm Tryz.func252 (by kernel_rfl) (by kernel_rfl) is_slices_Clone_Contact (by kernel_rfl : tmpsOf Tryz.f252.results.toList = some [2]) (by decide) (by kernel_rfl) ?_
      simp only [c_slices_Clone_Contact, go_sem]
      refine ⟨by simp [maxLen], ?_⟩
      refine retW_of [.share] [(1, 96)] [] rfl rfl (by simp) (by simp) (by simp) ?_
      simp only [go_sem]
      exact ⟨rfl, rfl, fun i hi => absurd hi (by simp)⟩
  · have hpos : 0 < l.length := List.length_pos_iff.2 hn
    refine callsIO_of (rs := [_]) hm Tryz.func252 (by kernel_rfl) (by kernel_rfl) is_slices_Clone_Contact (by kernel_rfl : tmpsOf Tryz.f252.results.toList = some [2]) (by decide) (by kernel_rfl) ?_
    simp only [c_slices_Clone_Contact, go_sem]
    refine ⟨hpos, ⟨by omega, by simp only [maxLen]; omega⟩, ?_⟩
    refine retW_of [.share] [(1, 96)] [] rfl rfl (by simp) (by simp) (by simp) ?_
    simp only [go_sem]

theorem s_slices_Clone_PairKey (l : List PairKey) (hl : l.length ≤ 1048576) : CallsA Tryz.prog F_slices_Clone_PairKey [encD 4 PairKey.enc default l] [] (.sl 1 0 l.length l.length) [(1, .arr 4 (encQ PairKey.enc default l))] := by
  by_cases hn : l = []
  · subst hn
    refine CallsA.nil_split (g := encAt PairKey.enc default ([] : List PairKey)) [] [] ?_ (fun a c => ?_)
    · refine callsIO_of (rs := [_]) hm Tryz.func253 (by kernel_rfl) (by kernel_rfl) is_slices_Clone_PairKey (by kernel_rfl : tmpsOf Tryz.f253.results.toList = some [2]) (by decide) (by kernel_rfl) ?_
      simp only [c_slices_Clone_PairKey, go_sem]
      refine retW_of [.adopt] [] [1] rfl rfl (by simp) (by simp) (by simp) ?_
      simp only [go_sem]
    · refine callsIO_of (rs := [_]) hm Tryz.func253 (by kernel_rfl) (by kernel_rfl) is_slices_Clone_PairKey (by kernel_rfl : tmpsOf Tryz.f253.results.toList = some [2]) (by decide) (by kernel_rfl) ?_
      simp only [c_slices_Clone_PairKey, go_sem]
      refine ⟨by simp [maxLen], ?_⟩
      refine retW_of [.share] [(1, 96)] [] rfl rfl (by simp) (by simp) (by simp) ?_
      simp only [go_sem]
      exact ⟨rfl, rfl, fun i hi => absurd hi (by simp)⟩
  · have hpos : 0 < l.length := List.length_pos_iff.2 hn
    refine callsIO_of (rs := [_]) hm Tryz.func253 (by kernel_rfl) (by kernel_rfl) is_slices_Clone_PairKey (by kernel_rfl : tmpsOf Tryz.f253.results.toList = some [2]) (by decide) (by kernel_rfl) ?_
    simp only [c_slices_Clone_PairKey, go_sem]
    refine ⟨hpos, ⟨by omega, by simp only [maxLen]; omega⟩, ?_⟩
    refine retW_of [.share] [(1, 96)] [] rfl rfl (by simp) (by simp) (by simp) ?_
    simp only [go_sem]

end Go.Abs

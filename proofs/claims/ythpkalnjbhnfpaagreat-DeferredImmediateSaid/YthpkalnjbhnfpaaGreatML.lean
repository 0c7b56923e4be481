/- A part of the proof: contracts of functions that the statement reaches. -/
import Derived.Test.YthpkalnjbhnfpaaGreatMK
set_option linter.unusedSimpArgs false
set_option linter.unusedVariables false
set_option linter.unnecessarySimpa false
set_option maxRecDepth 100000
set_option maxHeartbeats 2000000
section
namespace Go.Abs
open Go.Proofs
open Api
theorem B21(r:Request):A5 Tryz.prog C4p [.agg r.enc] [] (.agg r.enc) []:=by refine P7 14 [(2,some (some 55))] hm A1 Tryz.func10 rfl ?_;simp only[go_sem,go_sem_proc]
theorem B1w(x:A1q):A5 Tryz.prog C39 [.agg x.enc] [] (.agg x.enc) []:=by refine P7 14 [(2,some (some 11))] hm A1 Tryz.func13 rfl ?_;simp only[go_sem,go_sem_proc]
theorem C41(l:List Int)(hl:l.length≤1000000):A5 Tryz.prog C4s [B4 1 K4 0 l,B4 1 K4 0 l] [] (.sc (.bool true)) []:=by
 refine en1 hm A1 Tryz.func40 rfl rfl ?_;simp only[go_sem,go_sem_proc];rw[if_neg (by simp)];refine C6 hm (ι:= {k:Nat // k≤l.length}) (fun k=> [(0, .share,B4 1 K4 0 l),(1, .share,B4 1 K4 0 l),(5, .share, .sc (.int .i64 (k.1:Nat)))]) (fun _=> []) (fun k=>l.length-k.1) ⟨0,Nat.zero_le _⟩ ?_ ?_
 ·refine B3 [] [] (by simp) (by simp[A9]) (by simp) ?_;simp only[go_sem,go_sem_proc]
 ·rintro⟨k,hk⟩;simp only[go_sem,go_sem_proc];by_cases h:k<l.length
  ·rw[if_pos (by rw[if_pos (by omega)];exact decide_eq_true (by omega))];refine⟨⟨by omega,by omega⟩,⟨by omega,by omega⟩,?_⟩;rw[if_neg (by simp)];refine B8 ⟨k+1,h⟩ (by show l.length-(k+1)<l.length-k;omega) (B3 [] [] (by simp) (by simp[A9]) (by simp) ?_);simp only[go_sem,go_sem_proc];exact(by rw[IntKind.wrap_i64];omega)
  ·rw[if_neg (by rw[if_neg (by omega)];simp)];trivial
theorem B8e(x:A1q)(hl:x.Bodies.length≤1000000):A5 Tryz.prog B8b [.agg x.enc, .agg x.enc] [] (.sc (.bool true)) []:=by
 refine en1 hm A1 Tryz.func12 rfl rfl ?_;simp only[go_sem,go_sem_proc];have e: ∀z:Int,(z==z)=true:=fun z=>by simp
 have e2: ∀z:Bool,(z==z)=true:=fun z=>by simp
 simp only[e,e2,Bool.and_self];refine A0 (C41 x.Bodies hl) rfl ?_;simp only[go_sem,go_sem_proc,e,e2]
theorem A1v(ρ:Nat→Nat)(w:Api.World):A5j ρ (A09 w)=A09 w:=by simp[A09,A5j,AV.ren,B4]
theorem A1u(w:Api.World):C9 (A09 w)= []:=by simp[A09,C9,AV.ids,B4]
theorem B1m(w:Api.World)(r:Request):A5 Tryz.prog B1a [.agg w.enc, .agg r.enc] [] (.sc (.bool true)) []:=by
 obtain⟨b,hb,hS⟩:=C9c w r;have hS':A5 Tryz.prog B7s [.agg w.enc,B4 55 Request.enc default [r]] [] (.sc (.bool b)) []:=hS;cases b with
 |false=>refine en1 hm A1 Tryz.func3 rfl rfl ?_;simp only[go_sem,go_sem_proc];refine P2 hS ?_;simp only[P9,go_sem,go_sem_proc];refine⟨R5 (l:= [r]) (fun _ _=>rfl) rfl rfl rfl,?_⟩;refine C51 (.sc (.int .i64 0)) ?_;simp only[go_sem,go_sem_proc];refine A0 A71 rfl ?_;simp only[go_sem,go_sem_proc]
 |true=>
  obtain⟨h40,h6,h12⟩:=hb rfl;have hw:=D97 h40
  have hr:Body.sm r.Input.Body:=⟨by omega,fun f hf=>by have:=h12 f hf;show f.Shape.Vertices.length≤_;omega⟩;by_cases hv:A3t w=0
  ·have hv2:P5 w=0:=by rw[D4s];exact hv
   obtain⟨x,hx,hxl,hE⟩:=B95 w r hw hr hv2 (fun b hb=>by have:=(h40.2.1 b hb).1;omega) (by have:=h40.1.1;omega);refine en1 hm A1 Tryz.func3 rfl rfl ?_;simp only[go_sem,go_sem_proc];refine P2 hS ?_;simp only[P9,go_sem,go_sem_proc];refine⟨R5 (l:= [r]) (fun _ _=>rfl) rfl rfl rfl,?_⟩;refine A0 (B44 w hw) rfl ?_;simp only[go_sem,go_sem_proc];rw[if_neg (by simp[hv])];refine A05 ev_ B0 (D9k w hw hv2) ?_;simp only[go_sem,go_sem_proc,A1v,A1u];rw[if_neg (by simp)];refine A0 (B21 r) rfl ?_;simp only[go_sem,go_sem_proc,A1v,A1u];refine I4 [true,false] [(1,416)] (D2a w r x hE) (by simp) (by simp) (by simp) (by simp[go_sem]) ?_;simp only[go_sem,go_sem_proc,A1v,A1u];refine A0 (B21 r) rfl ?_;simp only[go_sem,go_sem_proc,A1v,A1u];refine A0 hE rfl ?_;simp only[go_sem,go_sem_proc,A1v,A1u];refine A0 (B1w x.2) rfl ?_;simp only[go_sem,go_sem_proc,A1v,A1u];refine A0 (B1w x.2) rfl ?_;simp only[go_sem,go_sem_proc,A1v,A1u];refine A0 (B8e x.2 hxl) rfl ?_;simp only[go_sem,go_sem_proc,A1v,A1u];refine I4 [true] [(1,416)] (D4i x.1 hx) (by simp) (by simp) (by simp) (by simp[go_sem]) ?_;simp only[go_sem,go_sem_proc,A1v,A1u];refine⟨rfl,?_⟩;refine A0 (D31 x.1 x.1 hx) rfl ?_;simp only[go_sem,go_sem_proc,decide_true,A1v,A1u];refine I4 [true] [(1,416)] (C9u x.1) (by simp) (by simp) (by simp) (by simp[go_sem]) ?_;simp only[go_sem,go_sem_proc,A1v,A1u];refine⟨rfl,?_⟩;refine A0 A71 rfl ?_;simp only[go_sem,go_sem_proc,A1v,A1u];rfl
  ·refine en1 hm A1 Tryz.func3 rfl rfl ?_;simp only[go_sem,go_sem_proc];refine P2 hS ?_;simp only[P9,go_sem,go_sem_proc];refine⟨R5 (l:= [r]) (fun _ _=>rfl) rfl rfl rfl,?_⟩;refine A0 (B44 w hw) rfl ?_;simp only[go_sem,go_sem_proc];rw[if_pos (by simpa using hv)];refine A0 A71 rfl ?_;simp only[go_sem,go_sem_proc]
end Go.Abs
end

/- A part of the proof: contracts of functions that the statement reaches. -/
import Derived.Test.YtchcbiiammkhgaaGreatMK
set_option linter.unusedSimpArgs false
set_option linter.unusedVariables false
set_option linter.unnecessarySimpa false
set_option maxRecDepth 100000
set_option maxHeartbeats 2000000
noncomputable section
namespace Go.Abs
open Go.Proofs
open Api
theorem C21(w:Api.World)(p:Vec)(m:Int)(hm0:0<=m/\m<256):A1 Tryz.prog C2v [.agg w.enc, .agg p.enc, .sc (.int .u8 m)] [] (sB true) []:=by
 obtain⟨b,hb,hS⟩:=D84 w;cases b with
 |false=>refine en1 hm A4 Tryz.func3 rfl rfl ?_;simp only[go_sem,go_sem_proc];refine A0 hS rfl ?_;simp only[go_sem,go_sem_proc];refine D55 (sI 0) ?_;simp only[go_sem,go_sem_proc];refine A0 A9g rfl ?_;simp only[go_sem,go_sem_proc]
 |true=>
 have h40:=hb rfl
 have hw:=F6f h40
 have hf:=F9e h40;by_cases hv:A7k w=0;rotate_left
 ·refine en1 hm A4 Tryz.func3 rfl rfl ?_;simp only[go_sem,go_sem_proc];refine A0 hS rfl ?_;simp only[go_sem,go_sem_proc];refine A0 (B5b w hw) rfl ?_;simp only[go_sem,go_sem_proc];rw[if_pos (by simp[hv])];refine A0 A9g rfl ?_;simp only[go_sem,go_sem_proc]
 by_cases hF:w.Frame=1099511627776
 ·refine en1 hm A4 Tryz.func3 rfl rfl ?_;simp only[go_sem,go_sem_proc];refine A0 hS rfl ?_;simp only[go_sem,go_sem_proc];refine A0 (B5b w hw) rfl ?_;simp only[go_sem,go_sem_proc];rw[if_pos (by simp[hF])];refine A0 A9g rfl ?_;simp only[go_sem,go_sem_proc]
 have hv2:F1 w=0:=by rw[E7r];exact hv
 have hB:=D3c w hw hf hv2 hF
 have hpw:=F4m hw hf (by have:=h40.1.2.1;omega)
 have hI:=λx hx=>(B21 (C39 hw hf) x hx).1
 have hIl:(C8 (bg0 w)).length<=1000:=by
  have h1:=B0k (bg0 w)
  have h2:(bg0 w).Bodies.length<=60:=hf.1;omega
 have hE:=E37 hw hf;generalize C1e w=g at hB hpw;generalize C2f w=E at hB hE;generalize C8 (bg0 w)=I at hB hI hIl;obtain⟨N,hN,hN1,hN2⟩: ∃N:Nat,IntKind.i64.wrap (61+IntKind.i64.wrap (m.tmod 6))=N/\61<=N/\N<=66:=by have h1:m.tmod 6=m%6:=Int.tmod_eq_emod_of_nonneg hm0.1;refine⟨(61+m%6).toNat,?_,by omega,by omega⟩;rw[h1,D65 (n:=m%6) (by omega) (by omega),D65 (by omega) (by omega)];omega
 refine F6q hm A4 Tryz.func3 rfl rfl ?_;refine C3 [(2, .share, .sc (.int .u8 m)),(3, .thaw, .fptr w.enc),(4, .thaw, .fptr p.enc)] [] (E0 hm ?_) ?_
 ·simp only[go_sem,go_sem_proc];refine B8 [] [] ?_;simp only[go_sem,go_sem_proc];exact eE_
 refine C3 [(2, .share, .sc (.int .u8 m)),(3, .share, .fptr w.enc),(4, .share, .fptr p.enc)] [] (E0 hm ?_) ?_
 ·simp only[go_sem,go_sem_proc];refine A0 hS rfl ?_;simp only[go_sem,go_sem_proc];refine A0 (B5b w hw) rfl ?_;simp only[go_sem,go_sem_proc];rw[if_neg (by simp[hv,hF])];refine B8 [] [] ?_;simp only[go_sem,go_sem_proc]
 refine C3 [(2, .share, .sc (.int .u8 m)),(3, .share, .fptr w.enc),(4, .share, .fptr p.enc),(7, .share, .ptr 1 0 0 1),(8, .share,sI 0)] [(1, .box (M5 w))] (E0 hm ?_) ?_
 ·simp only[go_sem,go_sem_proc];refine K0 ev_ K8 (E0q w hw hv2) ?_;simp only[go_sem,go_sem_proc,D8o];refine B8 [(1,672)] [] ?_;simp only[go_sem,go_sem_proc,M5]
 refine C3 [(2, .share, .sc (.int .u8 m)),(3, .share, .fptr w.enc),(4, .share, .fptr p.enc),(7, .share, .ptr 1 0 0 1)] [(1, .box (M5 w))] (E0 hm ?_) ?_
 ·simp only[go_sem,go_sem_proc];refine B8 [] [] ?_;simp only[go_sem,go_sem_proc,M5]
 refine C3 [(2, .share, .sc (.int .u8 m)),(3, .share, .fptr w.enc),(4, .share, .fptr p.enc),(7, .share, .ptr 1 0 0 1)] (sqO w g I E ([])) (E0 hm ?_) ?_
 ·simp only[go_sem,go_sem_proc];refine E6 hB A1t S4 (by simp[sqO]) (by simp[upd,go_sem,go_sem_proc]) (by simp[sqO,upd]) A81 rfl ?_;simp only[go_sem,go_sem_proc];refine B8 [] [] ?_;simp only[go_sem,go_sem_proc]
 refine C3 [(2, .share, .sc (.int .u8 m)),(3, .share, .fptr w.enc),(4, .share, .fptr p.enc),(7, .share, .ptr 1 0 0 1),(11, .share,sI (N:Nat))] (sqO w g I E ([])) (E0 hm ?_) ?_
 ·simp only[go_sem,go_sem_proc];refine⟨bE_,?_⟩;refine B8 [] [] ?_;simp only[go_sem,go_sem_proc]
  (repeat' (with_reducible apply And.intro)) <;> exact hN
 refine C3 [(2, .share, .sc (.int .u8 m)),(3, .share, .fptr w.enc),(4, .share, .fptr p.enc),(7, .share, .ptr 1 0 0 1),(11, .share,sI (N:Nat))] (sqO w g I E (qz p N)) (C3 [(2, .share, .sc (.int .u8 m)),(3, .share, .fptr w.enc),(4, .share, .fptr p.enc),(7, .share, .ptr 1 0 0 1),(11, .share,sI (N:Nat)),(12, .share,sI (0:Nat))] (sqO w g I E (qz p 0)) (E0 hm ?_) (A29 ?_)) ?_
 ·rw[show qz p 0= []from rfl];simp only[go_sem,go_sem_proc];refine B8 [] [] ?_;simp only[go_sem,go_sem_proc]
 ·refine A9 hm (ι:= {k:Nat // k<=N}) (λk=> [(2, .share, .sc (.int .u8 m)),(3, .share, .fptr w.enc),(4, .share, .fptr p.enc),(7, .share, .ptr 1 0 0 1),(11, .share,sI (N:Nat)),(12, .share,sI (k.1:Nat))]) (λk=>sqO w g I E (qz p k.1)) (λk=>N-k.1) ⟨0,Nat.zero_le _⟩ ?_ ?_
  ·refine B8 [] [] ?_;simp only[go_sem,go_sem_proc]
  ·rintro⟨k,hk⟩;dsimp only;have hl:=F2m p k
   have hfin:N<=k->qz p k=qz p N:=λh=>by rw[show k=N by omega]
   have hn1:=λh=>G25 p (i:=k) h
   have hn2:=λh=>G3p p (i:=k) h;generalize qz p k=q at hl hfin hn1 hn2⊢;by_cases hlt:k<N;rotate_left
   ·simp only[go_sem,go_sem_proc];rw[if_neg (by omega),<-hfin (by omega)];refine B8 [] [] ?_;simp only[go_sem,go_sem_proc]
   simp only[go_sem,go_sem_proc];rw[if_pos (by omega)];have z1:((0:Int) != 0)=false:=rfl
   have z2:((9:Int) != 9)=false:=rfl;by_cases h64:k<64
   ·replace hn1:=hn1 h64;have hC:=D3a w g I E q (C6h p) (by omega) F0s
    have e1:((k:Int)<64):=by omega
    have e2: ¬(64<=(k:Int)):=by omega
    refine E3 [true,false] [] hC (by simp[sqO]) (by simp[sqO]) (by simp[sqO,A6]) (by simp[sqO,go_sem]) ?_;rw[<-hn1];simp only[go_sem,go_sem_proc,C6h,zB,e1,e2,z1,decide_true,decide_false,Bool.and_false,Bool.not_false];refine⟨Q8 rfl,?_⟩;refine A7 ⟨k+1,hlt⟩ (by show N-(k+1)<N-k;omega) ?_;refine B8 [] [] ?_;simp only[go_sem,go_sem_proc];exact eE_
   ·replace hn2:=hn2 (by omega);have hC:=F4k w g I E q (C6h p) (by omega)
    have e1: ¬((k:Int)<64):=by omega
    have e2:(64<=(k:Int)):=by omega
    refine E3 [true,false] [] hC (by simp[sqO]) (by simp[sqO]) (by simp[sqO,A6]) (by simp[sqO,go_sem]) ?_;rw[<-hn2];simp only[go_sem,go_sem_proc,C6h,zB,e1,e2,z2,decide_true,decide_false,Bool.and_false,Bool.not_false];refine⟨Q8 rfl,?_⟩;refine A7 ⟨k+1,hlt⟩ (by show N-(k+1)<N-k;omega) ?_;refine B8 [] [] ?_;simp only[go_sem,go_sem_proc];exact eE_
 have hql:=F2m p N
 have hqk: ∀r∈qz p N,r.Kind=2:=λr hr=>by rw[(List.mem_replicate.1 hr).2];rfl
 generalize qz p N=q at hql hqk⊢;obtain⟨E',hEnd⟩:=E5r w g I E q hpw hI hIl (by omega) hqk (by omega);generalize hw2:(exN q (B05 (gN g I I.length)).1 q.length).1=w2 at hEnd;generalize(exN q (B05 (gN g I I.length)).1 q.length).2=l at hEnd;have hmin:(if 64<(N:Int)then 64 else(N:Int))=(q.length:Int):=by split <;> omega
 refine C3 [(2, .share, .sc (.int .u8 m)),(3, .share, .fptr w.enc),(4, .share, .fptr p.enc),(7, .share, .ptr 1 0 0 1),(11, .share,sI (N:Nat)),(16, .share,sI 0),(17, .share,sI 23)] (sqO w g I E (q)) (E0 hm ?_) ?_
 ·simp only[go_sem,go_sem_proc];refine E6 (F2e w g I E q) S4 S4 (by simp[sqO]) (by simp[sqO,sqC,upd,A2,go_sem,go_sem_proc]) (by simp[sqO]) A59 rfl ?_;simp only[go_sem,go_sem_proc];refine B8 [] [] ?_;simp only[go_sem,go_sem_proc]
 refine C3 [(2, .share, .sc (.int .u8 m)),(3, .share, .fptr w.enc),(4, .share, .fptr p.enc),(7, .share, .ptr 1 0 0 1),(17, .share,sI 23),(18, .share,sI q.length)] (sqO w g I E (q)) (E0 hm ?_) ?_
 ·simp only[go_sem,go_sem_proc];rw[hmin];refine B8 [] [] ?_;simp only[go_sem,go_sem_proc]
 have z1:((23:Int) != 23)=false:=rfl
 have z2:((q.length:Int) != q.length)=false:=bne_self_eq_false _;refine C3 [(2, .share, .sc (.int .u8 m)),(3, .share, .fptr w.enc),(4, .share, .fptr p.enc),(7, .share, .ptr 1 0 0 1),(18, .share,sI q.length)] (sqO w g I E (q)) (E0 hm ?_) ?_
 ·simp only[go_sem,go_sem_proc,z1];refine E6 (C76 w g I E q) S4 S4 (by simp[sqO]) (by simp[sqO,sqC,upd,A2,go_sem,go_sem_proc]) (by simp[sqO]) A59 rfl ?_;simp only[go_sem,go_sem_proc,z2];refine E6 (E9u w g I E q hw) S4 S4 (by simp[sqO]) (by simp[sqO,sqC,upd,A2,go_sem,go_sem_proc]) (by simp[sqO]) A59 rfl ?_;simp only[go_sem,go_sem_proc];refine A0 (E6p w w hw) rfl ?_;simp only[go_sem,go_sem_proc,decide_true];refine E6 (E19 w g I E q) S4 S4 (by simp[sqO]) (by simp[sqO,sqC,upd,A2,go_sem,go_sem_proc]) (by simp[sqO]) A59 rfl ?_;simp only[go_sem,go_sem_proc];refine B8 [] [] ?_;simp only[go_sem,go_sem_proc]
 refine C3 [(2, .share, .sc (.int .u8 m)),(3, .share, .fptr w.enc),(4, .share, .fptr p.enc),(7, .share, .ptr 1 0 0 1),(18, .share,sI q.length),(19, .share, .sl 5 0 q.length q.length),(21, .share,sI 0)] [(1, .box (M5 w2)),(5, .arr 11 (A8 Response.enc default l)),(3, .arr 5 (A8 Api.Event.enc default E')),(2, .arr 1 ⟨I.length,λ_=> [sB false]⟩),(4, .arr 1 (A8 B0w default q))] (E0 hm ?_) ?_
 ·simp only[go_sem,go_sem_proc];refine E6 hEnd S4 E8x (by simp[sqO]) (by simp[sqO,sqC,upd,A2,go_sem,go_sem_proc]) (by simp[sqO,upd]) A59 rfl ?_;simp only[go_sem,go_sem_proc];refine B8 [] [] ?_;simp only[go_sem,go_sem_proc,M5]
 refine C3 [(2, .share, .sc (.int .u8 m)),(3, .share, .fptr w.enc),(4, .share, .fptr p.enc),(7, .share, .ptr 1 0 0 1),(18, .share,sI q.length),(19, .share, .sl 5 0 q.length q.length),(21, .share,sI 0),(24, .share,sI 24)] [(1, .box (M5 w2)),(5, .arr 11 (A8 Response.enc default l)),(3, .arr 5 (A8 Api.Event.enc default E')),(2, .arr 1 ⟨I.length,λ_=> [sB false]⟩),(4, .arr 1 (A8 B0w default q))] (E0 hm ?_) ?_
 ·simp only[go_sem,go_sem_proc];refine E6 (F09 w2) A1t A1t (by simp) (by simp[upd,go_sem,go_sem_proc]) (by simp) A81 rfl ?_;simp only[go_sem,go_sem_proc];refine B8 [] [] ?_;simp only[go_sem,go_sem_proc,M5]
 refine E0 hm ?_;have y0:((0:Int)==0)=true:=rfl
 have y1:((q.length:Int)==q.length)=true:=beq_self_eq_true _
 have y2:((24:Int)==24)=true:=rfl;simp only[go_sem,go_sem_proc,y0,y1,y2];refine E6 (E2l w2) A1t A1t (by simp) (by simp[upd,go_sem,go_sem_proc]) (by simp) A81 rfl ?_;simp only[go_sem,go_sem_proc,y0];refine E6 (C3r w2) A1t A1t (by simp) (by simp[upd,go_sem,go_sem_proc]) (by simp) A81 rfl ?_;simp only[go_sem,go_sem_proc];refine A0 A9g rfl ?_;simp only[go_sem,go_sem_proc]
theorem G2i {a:Int}(h:(Lit.int .u8 a).wf=true):0<=a/\a<256:=by simp only[Lit.wf,IntKind.min,IntKind.max,Bool.and_eq_true]at h;simp[IntKind.bits,IntKind.signed]at h;omega
end Go.Abs
end

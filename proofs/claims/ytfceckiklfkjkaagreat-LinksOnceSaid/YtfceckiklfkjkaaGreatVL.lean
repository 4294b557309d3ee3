/-
  LinksOnce: for every sectors and scope: what the phase on links writes holds every count, and a second run of it finds nothing odd; the sectors read as they did. No condition.
-/
import Derived.Test.YtfceckiklfkjkaaGreatS49
import Derived.Test.YtfceckiklfkjkaaGreatS50
import Derived.Test.YtfceckiklfkjkaaGreatS51
noncomputable section
set_option maxRecDepth 100000
namespace Go.Proofs.YtfceckiklfkjkaaGreat
open Go.ChangeShapes Go.WideShapes Go.ChangeAt Go.RowKit
theorem IM(os:Os)(started:os.Started)(H:Type)(enc:TypeId×Value->H):
  ReturnsInHanded {} Tryz.checked os 9 .any (Rows.linksOnceSpec.pre6 enc Tryz.prog Tryz.f9 Rows.linksOnceRow.domain false) (Rows.linksOnceSpec.post enc Tryz.prog Tryz.f9 false true false false):=by
 refine returnsInHanded_of_change (C:=Tryz.checked) aq started (by kernel_rfl) Tryz.func9
  (ChangeSpec.witness6 (enc:=enc) (C:=Tryz.checked) false ⟨#[],#[.slice none 0 0,.int .u32 0],[]⟩ 8 (by kernel_rfl) (by kernel_rfl) (by kernel_rfl) (by kernel_rfl)) ?_
 intro W base args ds gs before hval0 hW hcnd _;have hval: ∀(j:Nat) t v,Tryz.f9.params[j]? =some t->args[j]? =some v->Value.okWide Tryz.prog W .any base t v:=hval0;have hW':=hW;obtain⟨p,q,hA0,hV,rfl,hfz,hnd⟩:=hW;have hA:DataW.TrodAll enc Tryz.prog W 0 (fun _=>true) true Tryz.f9.params.toList args.toList ds p:=hA0
 rw[Tryz.params9]at hA hval;obtain⟨v0,vs0,d0,ds0,p0,q0,hargs,rfl,rfl,h0,r0⟩:=trodAll_cons hA;obtain⟨v1,vs1,d1,ds1,p1,q1,rfl,rfl,rfl,h1,r1⟩:=trodAll_cons r0;obtain⟨rfl,rfl,rfl⟩:=trodAll_nil r1;obtain rfl:args= #[v0,v1]:=by cases args;simp_all
 obtain⟨rfl,rfl⟩:=trodVars_none hV;have k0:=h0;have lt0: ∀x∈p0,x.block<W.heap.size:=by obtain⟨m,hm⟩:=k0;exact DataW.trod_lt m _ _ _ hm
 obtain⟨sc,rfl,rfl,rfl,w1⟩:=open_int Tryz.underlying23 (hval 1 23 v1 rfl rfl) h1;have ho:=OL (hval 0 22 v0 rfl rfl) h0;clear hA0 hval0;have hsc:Go.Sx.cF sc:=by
  unfold Lit.wf at w1;simp[IntKind.min,IntKind.max,IntKind.signed,IntKind.bits]at w1;unfold Go.Sx.cF;omega
 have fin:Calls Tryz.prog 9 #[v0,.int .u32 sc] W fun e w'=>e= .returned (.bool true)/\Below W.heap.size W w':=by
  refine Go.Sx.Ly.afE hsc ?_;rcases ho with rfl|⟨b,off,n,cap,cs,t,fr,L,rfl,hc,hb,hL,hsz,hcs,hy⟩
  ·exact .inl rfl
  ·exact .inr ⟨n,L,b,off,cap,cs,t,fr,rfl,hc,hb,hL,hsz,hcs,hy⟩
 refine fin.mono fun e W' ⟨he,bel⟩=> ?_
 subst he;exact⟨_,rfl,_,_,_,[],_,[],hW',trodAll_mk1 (shut_bool Tryz.underlying4 _),
  (trodAll_cons_mk (Below.trod laidOut (by kernel_rfl) (of_decide_eq_true (by kernel_rfl)) k0 bel lt0) (trodAll_cons_mk (shut_int Tryz.underlying23 w1) trodAll_mk0)),rfl,bel.frame _,fun h=>by cases h⟩
theorem RN:Rows.linksOnceRow.holds Tryz.pinned (OpenSpec.ofChange Rows.linksOnceSpec):=
 OpenClaim.holds_of_wide 9 Tryz.f9 rfl rfl rfl rfl rfl rfl rfl ⟨rfl,rfl,rfl,rfl,rfl⟩ rfl rfl rfl rfl rfl (by kernel_rfl) Tryz.func9 jf
  (of_decide_eq_true (by kernel_rfl)) (by unfold Func.isWrapper;first|(rw[if_pos (by decide+kernel)];kernel_rfl)|(rw[if_neg (by decide+kernel)];exact⟨rfl,rfl⟩))
  (fun os started H enc _=>IM os started H enc)
theorem linksOnce_holds:Rows.LinksOnceSaid:=RN
end Go.Proofs.YtfceckiklfkjkaaGreat

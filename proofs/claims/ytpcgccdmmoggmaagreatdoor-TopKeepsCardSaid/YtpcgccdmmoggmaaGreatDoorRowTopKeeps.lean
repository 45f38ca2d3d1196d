/- The given law 'TopKeeps': the row's step, from the theorem 'TopKeeps_law' over heaps. -/
import Derived.Test.YtpcgccdmmoggmaaGreatDoorPqH
import Derived.Test.YtpcgccdmmoggmaaGreatDoorRows
import Derived.Test.YtpcgccdmmoggmaaGreatDoorCards
import Derived.Test.YtpcgccdmmoggmaaGreatDoorTie
import Derived.SevenTiedAt
import Derived.LaidMore
import Derived.Stop.Joined
import Derived.Lay
import Derived.WalkKit
import Derived.ProofKit
import Derived.OpenShut
import Derived.ShutString
import Derived.ChangeOld
import Derived.Below
set_option linter.unusedSimpArgs false
set_option linter.unusedVariables false
namespace Go.Proofs.YtpcgccdmmoggmaaGreatDoor.topKeeps
open Go Go.Vc Go.ChangeShapes Go.WideShapes Go.ChangeAt Go.RowKit
open Go.ChangeMaps (open_string shut_string)
section
theorem own:ownKnob Tryz.prog.godebug=none:=by kernel_rfl
theorem laidOut:laidOutB Tryz.prog=true:=by kernel_rfl
abbrev Ao:List (String × DataW Unit):= [("lighter/match.depths",Rows.laid_lighter_match_depths),("unicode/utf8.acceptRanges",Rows.laid_unicode_utf8_acceptRanges),("lighter/block.order",Rows.laid_lighter_block_order),("lighter/inflate.order",Rows.laid_lighter_inflate_order),("unicode/utf8.first",Rows.laid_unicode_utf8_first)]
theorem gD:Tryz.prog.globalNamed "lighter/match.depths" =some 5:=by kernel_rfl
theorem tD: (Tryz.prog.globals[5]?).map (·.type)=some 399:=by kernel_rfl
theorem table {W:World} (h:laidMetH Tryz.prog Ao W):Reads W.heap ⟨5,0,none⟩ eT:=by
 rw [MakeChecks.laidMetH_plain _ _ _ (by kernel_rfl)] at h;obtain⟨ps,⟨g0,t0,WR,f0,p0,q0,Sw,WS,T3,GU,_,_⟩,_,_⟩:=h;obtain rfl:=agN (gD.symm.trans Sw);obtain rfl:=agN (tD.symm.trans WS);obtain⟨xs,m1,rfl,kr,hlen,hn,BW⟩:=DataW.trod_array Tryz.underlying399 GU;have cE:Tryz.prog.cellsOf 3=1:=by kernel_rfl
 rw [ahr] at kr;intro i v hv;have hi:i<10:=by have:= (agD.1 hv).1;rwa [show eT.length=10 from rfl] at this
 have BW:=BW i hi;rw [cE,agh] at BW;obtain⟨x,hx⟩: ∃x,xs[i]? =some x:= ⟨xs[i],agb (by omega)⟩;rw [hx] at BW;obtain⟨k,e1,e2,_⟩:=DataW.trod_int Tryz.underlying3 BW;have hD:=congrArg (fun d=>match d with|DataW.agg l=>l[i]? |_=>Option.none) kr.1;have WT: (match (Rows.laid_lighter_match_depths:DataW Unit) with|DataW.agg l=>l[i]? |_=>Option.none)=some (.lit (.int .i64 (nW i:Int))):=by
  match i,hi with
  |0,_|1,_|2,_|3,_|4,_|5,_|6,_|7,_|8,_|9,_=>rfl
  |n+10,h=>exact absurd h (by omega)
 have UG: (match (DataW.agg (xs.map (·.1)):DataW Unit) with|DataW.agg l=>l[i]? |_=>Option.none)=some (.lit (.int .i64 k)):=by
  show (xs.map (·.1))[i]? =_;rw [agu,hx,e2];rfl
 have hk: (DataW.lit (.int .i64 (nW i:Int)):DataW Unit)= .lit (.int .i64 k):=agN (WT.symm.trans (hD.trans UG));simp only [DataW.lit.injEq,Lit.int.injEq,true_and] at hk;rw [wk hi,agf] at hv;subst hv;have eD:=World.var?_cell Sw T3 i;have hc:WR[i]? =some (.int .i64 k):=by
  have:=congrArg (fun l=>l[0]?) e1
  simpa [agV,ag7] using this
 have HY:W.cell? ⟨5,i,none⟩=some (.int .i64 (nW i:Int)):=by rw [eD,hc,hk]
 rw [show (⟨5,0,none⟩:Addr).add i= ⟨5,i,none⟩ from by cases i<;>simp [Addr.add]];unfold World.cell? at HY;unfold cellAt;exact HY
theorem gD3:Tryz.prog.globalNamed "lighter/block.order" =some 0:=by kernel_rfl
theorem tD3: (Tryz.prog.globals[0]?).map (·.type)=some 247:=by kernel_rfl
theorem Ua {W:World} (h:laidMetH Tryz.prog Ao W):Reads W.heap ⟨0,0,none⟩ ff:=by
 rw [MakeChecks.laidMetH_plain _ _ _ (by kernel_rfl)] at h;obtain⟨ps,⟨_,_,_,_,_,_,_,_,_,_,⟨_,_,_,_,_,_,_,_,_,_,⟨g0,t0,WR,f0,p0,q0,Sw,WS,T3,GU,_,_⟩,_⟩,_⟩,_,_⟩:=h;obtain rfl:=agN (gD3.symm.trans Sw);obtain rfl:=agN (tD3.symm.trans WS);obtain⟨xs,m1,rfl,kr,hlen,hn,BW⟩:=DataW.trod_array Tryz.underlying247 GU;have cE:Tryz.prog.cellsOf 3=1:=by kernel_rfl
 rw [ahr] at kr;intro i v hv;have hi:i<19:=by have:= (agD.1 hv).1;rwa [show ff.length=19 from rfl] at this
 have BW:=BW i hi;rw [cE,agh] at BW;obtain⟨x,hx⟩: ∃x,xs[i]? =some x:= ⟨xs[i],agb (by omega)⟩;rw [hx] at BW;obtain⟨k,e1,e2,_⟩:=DataW.trod_int Tryz.underlying3 BW;have hD:=congrArg (fun d=>match d with|DataW.agg l=>l[i]? |_=>Option.none) kr.1;have WT: (match (Rows.laid_lighter_block_order:DataW Unit) with|DataW.agg l=>l[i]? |_=>Option.none)=some (.lit (.int .i64 (LP i:Int))):=by
  match i,hi with
  |0,_|1,_|2,_|3,_|4,_|5,_|6,_|7,_|8,_|9,_|10,_|11,_|12,_|13,_|14,_|15,_|16,_|17,_|18,_=>rfl
  |n+19,h=>exact absurd h (by omega)
 have UG: (match (DataW.agg (xs.map (·.1)):DataW Unit) with|DataW.agg l=>l[i]? |_=>Option.none)=some (.lit (.int .i64 k)):=by
  show (xs.map (·.1))[i]? =_;rw [agu,hx,e2];rfl
 have hk: (DataW.lit (.int .i64 (LP i:Int)):DataW Unit)= .lit (.int .i64 k):=agN (WT.symm.trans (hD.trans UG));simp only [DataW.lit.injEq,Lit.int.injEq,true_and] at hk;rw [pN hi,agf] at hv;subst hv;have eD:=World.var?_cell Sw T3 i;have hc:WR[i]? =some (.int .i64 k):=by
  have:=congrArg (fun l=>l[0]?) e1
  simpa [agV,ag7] using this
 have HY:W.cell? ⟨0,i,none⟩=some (.int .i64 (LP i:Int)):=by rw [eD,hc,hk]
 rw [show (⟨0,0,none⟩:Addr).add i= ⟨0,i,none⟩ from by cases i<;>simp [Addr.add]];unfold World.cell? at HY;unfold cellAt;exact HY
theorem gD4:Tryz.prog.globalNamed "lighter/inflate.order" =some 4:=by kernel_rfl
theorem tD4: (Tryz.prog.globals[4]?).map (·.type)=some 247:=by kernel_rfl
theorem Ub {W:World} (h:laidMetH Tryz.prog Ao W):Reads W.heap ⟨4,0,none⟩ ff:=by
 rw [MakeChecks.laidMetH_plain _ _ _ (by kernel_rfl)] at h;obtain⟨ps,⟨_,_,_,_,_,_,_,_,_,_,⟨_,_,_,_,_,_,_,_,_,_,⟨_,_,_,_,_,_,_,_,_,_,⟨g0,t0,WR,f0,p0,q0,Sw,WS,T3,GU,_,_⟩,_⟩,_⟩,_⟩,_,_⟩:=h;obtain rfl:=agN (gD4.symm.trans Sw);obtain rfl:=agN (tD4.symm.trans WS);obtain⟨xs,m1,rfl,kr,hlen,hn,BW⟩:=DataW.trod_array Tryz.underlying247 GU;have cE:Tryz.prog.cellsOf 3=1:=by kernel_rfl
 rw [ahr] at kr;intro i v hv;have hi:i<19:=by have:= (agD.1 hv).1;rwa [show ff.length=19 from rfl] at this
 have BW:=BW i hi;rw [cE,agh] at BW;obtain⟨x,hx⟩: ∃x,xs[i]? =some x:= ⟨xs[i],agb (by omega)⟩;rw [hx] at BW;obtain⟨k,e1,e2,_⟩:=DataW.trod_int Tryz.underlying3 BW;have hD:=congrArg (fun d=>match d with|DataW.agg l=>l[i]? |_=>Option.none) kr.1;have WT: (match (Rows.laid_lighter_inflate_order:DataW Unit) with|DataW.agg l=>l[i]? |_=>Option.none)=some (.lit (.int .i64 (LP i:Int))):=by
  match i,hi with
  |0,_|1,_|2,_|3,_|4,_|5,_|6,_|7,_|8,_|9,_|10,_|11,_|12,_|13,_|14,_|15,_|16,_|17,_|18,_=>rfl
  |n+19,h=>exact absurd h (by omega)
 have UG: (match (DataW.agg (xs.map (·.1)):DataW Unit) with|DataW.agg l=>l[i]? |_=>Option.none)=some (.lit (.int .i64 k)):=by
  show (xs.map (·.1))[i]? =_;rw [agu,hx,e2];rfl
 have hk: (DataW.lit (.int .i64 (LP i:Int)):DataW Unit)= .lit (.int .i64 k):=agN (WT.symm.trans (hD.trans UG));simp only [DataW.lit.injEq,Lit.int.injEq,true_and] at hk;rw [pN hi,agf] at hv;subst hv;have eD:=World.var?_cell Sw T3 i;have hc:WR[i]? =some (.int .i64 k):=by
  have:=congrArg (fun l=>l[0]?) e1
  simpa [agV,ag7] using this
 have HY:W.cell? ⟨4,i,none⟩=some (.int .i64 (LP i:Int)):=by rw [eD,hc,hk]
 rw [show (⟨4,0,none⟩:Addr).add i= ⟨4,i,none⟩ from by cases i<;>simp [Addr.add]];unfold World.cell? at HY;unfold cellAt;exact HY
theorem walk (a0:Option Addr) (Mw Mx:Nat) (a1:Option Addr) (qL DU:Nat) (z1:List Int) (a2:Option Addr) (DV DW:Nat) (z2:List Int) (w:World) (hG:Reads w.heap ⟨5,0,none⟩ eT) (hG3:Reads w.heap ⟨0,0,none⟩ ff) (hG4:Reads w.heap ⟨4,0,none⟩ ff) (w0:kH [.int .i64,.string] w.heap a0 Mw Mx) (w1:ir .i64 w.heap a1 qL DU z1) (w2:ir .i64 w.heap a2 DV DW z2):
  Calls Tryz.prog 5 #[.slice a0 Mw Mx,.slice a1 qL DU,.slice a2 DV DW] w fun e w' =>e= .returned (.bool true)∧∃Au :World,w'.Alike Au ∧Below w.heap.size w Au :=by
 exact Nn (DT a0 Mw Mx a1 qL DU z1 a2 DV DW z2 hG hG3 hG4 w0 w1 w2)
set_option maxRecDepth 100000 in
theorem lifted (os:Os) (started:os.Started) (H:Type) (enc:TypeId × Value→H):
  ReturnsInHanded {} Tryz.checked os 5 .any (fun w args=> (Rows.topKeepsSpec.pre enc Tryz.prog Tryz.f5 [] false w args∧laidMetH Tryz.prog Ao w)∧sizedMet enc Tryz.prog Tryz.f5 (OpenSpec.ofChange Rows.topKeepsSpec) false w args) (Rows.topKeepsSpec.post enc Tryz.prog Tryz.f5 false true false false):=by
 refine returnsInHanded_of_change_and (C:=Tryz.checked) (X:=fun w _=>laidMetH Tryz.prog Ao w) (fun _ _ _ hh h=>h.of_heap hh) own started (by kernel_rfl) Tryz.func5
  (ChangeSpec.witness_shaped (enc:=enc) (C:=Tryz.checked) (os:=os) (X:=fun w _=>laidMetH Tryz.prog Ao w) false (World.laidAll Tryz.prog os Ao) #[.slice none 0 0,.slice none 0 0,.slice none 0 0] 8 (World.laidAll_os _ _ _) (World.shaped_of_ZipB (by kernel_rfl) (by kernel_rfl)) (by kernel_rfl) (by kernel_rfl) (by kernel_rfl) (by rw [MakeChecks.laidMetH_plain _ _ _ (by kernel_rfl)];exact laidMet_laidAll _ (by kernel_rfl) (by kernel_rfl))) ?_
 intro W base args ds gs before Sx hW _ _ hL _;have EG: ∀ (j:Nat) t v,Tryz.f5.params[j]? =some t→args[j]? =some v→Value.okWide Tryz.prog W .any base t v:=Sx;have VD :=hW;obtain⟨p,q,hA0,hV,rfl,No,SU⟩:=hW;have hA:DataW.TrodAll enc Tryz.prog W 0 (fun _=>true) true Tryz.f5.params.toList args.toList ds p:=hA0;rw [Tryz.params5] at hA EG;obtain⟨v0,vs0,d0,ds0,p0,q0,abR,rfl,rfl,h0,r0⟩:=trodAll_cons hA;obtain⟨v1,vs1,d1,ds1,p1,q1,rfl,rfl,rfl,h1,r1⟩:=trodAll_cons r0;obtain⟨v2,vs2,d2,ds2,p2,q2,rfl,rfl,rfl,h2,r2⟩:=trodAll_cons r1;obtain⟨rfl,rfl,rfl⟩:=trodAll_nil r2;obtain rfl:args= #[v0,v1,v2]:=by cases args;simp_all
 obtain⟨rfl,rfl⟩:=trodVars_none hV;have k0:=h0;have lt0: ∀x∈p0,x.block<W.heap.size:=by obtain⟨m,hm⟩:=k0;exact DataW.trod_lt m _ _ _ hm
 obtain⟨a0,Mw,Mx,rfl⟩:=okWide_slice Tryz.underlying22 (EG 0 22 v0 rfl rfl);have w0:kH [.int .i64,.string] W.heap a0 Mw Mx:=by
  obtain⟨fuel,hf⟩:=h0;exact Cu Tryz.underlying22 Tryz.underlying81 (by kernel_rfl) (by kernel_rfl) (by kernel_rfl) (by kernel_rfl) hf
 obtain⟨a1,qL,DU,rfl⟩:=okWide_slice Tryz.underlying59 (EG 1 59 v1 rfl rfl);have k1:=h1;have lt1: ∀x∈p1,x.block<W.heap.size:=by obtain⟨m,hm⟩:=k1;exact DataW.trod_lt m _ _ _ hm
 obtain⟨z1,w1⟩: ∃zs,ir .i64 W.heap a1 qL DU zs:=by
  obtain⟨fuel,hf⟩:=h1;rcases open_ints Tryz.underlying59 Tryz.underlying3 (by kernel_rfl) hf with ⟨tV,_⟩ | ⟨x,l,c,zs,tV,_,hl,hm,hz,_,eD,Z7⟩
  ·simp [Value.cells] at tV
   obtain⟨rfl,rfl,rfl⟩:=tV;exact⟨[],.inl ⟨rfl,rfl,rfl,rfl⟩⟩
  ·simp [Value.cells] at tV
   obtain⟨rfl,rfl,rfl⟩:=tV;exact⟨zs,.inr ⟨_,rfl,hl,hm,by simpa using hz,eD,Z7⟩⟩
 obtain⟨a2,DV,DW,rfl⟩:=okWide_slice Tryz.underlying59 (EG 2 59 v2 rfl rfl);have k2:=h2;have lt2: ∀x∈p2,x.block<W.heap.size:=by obtain⟨m,hm⟩:=k2;exact DataW.trod_lt m _ _ _ hm
 obtain⟨z2,w2⟩: ∃zs,ir .i64 W.heap a2 DV DW zs:=by
  obtain⟨fuel,hf⟩:=h2;rcases open_ints Tryz.underlying59 Tryz.underlying3 (by kernel_rfl) hf with ⟨tV,_⟩ | ⟨x,l,c,zs,tV,_,hl,hm,hz,_,eD,Z7⟩
  ·simp [Value.cells] at tV
   obtain⟨rfl,rfl,rfl⟩:=tV;exact⟨[],.inl ⟨rfl,rfl,rfl,rfl⟩⟩
  ·simp [Value.cells] at tV
   obtain⟨rfl,rfl,rfl⟩:=tV;exact⟨zs,.inr ⟨_,rfl,hl,hm,by simpa using hz,eD,Z7⟩⟩
 clear hA0 Sx;refine(walk a0 Mw Mx a1 qL DU z1 a2 DV DW z2 W (table hL) (Ua hL) (Ub hL) w0 w1 w2).mono fun e W' ⟨he,PX,Cx,XQ⟩=>?_;subst he;exact⟨_,rfl,ChangeSpec.post_alike ⟨_,_,_,[],_,[],VD,trodAll_mk1 (shut_bool Tryz.underlying4 _),(trodAll_cons_mk (Below.trod laidOut (by kernel_rfl) (of_decide_eq_true (by kernel_rfl)) k0 XQ lt0) (trodAll_cons_mk (Below.trod laidOut (by kernel_rfl) (of_decide_eq_true (by kernel_rfl)) k1 XQ lt1) (trodAll_cons_mk (Below.trod laidOut (by kernel_rfl) (of_decide_eq_true (by kernel_rfl)) k2 XQ lt2) trodAll_mk0))),rfl,XQ.frame _,fun h=>by cases h⟩ Cx⟩
theorem both {a b:Bool} (h:a=true) (k:b=true): (a && b)=true:=by rw [h,k];rfl
theorem WU:laidOutB Tryz.pinned.checked.prog=true:=by kernel_rfl
theorem WV:mapsRowed Tryz.pinned.checked.prog=true:=by kernel_rfl
theorem WW: (Rows.topKeepsRow.inPlace==Tryz.pinned.checked.prog.inPlace 5)=true:=by kernel_rfl
theorem Uc: (Rows.topKeepsRow.unfollowed==Tryz.pinned.checked.prog.unfollowed 5)=true:=by kernel_rfl
theorem Ud: (Rows.topKeepsRow.recurses==Tryz.pinned.checked.prog.recurses 5)=true:=by kernel_rfl
theorem Ue: (Rows.topKeepsRow.named==Tryz.pinned.checked.prog.varsNamed 5)=true:=by kernel_rfl
theorem Uf: (Rows.topKeepsRow.plainKeys==Tryz.pinned.checked.prog.plainKeys)=true:=by kernel_rfl
theorem Ug:Tryz.pinned.checked.prog.stopsHeard=true:=by kernel_rfl
theorem Uh:Tryz.pinned.checked.prog.mayEnter=true:=by kernel_rfl
theorem Ui: (Rows.topKeepsRow.lifted==Tryz.pinned.checked.prog.liftsFinal)=true:=by kernel_rfl
theorem Uj: (Tryz.pinned.checked.prog.make==some Rows.topKeepsRow.make)=true:=by kernel_rfl
theorem closed:joinedFacts Tryz.pinned.checked.prog 5 Tryz.f5 Rows.topKeepsSpec Rows.topKeepsRow=true:=by
 unfold joinedFacts;exact(both (both (both (both (both (both (both (both (both (both (both (both (both (both (both (both (both (both (both (both (both (both (both (both (both (both (both (both (both (both (both (by kernel_rfl) WU) WV) (by kernel_rfl)) (by kernel_rfl)) (by kernel_rfl)) (by kernel_rfl)) (by kernel_rfl)) (by kernel_rfl)) WW) Uc) Ud) Ue) (by kernel_rfl)) (by kernel_rfl)) (by kernel_rfl)) (by kernel_rfl)) (by kernel_rfl)) (by kernel_rfl)) (by kernel_rfl)) (by kernel_rfl)) (by kernel_rfl)) Uf) (by kernel_rfl)) Ug) Uh) Ui) Uj) (by kernel_rfl)) (by kernel_rfl)) (by kernel_rfl)) (by kernel_rfl))
theorem over:Rows.topKeepsRow.holds Tryz.pinned (OpenSpec.ofChange Rows.topKeepsSpec):=
 OpenClaim.holds_of_wide 5 Tryz.f5 rfl rfl rfl rfl rfl rfl rfl ⟨rfl,rfl,rfl,rfl,rfl⟩ rfl rfl rfl rfl rfl (by kernel_rfl) Tryz.func5 closed
  (of_decide_eq_true (by kernel_rfl)) (by unfold Func.isWrapper;first| (rw [if_pos (by decide+kernel)];kernel_rfl) | (rw [if_neg (by decide+kernel)];exact⟨rfl,rfl⟩))
  (fun os started H enc _=>lifted os started H enc)
end
end Go.Proofs.YtpcgccdmmoggmaaGreatDoor.topKeeps
namespace Go.Proofs.YtpcgccdmmoggmaaGreatDoor
section
theorem TopKeeps_proved:Rows.TopKeepsCardSaid:=
 Claim7.holds_tied_plain_at .later [] [.data,.data,.widerDeep,.widerDeep,.pinned] true (true,"ff86a9bbbee56acf0164f6c32c5843417354baeffbd7e783743294b2dfe31c9a") false
  topKeeps.over (fun _ h=>by cases h) (by kernel_rfl) (fun _ h=>by cases h) topKeeps_row_tie rfl ⟨rfl,rfl⟩ (by kernel_rfl) rfl
  (fun f fn hf MG=>by
   obtain rfl:f=5:=agN ((show Tryz.prog.funcNamed "lighter/lightertop.TopKeeps" =some 5 by kernel_rfl).symm.trans hf) |>.symm
   obtain rfl:fn=Tryz.f5:= (agN (Tryz.func5.symm.trans MG)).symm;exact⟨by kernel_rfl,fun j t ht=>by
    rw [Tryz.params5] at ht;have hm:t∈ [22,59,59]:=by simpa using Array.mem_of_getElem? ht
    have ij: ([22,59,59].all fun u=> !Tryz.prog.wantsStandIn u)=true:=by kernel_rfl
    exact(show Tryz.prog.wantsStandIn t=false by simpa using ahu.1 ij t hm)⟩)
  (by kernel_rfl)
#print axioms TopKeeps_proved
end
end Go.Proofs.YtpcgccdmmoggmaaGreatDoor

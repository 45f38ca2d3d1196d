/- The given law 'TopArchives': the row's step, from the theorem 'TopArchives_law' over heaps. -/
import Derived.Test.YtpcgccdmmoggmaaGreatDoorPkI
import Derived.Test.YtpcgccdmmoggmaaGreatDoorRows
import Derived.Test.YtpcgccdmmoggmaaGreatDoorCards
import Derived.Test.YtpcgccdmmoggmaaGreatDoorTie
import Derived.SevenTiedAt
import Derived.LaidMore
import Derived.Stop.Joined
import Derived.Lay
import Derived.WalkKit
import Derived.ProofKit
import Derived.OpenShut
import Derived.ShutString
import Derived.ChangeOld
import Derived.Below
set_option linter.unusedSimpArgs false
set_option linter.unusedVariables false
namespace Go.Proofs.YtpcgccdmmoggmaaGreatDoor.topArchives
open Go Go.Vc Go.ChangeShapes Go.WideShapes Go.ChangeAt Go.RowKit
open Go.ChangeMaps (open_string shut_string)
section
theorem own:ownKnob Tryz.prog.godebug=none:=by kernel_rfl
theorem laidOut:laidOutB Tryz.prog=true:=by kernel_rfl
abbrev BZ:List (String × DataW Unit):= [("lighter/match.depths",Rows.laid_lighter_match_depths),("unicode/utf8.acceptRanges",Rows.laid_unicode_utf8_acceptRanges),("lighter/block.order",Rows.laid_lighter_block_order),("lighter/inflate.order",Rows.laid_lighter_inflate_order),("unicode/utf8.first",Rows.laid_unicode_utf8_first)]
theorem gD:Tryz.prog.globalNamed "lighter/match.depths" =some 5:=by kernel_rfl
theorem tD: (Tryz.prog.globals[5]?).map (·.type)=some 399:=by kernel_rfl
theorem table {W:World} (h:laidMetH Tryz.prog BZ W):Reads W.heap ⟨5,0,none⟩ gU:=by
 rw [MakeChecks.laidMetH_plain _ _ _ (by kernel_rfl)] at h;obtain⟨ps,⟨g0,t0,Zq,f0,p0,q0,UJ,Zr,UA,y5,_,_⟩,_,_⟩:=h;obtain rfl:=ajz (gD.symm.trans UJ);obtain rfl:=ajz (tD.symm.trans Zr);obtain⟨xs,m1,rfl,jg,hlen,hn,zu⟩:=DataW.trod_array Tryz.underlying399 y5;have cE:Tryz.prog.cellsOf 3=1:=by kernel_rfl
 rw [aj8] at jg;intro i v hv;have hi:i<10:=by have:= (ajD.1 hv).1;rwa [show gU.length=10 from rfl] at this
 have zu:=zu i hi;rw [cE,ai5] at zu;obtain⟨x,hx⟩: ∃x,xs[i]? =some x:= ⟨xs[i],ai1 (by omega)⟩;rw [hx] at zu;obtain⟨k,e1,e2,_⟩:=DataW.trod_int Tryz.underlying3 zu;have hD:=congrArg (fun d=>match d with|DataW.agg l=>l[i]? |_=>Option.none) jg.1;have Zs: (match (Rows.laid_lighter_match_depths:DataW Unit) with|DataW.agg l=>l[i]? |_=>Option.none)=some (.lit (.int .i64 (qa i:Int))):=by
  match i,hi with
  |0,_|1,_|2,_|3,_|4,_|5,_|6,_|7,_|8,_|9,_=>rfl
  |n+10,h=>exact absurd h (by omega)
 have Xi: (match (DataW.agg (xs.map (·.1)):DataW Unit) with|DataW.agg l=>l[i]? |_=>Option.none)=some (.lit (.int .i64 k)):=by
  show (xs.map (·.1))[i]? =_;rw [aji,hx,e2];rfl
 have hk: (DataW.lit (.int .i64 (qa i:Int)):DataW Unit)= .lit (.int .i64 k):=ajz (Zs.symm.trans (hD.trans Xi));simp only [DataW.lit.injEq,Lit.int.injEq,true_and] at hk;rw [ye hi,ai8] at hv;subst hv;have gY:=World.var?_cell UJ UA i;have hc:Zq[i]? =some (.int .i64 k):=by
  have:=congrArg (fun l=>l[0]?) e1
  simpa [akw,ajW] using this
 have JO:W.cell? ⟨5,i,none⟩=some (.int .i64 (qa i:Int)):=by rw [gY,hc,hk]
 rw [show (⟨5,0,none⟩:Addr).add i= ⟨5,i,none⟩ from by cases i<;>simp [Addr.add]];unfold World.cell? at JO;unfold cellAt;exact JO
theorem gD3:Tryz.prog.globalNamed "lighter/block.order" =some 0:=by kernel_rfl
theorem tD3: (Tryz.prog.globals[0]?).map (·.type)=some 247:=by kernel_rfl
theorem WK {W:World} (h:laidMetH Tryz.prog BZ W):Reads W.heap ⟨0,0,none⟩ fY:=by
 rw [MakeChecks.laidMetH_plain _ _ _ (by kernel_rfl)] at h;obtain⟨ps,⟨_,_,_,_,_,_,_,_,_,_,⟨_,_,_,_,_,_,_,_,_,_,⟨g0,t0,Zq,f0,p0,q0,UJ,Zr,UA,y5,_,_⟩,_⟩,_⟩,_,_⟩:=h;obtain rfl:=ajz (gD3.symm.trans UJ);obtain rfl:=ajz (tD3.symm.trans Zr);obtain⟨xs,m1,rfl,jg,hlen,hn,zu⟩:=DataW.trod_array Tryz.underlying247 y5;have cE:Tryz.prog.cellsOf 3=1:=by kernel_rfl
 rw [aj8] at jg;intro i v hv;have hi:i<19:=by have:= (ajD.1 hv).1;rwa [show fY.length=19 from rfl] at this
 have zu:=zu i hi;rw [cE,ai5] at zu;obtain⟨x,hx⟩: ∃x,xs[i]? =some x:= ⟨xs[i],ai1 (by omega)⟩;rw [hx] at zu;obtain⟨k,e1,e2,_⟩:=DataW.trod_int Tryz.underlying3 zu;have hD:=congrArg (fun d=>match d with|DataW.agg l=>l[i]? |_=>Option.none) jg.1;have Zs: (match (Rows.laid_lighter_block_order:DataW Unit) with|DataW.agg l=>l[i]? |_=>Option.none)=some (.lit (.int .i64 (NG i:Int))):=by
  match i,hi with
  |0,_|1,_|2,_|3,_|4,_|5,_|6,_|7,_|8,_|9,_|10,_|11,_|12,_|13,_|14,_|15,_|16,_|17,_|18,_=>rfl
  |n+19,h=>exact absurd h (by omega)
 have Xi: (match (DataW.agg (xs.map (·.1)):DataW Unit) with|DataW.agg l=>l[i]? |_=>Option.none)=some (.lit (.int .i64 k)):=by
  show (xs.map (·.1))[i]? =_;rw [aji,hx,e2];rfl
 have hk: (DataW.lit (.int .i64 (NG i:Int)):DataW Unit)= .lit (.int .i64 k):=ajz (Zs.symm.trans (hD.trans Xi));simp only [DataW.lit.injEq,Lit.int.injEq,true_and] at hk;rw [rl hi,ai8] at hv;subst hv;have gY:=World.var?_cell UJ UA i;have hc:Zq[i]? =some (.int .i64 k):=by
  have:=congrArg (fun l=>l[0]?) e1
  simpa [akw,ajW] using this
 have JO:W.cell? ⟨0,i,none⟩=some (.int .i64 (NG i:Int)):=by rw [gY,hc,hk]
 rw [show (⟨0,0,none⟩:Addr).add i= ⟨0,i,none⟩ from by cases i<;>simp [Addr.add]];unfold World.cell? at JO;unfold cellAt;exact JO
theorem gD4:Tryz.prog.globalNamed "lighter/inflate.order" =some 4:=by kernel_rfl
theorem tD4: (Tryz.prog.globals[4]?).map (·.type)=some 247:=by kernel_rfl
theorem WL {W:World} (h:laidMetH Tryz.prog BZ W):Reads W.heap ⟨4,0,none⟩ fY:=by
 rw [MakeChecks.laidMetH_plain _ _ _ (by kernel_rfl)] at h;obtain⟨ps,⟨_,_,_,_,_,_,_,_,_,_,⟨_,_,_,_,_,_,_,_,_,_,⟨_,_,_,_,_,_,_,_,_,_,⟨g0,t0,Zq,f0,p0,q0,UJ,Zr,UA,y5,_,_⟩,_⟩,_⟩,_⟩,_,_⟩:=h;obtain rfl:=ajz (gD4.symm.trans UJ);obtain rfl:=ajz (tD4.symm.trans Zr);obtain⟨xs,m1,rfl,jg,hlen,hn,zu⟩:=DataW.trod_array Tryz.underlying247 y5;have cE:Tryz.prog.cellsOf 3=1:=by kernel_rfl
 rw [aj8] at jg;intro i v hv;have hi:i<19:=by have:= (ajD.1 hv).1;rwa [show fY.length=19 from rfl] at this
 have zu:=zu i hi;rw [cE,ai5] at zu;obtain⟨x,hx⟩: ∃x,xs[i]? =some x:= ⟨xs[i],ai1 (by omega)⟩;rw [hx] at zu;obtain⟨k,e1,e2,_⟩:=DataW.trod_int Tryz.underlying3 zu;have hD:=congrArg (fun d=>match d with|DataW.agg l=>l[i]? |_=>Option.none) jg.1;have Zs: (match (Rows.laid_lighter_inflate_order:DataW Unit) with|DataW.agg l=>l[i]? |_=>Option.none)=some (.lit (.int .i64 (NG i:Int))):=by
  match i,hi with
  |0,_|1,_|2,_|3,_|4,_|5,_|6,_|7,_|8,_|9,_|10,_|11,_|12,_|13,_|14,_|15,_|16,_|17,_|18,_=>rfl
  |n+19,h=>exact absurd h (by omega)
 have Xi: (match (DataW.agg (xs.map (·.1)):DataW Unit) with|DataW.agg l=>l[i]? |_=>Option.none)=some (.lit (.int .i64 k)):=by
  show (xs.map (·.1))[i]? =_;rw [aji,hx,e2];rfl
 have hk: (DataW.lit (.int .i64 (NG i:Int)):DataW Unit)= .lit (.int .i64 k):=ajz (Zs.symm.trans (hD.trans Xi));simp only [DataW.lit.injEq,Lit.int.injEq,true_and] at hk;rw [rl hi,ai8] at hv;subst hv;have gY:=World.var?_cell UJ UA i;have hc:Zq[i]? =some (.int .i64 k):=by
  have:=congrArg (fun l=>l[0]?) e1
  simpa [akw,ajW] using this
 have JO:W.cell? ⟨4,i,none⟩=some (.int .i64 (NG i:Int)):=by rw [gY,hc,hk]
 rw [show (⟨4,0,none⟩:Addr).add i= ⟨4,i,none⟩ from by cases i<;>simp [Addr.add]];unfold World.cell? at JO;unfold cellAt;exact JO
theorem walk (a0:Option Addr) (Ou Ov:Nat) (l1:List Value) (a2:Int) (w:World) (hG:Reads w.heap ⟨5,0,none⟩ gU) (hG3:Reads w.heap ⟨0,0,none⟩ fY) (hG4:Reads w.heap ⟨4,0,none⟩ fY) (w0:ma [.int .i64,.string] w.heap a0 Ou Ov) (n1:l1.length=2) (w1:mG (List.replicate 2 (.int .i64)) fun j=>l1[j]?) (w2: (Lit.int .i64 a2).wf=true):
  Calls Tryz.prog 3 #[.slice a0 Ou Ov,.agg l1.toArray,.int .i64 a2] w fun e w' =>e= .returned (.bool true)∧∃Cc :World,w'.Alike Cc ∧Below w.heap.size w Cc :=by
 exact Pn (yT a0 Ou Ov l1 a2 hG hG3 hG4 w0 n1 w1 w2)
set_option maxRecDepth 100000 in
theorem lifted (os:Os) (started:os.Started) (H:Type) (enc:TypeId × Value→H):
  ReturnsInHanded {} Tryz.checked os 3 .any (fun w args=> (Rows.topArchivesSpec.pre enc Tryz.prog Tryz.f3 [] false w args∧laidMetH Tryz.prog BZ w)∧sizedMet enc Tryz.prog Tryz.f3 (OpenSpec.ofChange Rows.topArchivesSpec) false w args) (Rows.topArchivesSpec.post enc Tryz.prog Tryz.f3 false true false false):=by
 refine returnsInHanded_of_change_and (C:=Tryz.checked) (X:=fun w _=>laidMetH Tryz.prog BZ w) (fun _ _ _ hh h=>h.of_heap hh) own started (by kernel_rfl) Tryz.func3
  (ChangeSpec.witness_shaped (enc:=enc) (C:=Tryz.checked) (os:=os) (X:=fun w _=>laidMetH Tryz.prog BZ w) false (World.laidAll Tryz.prog os BZ) #[.slice none 0 0,(.agg #[(.int .i64 0),(.int .i64 0)]),.int .i64 0] 8 (World.laidAll_os _ _ _) (World.shaped_of_ZipB (by kernel_rfl) (by kernel_rfl)) (by kernel_rfl) (by kernel_rfl) (by kernel_rfl) (by rw [MakeChecks.laidMetH_plain _ _ _ (by kernel_rfl)];exact laidMet_laidAll _ (by kernel_rfl) (by kernel_rfl))) ?_
 intro W base args ds gs before UK hW _ _ hL _;have Gl: ∀ (j:Nat) t v,Tryz.f3.params[j]? =some t→args[j]? =some v→Value.okWide Tryz.prog W .any base t v:=UK;have Yn :=hW;obtain⟨p,q,hA0,hV,rfl,Pp,U5⟩:=hW;have hA:DataW.TrodAll enc Tryz.prog W 0 (fun _=>true) true Tryz.f3.params.toList args.toList ds p:=hA0;rw [Tryz.params3] at hA Gl;obtain⟨v0,vs0,d0,ds0,p0,q0,aey,rfl,rfl,h0,r0⟩:=trodAll_cons hA;obtain⟨v1,vs1,d1,ds1,p1,q1,rfl,rfl,rfl,h1,r1⟩:=trodAll_cons r0;obtain⟨v2,vs2,d2,ds2,p2,q2,rfl,rfl,rfl,h2,r2⟩:=trodAll_cons r1;obtain⟨rfl,rfl,rfl⟩:=trodAll_nil r2;obtain rfl:args= #[v0,v1,v2]:=by cases args;simp_all
 obtain⟨rfl,rfl⟩:=trodVars_none hV;have k0:=h0;have lt0: ∀x∈p0,x.block<W.heap.size:=by obtain⟨m,hm⟩:=k0;exact DataW.trod_lt m _ _ _ hm
 obtain⟨a0,Ou,Ov,rfl⟩:=okWide_slice Tryz.underlying22 (Gl 0 22 v0 rfl rfl);have w0:ma [.int .i64,.string] W.heap a0 Ou Ov:=by
  obtain⟨fuel,hf⟩:=h0;exact Ed Tryz.underlying22 Tryz.underlying81 (by kernel_rfl) (by kernel_rfl) (by kernel_rfl) (by kernel_rfl) hf
 have k1:=h1;have lt1: ∀x∈p1,x.block<W.heap.size:=by obtain⟨m,hm⟩:=k1;exact DataW.trod_lt m _ _ _ hm
 obtain⟨l1,rfl,n1,w1⟩:=Jq Tryz.underlying23 Tryz.underlying3 (by kernel_rfl) (by kernel_rfl) (Gl 1 23 v1 rfl rfl) h1;obtain⟨a2,rfl,rfl,rfl,w2⟩:=open_int Tryz.underlying3 (Gl 2 3 v2 rfl rfl) h2;clear hA0 UK;refine(walk a0 Ou Ov l1 a2 W (table hL) (WK hL) (WL hL) w0 n1 w1 w2).mono fun e W' ⟨he,R8,rS,bel⟩=>?_;subst he;exact⟨_,rfl,ChangeSpec.post_alike ⟨_,_,_,[],_,[],Yn,trodAll_mk1 (shut_bool Tryz.underlying4 _),(trodAll_cons_mk (Below.trod laidOut (by kernel_rfl) (of_decide_eq_true (by kernel_rfl)) k0 bel lt0) (trodAll_cons_mk (Below.trod laidOut (by kernel_rfl) (of_decide_eq_true (by kernel_rfl)) k1 bel lt1) (trodAll_cons_mk (shut_int Tryz.underlying3 w2) trodAll_mk0))),rfl,bel.frame _,fun h=>by cases h⟩ rS⟩
theorem both {a b:Bool} (h:a=true) (k:b=true): (a && b)=true:=by rw [h,k];rfl
theorem Zt:laidOutB Tryz.pinned.checked.prog=true:=by kernel_rfl
theorem Zu:mapsRowed Tryz.pinned.checked.prog=true:=by kernel_rfl
theorem Zv: (Rows.topArchivesRow.inPlace==Tryz.pinned.checked.prog.inPlace 3)=true:=by kernel_rfl
theorem WM: (Rows.topArchivesRow.unfollowed==Tryz.pinned.checked.prog.unfollowed 3)=true:=by kernel_rfl
theorem WN: (Rows.topArchivesRow.recurses==Tryz.pinned.checked.prog.recurses 3)=true:=by kernel_rfl
theorem WO: (Rows.topArchivesRow.named==Tryz.pinned.checked.prog.varsNamed 3)=true:=by kernel_rfl
theorem WQ: (Rows.topArchivesRow.plainKeys==Tryz.pinned.checked.prog.plainKeys)=true:=by kernel_rfl
theorem WR:Tryz.pinned.checked.prog.stopsHeard=true:=by kernel_rfl
theorem WS:Tryz.pinned.checked.prog.mayEnter=true:=by kernel_rfl
theorem WT: (Rows.topArchivesRow.lifted==Tryz.pinned.checked.prog.liftsFinal)=true:=by kernel_rfl
theorem WU: (Tryz.pinned.checked.prog.make==some Rows.topArchivesRow.make)=true:=by kernel_rfl
theorem closed:joinedFacts Tryz.pinned.checked.prog 3 Tryz.f3 Rows.topArchivesSpec Rows.topArchivesRow=true:=by
 unfold joinedFacts;exact(both (both (both (both (both (both (both (both (both (both (both (both (both (both (both (both (both (both (both (both (both (both (both (both (both (both (both (both (both (both (both (by kernel_rfl) Zt) Zu) (by kernel_rfl)) (by kernel_rfl)) (by kernel_rfl)) (by kernel_rfl)) (by kernel_rfl)) (by kernel_rfl)) Zv) WM) WN) WO) (by kernel_rfl)) (by kernel_rfl)) (by kernel_rfl)) (by kernel_rfl)) (by kernel_rfl)) (by kernel_rfl)) (by kernel_rfl)) (by kernel_rfl)) (by kernel_rfl)) WQ) (by kernel_rfl)) WR) WS) WT) WU) (by kernel_rfl)) (by kernel_rfl)) (by kernel_rfl)) (by kernel_rfl))
theorem over:Rows.topArchivesRow.holds Tryz.pinned (OpenSpec.ofChange Rows.topArchivesSpec):=
 OpenClaim.holds_of_wide 3 Tryz.f3 rfl rfl rfl rfl rfl rfl rfl ⟨rfl,rfl,rfl,rfl,rfl⟩ rfl rfl rfl rfl rfl (by kernel_rfl) Tryz.func3 closed
  (of_decide_eq_true (by kernel_rfl)) (by unfold Func.isWrapper;first| (rw [if_pos (by decide+kernel)];kernel_rfl) | (rw [if_neg (by decide+kernel)];exact⟨rfl,rfl⟩))
  (fun os started H enc _=>lifted os started H enc)
end
end Go.Proofs.YtpcgccdmmoggmaaGreatDoor.topArchives
namespace Go.Proofs.YtpcgccdmmoggmaaGreatDoor
section
theorem TopArchives_proved:Rows.TopArchivesCardSaid:=
 Claim7.holds_tied_plain_at .later [] [.data,.data,.widerDeep,.widerDeep,.pinned] true (true,"ff86a9bbbee56acf0164f6c32c5843417354baeffbd7e783743294b2dfe31c9a") false
  topArchives.over (fun _ h=>by cases h) (by kernel_rfl) (fun _ h=>by cases h) topArchives_row_tie rfl ⟨rfl,rfl⟩ (by kernel_rfl) rfl
  (fun f fn hf ZK=>by
   obtain rfl:f=3:=ajz ((show Tryz.prog.funcNamed "lighter/lightertop.TopArchives" =some 3 by kernel_rfl).symm.trans hf) |>.symm
   obtain rfl:fn=Tryz.f3:= (ajz (Tryz.func3.symm.trans ZK)).symm;exact⟨by kernel_rfl,fun j t ht=>by
    rw [Tryz.params3] at ht;have hm:t∈ [22,23,3]:=by simpa using Array.mem_of_getElem? ht
    have iT: ([22,23,3].all fun u=> !Tryz.prog.wantsStandIn u)=true:=by kernel_rfl
    exact(show Tryz.prog.wantsStandIn t=false by simpa using akv.1 iT t hm)⟩)
  (by kernel_rfl)
#print axioms TopArchives_proved
end
end Go.Proofs.YtpcgccdmmoggmaaGreatDoor

/- Part 6 of the proof of RowTopMended: what it is built on, in the order of its needs. -/
import Derived.Test.YtpcgccdmmoggmaaGreatDoorPkE
set_option linter.unusedSimpArgs false
set_option linter.unusedVariables false
namespace Go.Proofs.YtpcgccdmmoggmaaGreatDoor
open Go Go.Vc Go.Proofs
section
set_option maxRecDepth 100000
variable {H H0:ak} {R:Value→ak→Prop} {v dP:Value} {B:List Bool} {L M:List It} {b:Nat} {q:List Value} {W out:List UInt8}
theorem UK {a b:Nat} (ha:a<4611686018427387904) (hb:b<4611686018427387904):bitsOf .xor .i64 (a:Int) (b:Int)= ((a ^^^ b:Nat):Int):=by
 have eF:a ^^^ b<2 ^ 62:=alD (by simpa using ha) (by simpa using hb);have e: ((BitVec.ofInt 64 (a:Int)) ^^^ (BitVec.ofInt 64 (b:Int))).toNat=a ^^^ b:=by
  rw [amM,akC,akC,akD,akD,aj_ (by omega),aj_ (by omega)]
 show IntKind.i64.wrap ((((BitVec.ofInt 64 (a:Int)) ^^^ (BitVec.ofInt 64 (b:Int))).toNat:Nat):Int)=_;rw [e,bH (by omega) (by omega)]
def GG (dP:Value) (q:List Value):Prop:= ∃ (n:Nat) (last left sy di:Value),q= [i64 n,last,left,sy,di,dP,.int .i64 0]∧n<3∧aL last=true∧aL left=true∧aL sy=true∧aL di=true
def uX (L:List It) (dP:Value) (s:St) (q:List Value):Prop:= ∃ (st last left sy di:Value),q= [st,last,left,sy,di,dP,.int .i64 0]∧aL last=true∧aL left=true∧aL sy=true∧aL di=true∧match s with
 | .hd=>st=i64 0
 | .cp n l=>st=i64 1∧last= .bool l∧left=i64 n
 | .tl zs zd l=>st=i64 2∧last= .bool l∧jM L zs sy∧jM L zd di
 | .dn=>st=i64 3
theorem uX.len {s:St} (h:uX L dP s q):q.length=7:=by obtain⟨_,_,_,_,_,rfl,_⟩:=h;rfl
theorem GG.len (h:GG dP q):q.length=7:=by obtain⟨_,_,_,_,_,rfl,_⟩:=h;rfl
theorem uX.mono {L' :List It} {s:St} (h:uX L dP s q) (hm: ∀i∈L,i∈L'):uX L' dP s q:=by
 obtain⟨st,last,left,sy,di,h1,h2,h3,h4,h5,h6⟩:=h;refine⟨st,last,left,sy,di,h1,h2,h3,h4,h5,?_⟩
 cases s with
 |tl zs zd l=>exact⟨h6.1,h6.2.1,h6.2.2.1.mono hm,h6.2.2.2.mono hm⟩
 |_=>exact h6
theorem jM.one {zs:List Int} {p:Value} (h:jM L zs p):aL p=true:=by obtain⟨_,_,_,_,_,rfl,_⟩:=h;rfl
theorem Dc.pl {K:Value→Prop} {g:Nat} {x:Value} (d:Dc H0 H b q B W out L) (h7:7≤g) (hx:q[g - 7]? =some x) (hk:K x):al H (at_ b g) K:=by
 obtain⟨bp,bv,wH,Bj,w⟩:=d;refine w.pl (x:=x) (by omega) ?_ hk;obtain⟨j,rfl⟩: ∃j,g=j+7:= ⟨g - 7,by omega⟩;simp only [alY] at hx;rw [show j+7 - 5=j+1+1 by omega];exact hx
theorem Dc.ps {K:Value→ak→Prop} {g:Nat} {x:Value} (d:Dc H0 H b q B W out L) (h7:7≤g) (hg:g - 7<q.length) (hx:aL x=true) (hk: ∀H',Dc H0 H' b (q.set (g - 7) x) B W out L→K undef H'):aE H (at_ b g) x K:=by
 obtain⟨bp,bv,wH,Bj,w⟩:=d;refine w.ps (by omega) (by simp;omega) hx fun H' w=>hk H' ⟨bp,bv,wH,Bj,?_⟩;obtain⟨j,rfl⟩: ∃j,g=j+7:= ⟨g - 7,by omega⟩;rw [show j+7 - 5=j+1+1 by omega] at w;exact w
theorem Dc.rd (d:Dc H0 H b q B W out L): ∃ (post:List Value) (rv bv:Value) (ring:List UInt8),aw H0 H (rE b post 255 B:: .sl rv 1 (ring.map cY):: .ay (tI bv out)::L)∧∀H' C M,aw H0 H' (rE b post 255 C:: .sl rv 1 (ring.map cY):: .ay (tI bv out)::M)→Dc H0 H' b q C W out M:=by
 obtain⟨bp,bv,wH,Bj,rv,ring,hr,hs,o⟩:=d;exact⟨_,rv,bv,ring,o,fun H' C M o=> ⟨bp,bv,wH,Bj,rv,ring,hr,hs,o⟩⟩
theorem Nh {M:List It} {i j k:It} (o:aw H0 H (i:: (M++j::k::L))):aw H0 H (i::j::k:: (M++L)):=by
 refine o.perm (List.Perm.cons _ ?_);refine List.Perm.symm (ami.trans (List.Perm.cons _ ami))
theorem I_ (d:Dc H0 H b q B W out L)
  (pJ: ∀x C H',gK 32 (eZ B)= .ok x C→(x%65536) ^^^ (x/65536)=65535→Dc H0 H' b q C W out L→R (.tuple #[i64 (x%65536),.int .i64 0]) H')
  (Ug: ∀x C H',gK 32 (eZ B)= .ok x C→(x%65536) ^^^ (x/65536)≠65535→Dc H0 H' b q C W out L→R (.tuple #[i64 (x%65536),.int .i64 8]) H')
  (qI: ∀H',gK 32 (eZ B)= .er 2→Dc H0 H' b q (eZ B) W out L→R (.tuple #[i64 0,.int .i64 2]) H'):ab Tryz.prog 250 #[at_ b 0] H R:=by
 obtain⟨post,rv,bv,ring,o,back⟩:=d.rd;refine ft.vc _ _ _ ?_;unfold ft.res;refine Ay (vt o (by repeat(first|exact ajP|apply ajO))) fun H1 w c=>?_;have o:=o.rd w c bd.here
 change aw H0 H1 (rE b post 255 (eZ B)::_) at o
 refine qY (n:=32) (by decide) o (fun x C H2 hx ahL o=>?_) (fun hx=>?_)
 ·refine ai rfl ?_
  refine ai rfl ?_;have a1:=By (v:=x) (k:=16) (m:=65535) (by decide) rfl;rw [show (2:Nat) ^ 16=65536 from rfl] at a1;have e1:bitsOf .xor .i64 ((x%65536:Nat):Int) ((x/65536:Nat):Int)= (((x%65536) ^^^ (x/65536):Nat):Int):=UK (by omega) (by omega);refine⟨fun e H' =>H2=H' ∧e=if (x%65536) ^^^ (x/65536)≠65535 then .int .i64 8 else .int .i64 0,?_,?_⟩
  ·rintro _ _ _ ⟨rfl,rfl⟩
   rw [dF,a1]
   by_cases hb: (x%65536) ^^^ (x/65536)≠65535
   ·rw [if_pos hb];exact Ug x C H2 hx hb (back _ _ _ o)
   ·rw [if_neg hb];exact pJ x C H2 hx (amP.1 hb) (back _ _ _ o)
  ·rw [bj,decide_eq_true rfl]
   refine bX ?_;rw [dF,a1,ql];refine⟨by decide,?_⟩;rw [nM (m:=min (Int.toNat 16) IntKind.i64.bits) (j:=16) rfl,show (2:Nat) ^ 16=65536 from rfl,dF,e1,mP];intro _
   by_cases hb: (x%65536) ^^^ (x/65536)≠65535
   ·rw [decide_eq_true (by omega),aH,if_pos hb];exact⟨rfl,rfl⟩
   ·rw [decide_eq_false (by omega),ao,if_neg hb];exact⟨rfl,rfl⟩
 ·refine ai rfl ?_
  refine ai rfl ?_;refine⟨fun e H' =>H1=H' ∧e= .int .i64 2,?_,?_⟩
  ·rintro _ _ _ ⟨rfl,rfl⟩
   rw [dF];exact qI H1 hx (back _ _ _ o)
  ·rw [bj,decide_eq_false (by decide),fH]
   intro _;rw [ao];exact⟨rfl,rfl⟩
theorem LJ (hG:Reads H0 ⟨4,0,none⟩ je) (hq:GG dP q) (d:Dc H0 H b q B W out L)
  (pJ: ∀st C H' M q',j6 B= .ok st C→Dc H0 H' b q' C W out (M++L)→uX (M++L) dP st q' →R (.int .i64 0) H')
  (qI: ∀e H' C q',j6 B= .er e→e≠0→Dc H0 H' b q' C W out L→GG dP q' →R (.int .i64 e) H'):ab Tryz.prog 220 #[at_ b 0] H R:=by
 obtain⟨n,last,left,sy,di,rfl,Xn,Xp,hle,Be,EG⟩:=hq;generalize hT:j6 B=T at*;unfold j6 at hT;refine fq.vc _ _ _ ?_;unfold fq.res;rw [aA,ag,au];obtain⟨post,rv,bv,ring,o,back⟩:=d.rd;refine qY (n:=3) (by decide) o (fun x C1 H1 hx wx o=>?_) (fun hx=>?_)
 rotate_left
 ·rw [hx] at hT
  refine ai rfl ?_;refine ai rfl ?_;refine pY (by decide) ?_;rw [aH];exact qI 2 H B _ hT.symm (by decide) d ⟨n,last,left,sy,di,rfl,Xn,Xp,hle,Be,EG⟩
 rw [hx] at hT
 dsimp only [Rs.bind] at hT
 have d:=back _ _ _ o;refine ai rfl ?_;refine ai rfl ?_;refine jD ?_;rw [ao];have Oy:x<8:=wx;have a1:=By (v:=x) (k:=1) (m:=1) (by decide) rfl;rw [show (2:Nat) ^ 1=2 from rfl] at a1;refine⟨fun e H' => ∃q' C M,Dc H0 H' b q' C W out (M++L)∧((e= .int .i64 0∧∀AT,∃st,AT= .bool (decide (x%2=1))→T= .ok st C∧uX (M++L) dP st (q'.set 1 AT))∨(∃ev,e= .int .i64 ev∧T= .er ev∧ev≠0∧GG dP q' ∧M= [])),?_,?_⟩
 ·rintro _ _ H2 ⟨q',C,M,d,hd⟩
  rw [dF,a1,bj,aA,ag,au];have hl7:7=q'.length:=by
   rcases hd with ⟨_,h⟩ | ⟨ev,_,_,_,h,_⟩
   ·obtain⟨st,h⟩:=h (.bool (decide (x%2=1)))
    have:= (h rfl).2.len;rw [akT] at this;exact this.symm
   ·exact h.len.symm
  refine d.ps (g:=0+8) (by decide) (by omega) rfl fun H3 d=>?_;have eb: (decide (((x%2:Nat):Int)=1))=decide (x%2=1):=by rw [ala,decide_eq_true_eq,decide_eq_true_eq];omega
  rw [eb] at d;rcases hd with ⟨rfl,h⟩ | ⟨ev,rfl,h1,h2,h3,rfl⟩
  ·obtain⟨st,h⟩:=h (.bool (decide (x%2=1)))
   obtain⟨h1,h2⟩:=h rfl;exact pJ st C H3 M _ h1 d h2
  ·refine qI ev H3 C _ h1 h2 d ?_
   obtain⟨n,last,left,sy,di,rfl,g1,g2,g3,g4,g5⟩:=h3;exact⟨n,_,left,sy,di,rfl,g1,rfl,g3,g4,g5⟩
 rw [ql];refine⟨by decide,?_⟩;rw [nM (m:=min (Int.toNat 1) IntKind.i64.bits) (j:=1) rfl,show (2:Nat) ^ 1=2 from rfl,bj];refine ax (fun h0=>?_) (fun h0=>?_)
 ·rw [if_pos (by omega)] at hT
  rw [aA,ag,au];have fin: ∀ (nv:Nat) (ev:Int) (C:List Bool) (H2:ak),Dc H0 H2 b [i64 n,last,left,sy,di,dP,.int .i64 0] C W out L→((ev=0∧T= .ok (.cp nv (decide (x%2=1))) C)∨(T= .er ev∧ev≠0))→
    aB (at_ b 0) fun c8=>aa 9 c8 fun dK=>aE H2 dK (i64 nv) fun _ cm=>aB (at_ b 0) fun cU=>aa 7 cU fun dX=>aE cm dX (.int .i64 1) fun _ cq=>
    (∃q' C M,Dc H0 cq b q' C W out (M++L)∧(((.int .i64 ev:Value)= .int .i64 0∧∀AT,∃st,AT= .bool (decide (x%2=1))→T= .ok st C∧uX (M++L) dP st (q'.set 1 AT))∨(∃ev',(.int .i64 ev:Value)= .int .i64 ev' ∧T= .er ev' ∧ev' ≠0∧GG dP q' ∧M= []))):=by
   intro nv ev C H2 d hh;rw [aA,ag,au];refine d.ps (g:=0+9) (by decide) (by simp) rfl fun H3 d=>?_;rw [aA,ag,au];refine d.ps (g:=0+7) (by decide) (by simp) rfl fun H4 d=>?_;refine⟨_,C,[],d,?_⟩;rcases hh with ⟨rfl,h⟩ | ⟨h1,h2⟩
   ·exact .inl ⟨rfl,fun AT=> ⟨.cp nv (decide (x%2=1)),fun e=>by subst e;exact⟨h,_,_,_,_,_,rfl,rfl,rfl,Be,EG,rfl,rfl,rfl⟩⟩⟩
   ·exact .inr ⟨ev,rfl,h1,h2,⟨1,last,i64 nv,sy,di,rfl,by decide,Xp,rfl,Be,EG⟩,rfl⟩
  refine I_ d (fun y C H2 hy XA d=>?_) (fun y C H2 hy XA d=>?_) (fun H2 hy d=>?_)
  ·refine ai rfl ?_
   refine ai rfl ?_;rw [hy] at hT
   dsimp only [Rs.bind] at hT
   rw [if_neg (fun g=>g XA)] at hT;exact fin (y%65536) 0 C H2 d (.inl ⟨rfl,hT.symm⟩)
  ·refine ai rfl ?_
   refine ai rfl ?_;rw [hy] at hT
   dsimp only [Rs.bind] at hT
   rw [if_pos XA] at hT;exact fin (y%65536) 8 C H2 d (.inr ⟨hT.symm,by decide⟩)
  ·refine ai rfl ?_
   refine ai rfl ?_;rw [hy] at hT;exact fin 0 2 _ H2 d (.inr ⟨hT.symm,by decide⟩)
 rw [if_neg (by omega)] at hT;rw [bj];refine ax (fun h1=>?_) (fun h1=>?_)
 ·rw [if_pos (by omega)] at hT
  refine Lh o fun H2 M p r hp hr o=>?_;have d:=back H2 C1 (M++L) (Nh o.mid|>fun o=>o.perm (by
   refine List.Perm.cons _ (List.Perm.cons _ ?_);exact amo _))
  refine ai rfl ?_;refine ai rfl ?_;rw [aA,ag,au];refine d.ps (g:=0+10) (by decide) (by simp) hp.one fun H3 d=>?_;rw [aA,ag,au];refine d.ps (g:=0+11) (by decide) (by simp) hr.one fun H4 d=>?_;rw [aA,ag,au];refine d.ps (g:=0+7) (by decide) (by simp) rfl fun H5 d=>?_;exact⟨_,C1,M,d,.inl ⟨rfl,fun AT=> ⟨.tl lI sI (decide (x%2=1)),fun e=>by subst e;exact⟨hT.symm,_,_,_,_,_,rfl,rfl,hle,hp.one,hr.one,rfl,rfl,hp.sB,hr.sB⟩⟩⟩⟩
 rw [if_neg (by omega)] at hT;rw [bj];refine ax (fun h2=>?_) (fun h2=>?_)
 ·rw [if_pos (by omega)] at hT
  rw [aA,ag,au];refine GC hG o (fun p C H2 M y z hd hy hz o=>?_) (fun e C H2 y z hd he hy hz o=>?_)
  ·rw [hd] at hT
   dsimp only [Rs.bind] at hT
   have d:=back H2 C (M++L) (Nh o);refine ai rfl ?_;refine ai rfl ?_;refine ai rfl ?_;rw [aA,ag,au];refine d.ps (g:=0+10) (by decide) (by simp) hy.one fun H3 d=>?_;rw [aA,ag,au];refine d.ps (g:=0+11) (by decide) (by simp) hz.one fun H4 d=>?_;rw [aA,ag,au];refine d.ps (g:=0+7) (by decide) (by simp) rfl fun H5 d=>?_;exact⟨_,C,M,d,.inl ⟨rfl,fun AT=> ⟨.tl p.1 p.2 (decide (x%2=1)),fun e=>by subst e;exact⟨hT.symm,_,_,_,_,_,rfl,rfl,hle,hy.one,hz.one,rfl,rfl,hy.sB,hz.sB⟩⟩⟩⟩
  ·rw [hd] at hT
   dsimp only [Rs.bind] at hT
   have d:=back H2 C L o;refine ai rfl ?_;refine ai rfl ?_;refine ai rfl ?_;rw [aA,ag,au];refine d.ps (g:=0+10) (by decide) (by simp) hy fun H3 d=>?_;rw [aA,ag,au];refine d.ps (g:=0+11) (by decide) (by simp) hz fun H4 d=>?_;rw [aA,ag,au];refine d.ps (g:=0+7) (by decide) (by simp) rfl fun H5 d=>?_;exact⟨_,C,[],d,.inr ⟨e,rfl,hT.symm,he,⟨2,last,left,y,z,rfl,by decide,Xp,hle,hy,hz⟩,rfl⟩⟩
 ·rw [if_neg (by omega)] at hT
  exact qI 3 H1 C1 _ hT.symm (by decide) d ⟨n,last,left,sy,di,rfl,Xn,Xp,hle,Be,EG⟩
end
section
set_option maxRecDepth 100000
variable {H H0:ak} {R:Value→ak→Prop} {v dP:Value} {B:List Bool} {L M:List It} {b:Nat} {q:List Value} {W out:List UInt8}
theorem Dg {st left sy di:Value} {l:Bool} (h1:aL left=true) (h2:aL sy=true) (h3:aL di=true) (d:Dc H0 H b [st,.bool l,left,sy,di,dP,.int .i64 0] B W out L)
  (h: ∀H' q',Dc H0 H' b q' (ml l B W).B (ml l B W).W out L→uX L dP (ml l B W).st q' →R (.tuple #[]) H'):ab Tryz.prog 254 #[at_ b 0] H R:=by
 refine eP.vc _ _ _ ?_;unfold eP.res;rw [aA,ag,au];refine d.ps (g:=0+7) (by decide) (by simp) rfl fun H1 d=>?_;rw [aA,ag,au];refine d.pl (g:=0+8) (x:= .bool l) (by decide) rfl ?_
 cases l with
 |true=>
  rw [aH,aA,ag,au];refine d.ps (g:=0+7) (by decide) (by simp) rfl fun H2 d=>?_;rw [aA,ag,au];obtain⟨post,rv,bv,ring,o,back⟩:=d.rd;refine Ay (vt o (by repeat(first|exact ajP|apply ajO))) fun H3 w c=>?_;have o:=o.rd w c bd.here;exact h H3 _ (back H3 (eZ B) L o) ⟨_,_,_,_,_,rfl,rfl,h1,h2,h3,rfl⟩
 |false=>
  rw [ao];exact h H1 _ d ⟨_,_,_,_,_,rfl,rfl,h1,h2,h3,rfl⟩
theorem zN {l:List Bool} {k:Nat} (h:l.length=8*k): (a7 l).length=k:=pR k l (by omega)
theorem Ja {left:Nat} {last:Bool} (hq:uX L dP (.cp left last) q) (hl:left≤65535) (u0:W.length+258*B.length≤1000000000000) (ho:out.length≤W.length) (d:Dc H0 H b q B W out L)
  (zx: ∀D' o H' q',dd ⟨.cp left last,B,W⟩= .go D' o→Dc H0 H' b q' D'.B D'.W (out++o) L→uX L dP D'.st q' →R (.int .i64 0) H')
  (hwt: ∀D' o H' q',dd ⟨.cp left last,B,W⟩= .wait D' o→Dc H0 H' b q' D'.B D'.W (out++o) L→uX L dP D'.st q' →R (.int .i64 2) H'):ab Tryz.prog 221 #[at_ b 0] H R:=by
 obtain⟨_,_,_,sy,di,rfl,-,-,h4,h5,rfl,rfl,rfl⟩:=hq;have hq7: ([i64 1,.bool last,i64 left,sy,di,dP,.int .i64 0]:List Value).length=7:=rfl;have ze:=ur B;refine eB.vc _ _ _ ?_;unfold eB.res;rw [aA,ag,au,aA,ag,au];refine d.pl (g:=0+9) (x:=i64 left) (by decide) rfl ?_;obtain⟨post,rv,bv,ring,o,back⟩:=d.rd;refine CI (n:= (left:Int)) (by omega) (vt o (by repeat(first|exact ajP|apply ajO))) fun H1 k hk w c=>?_
 change k=min (left:Int).toNat ((B.length - B.length%8) /8) at hk
 rw [←ze.2,ajS] at hk
 change Rd H1 b 0 ((eZ B).drop (8*k)) at w
 change aB (at_ b 0) _
 rw [show List.drop (B.length%8) B=eZ B from rfl];have d:=back H1 _ L (o.rd w c bd.here);have j5:8*k≤(eZ B).length:=by omega
 have Jb: (a7 ((eZ B).take (8*k))).length=k:=zN (by rw [ajW];omega);rw [aA,ag,au];refine d.pl (g:=0+9) (x:=i64 left) (by decide) rfl ?_;refine aJ ?_;rw [Jb,bE,show (left:Int) - (k:Int)= ((left - k:Nat):Int) by omega,bH (by omega) (by omega),aA,ag,au];refine d.ps (g:=0+9) (by decide) (by simp) rfl fun H2 d=>?_;rw [aA,ag,au];obtain⟨bp,bv,wH,Bj,w⟩:=d;refine aan w (by rw [Jb];omega) fun H3 w=>?_;have d:Dc H0 H3 b _ _ _ out L:= ⟨bp,bv,wH,Bj,w⟩;rw [aA,ag,au];refine I8 (by rfl) (by rw [Jb];omega) d fun H4 d=>?_;rw [aA,ag,au];refine d.pl (g:=0+9) (x:=i64 (left - k)) (by decide) rfl ?_;rw [bU];have e1:dd ⟨.cp left last,B,W⟩=if min left ((eZ B).length/8)<left then .wait ⟨.cp (left - min left ((eZ B).length/8)) last,(eZ B).drop (8*min left ((eZ B).length/8)),W++a7 ((eZ B).take (8*min left ((eZ B).length/8)))⟩ (a7 ((eZ B).take (8*min left ((eZ B).length/8))))
   else .go (ml last ((eZ B).drop (8*left)) (W++a7 ((eZ B).take (8*left)))) (a7 ((eZ B).take (8*left))):=rfl
 rw [←hk] at e1;refine ax (fun hc=>?_) (fun hc=>?_)
 ·rw [if_pos (by omega)] at e1
  exact hwt _ _ H4 _ e1 d ⟨_,_,_,_,_,rfl,rfl,rfl,h4,h5,rfl,rfl,rfl⟩
 ·have Yx:k=left:=by omega
  rw [if_neg (by omega)] at e1;rw [Yx] at d;refine Dg (left:=i64 (left - left)) (sy:=sy) (di:=di) rfl h4 h5 d fun H5 q' d hs=>?_;exact zx _ _ H5 _ e1 d hs
theorem Dh: ∀k:Fin 29,3≤(lenOf (257+ ((k.val:Nat):Int))).1∧0≤(lenOf (257+ ((k.val:Nat):Int))).2∧(lenOf (257+ ((k.val:Nat):Int))).2≤5∧(lenOf (257+ ((k.val:Nat):Int))).1.toNat+2 ^ (lenOf (257+ ((k.val:Nat):Int))).2.toNat≤259:=by decide+kernel
theorem Jc: ∀k:Fin 30,1≤(cu ((k.val:Nat):Int)).1∧0≤(cu ((k.val:Nat):Int)).2∧(cu ((k.val:Nat):Int)).2≤13∧(cu ((k.val:Nat):Int)).1.toNat+2 ^ (cu ((k.val:Nat):Int)).2.toNat≤32769:=by decide+kernel
theorem Di {least n:Nat} (hn:n≤32) (hl:least≤100000) (d:Dc H0 H b q B W out L)
  (pJ: ∀x C H',gK n B= .ok x C→x<2 ^ n→Dc H0 H' b q C W out L→R (.tuple #[i64 (least+x),.int .i64 0]) H')
  (qI:gK n B= .er 2→R (.tuple #[i64 least,.int .i64 2]) H):ab Tryz.prog 280 #[at_ b 0,i64 least,i64 n,.bool true] H R:=by
 refine dA.vc _ _ _ _ _ _ ?_;unfold dA.res;rw [fc,ak0,ao,aA,ag,au];obtain⟨post,rv,bv,ring,o,back⟩:=d.rd;refine qY hn o (fun x C H1 hx hxn o=>?_) (fun hx=>?_)
 ·refine ai rfl ?_
  refine ai rfl ?_;have:2 ^ n≤2 ^ 32:=akd (by decide) hn;rw [aC,show (least:Int)+ (x:Int)= ((least+x:Nat):Int) by omega,bH (by omega) (by omega)];exact pJ x C H1 hx hxn (back _ _ _ o)
 ·refine ai rfl ?_
  refine ai rfl ?_;rw [aC,Int.add_zero,bH (by omega) (by omega)];exact qI hx
theorem Jd {x y:Int} (h:R (.tuple #[.int .i64 0,.int .i64 4]) H):ab Tryz.prog 280 #[at_ b 0,.int .i64 x,.int .i64 y,.bool false] H R:=by
 refine dA.vc _ _ _ _ _ _ ?_;unfold dA.res;rw [fc,alh,aH];exact h
theorem Je {zd:List Int} {s:Nat} {st last left sy di e:Value} (hs:257≤s) (u0:W.length+258*B.length≤1000000000000) (hB:0<B.length∨W.length+258≤1000000000000) (ho:out.length≤W.length) (hc:jM L zd di) (d:Dc H0 H b [st,last,left,sy,di,dP,e] B W out L)
  (pJ: ∀p C H',jL zd s B= .ok p C→1≤p.2∧p.2≤min W.length 32768→Dc H0 H' b [st,last,left,sy,di,dP,e] C (dZ p.1 W p.2) (out++ (dZ p.1 W p.2).drop W.length) L→R (.int .i64 0) H')
  (aed: ∀p C H',jL zd s B= .ok p C→¬ (1≤p.2∧p.2≤min W.length 32768)→Dc H0 H' b [st,last,left,sy,di,dP,e] C W out L→R (.int .i64 6) H')
  (qI: ∀ev C H',jL zd s B= .er ev→ev≠0→Dc H0 H' b [st,last,left,sy,di,dP,e] C W out L→R (.int .i64 ev) H'):ab Tryz.prog 256 #[at_ b 0,i64 s] H R:=by
 generalize hT:jL zd s B=T at*;unfold jL at hT;rcases akz 285 s with aap|aap
 ·rw [if_pos aap] at hT
  refine dz.vc _ _ _ _ ?_;unfold dz.res;refine sH ?_;rw [if_pos (.inr (by omega))];refine ai rfl ?_;refine ai rfl ?_;refine ai rfl ?_;refine Jd ?_;refine ai rfl ?_;refine ai rfl ?_;refine pY (by decide) ?_;rw [aH];exact qI 4 B H hT.symm (by decide) d
 rw [if_neg (by omega)] at hT;refine dz.vc _ _ _ _ ?_;unfold dz.res;refine sH ?_;rw [if_neg (by omega)];refine ai rfl ?_;refine ai rfl ?_;refine ai rfl ?_;obtain⟨f1,f2,f3,f4⟩:=Dh ⟨s - 257,by omega⟩;have es: (257:Int)+ ((s - 257:Nat):Int)= (s:Int):=by omega
 dsimp only at f1 f2 f3 f4
 rw [es] at f1 f2 f3 f4;have p5:0<2 ^ (lenOf (s:Int)).2.toNat:=Nat.pow_pos (by decide);obtain⟨l1,XB⟩: ∃l1:Nat,(lenOf (s:Int)).1=l1:= ⟨_,(alc (by omega)).symm⟩;obtain⟨n1,Hb⟩: ∃n1:Nat,(lenOf (s:Int)).2=n1:= ⟨_,(alc (by omega)).symm⟩;rw [XB] at f1 f4;rw [Hb] at f2 f3 f4 p5;rw [XB,Hb] at hT ⊢;rw [ajS,ajS] at f4 hT;rw [ajS] at p5;refine Di (least:=l1) (n:=n1) (by omega) (by omega) d (fun x C1 H1 hx rR d=>?_) (fun hx=>?_)
 rotate_left
 ·rw [hx] at hT
  refine ai rfl ?_;refine ai rfl ?_;refine pY (by decide) ?_;rw [aH];exact qI 2 B H hT.symm (by decide) d
 rw [hx] at hT
 dsimp only [Rs.bind] at hT
 refine ai rfl ?_;refine ai rfl ?_;refine jD ?_;rw [ao,aA,ag,au];refine d.pl (g:=0+11) (x:=di) (by decide) rfl ?_;rw [aA,ag,au];obtain⟨post,rv,bv,ring,o,back⟩:=d.rd;refine xm hc.cons.cons o (fun k C2 H2 hk j5 o=>?_) (fun ev H2 hk he o=>?_)
 rotate_left
 ·rw [hk] at hT
  dsimp only [Rs.bind] at hT
  refine ai rfl ?_;refine ai rfl ?_;refine pY he ?_;rw [aH];exact qI ev C1 H2 hT.symm he (back _ _ _ o)
 rw [hk] at hT
 dsimp only [Rs.bind] at hT
 have d:=back H2 C2 L o;refine ai rfl ?_;refine ai rfl ?_;refine jD ?_;rw [ao];refine Az ?_;rcases akz 29 k with h29|h29
 ·rw [if_pos h29] at hT
  rw [if_pos (.inr (by omega))];refine ai rfl ?_;refine ai rfl ?_;refine ai rfl ?_;refine Jd ?_;refine ai rfl ?_;refine ai rfl ?_;refine pY (by decide) ?_;rw [aH];exact qI 4 C2 H2 hT.symm (by decide) d
 rw [if_neg (by omega)] at hT;rw [if_neg (by omega)];refine ai rfl ?_;refine ai rfl ?_;refine ai rfl ?_;obtain⟨g1,g2,g3,g4⟩:=Jc ⟨k,by omega⟩
 dsimp only at g1 g2 g3 g4
 obtain⟨l2,Uj⟩: ∃l2:Nat,(cu (k:Int)).1=l2:= ⟨_,(alc (by omega)).symm⟩;obtain⟨n2,MF⟩: ∃n2:Nat,(cu (k:Int)).2=n2:= ⟨_,(alc (by omega)).symm⟩;have p6:0<2 ^ (cu (k:Int)).2.toNat:=Nat.pow_pos (by decide);rw [Uj] at g1 g4;rw [MF] at g2 g3 g4 p6;rw [Uj,MF] at hT ⊢;rw [ajS,ajS] at g4 hT;rw [ajS] at p6;refine Di (least:=l2) (n:=n2) (by omega) (by omega) d (fun y C3 H3 hy hy2 d=>?_) (fun hy=>?_)
 rotate_left
 ·rw [hy] at hT
  refine ai rfl ?_;refine ai rfl ?_;refine pY (by decide) ?_;rw [aH];exact qI 2 C2 H2 hT.symm (by decide) d
 rw [hy] at hT
 dsimp only [Rs.bind] at hT
 refine ai rfl ?_;refine ai rfl ?_;refine jD ?_;rw [ao,aA,ag,au];obtain⟨bp,bv,wH,Bj,w⟩:=d;have Gh:l1+x≤258:=by omega
 by_cases hd:1≤l2+y∧l2+y≤min W.length 32768
 ·refine Xy w Gh hd.1 hd.2 (by rcases hB with h|h<;>omega) fun H4 w=>?_
  refine ai rfl ?_;refine ai rfl ?_;rw [fc,ak0,ao,aA,ag,au];have iz:=wq (l1+x) W (l2+y);refine I8 (by rfl) (by rw [aj1,iz];rcases hB with h|h<;>omega) ⟨bp,bv,wH,Bj,w⟩ fun H5 d=>?_;exact pJ (l1+x,l2+y) C3 H5 hT.symm hd d
 ·refine O4 w Gh (by omega) ?_
  refine ai rfl ?_;refine ai rfl ?_;rw [fc,alh,aH];exact aed (l1+x,l2+y) C3 H3 hT.symm hd ⟨bp,bv,wH,Bj,w⟩
theorem GH {zs zd:List Int} {l:Bool} (hq:uX L dP (.tl zs zd l) q) (u0:W.length+258*B.length≤1000000000000) (ho:out.length≤W.length) (d:Dc H0 H b q B W out L)
  (zx: ∀D' o H' q',dd ⟨.tl zs zd l,B,W⟩= .go D' o→Dc H0 H' b q' D'.B D'.W (out++o) L→uX L dP D'.st q' →R (.int .i64 0) H')
  (qI: ∀e C H',dd ⟨.tl zs zd l,B,W⟩=SR.of ⟨.tl zs zd l,B,W⟩ e→e≠0→Dc H0 H' b q C W out L→R (.int .i64 e) H'):ab Tryz.prog 222 #[at_ b 0] H R:=by
 have Yw:=hq;obtain⟨_,_,left,sy,di,rfl,-,h3,h4,h5,rfl,rfl,y7,lz⟩:=hq;have e1:dd ⟨.tl zs zd l,B,W⟩=match iX zs B with
  | .er e=>SR.of ⟨.tl zs zd l,B,W⟩ e
  | .ok s B2=>if s=256 then .go (ml l B2 W) [] else if s<256 then .go ⟨.tl zs zd l,B2,W++ [UInt8.ofNat s]⟩ [UInt8.ofNat s] else match jL zd s B2 with
   | .er e=>SR.of ⟨.tl zs zd l,B,W⟩ e
   | .ok p B2=>if 1≤p.2∧p.2≤min W.length 32768 then .go ⟨.tl zs zd l,B2,dZ p.1 W p.2⟩ ((dZ p.1 W p.2).drop W.length) else .bad 6:=rfl
 refine eC.vc _ _ _ ?_;unfold eC.res;rw [aA,ag,au];refine d.pl (g:=0+10) (x:=sy) (by decide) rfl ?_;rw [aA,ag,au];obtain⟨post,rv,bv,ring,o,back⟩:=d.rd;refine xm y7.cons.cons o (fun s C1 H1 hs n_ o=>?_) (fun ev H1 hs he o=>?_)
 rotate_left
 ·rw [hs] at e1
  refine ai rfl ?_;refine ai rfl ?_;refine pY he ?_;rw [aH];exact qI ev B H1 e1 he (back _ _ _ o)
 have qn:=zE hs;rw [hs] at e1
 dsimp only at e1
 have d:=back H1 C1 L o;refine ai rfl ?_;refine ai rfl ?_;refine jD ?_;rw [ao,bj];refine ax (fun yJ=>?_) (fun yJ=>?_)
 ·rw [if_pos (by omega)] at e1
  refine Dg h3 h4 h5 d fun H2 q' d hs=>?_;exact zx _ _ H2 _ e1 (by rw [akb];exact d) hs
 rw [if_neg (by omega)] at e1;rw [bU];refine ax (fun Tk=>?_) (fun Tk=>?_)
 ·rw [if_neg (by omega)] at e1
  refine Je (by omega) (by omega) (.inr (by omega)) ho lz d (fun p C H2 hm hp d=>?_) (fun p C H2 hm hp d=>?_) (fun ev C H2 hm he d=>?_)
  ·rw [hm] at e1
   dsimp only at e1
   rw [if_pos hp] at e1;exact zx _ _ H2 _ e1 d Yw
  ·rw [hm] at e1
   dsimp only at e1
   rw [if_neg hp] at e1;refine qI 6 C H2 (by rw [e1];rfl) (by decide) d
  ·rw [hm] at e1
   exact qI ev C H2 e1 he d
 ·rw [if_pos (by omega)] at e1
  rw [aA,ag,au];refine cC ?_;have eb:Value.int .u8 (IntKind.u8.wrap (s:Int))=cY (UInt8.ofNat s):=by
   have:=yc (v:=s);rw [aj_ (by omega)] at this;exact this
  rw [eb];obtain⟨bp,bv,wH,Bj,w⟩:=d;refine R7 w (by omega) fun H2 w=>?_;rw [aA,ag,au];refine cC ?_;rw [eb];refine Sa (by rfl) (by omega) ⟨bp,bv,wH,Bj,w⟩ fun H3 d=>?_;exact zx _ _ H3 _ e1 d Yw
end
section
set_option maxRecDepth 100000
variable {H H0:ak} {R:Value→ak→Prop} {v dP:Value} {B:List Bool} {L M:List It} {b:Nat} {q:List Value} {W out:List UInt8}
theorem uX.any {s:St} (h:uX L dP s q) (hd:s.mm=false):GG dP q:=by
 obtain⟨st,last,left,sy,di,rfl,h2,h3,h4,h5,h6⟩:=h
 cases s with
 |hd=>subst h6;exact⟨0,_,_,_,_,rfl,by decide,h2,h3,h4,h5⟩
 |cp n l=>obtain⟨rfl,rfl,rfl⟩:=h6;exact⟨1,_,_,_,_,rfl,by decide,h2,h3,h4,h5⟩
 |tl zs zd l=>obtain⟨rfl,rfl,_⟩:=h6;exact⟨2,_,_,_,_,rfl,by decide,h2,h3,h4,h5⟩
 |dn=>cases hd
theorem GI {a c:Nat} (h:i64 a=i64 c):a=c:=by
 simp only [Value.int.injEq,true_and] at h;omega
def mO:St→Prop
 | .cp n _=>n≤65535
 |_=>True
theorem Dc.items {v' :It} (d:Dc H0 H b q B W out (M++v' ::L)):Dc H0 H b q B W out (M++L):=by
 obtain⟨post,rv,bv,ring,o,back⟩:=d.rd;exact back H B _ (o.pick (List.Sublist.cons_cons _ (List.Sublist.cons_cons _ (List.Sublist.cons_cons _ (alq (ak_ M) (ak2 _ _))))))
theorem jM.zO {zs:List Int} {p:Value} {c:Nat} {cs:List Value} (h:jM (M++ .box c cs 250::L) zs p):jM (M++L) zs p:=by
 obtain⟨h1,cb,lv,wv,sv,h2,h3⟩:=h;refine⟨h1,cb,lv,wv,sv,h2,fun i hi=>?_⟩;rcases akg.1 (h3 i hi) with g|g
 ·exact ald _ g
 ·rcases aj5.1 g with rfl|g
  ·simp only [uj,aj5,am9,or_false,It.box.injEq,reduceCtorEq,or_self] at hi
   exact absurd hi.2.2 (by decide)
  ·exact alr _ g
theorem uX.zO {s:St} {c:Nat} {cs:List Value} (h:uX (M++ .box c cs 250::L) dP s q):uX (M++L) dP s q:=by
 obtain⟨st,last,left,sy,di,h1,h2,h3,h4,h5,h6⟩:=h;refine⟨st,last,left,sy,di,h1,h2,h3,h4,h5,?_⟩
 cases s with
 |tl zs zd l=>exact⟨h6.1,h6.2.1,h6.2.2.1.zO,h6.2.2.2.zO⟩
 |_=>exact h6
theorem LK {D:DM} (hG:Reads H0 ⟨4,0,none⟩ je) (hq:uX L dP D.st q) (hd:D.st.mm=false) (YK:mO D.st) (u0:D.W.length+258*D.B.length≤1000000000000) (ho:out.length≤D.W.length) (d:Dc H0 H b q D.B D.W out L)
  (zx: ∀D' o H' M q',dd D= .go D' o→Dc H0 H' b q' D'.B D'.W (out++o) (M++L)→uX (M++L) dP D'.st q' →R (.int .i64 0) H')
  (hwt: ∀D' o H' q',dd D= .wait D' o→Dc H0 H' b q' D'.B D'.W (out++o) L→uX L dP D'.st q' →R (.int .i64 2) H')
  (TL: ∀e H' C q',dd D= .bad e→e≠0→e≠2→Dc H0 H' b q' C D.W out L→GG dP q' →R (.int .i64 e) H'):ab Tryz.prog 175 #[at_ b 0] H R:=by
 obtain⟨s,B,W⟩:=D
 dsimp only at hq hd YK u0 ho d TL
 have aee:=hq.any hd;obtain⟨n0,last,left,sy,di,rfl,Xn,Xp,hle,Be,EG⟩:=aee;refine fp.vc _ _ _ ?_;unfold fp.res;rw [aA,ag,au];obtain⟨post,rv,bv,ring,o,back⟩:=d.rd;obtain⟨rest,acc,n,h1,hB,XC,XD,il⟩:=o.ay (T:=ZS b post 255 B) (by repeat(first|exact ajP|apply ajO));have hR: ∀ {H' :ak},H'[b]? =H[b]? →Reads H' ⟨b,0,none⟩ [str rest,u64 acc,i64 n]:=fun {H'} he i x hx=>by
  have hs:= (qo.all (he.trans h1)).part (x:= []) (y:= [str rest,u64 acc,i64 n]) (z:=post);rw [au];have:=hs.cell (k:=i) hx
  simpa using this
 refine(hR rfl).kf (n:=3) rfl ?_;rw [aA,ag,au];refine d.pl (g:=0+7) (x:=i64 n0) (by decide) rfl ?_;refine jY fun H1 s1 e1 b1=>?_;have hbH:=bw h1;have o1:=o.add (i:= .box H.size [.string ⟨#[]⟩,.int .u64 0,.int .i64 0] 250) e1 b1 (fun k hk=>by simp only [It.eL] at hk;omega);have o1:aw H0 H1 (rE b post 255 B:: .sl rv 1 (ring.map cY):: .ay (tI bv out):: .box H.size [.string ⟨#[]⟩,.int .u64 0,.int .i64 0] 250::L):=o1.fW (by repeat(first|exact aY.refl|exact bu.here|apply aY.cons|apply bu.there));have d1:=back H1 B _ o1;refine⟨(hR (e1.get b hbH)).kf (n:=3) rfl rfl,d1.pl (g:=0+7) (x:=i64 n0) (by decide) rfl rfl,?_⟩;have afQ:=o1;refine o1.bW (b:=H.size) (vs:= [str rest,u64 acc,i64 n]) (by repeat(first|exact ajP|apply ajO)) rfl rfl rfl (by repeat(first|exact bd.here|apply bd.there)) fun H2 o2 _=>?_;have d2:=back H2 B _ o2;refine⟨d2.pl (g:=0+7) (x:=i64 n0) (by decide) rfl rfl,?_⟩;have hqb:uX (.box H.size [str rest,u64 acc,i64 n] 250::L) dP s [i64 n0,last,left,sy,di,dP,.int .i64 0]:=hq.mono fun _=>ajO _;generalize UD:It.box H.size [str rest,u64 acc,i64 n] 250=bx at*;refine⟨fun e H' => (e= .int .i64 0∧∃D' o M q',dd ⟨s,B,W⟩= .go D' o∧Dc H0 H' b q' D'.B D'.W (out++o) (M++bx::L)∧uX (M++bx::L) dP D'.st q')∨
   (e= .int .i64 2∧dd ⟨s,B,W⟩= .wait ⟨s,B,W⟩ []∧∃C q',Dc H0 H' b q' C W out (bx::L)∧uX L dP s (q'.set 0 (i64 n0)))∨
   (∃ev C q',e= .int .i64 ev∧ev≠0∧ev≠2∧dd ⟨s,B,W⟩= .bad ev∧Dc H0 H' b q' C W out (bx::L)∧GG dP q'),?_,?_⟩
 ·rintro _ _ H3 (⟨rfl,D',o,M,q',hs,d,Jf⟩ | ⟨rfl,hs,C,q',d,Jf⟩ | ⟨ev,C,q',rfl,h0,h2,hs,d,Jf⟩)
  ·rw [bj,decide_eq_false (by decide),ao]
   subst UD;exact zx D' o H3 M q' hs d.items Jf.zO
  ·rw [bj,decide_eq_true rfl,aH]
   obtain⟨post,rv,bv,ring,o,back⟩:=d.rd;refine o.bC (b:=H.size) (cs:= [str rest,u64 acc,i64 n]) (t:=250) (n:=3) (by subst UD;repeat(first|exact ajP|apply ajO)) rfl ?_;rw [aA,ag,au];refine o.p3s (B' :=B) bd.here hB XC XD il fun H4 o _=>?_;have d:=back H4 B _ o;rw [aA,ag,au];have hl:=Jf.len;rw [akT] at hl;refine d.ps (g:=0+7) (by decide) (by omega) rfl fun H5 d=>?_;exact hwt _ [] H5 _ hs (by rw [akb];exact Dc.items (M:= []) d) Jf
  ·rw [bj,decide_eq_false h2,ao]
   exact TL ev H3 C q' hs h0 h2 (Dc.items (M:= []) d) Jf
 ·have bad: ∀ {e:Int},e≠0→e≠2→dd ⟨s,B,W⟩=SR.of ⟨s,B,W⟩ e→dd ⟨s,B,W⟩= .bad e:=fun _ h hh=>by rw [hh];unfold SR.of;rw [if_neg h]
  have wt: ∀ {e:Int},e=2→dd ⟨s,B,W⟩=SR.of ⟨s,B,W⟩ e→dd ⟨s,B,W⟩= .wait ⟨s,B,W⟩ []:=fun h hh=>by rw [hh];unfold SR.of;rw [if_pos h]
  rw [aA,ag,au];refine d2.pl (g:=0+7) (x:=i64 n0) (by decide) rfl ?_
  cases s with
  |hd=>
   have EK:n0=0:=by obtain⟨_,_,_,_,_,Sb,_,_,_,_,ff⟩:=hq;exact GI ((amU Sb).1.trans ff)
   subst EK;rw [bj,decide_eq_true (p:= ((0:Nat):Int)=0) rfl,aH];refine LJ hG ⟨0,last,left,sy,di,rfl,by decide,Xp,hle,Be,EG⟩ d2 (fun st C H3 M q' hh d hs=>?_) (fun e H3 C q' hh he d hs=>?_)
   ·exact .inl ⟨rfl,⟨st,C,W⟩,[],M,q',by unfold dd;rw [hh],by rw [akb];exact d,hs⟩
   ·have ff:dd ⟨.hd,B,W⟩=SR.of ⟨.hd,B,W⟩ e:=by conv=>lhs;unfold dd;rw [hh]
    by_cases h2:e=2
    ·refine .inr (.inl ⟨by rw [h2],wt h2 ff,C,q',d,?_⟩)
     obtain⟨n',last,left,sy,di,rfl,g1,g2,g3,g4,g5⟩:=hs;exact⟨_,_,_,_,_,rfl,g2,g3,g4,g5,rfl⟩
    ·exact .inr (.inr ⟨e,C,q',rfl,he,h2,bad he h2 ff,d,hs⟩)
  |cp nl l=>
   have EK:n0=1:=by obtain⟨_,_,_,_,_,Sb,_,_,_,_,ff,_⟩:=hq;exact GI ((amU Sb).1.trans ff)
   subst EK;rw [bj,decide_eq_false (by decide),ao,bj,decide_eq_true (p:= ((1:Nat):Int)=1) rfl,aH];refine Ja hqb YK u0 ho d2 (fun D' o H3 q' hh d hs=>?_) (fun D' o H3 q' hh d hs=>?_)
   ·subst UD;exact zx D' o H3 [] q' hh (Dc.items (M:= []) d) (uX.zO (M:= []) hs)
   ·subst UD;exact hwt D' o H3 q' hh (Dc.items (M:= []) d) (uX.zO (M:= []) hs)
  |tl zs zd l=>
   have EK:n0=2:=by obtain⟨_,_,_,_,_,Sb,_,_,_,_,ff,_⟩:=hq;exact GI ((amU Sb).1.trans ff)
   subst EK;rw [bj,decide_eq_false (by decide),ao,bj,decide_eq_false (by decide),ao,bj,decide_eq_true (p:= ((2:Nat):Int)=2) rfl,aH];refine GH hqb u0 ho d2 (fun D' o H3 q' hh d hs=>?_) (fun e C H3 hh he d=>?_)
   ·exact .inl ⟨rfl,D',o,[],q',hh,d,hs⟩
   ·by_cases h2:e=2
    ·exact .inr (.inl ⟨by rw [h2],wt h2 hh,C,_,d,hq⟩)
    ·exact .inr (.inr ⟨e,C,_,rfl,he,h2,bad he h2 hh,d,hq.any rfl⟩)
  |dn=>cases hd
end
section
set_option maxRecDepth 100000
variable {H H0:ak} {R:Value→ak→Prop} {v dP:Value} {B:List Bool} {L M:List It} {b:Nat} {q:List Value} {W out:List UInt8}
theorem GJ (k:Nat) (all:List UInt8) (d:Nat):dZ k all d=all++ (dZ k all d).drop all.length:=by
 have:=Ld k all d
 conv=>lhs;rw [←akf all.length (dZ k all d),this]
theorem GK {di:List Int} {s:Nat} {p:Nat × Nat} {C:List Bool} (hs:257≤s) (h:jL di s B= .ok p C):p.1≤258:=by
 unfold jL at h
 split at h
 ·cases h
 ·obtain⟨f1,f2,f3,f4⟩:=Dh ⟨s - 257,by omega⟩
  have es: (257:Int)+ ((s - 257:Nat):Int)= (s:Int):=by omega
  dsimp only at f1 f2 f3 f4
  rw [es] at f1 f2 f3 f4
  cases hx:gK (lenOf (s:Int)).2.toNat B with
  |er e=>rw [hx] at h;cases h
  |ok x C1=>
   rw [hx] at h;obtain⟨g1,g2,g3⟩:=Rt hx;have eF:=ya (B.take (lenOf (s:Int)).2.toNat);rw [ajW,aks g1,←g2] at eF
   dsimp only [Rs.bind] at h
   cases hk:iX di C1 with
   |er e=>rw [hk] at h;cases h
   |ok k C2=>
    rw [hk] at h
    dsimp only at h
    split at h
    ·cases h
    ·cases hy:gK (cu (k:Int)).2.toNat C2 with
     |er e=>rw [hy] at h;cases h
     |ok y C3=>
      rw [hy] at h
      cases h
      dsimp only
      omega
theorem LM {st:St} {C:List Bool} (h:j6 B= .ok st C):mO st:=by
 have: (j6 B).J4 mO:=by
  unfold j6;refine Rs.J4.bind fun v B=>?_
  split
  ·refine Rs.J4.bind fun x B=>?_
   split
   ·exact sJ
   ·exact xl (by show x%65536≤65535;omega)
  split
  ·exact xl trivial
  split
  ·exact Rs.J4.bind fun p B=>xl trivial
  ·exact sJ
 rw [h] at this;exact this.h
theorem Sc (l:Bool) (B:List Bool) (W:List UInt8): (ml l B W).W=W∧mO (ml l B W).st∧(ml l B W).B.length≤B.length:=by
 have:=ur B
 cases l
 ·exact⟨rfl,trivial,ajR _⟩
 ·exact⟨rfl,trivial,this.1⟩
theorem vF {D D' :DM} {o:List UInt8} (hl:mO D.st) (h:dd D= .go D' o∨dd D= .wait D' o):D'.W=D.W++o∧D'.W.length+258*D'.B.length≤D.W.length+258*D.B.length∧mO D'.st:=by
 obtain⟨st,B,W⟩:=D;unfold dd at h
 cases st with
 |hd=>
  dsimp only at h
  split at h
  ·rename_i st C hh
   rcases h with h|h<;>cases h
   have:=AB hh;exact⟨by simp,by dsimp only;omega,LM hh⟩
  ·unfold SR.of at h
   split at h<;>rcases h with h|h<;>cases h
   exact⟨by simp,ajR _,trivial⟩
 |cp left last=>
  dsimp only at h hl ⊢
  have ze:=ur B
  split at h
  ·rcases h with h|h<;>cases h
   refine⟨rfl,?_,?_⟩
   ·dsimp only
    rw [ajQ,zN (k:=min left ((eZ B).length/8)) (by rw [ajW];omega),aj1];omega
   ·show left - _≤65535
    have:left≤65535:=hl;omega
  ·rcases h with h|h<;>cases h
   obtain⟨e1,e2,e3⟩:=Sc last ((eZ B).drop (8*left)) (W++a7 ((eZ B).take (8*left)));refine⟨e1,?_,e2⟩;rw [e1,ajQ,zN (k:=left) (by rw [ajW];omega)];rw [aj1] at e3;omega
 |tl sy di last=>
  dsimp only at h ⊢
  split at h
  ·unfold SR.of at h
   split at h<;>rcases h with h|h<;>cases h
   exact⟨by simp,ajR _,trivial⟩
  ·rename_i s C hn
   have h1:=zE hn
   split at h
   ·rcases h with h|h<;>cases h
    obtain⟨e1,e2,e3⟩:=Sc last C W;exact⟨by rw [e1];simp,by rw [e1];omega,e2⟩
   split at h
   ·rcases h with h|h<;>cases h
    exact⟨rfl,by dsimp only;rw [ajQ,alf];omega,trivial⟩
   ·split at h
    ·unfold SR.of at h
     split at h<;>rcases h with h|h<;>cases h
     exact⟨by simp,ajR _,trivial⟩
    ·rename_i p E hm
     have h2:=AD (di:=di) (s:=s) (B:=C);rw [hm] at h2;have h2:E.length≤C.length:=h2.h;have h3:=GK (by omega) hm
     split at h<;>rcases h with h|h<;>cases h
     exact⟨GJ _ _ _,by dsimp only;rw [wq];omega,trivial⟩
 |dn=>
  rcases h with h|h<;>cases h
  exact⟨by simp,ajR _,trivial⟩
def Dj (b:Nat) (H:ak):Nat:=match H[b]? with
 |some (.cells cs _ _)=> (match cs[0]?,cs[2]?,cs[7]? with
  |some (Value.string s),some (Value.int _ n),some (Value.int _ st)=>2* (8* (kI s).length+n.toNat)+ (if st=1 then 1 else 0)
  |_,_,_=>0)
 |_=>0
theorem AU {s:St} (d:Dc H0 H b q B W out L) (hq:uX L dP s q):Dj b H=rQ ⟨s,B,W⟩:=by
 obtain⟨st,last,left,sy,di,rfl,-,-,-,-,h6⟩:=hq;obtain⟨bp,bv,wH,Bj,rv,ring,hr,hs,o⟩:=d;obtain⟨rest,acc,n,h1,h2,-⟩:=o.ay (T:=ZS b _ 255 B) (by repeat(first|exact ajP|apply ajO));unfold Dj rQ;have hlen:B.length=n+8*rest.length:=by rw [h2,ajQ,aR,bs]
 rw [h1]
 cases s with
 |hd=>subst h6;simp only [akr,akl,akm,cn,ajS];rw [if_neg (show ¬ ((0:Nat):Int)=1 by decide)];omega
 |cp n l=>obtain⟨rfl,-⟩:=h6;simp only [akr,akl,akm,cn,ajS];rw [if_pos (show ((1:Nat):Int)=1 by decide)];omega
 |tl zs zd l=>obtain⟨rfl,-⟩:=h6;simp only [akr,akl,akm,cn,ajS];rw [if_neg (show ¬ ((2:Nat):Int)=1 by decide)];omega
 |dn=>subst h6;simp only [akr,akl,akm,cn,ajS];rw [if_neg (show ¬ ((3:Nat):Int)=1 by decide)];omega
def vG (H0 H:ak) (b:Nat) (D:DM) (dP:Nat) (L:List It):Prop:= ∃q,uX L (i64 dP) D.st q∧Idle H0 H b q D.B D.W L
def VL (H0 H:ak) (b:Nat) (W:List UInt8) (dP:Nat) (e:Int) (L:List It):Prop:= ∃ (n:Nat) (last left sy di:Value) (C:List Bool),n<3∧Idle H0 H b [i64 n,last,left,sy,di,i64 dP,.int .i64 e] C W L∧aL last=true∧aL left=true∧aL sy=true∧aL di=true
theorem Idle.pl {K:Value→Prop} {g:Nat} {x:Value} (d:Idle H0 H b q B W L) (h7:7≤g) (hx:q[g - 7]? =some x) (hk:K x):al H (at_ b g) K:=by
 obtain⟨bp,bv,wH,Bj,w⟩:=d;refine w.pl (x:=x) (by omega) ?_ hk;obtain⟨j,rfl⟩: ∃j,g=j+7:= ⟨g - 7,by omega⟩;simp only [alY] at hx;rw [show j+7 - 5=j+1+1 by omega];exact hx
theorem Idle.ps {K:Value→ak→Prop} {g:Nat} {x:Value} (d:Idle H0 H b q B W L) (h7:7≤g) (hg:g - 7<q.length) (hx:aL x=true) (hk: ∀H',Idle H0 H' b (q.set (g - 7) x) B W L→K undef H'):aE H (at_ b g) x K:=by
 obtain⟨bp,bv,wH,Bj,w⟩:=d;refine w.ps (by omega) (by simp;omega) hx fun H' w=>hk H' ⟨bp,bv,wH,Bj,?_⟩;obtain⟨j,rfl⟩: ∃j,g=j+7:= ⟨g - 7,by omega⟩;rw [show j+7 - 5=j+1+1 by omega] at w;exact w
theorem Idle.rd (d:Idle H0 H b q B W L): ∃ (post:List Value) (rv:Value) (ring:List UInt8),aw H0 H (rE b post 255 B:: .sl rv 1 (ring.map cY)::L)∧∀H' C M,aw H0 H' (rE b post 255 C:: .sl rv 1 (ring.map cY)::M)→Idle H0 H' b q C W M:=by
 obtain⟨bp,bv,wH,Bj,rv,ring,hr,hs,o⟩:=d;exact⟨_,rv,ring,o,fun H' C M o=> ⟨bp,bv,wH,Bj,rv,ring,hr,hs,o⟩⟩
theorem Fs (o:aw H0 H L) (h: ∀H' b,vG H0 H' b ⟨.hd,[],[]⟩ 0 L→R (at_ b 0) H'):ab Tryz.prog 123 #[] H R:=by
 refine mU.vc _ _ ?_;unfold mU.res;rw [bG];refine jY fun H1 s1 e1 b1=>?_;have o1:=o.Ox;have o1:=o1.add (i:=rE H.size [.slice none 0 0,i64 0,.pointer none,.slice none 0 0,i64 0,.bool false,.int .i64 0,.pointer none,.pointer none,i64 0,.int .i64 0] 255 []) e1 ⟨[],0,0,b1,rfl,by decide,by decide,by decide⟩ (fun k hk=>by
  have hk:k=H.size:=hk;omega)
 refine h H1 H.size ⟨[i64 0,.bool false,.int .i64 0,.pointer none,.pointer none,i64 0,.int .i64 0],⟨_,_,_,_,_,rfl,rfl,rfl,rfl,rfl,rfl⟩,.pointer none,.slice none 0 0,rfl,rfl,.slice none 0 0,[],⟨rfl,fun i hi=>by simp at hi⟩,by simp,o1⟩
theorem Dk {s:List UInt8} {D:DM} {dP:Nat} (hG:Reads H0 ⟨4,0,none⟩ je) (r:vG H0 H b D dP L) (hl:mO D.st) (u0:D.W.length+258* (D.B.length+8*s.length)≤1000000000000) (XE:dP+s.length≤1000000000000)
  (pJ: ∀o D' H' M,run (D.add (toBits s))= (o,D',0)→vG H0 H' b D' (dP+s.length) (M++L)→R (.tuple #[str o,.int .i64 0]) H')
  (qI: ∀o D' e H' M,run (D.add (toBits s))= (o,D',e)→e≠0→VL H0 H' b D'.W (dP+s.length) e (M++L)→R (.tuple #[str o,.int .i64 e]) H'):ab Tryz.prog 124 #[at_ b 0,str s] H R:=by
 obtain⟨q,hq,d⟩:=r;have hq7:=hq.len;have Yw:=hq;obtain⟨st,last,left,sy,di,rfl,q2,q3,q4,q5,q6⟩:=Yw;refine fj.vc _ _ _ _ ?_;unfold fj.res;rw [iA,ao,aA,ag,au];refine d.pl (g:=0+13) (x:= .int .i64 0) (by decide) rfl ?_;refine jD ?_;rw [ao,aA,ag,au];obtain⟨post,rv,ring,o,back⟩:=d.rd;refine K_ (vt o (by repeat(first|exact ajP|apply ajO))) (by omega) fun H1 w c=>?_;have d:=back H1 _ L (o.rd w c bd.here);rw [aA,ag,au];refine d.pl (g:=0+12) (x:=i64 dP) (by decide) rfl ?_;refine aJ ?_;rw [aC,show (dP:Int)+ (s.length:Int)= ((dP+s.length:Nat):Int) by omega,bH (by omega) (by omega),aA,ag,au];refine d.ps (g:=0+12) (by decide) (by simp) rfl fun H2 d=>?_;rw [aA,ag,au];refine UJ rfl d fun H3 d=>?_;have hqs:uX L (i64 (dP+s.length)) D.st [st,last,left,sy,di,i64 (dP+s.length),.int .i64 0]:= ⟨_,_,_,_,_,rfl,q2,q3,q4,q5,q6⟩
 change Dc H0 H3 b [st,last,left,sy,di,i64 (dP+s.length),.int .i64 0] (D.B++toBits s) D.W [] L at d
 generalize PT:dP+s.length=fd at*;generalize jc:run (D.add (toBits s))=T at*;have aef:D.W.length+258* (D.B++toBits s).length≤1000000000000:=by rw [ajQ,bs];exact u0
 refine⟨fun H' => ∃o D' M q',T= (o,D',0)∧o.length≤1000000000000∧Dc H0 H' b q' D'.B D'.W o (M++L)∧uX (M++L) (i64 fd) D'.st q',?_,?_⟩
 ·rintro _ H4 ⟨o,D',M,q',hT,YG,d,Jf⟩
  rw [aA,ag,au];refine I9 Jf.len (by omega) d fun H5 d=>?_;exact pJ o D' H5 M hT ⟨q',Jf,d⟩
 refine⟨fun H' => ∃o D1 M q',T= (o++ (run D1).1,(run D1).2)∧Dc H0 H' b q' D1.B D1.W o (M++L)∧uX (M++L) (i64 fd) D1.st q' ∧mO D1.st∧D1.W.length+258*D1.B.length≤1000000000000∧o.length≤D1.W.length,Dj b,⟨[],D.add (toBits s),[],_,by rw [jc,aj4],d,hqs,hl,aef,by simp⟩,?_⟩;rintro _ H4 ⟨o,D1,M,q',hT,d,Jf,XB,aeg,ho⟩;have hm:=AU d Jf;rw [aA,ag,au];obtain⟨stv,afT,afU,sy1,di1,rfl,p2,p3,p4,p5,p6⟩:=id Jf;refine d.pl (g:=0+7) (x:=stv) (by decide) rfl ?_
 cases GL:D1.st.mm with
 |true=>
  have aeh :D1.st= .dn:=by cases hs:D1.st<;>rw [hs] at GL<;>first|rfl|cases GL
  rw [aeh] at p6;subst p6;rw [mP,decide_eq_false (by decide),ao];refine⟨o,D1,M,_,?_,by omega,d,Jf⟩;rw [hT,xk GL,akb]
 |false=>
  have ff: ∃n:Nat,stv=i64 n∧n<3:=by
   obtain⟨n,_,_,_,_,he,hn,_⟩:=Jf.any GL;exact⟨n,(amU he).1,hn⟩
  obtain⟨n,rfl,hn⟩:=ff;rw [mP,decide_eq_true (by omega),aH];refine LK hG Jf GL XB aeg ho d (fun D2 o2 H5 M2 q2 hs d2 Gw=>?_) (fun D2 o2 H5 q2 hs d2 Gw=>?_) (fun e H5 C q2 hs h0 h2 d2 Gw=>?_)
  ·rw [bj,decide_eq_false (by decide),ao]
   refine jD ?_;rw [ao];have hinv:=vF XB (.inl hs);have Lc:=AU d2 Gw;refine⟨⟨o++o2,D2,M2++M,q2,by rw [hT,vr hs,ajT],by rw [ajT];exact d2,by rw [ajT];exact Gw,hinv.2.2,by omega,by rw [hinv.1,ajQ,ajQ];omega⟩,?_⟩;rw [hm,Lc];exact qX hs
  ·rw [bj,decide_eq_true rfl,aH]
   have hinv:=vF XB (.inr hs);exact⟨o++o2,D2,M,q2,by rw [hT,rD GL hs],by have:=congrArg List.length hinv.1;rw [ajQ] at this;rw [ajQ];omega,d2,Gw⟩
  ·rw [bj,decide_eq_false h2,ao]
   refine pY h0 ?_;rw [aH,aA,ag,au];obtain⟨n',qy,aaq,sy2,di2,rfl,g1,g2,g3,g4,g5⟩:=Gw;refine d2.ps (g:=0+13) (by decide) (by simp) rfl fun H6 d2=>?_;rw [aA,ag,au];refine I9 rfl (by omega) d2 fun H7 d2=>?_;exact qI o D1 e H7 M (by rw [hT,yo GL hs,akb]) h0 ⟨n',qy,aaq,sy2,di2,C,g1,d2,g2,g3,g4,g5⟩
end
section
set_option maxRecDepth 100000
variable {H H0:ak} {R:Value→ak→Prop} {v:Value} {B:List Bool} {L M:List It} {b dP:Nat} {q:List Value} {W out:List UInt8} {D:DM}
theorem uA (r:vG H0 H b D dP L) (h:R (.bool D.st.mm) H):ab Tryz.prog 125 #[at_ b 0] H R:=by
 obtain⟨q,hq,d⟩:=r;refine fk.vc _ _ _ ?_;unfold fk.res;rw [Cc];refine bX ?_;rw [aA,ag,au];obtain⟨st,last,left,sy,di,rfl,-,-,-,-,h6⟩:=hq;refine d.pl (g:=0+7) (x:=st) (by decide) rfl ?_
 cases hs:D.st with
 |hd=>rw [hs] at h h6;subst h6;rw [bj];intro _;exact h
 |cp n l=>rw [hs] at h h6;obtain⟨rfl,-⟩:=h6;rw [bj];intro _;exact h
 |tl zs zd l=>rw [hs] at h h6;obtain⟨rfl,-⟩:=h6;rw [bj];intro _;exact h
 |dn=>rw [hs] at h h6;subst h6;rw [bj];intro _;exact h
theorem vG.more {H' :ak} (r:vG H0 H b D dP L) (hx:Ext H H'):vG H0 H' b D dP L:=by
 obtain⟨q,hq,d⟩:=r;obtain⟨post,rv,ring,o,back⟩:=d.rd;exact⟨q,hq,back H' _ L (o.more hx)⟩
theorem xu (r:vG H0 H b D dP L) (hn:D.st.mm=true) (h: ∀H',Ext H H' →R (str (a7 ((eZ D.B).take (8* (D.B.length/8))))) H'):ab Tryz.prog 126 #[at_ b 0] H R:=by
 obtain⟨q,hq,d⟩:=id r;obtain⟨post,rv,ring,o,back⟩:=d.rd;refine fm.vc _ _ _ ?_;unfold fm.res;refine uA r ?_;rw [hn,fc,ak0,ao,aA,ag,au];refine o.p3 (by repeat(first|exact ajP|apply ajO)) fun rest acc n hB XC XD il=>?_;refine(aw.start (H:=H)).box fun c H1 oc hc=>?_
 change aw H H1 [.box c [str [],.int .u64 0,.int .i64 0] _] at oc
 refine oc.bW (vs:= [str rest,u64 acc,i64 n]) (by repeat(first|exact ajP|apply ajO)) rfl rfl rfl (by repeat(first|exact bd.here|apply bd.there)) fun H2 oc _=>?_;have Wh:Rd H2 c 0 D.B:= ⟨⟨rest,acc,n,qo.all (oc.ll (by repeat(first|exact ajP|apply ajO))),hB,XC,XD⟩,il⟩;have rR:=oc.ext;refine um Wh ?_;rw [Kz];refine⟨by decide,?_⟩;rw [amp (by omega),show ((D.B.length:Nat):Int) /8= ((D.B.length/8:Nat):Int) by omega,bH (by omega) (by omega)];refine CI (by omega) Wh fun H3 k hk w cg=>?_;rw [ajS] at hk;have D4:k=D.B.length/8:=by omega
 subst D4;refine h H3 ?_;have:=cg.ext rR (by omega) (fun _ h=>h.elim);exact this.1
theorem LN (r:vG H0 H b D dP L) (hn:D.st.mm=true) (hf:dP≤1000000000000) (hB:D.B.length≤8000000000000) (h: ∀H',Ext H H' →R (.int .i64 ((dP:Int) - ((a7 ((eZ D.B).take (8* (D.B.length/8)))).length:Int))) H'):ab Tryz.prog 142 #[at_ b 0] H R:=by
 obtain⟨q,hq,d⟩:=id r;refine fo.vc _ _ _ ?_;unfold fo.res;refine uA r ?_;rw [hn,fc,ak0,ao,aA,ag,au];obtain⟨st,last,left,sy,di,rfl,q2,q3,q4,q5,q6⟩:=id hq;refine d.pl (g:=0+12) (x:=i64 dP) (by decide) rfl ?_;refine xu r hn fun H1 hx=>?_;have r1:=r.more hx;obtain⟨q',Jf,d'⟩:=r1;obtain⟨st',afV,afW,sy',di',rfl,-⟩:=Jf;refine⟨d'.pl (g:=0+12) (x:=i64 dP) (by decide) rfl rfl,?_⟩;refine aJ ?_;have hl: (a7 ((eZ D.B).take (8* (D.B.length/8)))).length≤D.B.length:=by
  have:=pR (((eZ D.B).take (8* (D.B.length/8))).length/8) ((eZ D.B).take (8* (D.B.length/8))) rfl;rw [this,ajW];omega
 rw [bE,bH (by omega) (by omega)];exact h H1 hx
def XF (b:Nat) (q:List Value) (B:List Bool) (W:List UInt8) (P:List It):Prop:= ∀ (H0 H:ak) (N:List It),aw H0 H (P++N)→Idle H0 H b q B W N
theorem Idle.Sd (d:Idle H0 H b q B W L): ∃P,XF b q B W P∧aw H0 H (P++L):=by
 obtain⟨bp,bv,wH,Bj,rv,ring,hr,hs,o⟩:=d;exact⟨[_,_],fun H0 H N o=> ⟨bp,bv,wH,Bj,rv,ring,hr,hs,o⟩,o⟩
theorem Ft {s:List UInt8} (hG:Reads H0 ⟨4,0,none⟩ je) (o:aw H0 H L) (hs:s.length≤100000000)
  (GL: ∀o D' H',run ⟨.hd,toBits s,[]⟩= (o,D',0)→D'.st.mm=true→Ext H0 H' →R (.tuple #[str o,str (a7 ((eZ D'.B).take (8* (D'.B.length/8)))),.int .i64 0]) H')
  (AV: ∀o D' H',run ⟨.hd,toBits s,[]⟩= (o,D',0)→D'.st.mm=false→Ext H0 H' →R (.tuple #[str [],str [],.int .i64 2]) H')
  (qI: ∀o D' e H',run ⟨.hd,toBits s,[]⟩= (o,D',e)→e≠0→Ext H0 H' →R (.tuple #[str [],str [],.int .i64 e]) H'):ab Tryz.prog 71 #[str s] H R:=by
 refine mT.vc _ _ _ ?_;unfold mT.res;refine Fs o fun H1 b r=>?_;refine Dk hG r trivial (by simp;omega) (by omega) (fun o D' H2 M hr r=>?_) (fun o D' e H2 M hr he d=>?_)
 ·refine ai rfl ?_
  refine ai rfl ?_;refine jD ?_;rw [ao];refine uA r ?_;have hx:Ext H0 H2:=by obtain⟨q,_,bp,bv,_,_,rv,ring,_,_,o⟩:=r;exact o.ext
  cases hd:D'.st.mm with
  |true=>
   rw [fc,ak0,ao];exact xu r hd fun H3 wx=>GL o D' H3 hr hd (hx.trans wx)
  |false=>
   rw [fc,alh,aH];exact AV o D' H2 hr hd hx
 ·refine ai rfl ?_
  refine ai rfl ?_;refine pY he ?_;rw [aH];have hx:Ext H0 H2:=by obtain⟨_,_,_,_,_,_,_,⟨bp,bv,_,_,rv,ring,_,_,o⟩,_⟩:=d;exact o.ext
  exact qI o D' e H2 hr he hx
end
section
set_option maxRecDepth 100000
variable {H H0:ak} {R:Value→ak→Prop} {v:Value} {B:List Bool} {L M:List It} {b dP:Nat} {q:List Value} {W out:List UInt8} {D:DM} {e:Int}
theorem Ni: ∀ (n:Nat) (D:DM),rQ D<n→mO D.st→(run D).2.1.W=D.W++ (run D).1∧(run D).2.1.W.length+258* (run D).2.1.B.length≤D.W.length+258*D.B.length∧mO (run D).2.1.st
 |0,D,h,_=>by omega
 |n+1,D,h,hl=>by
  by_cases hd:D.st.mm=true
  ·rw [xk hd];exact⟨by simp,ajR _,hl⟩
  ·have hd:D.st.mm=false:=by simpa using hd
   cases ff:dd D with
   |go D' o=>
    have hi:=vF hl (.inl ff);have ih:=Ni n D' (by have:=qX ff;omega) hi.2.2;rw [vr ff];refine⟨?_,by dsimp only;omega,ih.2.2⟩;show (run D').2.1.W=D.W++ (o++ (run D').1);rw [ih.1,hi.1,ajT]
   |wait D' o=>
    have hi:=vF hl (.inr ff);rw [rD hd ff];exact⟨hi.1,hi.2.1,hi.2.2⟩
   |bad e=>rw [yo hd ff];exact⟨by simp,ajR _,hl⟩
def Jg (H0 H:ak) (b:Nat) (D:DM) (dP:Nat) (e:Int) (L:List It):Prop:= (e=0∧vG H0 H b D dP L)∨(e≠0∧VL H0 H b D.W dP e L)
theorem Jg.ext (a:Jg H0 H b D dP e L):Ext H0 H:=by
 rcases a with ⟨_,q,_,bp,bv,_,_,rv,ring,_,_,o⟩ | ⟨_,_,_,_,_,_,_,_,⟨bp,bv,_,_,rv,ring,_,_,o⟩,_⟩<;>exact o.ext
theorem Jg.more {H' :ak} (a:Jg H0 H b D dP e L) (hx:Ext H H'):Jg H0 H' b D dP e L:=by
 rcases a with ⟨h,r⟩ | ⟨h,n,la,le,sy,di,C,hn,d,g⟩
 ·exact .inl ⟨h,r.more hx⟩
 ·obtain⟨post,rv,ring,o,back⟩:=d.rd
  exact .inr ⟨h,n,la,le,sy,di,C,hn,back H' _ L (o.more hx),g⟩
def qu (P:List It):ir where
 eL k:= ∃i∈P,i.eL k
 holds H:= (∀i∈P,i.holds H)∧P.Pairwise fun (i j:It)=> ∀k:Nat,i.eL k→¬j.eL k
 frame:=fun h hf=> ⟨fun i hi=>It.frame (h.1 i hi) fun k hk=>hf k ⟨i,hi,hk⟩,h.2⟩
 lt:=fun h hf=>by obtain⟨i,hi,hk⟩:=hf;exact It.lt (h.1 i hi) hk
theorem qK {P:List It} (o:aw H0 H (P++L)):aw H0 H (.ay (qu P)::L):=by
 have hp:=amL.1 o.G_;refine⟨o.ext,?_,?_,aki.2 ⟨?_,hp.2.1⟩⟩
 ·intro i hi
  rcases aj5.1 hi with rfl|hi
  ·exact⟨fun i hi=>o.ok i (ald _ hi),hp.1⟩
  ·exact o.ok i (alr _ hi)
 ·intro i hi k hk
  rcases aj5.1 hi with rfl|hi
  ·obtain⟨j,hj,hk⟩:=hk;exact o.new j (ald _ hj) k hk
  ·exact o.new i (alr _ hi) k hk
 ·rintro j hj k ⟨i,hi,hk⟩
  exact hp.2.2 i hi j hj k hk
theorem nT {P:List It} (o:aw H0 H (.ay (qu P)::L)):aw H0 H (P++L):=by
 have hp:=aki.1 o.G_;have ht:=o.ok (.ay (qu P)) ajP;refine⟨o.ext,?_,?_,amL.2 ⟨ht.2,hp.2,?_⟩⟩
 ·intro i hi
  rcases akg.1 hi with hi|hi
  ·exact ht.1 i hi
  ·exact o.ok i (ajO _ hi)
 ·intro i hi k hk
  rcases akg.1 hi with hi|hi
  ·exact o.new (.ay (qu P)) ajP k ⟨i,hi,hk⟩
  ·exact o.new i (ajO _ hi) k hk
 ·intro i hi j hj k hk
  exact hp.1 j hj k ⟨i,hi,hk⟩
theorem jM.BD {zs:List Int} {p:Value} {T:ir} (h:jM (M++ .ay T::L) zs p):jM (M++L) zs p:=by
 obtain⟨h1,cb,lv,wv,sv,h2,h3⟩:=h;refine⟨h1,cb,lv,wv,sv,h2,fun i hi=>?_⟩;rcases akg.1 (h3 i hi) with g|g
 ·exact ald _ g
 ·rcases aj5.1 g with rfl|g
  ·simp only [uj,aj5,am9,or_false,reduceCtorEq,or_self] at hi
  ·exact alr _ g
theorem uX.BD {s:St} {T:ir} {dP:Value} (h:uX (M++ .ay T::L) dP s q):uX (M++L) dP s q:=by
 obtain⟨st,last,left,sy,di,h1,h2,h3,h4,h5,h6⟩:=h;refine⟨st,last,left,sy,di,h1,h2,h3,h4,h5,?_⟩
 cases s with
 |tl zs zd l=>exact⟨h6.1,h6.2.1,h6.2.2.1.BD,h6.2.2.2.BD⟩
 |_=>exact h6
theorem Jg.Sd (a:Jg H0 H b D dP e L): ∃S:ir,aw H0 H (.ay S::L)∧∀ (H0 H:ak) (N:List It),(∀i∈L,i∈N)→aw H0 H (.ay S::N)→Jg H0 H b D dP e N:=by
 rcases a with ⟨h,q,hq,d⟩ | ⟨h,n,la,le,sy,di,C,hn,d,g⟩
 ·obtain⟨P,hP,o⟩:=d.Sd
  exact⟨qu P,qK o,fun H0 H N hN o=> .inl ⟨h,q,hq.mono hN,hP H0 H N (nT o)⟩⟩
 ·obtain⟨P,hP,o⟩:=d.Sd
  exact⟨qu P,qK o,fun H0 H N hN o=> .inr ⟨h,n,la,le,sy,di,C,hn,hP H0 H N (nT o),g⟩⟩
end
section
set_option maxRecDepth 100000
variable {H H0 H' :ak} {R:Value→ak→Prop} {v:Value} {L:List It} {zs:List Int} {b:Nat} {B:List Bool}
def Se (H:ak) (b f:Nat):Nat:=match H[b]? with
 |some (.cells cs _ _)=>match cs[f]? with
  |some (.int _ x)=>x.toNat
  |_=>0
 |_=>0
theorem Jh {b f:Nat} {cs:List Value} {t:TypeId} {fr:Nat × Nat} {k:IntKind} {x:Int} (h:H[b]? =some (.cells cs.toArray t fr)) (hf:cs[f]? =some (.int k x)):Se H b f=x.toNat:=by
 unfold Se;rw [h]
 simp [hf]
theorem Ji {zs:List Int} {s:Nat} (h:0<zs.getD s 0):1≤(kF zs zs.length).length:=by
 have hs:s<zs.length:=amV fun hn=>by rw [ajX,akc hn] at h;simp at h
 exact List.length_pos_of_mem (o_.2 ⟨hs,h⟩)
def UL (E:List Ex):List Int:=E.foldl (fun ws e=>R1 ws e.1) (List.replicate 19 0)
structure Sf (E:List Ex) (ws:List Int):Prop where
 wl:ws.length=19
 wr: ∀z∈ws,0≤z∧z≤(E.length:Int)
 wt: ∀e∈E,1≤ws.getD e.1 0
 ex:ws=UL E
theorem Sg {E:List Ex} {tv wv:Value} {k:Nat} {ws:List Int} (hE: ∀e∈E,e.1≤18) (YM:E.length≤400) (hk:k<E.length) (c:Sf (E.take k) ws) (o:aw H0 H (.sl wv 1 (aM ws)::L)) (ht:It.sl tv 3 (nS E)∈L) {K:Value→ak→Prop}
  (h: ∀ws' H',Sf (E.take (k+1)) ws' →aw H0 H' (.sl wv 1 (aM ws')::L)→K undef H'):
  aN 3 tv (.int .i64 (k:Int)) fun Bc=>aF H 3 Bc fun DX=>cd H 237 (.agg #[(.int .i64 0),(.int .i64 0),(.int .u64 0)]) fun t11 fX=>aG fX 3 t11 DX fun _ iB=>aa 0 t11 fun A8=>al iB A8 fun uV=>
  aN 1 wv uV fun Bp=>al iB Bp fun A9=>aK A9 (.int .i64 1) fun v_=>aN 1 wv uV fun zp=>aE iB zp v_ K:=by
 have n_:=o.sl (v:=tv) (ajO _ ht);have ji: ((nS E).drop (k*3)).take 3=He (E[k]):=by
  have: ∀ (E:List Ex) (k:Nat) (hk:k<E.length),((nS E).drop (k*3)).take 3=He (E[k]):=by
   intro E
   induction E with
   |nil=>intro k hk;simp at hk
   |cons e E ih=>
    intro k hk;have e1:nS (e::E)=He e++nS E:=rfl
    cases k with
    |zero=>rw [e1];rfl
    |succ k=>
     rw [e1,show (k+1)*3=3+k*3 by omega,←akR];exact ih k (by simpa using hk)
  exact this E k hk
 have sd:E.take (k+1)=E.take k++ [E[k]]:=by rw [akq,ajV hk];rfl
 have h18:=hE _ (ajZ hk);have j5: (E.take k).length=k:=by rw [ajW];omega
 generalize E[k]=e at ji sd h18;have Uh:=c.wl;have wr:=c.wr;rw [j5] at wr;refine n_.at_ (rH E) (by decide) (by omega) (by omega) fun p hp=>?_;rw [ajS] at hp;refine hp.kf n_ (ws:=He e) ji rfl ?_;refine o.box fun tb H4 o4 _=>?_;refine o4.bW (vs:=He e) (by repeat(first|exact ajP|apply ajO)) rfl rfl rfl (by repeat(first|exact bd.here|apply bd.there)) fun H5 o5 _=>?_;rw [ag,au];refine o5.az (b:=tb) (f:=0+0) (w:= .int .i64 (e.1:Nat)) (by repeat(first|exact ajP|apply ajO)) rfl ?_;refine yH (a:=e.1) (kd:= .i64) o5 (by repeat(first|exact ajP|apply ajO)) (by omega) wr (by omega) (by repeat(first|exact bd.here|apply bd.there)) fun H6 o6=>?_;refine h _ H6 ⟨by rw [akT];exact Uh,?_,fun u hu=>?_,by rw [sd,BA (by omega),UL,amC,←UL,←c.ex];rfl⟩ o6.tl
 ·rw [sd,ajQ,j5]
  have:=BC (a:=e.1) (by omega) wr;exact this
 ·rw [sd] at hu
  rcases akg.1 hu with hu|hu
  ·have:=c.wt u hu
   have h5:=inc_le (cs:=ws) (a:=e.1) (by omega) u.1;omega
  ·rw [akt.1 hu,yG (by omega),if_pos rfl]
   have:=wr _ (ajZ (show e.1<ws.length by omega));omega
structure O6 (G:List Tok) (x y z:List Int) (E:List Ex) (c:Nat):Prop where
 hx: ∃x0 a,wz (LF G) 15 x0∧Fm x0 257 a∧x=x0.take a
 hy: ∃y0 n,vw (LG G) 15 y0∧Fm y0 1 n∧y=y0.take n
 hE:Na (x++y) E
 hz:wz (UL E) 7 z
 hc:4≤c∧c≤19∧(∀j,c≤j→j<19→z.getD (cz.getD j 0) 0=0)∧(4<c→z.getD (cz.getD (c - 1) 0) 0≠0)
theorem O6.one {G:List Tok} {x y z x' y' z' :List Int} {E E' :List Ex} {c c' :Nat} (h:O6 G x y z E c) (k:O6 G x' y' z' E' c'):x=x' ∧y=y' ∧z=z' ∧E=E' ∧c=c' :=by
 obtain⟨⟨x0,a,h1,h2,rfl⟩,⟨y0,n,h3,h4,rfl⟩,h5,h6,h7,h8,h9,YN⟩:=h;obtain⟨⟨x1,b,k1,k2,rfl⟩,⟨y1,m,k3,k4,rfl⟩,k5,k6,k7,k8,k9,k10⟩:=k;obtain rfl:=AO h1 k1;obtain rfl:=Fo h2 k2;obtain rfl:=C8 h3 k3;obtain rfl:=Fo h4 k4;obtain rfl:=OU h5 k5;obtain rfl:=AO h6 k6;refine⟨rfl,rfl,rfl,rfl,?_⟩;rcases amB c c' with g|g|g
 ·exact absurd (h9 (c' - 1) (by omega) (by omega)) (k10 (by omega))
 ·exact g
 ·exact absurd (k9 (c - 1) (by omega) (by omega)) (YN (by omega))
theorem Sh {G:List Tok} {lv:Value} (hG:Reads H0 ⟨0,0,none⟩ je) (hs:Sl H lv 3 (eu G)) (hlen:G.length≤65535) (hg: ∀t∈G,jC t=true) (o:aw H0 H L)
  (h: ∀H' M cb ps pd pt tv x y z E c,jM M x ps→jM M y pd→jM M z pt→It.sl tv 3 (nS E)∈M→It.box cb [ps,pd,pt,tv,i64 x.length,i64 y.length,i64 c] 232∈M→AG x y z E c→O6 G x y z E c→uw x 256→(∀t∈G,yx x y t)→
   aw H0 H' (M++L)→R (.pointer (some ⟨cb,0,none⟩)) H'):ab Tryz.prog 121 #[lv] H R:=by
 refine gw.vc _ _ _ ?_;unfold gw.res;refine I2 hs hlen hg fun y1 y2 cs ds H1 c o1=>?_;refine ai (vs:= [y1,y2]) rfl ?_;refine ai (vs:= [y1,y2]) rfl ?_;have iz:=c.cl;have PX:=c.dl;have hgc:AL cs=true:=tH.2 fun z hz=>by have:=c.cr z hz;omega
 have Yp:AL ds=true:=tH.2 fun z hz=>by have:=c.dr z hz;omega
 have mH:=nc cs cs.length;have sP:=nc ds ds.length;refine AP (m:=15) (o1.sl (v:=y1) (by repeat(first|exact ajP|apply ajO))) (by omega) (by omega) hgc (by decide) (by decide) (by omega) (Ji (s:=256) (by have:=c.ce;omega)) fun y3 x0 H2 sx o2=>?_;refine yD (m:=15) ((o1.sl (v:=y2) (by repeat(first|exact ajP|apply ajO))).ext o2.ext) (by omega) Yp (by decide) (by decide) (by omega) fun y4 y0 H3 ly o3=>?_;refine ai (vs:= [y4,.int .i64 0]) rfl ?_;refine ai (vs:= [y4,.int .i64 0]) rfl ?_;have oA:aw H0 H3 (.sl y4 1 (aM y0):: .sl y3 1 (aM x0)::L):= (((o.call o1).call o2).call o3).pick (List.Sublist.cons_cons _ (List.Sublist.cons_cons _ (List.Sublist.cons _ (List.Sublist.cons _ (ak_ _)))));have hx0:=sx.len;obtain⟨ly1,ly2,_⟩:=uy ly (by decide) (by decide) (by omega);refine Fk (least:=257) (oA.sl (v:=y3) (by repeat(first|exact ajP|apply ajO))) (by omega) (by omega) (by decide) fun a tQ Wj hza ha3=>?_;refine Fk (least:=1) (oA.sl (v:=y4) (by repeat(first|exact ajP|apply ajO))) (by omega) (by omega) (by decide) fun n Hb MF hzn Xn=>?_;refine aU rfl (by simp) ?_;refine aU rfl (by simp) ?_;rw [bG];refine oA.box fun cb H6 o6 _=>?_;rw [aA,ag,au];refine o6.az (b:=cb) (f:=0+4) (w:=i64 a) (by repeat(first|exact ajP|apply ajO)) rfl ?_;refine LA (o6.sl (v:=y3) (by repeat(first|exact ajP|apply ajO))) (by decide) (n:=x0.length) (by rw [aS];omega) (by omega) fun vx hvx bvx=>?_;rw [aA,ag,au];refine o6.az (b:=cb) (f:=0+5) (w:=i64 n) (by repeat(first|exact ajP|apply ajO)) rfl ?_;refine LA (o6.sl (v:=y4) (by repeat(first|exact ajP|apply ajO))) (by decide) (n:=y0.length) (by rw [aS];omega) (by omega) fun vy hvy bvy=>?_;rw [aj0,Cv] at hvx hvy;have hxw:lY (x0.take a) false=0:=R5 sx iz hza (by omega);have hyw:lY (y0.take n) true=0:=O2 ly PX hzn (by omega);have Vt: (x0.take a).length=a:=by rw [ajW];omega
 have G9: (y0.take n).length=n:=by rw [ajW];omega
 have hxn:aM (x0.take a)≠ []:=fun e=>by have:=congrArg List.length e;rw [aS,Vt] at this;simp at this;omega
 have hyn:aM (y0.take n)≠ []:=fun e=>by have:=congrArg List.length e;rw [aS,G9] at this;simp at this;omega
 have aar:1≤(x0.take a).getD 256 0:=by rw [pf (by omega)];exact sx.has 256 (by have:=c.ce;omega)
 have hhx: ∀s:Nat,1≤cs.getD s 0→uw (x0.take a) s:=fun s h1=>by
  have h2:=sx.has s (by omega);have XG:s<a:=amV fun hn=>by have:=hza s hn;omega
  exact⟨by omega,by rw [lL,pf XG];omega⟩
 have hhy: ∀s:Nat,1≤ds.getD s 0→uw (y0.take n) s:=fun s h1=>by
  have hsd:s<ds.length:=amV fun hn=>by rw [ajX,akc hn] at h1;simp at h1
  have h2:=ly2 s hsd;rw [if_pos (by omega)] at h2;have XG:s<n:=amV fun hn=>by have:=hzn s hn;omega
  exact⟨by omega,by rw [lL,pf XG];omega⟩
 have Tq: ∀t∈G,yx (x0.take a) (y0.take n) t:=fun t ht=>by
  have:=c.ct t ht;unfold yx
  split at this
  ·rename_i e;rw [if_pos e];exact hhx _ this
  ·rename_i e;rw [if_neg e];exact⟨hhx _ this.1,hhy _ this.2⟩
 have hrx: ∀s,0≤(x0.take a).getD s 0∧(x0.take a).getD s 0≤15:=fun s=>by
  by_cases XG:s<a
  ·rw [pf XG];exact sx.rng s
  ·rw [ajX,akc (by omega)];simp
 have hry: ∀s,0≤(y0.take n).getD s 0∧(y0.take n).getD s 0≤15:=fun s=>by
  by_cases XG:s<n
  ·rw [pf XG]
   by_cases hs:s<ds.length
   ·have:=ly2 s hs
    split at this<;>omega
   ·rw [ajX,akc (by omega)];simp
  ·rw [ajX,akc (by omega)];simp
 have hDx: ∃x1 b,wz (LF G) 15 x1∧Fm x1 257 b∧x0.take a=x1.take b:= ⟨x0,a,by rw [←c.ex.1];exact sx.ex,⟨tQ,Wj,hza,ha3⟩,rfl⟩;have hDy: ∃y1 m,vw (LG G) 15 y1∧Fm y1 1 m∧y0.take n=y1.take m:= ⟨y0,n,by rw [←c.ex.2];exact ly,⟨Hb,MF,hzn,Xn⟩,rfl⟩;generalize x0.take a=x at hvx hxw Vt hxn aar hhx Tq hrx hDx;generalize y0.take n=y at hvy hyw G9 hyn hhy Tq hry hDy;have oB:aw H0 H6 (.box cb [.pointer none,.pointer none,.pointer none,.slice none 0 0,i64 a,i64 n,.int .i64 0] 232:: .sl y4 1 (aM y0):: .sl y3 1 (aM x0)::L):=o6;have o7:aw H0 H6 (.sl y3 1 (aM x0):: .box cb [.pointer none,.pointer none,.pointer none,.slice none 0 0,i64 a,i64 n,.int .i64 0] 232:: .sl y4 1 (aM y0)::L):=oB.fW (by repeat(first|exact aY.refl|exact bu.here|apply aY.cons|apply bu.there));have o8:=o7.view hvx hxn bvx;have o9:aw H0 H6 (.sl y4 1 (aM y0):: .ay (Db vx 1 (aM x)):: .box cb [.pointer none,.pointer none,.pointer none,.slice none 0 0,i64 a,i64 n,.int .i64 0] 232::L):=o8.fW (by repeat(first|exact aY.refl|exact bu.here|apply aY.cons|apply bu.there));have o:=o9.view hvy hyn bvy;have vX: ∀ {H:ak} {M:List It},aw H0 H M→It.ay (Db vx 1 (aM x))∈M→Sl H vx 1 (aM x):=fun o h=> (o.ay h:_∧_).1;have vY: ∀ {H:ak} {M:List It},aw H0 H M→It.ay (Db vy 1 (aM y))∈M→Sl H vy 1 (aM y):=fun o h=> (o.ay h:_∧_).1;refine kU (loose:=false) o (vX o (by repeat(first|exact ajP|apply ajO))) (by omega) (fun H' hw _=>absurd hxw hw) fun H7 M1 px _ hM1 o=>?_;have o:=qK o;refine ai (vs:= [px,.int .i64 0]) rfl ?_;refine ai (vs:= [px,.int .i64 0]) rfl ?_;rw [aA,ag,au];refine o.bK (b:=cb) (f:=0+0) (by repeat(first|exact ajP|apply ajO)) (by simp) hM1.Xw (by repeat(first|exact bd.here|apply bd.there)) fun H8 o _=>?_;refine kU (loose:=true) o (vY o (by repeat(first|exact ajP|apply ajO))) (by omega) (fun H' hw _=>absurd hyw hw) fun H9 M2 py _ hM2 o=>?_;have o:=qK o;refine ai (vs:= [py,.int .i64 0]) rfl ?_;refine ai (vs:= [py,.int .i64 0]) rfl ?_;rw [aA,ag,au];refine o.bK (b:=cb) (f:=0+1) (by repeat(first|exact ajP|apply ajO)) (by simp) hM2.Xw (by repeat(first|exact bd.here|apply bd.there)) fun RU o _=>?_;refine o.build (sz:=1) (vs:= [vx,vy]) (by decide) (fun K' hK=>fJ (vX o (by repeat(first|exact ajP|apply ajO))).one (vY o (by repeat(first|exact ajP|apply ajO))).one hK) rfl fun yl UF o=>?_;refine AH (svs:= [vx,vy]) (ls:= [aM x,aM y]) (o.sl (v:=yl) (by repeat(first|exact ajP|apply ajO))) (by simp) rfl (fun k hk=>?_) ?_ ?_ fun zc H12 oc=>?_
 ·match k,hk with
  |0,_=>exact⟨vX o (by repeat(first|exact ajP|apply ajO)),_,(aj0 _).symm⟩
  |1,_=>exact⟨vY o (by repeat(first|exact ajP|apply ajO)),_,(aj0 _).symm⟩
 ·simp [aM,aL]
 ·simp only [akP,amh,ajQ,aS,aj7];omega
 have ez: ([aM x,aM y]:List (List Value)).flatten=aM (x++y):=by rw [yg];simp
 rw [ez] at oc;have aep: ∀z∈x++y,0≤z∧z≤15:=fun z hz=>by
  rcases akg.1 hz with hz|hz
  ·obtain⟨i,hi,rfl⟩:=alF hz
   have:=hrx i
   rwa [ajX,ajV hi] at this
  ·obtain⟨i,hi,rfl⟩:=alF hz
   have:=hry i
   rwa [ajX,ajV hi] at this
 refine OV (zs:=x++y) (oc.sl (v:=zc) (by repeat(first|exact ajP|apply ajO))) (by rw [ajQ];omega) aep fun tv E H13 hT hPk oE=>?_;have OG:=hT.len;rw [ajQ] at OG;have htv:= (oE.sl (v:=tv) (by repeat(first|exact ajP|apply ajO))).one;have o:aw H0 H13 (.sl tv 3 (nS E)::_):= ((o.call oc).call oE);rw [aA,ag,au];refine o.bK (b:=cb) (f:=0+3) (x:=tv) (by repeat(first|exact ajP|apply ajO)) (by simp) htv (by repeat(first|exact bd.here|apply bd.there)) fun XH o _=>?_;have oC:aw H0 XH (.sl yl 1 [vx,vy]:: .sl zc 1 (aM (x++y)):: .ay (Db vy 1 (aM y)):: .ay (Db vx 1 (aM x)):: .sl tv 3 (nS E):: .box cb [px,py,.pointer none,tv,i64 a,i64 n,.int .i64 0] 232:: .ay (qu M2):: .ay (qu M1)::L):=o.fW (by repeat(first|exact aY.refl|exact bu.here|apply aY.cons|apply bu.there));have o:=oC.tl.tl.tl.tl;refine o.xV (by decide) (by decide) (by decide) fun wv H15 o=>?_;rw [oQ] at o;rw [aA,ag,au];refine o.az (b:=cb) (f:=0+3) (w:=tv) (by repeat(first|exact ajP|apply ajO)) rfl ?_;refine(o.sl (v:=tv) (by repeat(first|exact ajP|apply ajO))).len (rH E) (by decide) ?_;have YM:E.length≤400:=by simp at OG;omega
 refine⟨fun i H' => ∃ (k:Nat) (ws:List Int),i= .int .i64 k∧k≤E.length∧Sf (E.take k) ws∧aw H0 H' (.sl wv 1 (aM ws):: .sl tv 3 (nS E):: .box cb [px,py,.pointer none,tv,i64 a,i64 n,.int .i64 0] 232:: .ay (qu M2):: .ay (qu M1)::L),
  fun i _=>match i with| .int _ x=> (E.length - x).toNat|_=>0,⟨0,List.replicate 19 0,rfl,by omega,⟨akw,?_,fun e he=>by simp at he,rfl⟩,o⟩,?_⟩
 ·intro q hq;rw [ann hq,alT];decide
 rintro _ _ PV ⟨k,ws,rfl,hk,cw,o⟩;rw [aQ];refine ax (fun hc=>?_) (fun hc=>?_)
 ·refine Sg (tv:=tv) hT.sym YM (by omega) cw o (by repeat(first|exact ajP|apply ajO)) fun ws' YJ cw' o' =>?_
  rw [aC,bH (by omega) (by omega)];exact⟨⟨k+1,ws',rfl,by omega,cw',o'⟩,by show (_:Int).toNat< (_:Int).toNat;omega⟩
 have hkE:k=E.length:=by omega
 rw [hkE,aj8] at cw;have Uh:=cw.wl;have J3:=nc ws ws.length;obtain⟨e0,WL⟩: ∃e,e∈E:=by
  cases E with
  |nil=>
   have: []=x++y:=hT;have:=congrArg List.length this;rw [ajQ] at this
   simp at this;omega
  |cons e E=>exact⟨e,by simp⟩
 refine AP (m:=7) (o.sl (v:=wv) (by repeat(first|exact ajP|apply ajO))) (by omega) (by omega) (tH.2 fun z hz=>by have:=cw.wr z hz;omega) (by decide) (by decide) (by omega) (Ji (s:=e0.1) (by have:=cw.wt e0 WL;omega)) fun zv z YJ sz oz=>?_;have o:=o.call oz;have Xs:=sz.len;have hrz:=sz.rng;have hzw:lY z false=0:=Df (LH (by omega) fun s=>by have:=hrz s;omega) sz.share;refine kU (loose:=false) o (o.sl (v:=zv) (by repeat(first|exact ajP|apply ajO))) (by omega) (fun H' hw _=>absurd hzw hw) fun H18 M3 pz _ hM3 o=>?_;have o:=qK o;refine ai (vs:= [pz,.int .i64 0]) rfl ?_;refine ai (vs:= [pz,.int .i64 0]) rfl ?_;rw [aA,ag,au];refine o.bK (b:=cb) (f:=0+2) (x:=pz) (by repeat(first|exact ajP|apply ajO)) (by simp) hM3.Xw (by repeat(first|exact bd.here|apply bd.there)) fun H19 o _=>?_;rw [aA,ag,au];refine o.bK (b:=cb) (f:=0+6) (x:= .int .i64 19) (by repeat(first|exact ajP|apply ajO)) (by simp) rfl (by repeat(first|exact bd.here|apply bd.there)) fun H20 o _=>?_;have hhz: ∀e∈E,uw z e.1:=fun e he=>by
  have h1:=cw.wt e he;have h2:=sz.has e.1 (by omega);have h3:=hT.sym e he;exact⟨by omega,by rw [lL];omega⟩
 refine⟨fun H' => ∃c:Nat,4≤c∧c≤19∧(∀j,c≤j→j<19→z.getD (cz.getD j 0) 0=0)∧aw H0 H' (.ay (qu M3):: .sl zv 1 (aM z):: .sl wv 1 (aM ws):: .sl tv 3 (nS E):: .box cb [px,py,pz,tv,i64 a,i64 n,i64 c] 232:: .ay (qu M2):: .ay (qu M1)::L),
  fun H' =>Se H' cb 6,⟨19,by decide,by decide,fun j h1 h2=>by omega,o⟩,?_⟩
 rintro _ Xu ⟨c,hc4,aat,HA,o⟩;rw [aA,ag,au];refine o.az (b:=cb) (f:=0+6) (w:=i64 c) (by repeat(first|exact ajP|apply ajO)) rfl ?_;have fin: (∀j,c≤j→j<19→z.getD (cz.getD j 0) 0=0)→(4<c→z.getD (cz.getD (c - 1) 0) 0≠0)→R (.pointer (some ⟨cb,0,none⟩)) Xu:=fun HA hz9=>by
  have o:aw H0 Xu (.sl zv 1 (aM z):: .sl wv 1 (aM ws):: .ay (qu M1):: .ay (qu M2):: .ay (qu M3):: .sl tv 3 (nS E):: .box cb [px,py,pz,tv,i64 a,i64 n,i64 c] 232::L):=o.fW (by repeat(first|exact aY.refl|exact bu.here|apply aY.cons|apply bu.there));have o1:=nT o.tl.tl;have o2:=o1.perm (L' := .ay (qu M2):: (M1++ (.ay (qu M3):: .sl tv 3 (nS E):: .box cb [px,py,pz,tv,i64 a,i64 n,i64 c] 232::L))) ami.symm;have o3:=nT o2;have o4:aw H0 Xu (.ay (qu M3):: (M2++ (M1++ (.sl tv 3 (nS E):: .box cb [px,py,pz,tv,i64 a,i64 n,i64 c] 232::L)))):=o3.perm (by
   rw [←ajT,←ajT];exact ami.symm)
  have o5:=nT o4;refine h Xu (M3++ (M2++ (M1++ [.sl tv 3 (nS E),.box cb [px,py,pz,tv,i64 a,i64 n,i64 c] 232]))) cb px py pz tv x y z E c (hM1.mono fun i hi=>by simp [hi]) (hM2.mono fun i hi=>by simp [hi]) (hM3.mono fun i hi=>by simp [hi]) (by simp) (by rw [Vt,G9];simp)
   ⟨by omega,by omega,by omega,by omega,hc4,aat,by omega,fun s=>by have:=hrz s;omega,HA,hzw,yp hzw,hT,hhz,by omega,hxw,hyw⟩ ⟨hDx,hDy,hPk,by rw [←cw.ex];exact sz.ex,hc4,aat,HA,hz9⟩ ⟨by omega,by rw [lL];omega⟩ Tq ?_
  simpa [ajT] using o5
 rw [bU]
 by_cases hc:4<c
 ·rw [decide_eq_true (by omega)]
  refine bX ?_;rw [aA,ag,au];refine o.az (b:=cb) (f:=0+6) (w:=i64 c) (by repeat(first|exact ajP|apply ajO)) rfl ?_;rw [bE,bH (by omega) (by omega),lR];refine⟨by omega,by omega,?_⟩;have kz:= (hG.ext o.ext) (c - 1) _ (vC (by omega));rw [au,aj6] at kz;rw [au,show 0+ ((c:Int) - 1).toNat*1=c - 1 by omega,ba kz];have eF:=zM ⟨c - 1,by omega⟩
  dsimp only at eF
  have To:=o.sl (v:=zv) (by repeat(first|exact ajP|apply ajO));have hzg:z.getD (cz.getD (c - 1) 0) 0=z[cz.getD (c - 1) 0]'(by omega):=by rw [ajX,ajV (by omega)];rfl
  refine To.at_ (n:=z.length) (by rw [aS];omega) (by decide) (by omega) (by omega) fun p hp=>?_;refine hp.load To (w:= .int .i64 (z[cz.getD (c - 1) 0]'(by omega))) (by rw [ajS,aj0,dE (by omega)]) ?_;rw [bj];intro _;refine ax (fun he=>?_) (fun he=>fin HA fun _=>by rw [hzg];exact he);rw [aA,ag,au];refine o.az (b:=cb) (f:=0+6) (w:=i64 c) (by repeat(first|exact ajP|apply ajO)) rfl ?_;rw [bE,bH (by omega) (by omega),aA,ag,au];have m1:=Jh (o.ll (b:=cb) (cs:= [px,py,pz,tv,i64 a,i64 n,i64 c]) (t:=232) (by repeat(first|exact ajP|apply ajO))) (f:=6) (k:= .i64) (x:=c) rfl;refine o.bK (b:=cb) (f:=0+6) (x:= .int .i64 ((c:Int) - 1)) (by repeat(first|exact ajP|apply ajO)) (by simp) rfl (by repeat(first|exact bd.here|apply bd.there)) fun H22 o2 _=>?_;rw [show (c:Int) - 1= ((c - 1:Nat):Int) by omega] at o2;have m2:=Jh (o2.ll (b:=cb) (cs:= [px,py,pz,tv,i64 a,i64 n,i64 (c - 1:Nat)]) (t:=232) (by repeat(first|exact ajP|apply ajO))) (f:=6) (k:= .i64) (x:= (c - 1:Nat)) rfl;refine⟨⟨c - 1,by omega,by omega,fun j h1 h2=>?_,o2⟩,by dsimp only;rw [m1,m2];omega⟩
  by_cases e:j=c - 1
  ·subst e;rw [hzg];exact he
  ·exact HA j (by omega) h2
 ·rw [decide_eq_false (by omega),fH]
  intro _;rw [ao];exact fin HA fun g=>absurd g hc
end
section
set_option maxRecDepth 100000
variable {H H0 H' :ak} {R:Value→ak→Prop} {v:Value} {L:List It} {zs:List Int} {b:WP} {B:List Bool}
theorem Si {a c k:Nat} (h:a<2 ^ k):a|||2 ^ k*c=a+2 ^ k*c:=by
 rw [al7,←am7 h];omega
theorem Nj: ∀ (E:List Ex) (k:Nat) (hk:k<E.length),((nS E).drop (k*3)).take 3=He (E[k])
 | [],k,hk=>by simp at hk
 |e::E,0,hk=>rfl
 |e::E,k+1,hk=>by
  rw [show nS (e::E)=He e++nS E from rfl,show (k+1)*3=3+k*3 by omega,←akR];exact Nj E k (by simpa using hk)
theorem zP: ∀ {es:List Ex} {out l:List Int},Told out es l→∀e∈es,e.2.1≤7∧e.2.2<128
 | [],out,l,h,e,he=>by simp at he
 |u::es,out,l,h,e,he=>by
  rcases aj5.1 he with rfl|he
  ·rcases h.1 with h|h|h|h<;>omega
  ·exact zP h.2 e he
theorem O7 {dv pt tv q0 q1:Value} {cb c:Nat} {x y z:List Int} {E:List Ex} (hG:Reads H0 ⟨0,0,none⟩ je) (d:AG x y z E c) (Bh:It.box cb [q0,q1,pt,tv,i64 x.length,i64 y.length,i64 c] 232∈L) (hz:jM L z pt) (ht:It.sl tv 3 (nS E)∈L)
  (il:B.length≤500000000) (o:aw H0 H (.ay (p_ b dv B)::L)) (h: ∀H' nu,aw H0 H' (.ay (p_ b nu (B++vv x y z E c))::L)→R (.tuple #[]) H'):
  ab Tryz.prog 122 #[.pointer (some ⟨cb,0,none⟩),b.at] H R:=by
 have a1:=d.a1;have a2:=d.a2;have b1:=d.b1;have b2:=d.b2;have c1:=d.c1;have c2:=d.c2;have zl:=d.zl;have OG:=d.told.len;rw [ajQ] at OG;have YM:E.length≤316:=by simp at OG;omega
 refine iS.vc _ _ _ _ ?_;unfold iS.res;rw [aA,ag,au];refine o.az (b:=cb) (f:=0+4) (cs:= [q0,q1,pt,tv,i64 x.length,i64 y.length,i64 c]) (t:=232) (w:=i64 x.length) (by simp [Bh]) rfl ?_;rw [bE,bH (by omega) (by omega),eH,eX (by omega) (by omega),aA,ag,au];refine o.az (b:=cb) (f:=0+5) (cs:= [q0,q1,pt,tv,i64 x.length,i64 y.length,i64 c]) (t:=232) (w:=i64 y.length) (by simp [Bh]) rfl ?_;rw [bE,bH (by omega) (by omega),eH,eX (by omega) (by omega),jg];refine⟨by decide,?_⟩;rw [show min (5:Int).toNat IntKind.u64.bits=5 from rfl,show ((y.length:Int) - 1)*2 ^ 5= ((2 ^ 5* (y.length - 1):Nat):Int) by omega,eX (by omega) (by omega),show (x.length:Int) - 257= ((x.length - 257:Nat):Int) by omega,dF,zk (by omega) (by omega),Si (by omega)];rw [aA,ag,au];refine o.az (b:=cb) (f:=0+6) (cs:= [q0,q1,pt,tv,i64 x.length,i64 y.length,i64 c]) (t:=232) (w:=i64 c) (by simp [Bh]) rfl ?_;rw [bE,bH (by omega) (by omega),eH,eX (by omega) (by omega),jg];refine⟨by decide,?_⟩;rw [show min (10:Int).toNat IntKind.u64.bits=10 from rfl,show ((c:Int) - 4)*2 ^ 10= ((2 ^ 10* (c - 4):Nat):Int) by omega,eX (by omega) (by omega),dF,zk (by omega) (by omega),Si (by omega)];refine uz (n:=x.length - 257+2 ^ 5* (y.length - 1)+2 ^ 10* (c - 4)) (k:=14) (by omega) (by omega) (by omega) o fun H1 Nc o=>?_;rw [aA,ag,au];refine o.az (b:=cb) (f:=0+2) (cs:= [q0,q1,pt,tv,i64 x.length,i64 y.length,i64 c]) (t:=232) (w:=pt) (by simp [Bh]) rfl ?_;obtain⟨hzo,kb,lv,wv,sv,rfl,hm⟩:=hz;have hz:jM L z (.pointer (some ⟨kb,0,none⟩)):= ⟨hzo,kb,lv,wv,sv,rfl,hm⟩;refine Og o (lv:=lv) (wv:=wv) (sv:=sv) (ajO _ (hm (.box kb (cW lv wv (dB (natL z)) sv) 285) ajP)) (ajO _ (hm (.sl lv 1 (aM z)) (by simp [uj]))) (by omega) fun yv H2 ov=>?_;have o:=o.call ov;have o:aw H0 H2 (.ay (p_ b Nc (B++aW (x.length - 257+2 ^ 5* (y.length - 1)+2 ^ 10* (c - 4)) 14)):: .sl yv 1 (aM z)::L):=o.fW (by repeat(first|exact aY.refl|exact bu.here|apply aY.cons|apply bu.there));generalize hB1:B++aW (x.length - 257+2 ^ 5* (y.length - 1)+2 ^ 10* (c - 4)) 14=B1 at o;have ah2:B1.length=B.length+14:=by rw [←hB1,ajQ,aR]
 rw [aA,ag,au];refine o.az (b:=cb) (f:=0+6) (cs:= [q0,q1,.pointer (some ⟨kb,0,none⟩),tv,i64 x.length,i64 y.length,i64 c]) (t:=232) (w:=i64 c) (by simp [Bh]) rfl ?_;rw [HI,f_];refine⟨by omega,by omega,?_⟩;rw [ajS,akG,if_neg (by decide),au,vh];refine⟨fun u H' => ∃ (i:Nat) (nu :Value),u=i64 i∧i≤c∧aw H0 H' (.ay (p_ b nu (B1++sn z (cz.take i))):: .sl yv 1 (aM z)::L),fun u _=>match u with| .int _ i=> (c - i).toNat|_=>0,⟨0,Nc,rfl,by omega,by simpa [sn] using o⟩,?_⟩;rintro _ _ H3 ⟨i,UM,rfl,hi,o⟩;have Jb: ∀i,(sn z (cz.take i)).length≤3*19:=fun i=>by
  have: ∀l:List Nat,(sn z l).length=3*l.length:=fun l=>by
   induction l with
   |nil=>rfl
   |cons s l ih=>unfold sn at ih ⊢;rw [alp,ajQ,ih,aR,aj2];omega
  rw [this,ajW];have:cz.length=19:=rfl;omega
 rw [aQ];refine ax (fun y7=>?_) (fun y7=>?_)
 ·have hic:i<c:=by omega
  rw [vg];refine⟨by omega,by omega,?_⟩;have kz:= (hG.ext o.ext) i _ (vC (by omega));rw [au,aj6] at kz;rw [au,ajS,show 0+0+i*1=i by omega,ba kz];have eF:=zM ⟨i,by omega⟩
  dsimp only at eF
  have To:=o.sl (v:=yv) (by repeat(first|exact ajP|apply ajO));have hz7:=d.z7 (cz.getD i 0);have hzg:z.getD (cz.getD i 0) 0=z[cz.getD i 0]'(by omega):=by rw [ajX,ajV (by omega)];rfl
  refine To.at_ (n:=z.length) (by rw [aS];omega) (by decide) (by omega) (by omega) fun p hp=>?_;refine hp.load To (w:= .int .i64 (z.getD (cz.getD i 0) 0)) (by rw [ajS,aj0,dE (by omega),hzg]) ?_;rw [eH,eX (by omega) (by omega),show z.getD (cz.getD i 0) 0= (((z.getD (cz.getD i 0) 0).toNat:Nat):Int) by omega];refine uz (n:= (z.getD (cz.getD i 0) 0).toNat) (k:=3) (by omega) (by omega) (by rw [ajQ];have:=Jb i;omega) o fun H4 Ts o=>?_;rw [aC,bH (by omega) (by omega)];refine⟨⟨i+1,Ts,rfl,by omega,?_⟩,by show (_:Int).toNat< (_:Int).toNat;omega⟩;have e:sn z (cz.take (i+1))=sn z (cz.take i)++aW (z.getD (cz.getD i 0) 0).toNat 3:=by
   have hio:i<cz.length:=by show i<19;omega
   unfold sn;rw [akq,ajV hio,ano,ajX (l:=cz),ajV hio]
   simp
  rw [e,←ajT];exact o
 ·have hic:i=c:=by omega
  rw [hic] at o;rw [aA,ag,au];refine o.az (b:=cb) (f:=0+3) (cs:= [q0,q1,.pointer (some ⟨kb,0,none⟩),tv,i64 x.length,i64 y.length,i64 c]) (t:=232) (w:=tv) (by simp [Bh]) rfl ?_;have o:= (o.fW (L' := .sl yv 1 (aM z):: .ay (p_ b UM (B1++sn z (cz.take c)))::L) (by repeat(first|exact aY.refl|exact bu.here|apply aY.cons|apply bu.there))).tl;have hB2:=Jb c;generalize hT2:sn z (cz.take c)=T2 at o hB2;refine(o.sl (v:=tv) (ajO _ ht)).len (rH E) (by decide) ?_;refine⟨fun u H' => ∃ (k:Nat) (nu :Value),u=i64 k∧k≤E.length∧((E.take k).flatMap (Bf z)).length≤30*k∧aw H0 H' (.ay (p_ b nu (B1++T2++ (E.take k).flatMap (Bf z)))::L),fun u _=>match u with| .int _ k=> (E.length - k).toNat|_=>0,⟨0,UM,rfl,by omega,by simp,by simpa using o⟩,?_⟩;rintro _ _ H5 ⟨k,dv5,rfl,hk,j5,o⟩;rw [aQ];refine ax (fun lz=>?_) (fun lz=>?_)
  ·have jR:k<E.length:=by omega
   have ji:=Nj E k jR;have sd: (E.take (k+1)).flatMap (Bf z)= (E.take k).flatMap (Bf z)++Bf z E[k]:=by rw [akq,ajV jR,ano];simp
   have hbt:=zP d.told _ (ajZ jR);have hhs:=d.has _ (ajZ jR);generalize E[k]=e at ji sd hbt hhs;generalize (E.take k).flatMap (Bf z)=X at o j5 sd;have hw:=lM hzo e.1;have n_:=o.sl (v:=tv) (ajO _ ht);refine n_.at_ (rH E) (by decide) (by omega) (by omega) fun p hp=>?_;rw [ajS] at hp;refine hp.kf n_ (ws:=He e) ji rfl ?_;refine o.box fun tb H6 o _=>?_;refine o.bW (vs:=He e) (by repeat(first|exact ajP|apply ajO)) rfl rfl rfl (by repeat(first|exact bd.here|apply bd.there)) fun H7 o _=>?_;rw [aA,ag,au];refine o.az (b:=cb) (f:=0+2) (cs:= [q0,q1,.pointer (some ⟨kb,0,none⟩),tv,i64 x.length,i64 y.length,i64 c]) (t:=232) (w:= .pointer (some ⟨kb,0,none⟩)) (by simp [Bh]) rfl ?_;rw [ag,au];refine o.az (b:=tb) (f:=0+0) (w:= .int .i64 (e.1:Nat)) (by repeat(first|exact ajP|apply ajO)) rfl ?_;have o:=o.fW (L' := .ay (p_ b dv5 (B1++T2++X)):: .box tb (He e) 237::L) (by repeat(first|exact aY.refl|exact bu.here|apply aY.cons|apply bu.there));refine qa (s:=e.1) hz.cons hhs (by simp only [ajQ];omega) o fun H8 dv8 o=>?_;rw [ag,au];refine o.az (b:=tb) (f:=0+2) (w:= .int .u64 (e.2.2:Nat)) (by repeat(first|exact ajP|apply ajO)) rfl ?_;rw [ag,au];refine o.az (b:=tb) (f:=0+1) (w:= .int .i64 (e.2.1:Nat)) (by repeat(first|exact ajP|apply ajO)) rfl ?_;refine uz (n:=e.2.2) (k:=e.2.1) (by omega) (by omega) (by simp only [ajQ];omega) o fun H9 dv9 o=>?_;rw [aC,bH (by omega) (by omega)];have ee:Bf z e=gY (natL z) e.1++aW e.2.2 e.2.1:=rfl;refine⟨⟨k+1,dv9,rfl,by omega,by rw [sd,ee];simp only [ajQ,aR];omega,?_⟩,by show (_:Int).toNat< (_:Int).toNat;omega⟩;rw [sd,ee];simp only [ajT] at o ⊢;exact o.pick (List.Sublist.cons_cons _ (List.Sublist.cons _ (ak_ _)))
  ·have hkE:k=E.length:=by omega
   rw [hkE,aj8] at o;refine h H5 dv5 ?_;unfold vv;rw [show x.length - 257+32* (y.length - 1)+1024* (c - 4)=x.length - 257+2 ^ 5* (y.length - 1)+2 ^ 10* (c - 4) from rfl,hT2,←ajT,hB1,←ajT];exact o
end
section
set_option maxRecDepth 100000
variable {H H0 H' :ak} {R:Value→ak→Prop} {v:Value} {L:List It} {zs:List Int} {b:WP} {B:List Bool}
theorem O8 {t:Tok} (hg:jC t=true) (h: ∀H',Ext H H' →R (.bool false) H'):ab Tryz.prog 158 #[t.v] H R:=by
 refine l3.vc _ _ _ ?_;unfold l3.res;refine(aw.start (H:=H)).box fun tb H1 o _=>?_;refine o.bC (by repeat(first|exact ajP|apply ajO)) rfl ?_;refine Gn (t:=t) fun H2 hx=>?_;rw [hg,fc];exact h H2 (o.ext.trans hx)
theorem GM {G:List Tok} {lv:Value} (hs:Sl H lv 3 (eu G)) (hlen:G.length≤65535) (hg: ∀t∈G,jC t=true) (h: ∀H',Ext H H' →R (.bool false) H'):
  ab Tryz.prog 160 #[lv,.func (.func 158) #[] #[]] H R:=by
 have iv:=l7 G;refine bF.vc _ _ _ _ ?_;unfold bF.res;refine bV.vc _ _ _ _ ?_;unfold bV.res;refine hs.len iv (by decide) ?_;refine⟨fun i H' => ∃k:Nat,i= .int .i64 k∧k≤G.length∧Ext H H',fun i _=>match i with| .int _ x=> (G.length - x).toNat|_=>0,⟨0,rfl,by omega,Ext.refl _⟩,?_⟩;rintro _ _ H1 ⟨k,rfl,hk,hx⟩;rw [aQ];refine ax (fun hc=>?_) (fun hc=>?_)
 ·have jR:k<G.length:=by omega
  have ji:=yn G k _ (ajV jR);have VH:=hg _ (ajZ jR);generalize G[k]=t at ji VH;refine(hs.ext hx).at_ iv (by decide) (by omega) (by omega) fun p hp=>?_;rw [ajS] at hp;refine hp.kf (hs.ext hx) (ws:=t.cells) ji rfl ?_;refine wj (by kernel_rfl) ?_;refine O8 (t:=t) VH fun H2 rR=>?_;rw [ao,aC,bH (by omega) (by omega)];exact⟨⟨k+1,rfl,by omega,hx.trans rR⟩,by show (_:Int).toNat< (_:Int).toNat;omega⟩
 ·show rS _ _ _
  rw [iU,decide_eq_false (by decide)];exact h H1 hx
theorem yK {G:List Tok} {lv:Value} {s:List UInt8} {kind:Nat} (hk:kind<3) (n_:s.length≤65535) (hs:Sl H lv 3 (eu G)) (hlen:G.length≤65535) (hg: ∀t∈G,jC t=true) (h: ∀H',Ext H H' →R (.bool true) H'):
  ab Tryz.prog 115 #[.int .i64 (kind:Int),str s,lv] H R:=by
 have iv:=l7 G;refine qW.vc _ _ _ _ _ ?_;unfold qW.res;rw [iU,decide_eq_true (by omega)];refine bX ?_;rw [aQ,decide_eq_true (by omega)];intro _;refine bX ?_;refine aJ ?_;rw [qw,decide_eq_true (by omega)];intro _;refine bX ?_;refine hs.len iv (by decide) ?_;rw [qw,decide_eq_true (by omega)];intro _;refine bX ?_;refine GM hs hlen hg fun H1 hx=>?_;rw [fc];intro _;exact h H1 hx
theorem BE {α β:Type} {f:α→List β} {k:Nat}: ∀ {l:List α},(∀x∈l,(f x).length≤k)→(l.flatMap f).length≤k*l.length
 | [],h=>by simp
 |a::l,h=>by
  have h1:=h a (by simp);have h2:=BE (l:=l) fun x hx=>h x (by simp [hx]);rw [alp,ajQ,aj2,Nat.mul_succ];omega
theorem Dl {x y z:List Int} {E:List Ex} {c:Nat} (d:AG x y z E c): (vv x y z E c).length≤20000:=by
 have OG:=d.told.len;have a2:=d.a2;have b2:=d.b2;have c2:=d.c2;rw [ajQ] at OG;have YM:E.length≤316:=by simp at OG;omega
 have h1: (sn z (cz.take c)).length≤3* (cz.take c).length:=BE fun s _=>by rw [aR];omega
 have h2: (E.flatMap (Bf z)).length≤30*E.length:=BE fun e he=>by
  have:=zP d.told e he;have:=lM d.zok e.1;unfold Bf;rw [ajQ,aR];omega
 have h3: (cz.take c).length≤19:=by rw [ajW];show min c 19≤19;omega
 unfold vv;rw [ajQ,ajQ,aR];omega
theorem aav (l:Bool):aW (4+ (if l then 1 else 0)) 3= [l,false,true]:=by cases l<;>rfl
theorem Fu {G:List Tok} {lv dv:Value} {s:List UInt8} {l:Bool} (hG:Reads H0 ⟨0,0,none⟩ je) (n_:s.length≤65535) (hl:It.sl lv 3 (eu G)∈L) (hlen:G.length≤65535) (hg: ∀t∈G,jC t=true) (il:B.length≤400000000)
  (o:aw H0 H (.ay (p_ b dv B)::L))
  (h: ∀H' nu x y z E c,AG x y z E c→O6 G x y z E c→uw x 256→wP x→wP y→(∀t∈G,yx x y t)→aw H0 H' (.ay (p_ b nu (B++ (l::false::true:: (vv x y z E c++jO x y G))))::L)→R (.int .i64 0) H'):
  ab Tryz.prog 69 #[b.at,.int .i64 2,.bool l,str s,lv] H R:=by
 refine iF.vc _ _ _ _ _ _ _ ?_;unfold iF.res;rw [iA];refine bh ?_;refine yK (kind:=2) (by decide) n_ (o.sl (v:=lv) (ajO _ hl)) hlen hg fun H1 nP=>?_;rw [fc];intro _;show ar (.bool false) _ _;rw [ao,eH,eX (by decide) (by decide),jg];refine⟨by decide,?_⟩;have o1:=o.more nP;refine⟨fun hd H' =>hd= .int .u64 ((4+ (if l then 1 else 0):Nat):Int)∧H1=H',?_,?_⟩
 ·rintro _ _ _ ⟨rfl,rfl⟩
  refine uz (n:=4+ (if l then 1 else 0)) (k:=3) (by split<;>omega) (by decide) (by omega) o1 fun H3 UM o=>?_;rw [bj,decide_eq_false (by decide),ao,bj,decide_eq_false (by decide),ao,];refine Sh hG (o.sl (v:=lv) (ajO _ hl)) hlen hg o fun H4 M cb ps pd pt tv x y z E c hx hy hz ht Bh d dx yJ Tq o=>?_;have o:=o.perm (L' := .ay (p_ b UM (B++aW (4+ (if l then 1 else 0)) 3)):: (M++L)) ami.symm;have Yy:=hx.1;have h16:=hy.1;refine O7 hG d (ald _ Bh) hz.sB (ald _ ht) (by rw [ajQ,aR];omega) o fun H5 dv5 o=>?_;refine AR (sy:=x) (di:=y) (alr _ hl) (ald _ Bh) hx.sB hy.sB yJ (fun t ht=> ⟨hg t ht,Tq t ht⟩) hlen (by have:=Dl d;rw [ajQ,ajQ,aR];omega) o fun H6 VJ o=>?_;refine h H6 VJ x y z E c d dx yJ Yy h16 Tq ?_;rw [aav] at o;simp only [ajT,akX,aj4] at o ⊢;exact o.pick (List.Sublist.cons_cons _ (alH M L))
 ·rw [show IntKind.u64.wrap (2*2 ^ (min (1:Int).toNat IntKind.u64.bits))=4 from rfl]
  cases l
  ·rw [ao];exact⟨rfl,rfl⟩
  ·rw [aH,dF];exact⟨rfl,rfl⟩
end
section
set_option maxHeartbeats 4000000
set_option maxRecDepth 100000
variable [Go.Vc.Mode] (H0:ak) (R:Value→ak→Prop)
def fy.an:cF:= (.seq (.aq (.op 0 [] .nil)) (.seq (.seq (.aq (ae 0 2 .nil)) (.cond (.seq (.aq (.op 0 [] .nil)) .leaf) .leaf)) (.seq (.aq (ae 0 3 .nil)) (.seq (.aq (ae 0 5 .nil)) (.seq (.aq (ae 0 8 .nil)) (.seq (.aq (ae 0 11 .nil)) (.seq (.aq (ae 0 9 .nil)) (.seq (.seq (.aq (ae 0 5 .nil)) (.cond (.seq (.aq (.op 0 [] .nil)) .leaf) .leaf)) (.seq (.aq (ae 0 14 .nil)) (.seq (.aq (ae 0 5 .nil)) (.seq (.aq (ae 0 3 (.dQ 2 (ae 3 3 .nil) 6 (.op 7 [] (.dQ 7 (ae 8 3 .nil) 11 (.op 12 [] (.dQ 12 (ae 13 6 .nil) 19 (.op 20 [] .nil)))))))) .leaf)))))))))))
def fy.res (l0 gL UN:Value):Prop:=
 ab Tryz.prog 6 #[] H0 fun cN a_=>
 jV cN fun c_=>
 ar c_
 (R (.bool false) a_)
 (ab Tryz.prog 7 #[l0] a_ fun cT bf=>
 dR .and gL (.int .i64 15) fun da=>
 aK da (.int .i64 10) fun db=>
 uN db (.int .i64 10) fun cX=>
 ab Tryz.prog 8 #[cT,cX] bf fun dK aO=>
 av 0 dK fun dt=>
 av 1 dK fun cU=>
 bc dt fun dY=>
 uN UN dY fun fF=>
 bc dt fun gJ=>
 aK fF gJ fun im=>
 bc dt fun jJ=>
 uN im jJ fun jK=>
 bt dt none (some jK) fun jk=>
 ab Tryz.prog 14 #[jk] aO fun kc bn=>
 av 0 kc fun jQ=>
 av 1 kc fun lp=>
 dh jQ fun nr=>
 dh cT fun oh=>
 ka nr oh fun qF=>
 ar qF
 (R (.bool false) bn)
 (dh jQ fun lC=>
 lj 8 cT (some lC) none fun qp=>
 ab Tryz.prog 15 #[jQ,qp,cX] bn fun rZ br=>
 av 0 rZ fun oo=>
 av 1 rZ fun qG=>
 av 2 rZ fun td=>
 bt dt none (some jK) fun qx=>
 ab Tryz.prog 16 #[qx] br fun sE cm=>
 eA 0 td (.int .i64 0) fun ub=>
 dC ub (fun wE=>
 eA 1 oo dt fun wL=>
 wE wL cm) cm fun zg cG=> ∀_:Env,
 dC zg (fun F3=>
 z_ lp jK fun A8=>
 F3 A8 cG) cG fun uV bI=> ∀_:Env,
 dC uV (fun rq=>
 dh jQ fun zp=>
 lj 8 cT none (some zp) fun F1=>
 ab Tryz.prog 10 #[F1,sE] bI fun A_ cK=>
 rq A_ cK) bI fun xW bZ=> ∀_:Env,
 R xW bZ))
theorem fy.vc (l0 gL UN:Value) (h:fy.res H0 R l0 gL UN):ab Tryz.prog 4 #[l0,gL,UN] H0 R:=Tryz.vc fy.an Tryz.func4 (by kernel_rfl) (by kernel_rfl) h
def fR.an:cF:= (.seq (.aq (.op 0 [] .nil)) (.seq (.aq (ae 0 4 .nil)) (.seq (.aq (ae 0 7 .nil)) (.seq (.aq (ae 0 2 (.dQ 1 (ae 2 2 .nil) 4 (.op 5 [] (.dQ 5 (ae 6 3 .nil) 9 (.op 10 [] .nil)))))) .leaf))))
def fR.res:Prop:=
 aZ [(.int .i64 0),(.int .i64 0),(.int .i64 0),(.int .i64 0),(.int .i64 0),(.int .i64 0)] [(0,1,(.int .i64 1980)),(1,1,(.int .i64 1)),(2,1,(.int .i64 1))] fun x4=>
 aZ [(str []),(.int .i64 0),(.int .i64 0),(.int .i64 0),(.int .i64 0),(.int .i64 0),(.int .i64 0),(str [])] [(0,1,(str [97])),(1,6,x4),(7,1,(str [120]))] fun x5=>
 aX H0 48 1 [(str []),(.int .i64 0),(.int .i64 0),(.int .i64 0),(.int .i64 0),(.int .i64 0),(.int .i64 0),(str [])] [(0,8,x5)] fun x6 a_=>
 ab Tryz.prog 8 #[x6,(.int .i64 6)] a_ fun x9 bf=>
 av 0 x9 fun cI=>
 av 1 x9 fun cf=>
 ab Tryz.prog 28 #[] bf fun cJ aO=>
 dC cJ (fun qg=>
 eA 0 cf (.int .i64 0) fun cj=>
 qg cj aO) aO fun cS br=> ∀_:Env,
 dC cS (fun qH=>
 ab Tryz.prog 10 #[x6,cI] br fun cT cG=>
 qH cT cG) br fun dG cq=> ∀_:Env,
 R dG cq
theorem fR.vc (h:fR.res H0 R):ab Tryz.prog 6 #[] H0 R:=Tryz.vc fR.an Tryz.func6 (by kernel_rfl) (by kernel_rfl) h
def iT.an:cF:= (.seq (.aq (.op 0 [] .nil)) (.seq (.aq (.op 0 [] .nil)) (.seq (.seq (.aq (.op 0 [] .nil)) (.block (.loop [3,4] (ef 3 49 []) (.seq (.seq (.aq (ae 0 5 (.dQ 4 (ae 5 2 .nil) 7 .nil))) (.cond .leaf .leaf)) (.seq (.block (.seq (.aq (ae 0 14 .nil)) (.iG [0,0,2,6,14,30,62,0,0,0,768,1792,3840,0,0,24576,57344,122880,253952,516096,1048320,2097150,4194302,8388607,16777215] (ae 0 4 (ae 7 14 (.op 4 [7,12,17] (ae 5 2 (ae 21 4 .nil)))))))) (.aq (ae 0 3 .nil))))))) (.seq (.aq (ae 0 2 .nil)) .leaf))))
def iT.res (l0:Value):Prop:=
 ∃ (ep:Value→Value→ak→Prop) (fE:Value→Value→ak→Nat),ep (.slice none 0 0) (.int .i64 0) H0∧
 ∀_:Env,∀a3:Value,∀i4:Value,∀aO:ak,ep a3 i4 aO→
 dh l0 fun x9=>
 ec i4 x9 fun cI=>
 dC cI (fun qg=>
 ec i4 (.int .i64 5) fun cQ=>
 qg cQ aO) aO fun cx br=> ∀_:Env,
 ar cx
 (aN 2 l0 i4 fun cT=>
 aa 0 cT fun dG=>
 al br dG fun da=>
 J7 da (.int .i64 0) fun db=>
 uN db (.int .i64 2019643200) fun cX=>
 ab Tryz.prog 29 #[cX] br fun dq cm=>
 av 0 dq fun cZ=>
 av 1 dq fun c8=>
 cd cm 40 (.agg #[(.int .i64 0),(.int .i64 0),(.int .i64 0),(.int .i64 0),(.int .i64 0),(.int .i64 0)]) fun t5 cq=>
 aG cq 6 t5 cZ fun _ cG=>
 aK (.int .i64 97) i4 fun cU=>
 cA .u8 cU fun dX=>
 aF cG 6 t5 fun fD=>
 aN 2 l0 i4 fun iu=>
 aa 1 iu fun jJ=>
 al cG jJ fun jK=>
 aN 2 l0 i4 fun ln=>
 aa 1 ln fun jk=>
 al cG jk fun kc=>
 bc kc fun jQ=>
 np jQ (.int .i64 400) fun lp=>
 bt jK none (some lp) fun pM=>
 aX cG 5 1 [(.int .u8 0)] [(0,1,dX)] fun eo eI=>
 (aF eI 6 t5 fun r_=>
 r_=fD)∧
 (al eI jJ fun r_=>
 r_=jK)∧
 (al eI jk fun r_=>
 r_=kc)∧
 qi eI eo fun dY=>
 aK dY (str [47,102,105,108,101]) fun fF=>
 aZ [(str []),(.int .i64 0),(.int .i64 0),(.int .i64 0),(.int .i64 0),(.int .i64 0),(.int .i64 0),(str [])] [(0,1,fF),(1,6,fD),(7,1,pM)] fun nr=>
 aX eI 48 1 [(str []),(.int .i64 0),(.int .i64 0),(.int .i64 0),(.int .i64 0),(.int .i64 0),(.int .i64 0),(str [])] [(0,8,nr)] fun qh bI=>
 bg bI 48 8 80 [(str []),(.int .i64 0),(.int .i64 0),(.int .i64 0),(.int .i64 0),(.int .i64 0),(.int .i64 0),(str [])] a3 qh fun oh dD=>
 aK i4 (.int .i64 1) fun cS=>
 ep oh cS dD∧fE oh cS dD<fE a3 i4 aO)
 (R a3 br)
theorem iT.vc (l0:Value) (h:iT.res H0 R l0):ab Tryz.prog 7 #[l0] H0 R:=Tryz.vc iT.an Tryz.func7 (by kernel_rfl) (by kernel_rfl) h
def ic.an:cF:= (.seq (.aq (.op 0 [] .nil)) (.seq (.aq (.op 0 [] .nil)) (.seq (.aq (ae 0 4 .nil)) (.seq (.aq (.op 0 [] .nil)) (.seq (.aq (ae 0 9 .nil)) (.seq (.aq (ae 0 3 (.dQ 2 (ae 3 2 .nil) 5 (.op 6 [] (.dQ 6 (ae 7 2 .nil) 9 (.op 10 [] (.dQ 10 (ae 11 2 .nil) 13 (.op 14 [] .nil)))))))) .leaf))))))
def ic.res:Prop:=
 cd H0 141 (.agg #[(.slice none 0 0),(.int .u64 0),(.int .i64 0)]) fun w1 a_=>
 aZ [(.int .u8 0),(.int .i64 0),(.int .i64 0)] [(0,1,(.int .u8 97))] fun x6=>
 aX a_ 145 1 [(.int .u8 0),(.int .i64 0),(.int .i64 0)] [(0,3,x6)] fun x7 bf=>
 ab Tryz.prog 69 #[w1,(.int .i64 2),(.bool true),(str [97]),x7] bf fun x8 aO=>
 ab Tryz.prog 70 #[w1] aO fun x9 bn=>
 ab Tryz.prog 72 #[w1] bn fun cf br=>
 ab Tryz.prog 71 #[cf] br fun cJ cm=>
 av 0 cJ fun cQ=>
 av 1 cJ fun cx=>
 av 2 cJ fun cj=>
 eA 0 x8 (.int .i64 0) fun cN=>
 dC cN (fun wE=>
 eA 0 cj (.int .i64 0) fun cT=>
 wE cT cm) cm fun dG cG=> ∀_:Env,
 dC dG (fun F3=>
 eA 1 cQ (str [97]) fun cX=>
 F3 cX cG) cG fun dq bI=> ∀_:Env,
 dC dq (fun rq=>
 eA 1 cx (str []) fun dK=>
 rq dK bI) bI fun dt bZ=> ∀_:Env,
 R dt bZ
theorem ic.vc (h:ic.res H0 R):ab Tryz.prog 28 #[] H0 R:=Tryz.vc ic.an Tryz.func28 (by kernel_rfl) (by kernel_rfl) h
def l_.an:cF:= (.seq (.aq (ae 0 2 .nil)) (.seq (.aq (ae 0 8 .nil)) (.seq (.aq (ae 0 5 .nil)) .leaf)))
def l_.res (l0 gL:Value):Prop:=
 ab Tryz.prog 18 #[l0,gL] H0 fun cf a_=>
 av 0 cf fun cJ=>
 av 1 cf fun cQ=>
 ab Tryz.prog 30 #[cJ,(str [])] a_ fun cj bf=>
 R (.tuple #[cj,cQ]) bf
theorem l_.vc (l0 gL:Value) (h:l_.res H0 R l0 gL):ab Tryz.prog 8 #[l0,gL] H0 R:=Tryz.vc l_.an Tryz.func8 (by kernel_rfl) (by kernel_rfl) h
def nd.an:cF:= (.seq (.aq (ae 0 3 .nil)) (.seq (.aq (ae 0 5 .nil)) (.seq (.seq (.aq (ae 0 8 .nil)) (.seq (.aq (ae 0 2 .nil)) (.cond (.seq (.aq (ae 0 5 .nil)) .leaf) .leaf))) (.seq (.aq (ae 0 8 .nil)) (.seq (.aq (ae 0 5 .nil)) .leaf)))))
def nd.res (l0 Nk nR:Value):Prop:=
 bg H0 48 8 80 [(str []),(.int .i64 0),(.int .i64 0),(.int .i64 0),(.int .i64 0),(.int .i64 0),(.int .i64 0),(str [])] (.slice none 0 0) l0 fun cj a_=>
 bg a_ 48 8 80 [(str []),(.int .i64 0),(.int .i64 0),(.int .i64 0),(.int .i64 0),(.int .i64 0),(.int .i64 0),(str [])] cj Nk fun cN bf=>
 ab Tryz.prog 44 #[cN,nR] bf fun dG aO=>
 av 0 dG fun da=>
 av 1 dG fun db=>
 ld 0 db (.int .i64 0) fun dq=>
 ar dq
 (R (.tuple #[(str []),da,db]) aO)
 (ab Tryz.prog 8 #[cN,nR] aO fun dX bn=>
 av 0 dX fun eo=>
 av 1 dX fun dY=>
 R (.tuple #[eo,(.int .i64 0),dY]) bn)
theorem nd.vc (l0 Nk nR:Value) (h:nd.res H0 R l0 Nk nR):ab Tryz.prog 15 #[l0,Nk,nR] H0 R:=Tryz.vc nd.an Tryz.func15 (by kernel_rfl) (by kernel_rfl) h
def kW.an:cF:= (.seq (.aq (ae 0 2 .nil)) (.seq (.seq (.aq (ae 0 3 (.dQ 2 (ae 3 2 .nil) 5 .nil))) (.cond (.seq (.aq (ae 0 2 .nil)) .leaf) .leaf)) (.seq (.aq (.op 0 [] .nil)) (.seq (.seq (.aq (ae 0 3 .nil)) (.block (.loop [6,24] (6:: (8:: (ef 24 10 []))) (.seq (.aq (.op 0 [] .nil)) (.seq (.cond .leaf .leaf) (.seq (.block (.seq (.aq (ae 0 4 .nil)) (.aq (ae 0 6 .nil)))) (.aq (ae 0 2 .nil)))))))) (.seq (.seq (.aq (ae 0 7 .nil)) (.seq (.aq (ae 0 2 .nil)) (.cond (.seq (.aq (ae 0 4 .nil)) .leaf) .leaf))) (.seq (.seq (.aq (ae 0 3 .nil)) (.block (.loop [45] (4:: (5:: (11:: (12:: (ef 45 11 []))))) (.seq (.aq (.op 0 [] .nil)) (.seq (.cond .leaf .leaf) (.seq (.block (.seq (.aq (ae 0 6 .nil)) (.seq (.aq (ae 0 4 .nil)) (.cond (.seq (.aq (ae 0 3 .nil)) .leaf) .leaf)))) (.aq (ae 0 2 .nil)))))))) (.seq (.aq (.op 0 [] .nil)) (.seq (.seq (.aq (ae 0 3 .nil)) (.block (.loop [13,58] (4:: (5:: (13:: (14:: (15:: (ef 58 14 [])))))) (.seq (.aq (.op 0 [] .nil)) (.seq (.cond .leaf .leaf) (.seq (.block (.seq (.aq (ae 0 6 .nil)) (.seq (.aq (ae 0 6 .nil)) (.seq (.aq (ae 0 2 .nil)) (.cond (.seq (.aq (ae 0 3 .nil)) .leaf) .leaf))))) (.aq (ae 0 2 .nil)))))))) (.seq (.aq (ae 0 2 .nil)) .leaf)))))))))
def kW.res (l0 gL:Value):Prop:=
 ec gL (.int .i64 0) fun cN=>
 lk cN (fun jd=>
 ka gL (.int .i64 9) fun cT=>
 jd cT H0) H0 fun dG bf=> ∀_:Env,
 ar dG
 (R (.tuple #[(.int .i64 0),(.int .i64 1)]) bf)
 (dh l0 fun db=>
 ∃ (v8:Value→Value→ak→Prop) (xY:Value→Value→ak→Nat),v8 (.slice none 0 0) (.int .i64 0) bf∧
 ∀_:Env,∀GN:Value,∀cX:Value,∀br:ak,v8 GN cX br→
 ec cX db fun dq=>
 ar dq
 (aN 8 l0 cX fun cZ=>
 aF br 8 cZ fun c8=>
 cd br 48 (.agg #[(str []),(.int .i64 0),(.int .i64 0),(.int .i64 0),(.int .i64 0),(.int .i64 0),(.int .i64 0),(str [])]) fun f8 cm=>
 aG cm 8 f8 c8 fun _ cq=>
 aa 0 f8 fun dt=>
 al cq dt fun cU=>
 aX cq 9 1 [(str [])] [(0,1,cU)] fun dX cG=>
 bg cG 9 1 16 [(str [])] GN dX fun eo eI=>
 aK cX (.int .i64 1) fun dY=>
 v8 eo dY eI∧xY eo dY eI<xY GN cX br)
 (ab Tryz.prog 93 #[GN] br fun gJ bI=>
 av 0 gJ fun im=>
 av 1 gJ fun iu=>
 ld 0 iu (.int .i64 0) fun jK=>
 ar jK
 (R (.tuple #[im,iu]) bI)
 (dh l0 fun jk=>
 ∃ (xd:Value→ak→Prop) (Cr:Value→ak→Nat),xd (.int .i64 0) bI∧
 ∀_:Env,∀kc:Value,∀cK:ak,xd kc cK→
 ec kc jk fun jQ=>
 ar jQ
 (aN 8 l0 kc fun pM=>
 aF cK 8 pM fun nr=>
 cd cK 48 (.agg #[(str []),(.int .i64 0),(.int .i64 0),(.int .i64 0),(.int .i64 0),(.int .i64 0),(.int .i64 0),(str [])]) fun f12 dT=>
 aG dT 8 f12 nr fun _ dw=>
 aa 1 f12 fun qh=>
 aF dw 6 qh fun oh=>
 ab Tryz.prog 94 #[oh] dw fun qF eM=>
 jV qF fun om=>
 ar om
 (R (.tuple #[kc,(.int .i64 13)]) eM)
 (aK kc (.int .i64 1) fun nY=>
 xd nY eM∧Cr nY eM<Cr kc cK))
 (dh l0 fun lC=>
 ∃ (XI:Value→Value→ak→Prop) (aaw:Value→Value→ak→Nat),XI (.int .i64 0) (.int .i64 0) cK∧
 ∀_:Env,∀GO:Value,∀qp:Value,∀fX:ak,XI GO qp fX→
 ec qp lC fun pN=>
 ar pN
 (aN 8 l0 qp fun oo=>
 aF fX 8 oo fun qG=>
 cd fX 48 (.agg #[(str []),(.int .i64 0),(.int .i64 0),(.int .i64 0),(.int .i64 0),(.int .i64 0),(.int .i64 0),(str [])]) fun f15 iB=>
 aG iB 8 f15 qG fun _ gh=>
 aa 7 f15 fun pO=>
 al gh pO fun te=>
 bc te fun qx=>
 aK GO qx fun sE=>
 ka sE (.int .i64 1099511627776) fun ub=>
 ar ub
 (R (.tuple #[qp,(.int .i64 11)]) gh)
 (aK qp (.int .i64 1) fun uc=>
 XI sE uc gh∧aaw sE uc gh<aaw GO qp fX))
 (R (.tuple #[(.int .i64 0),(.int .i64 0)]) fX)))))
theorem kW.vc (l0 gL:Value) (h:kW.res H0 R l0 gL):ab Tryz.prog 44 #[l0,gL] H0 R:=Tryz.vc kW.an Tryz.func44 (by kernel_rfl) (by kernel_rfl) h
def nf.an:cF:= (.seq (.aq (ae 0 2 .nil)) (.seq (.seq (.aq (ae 0 8 .nil)) (.seq (.aq (ae 0 2 .nil)) (.cond (.seq (.aq (ae 0 3 .nil)) .leaf) .leaf))) (.seq (.aq (ae 0 8 .nil)) .leaf)))
def nf.res (l0 gL:Value):Prop:=
 ab Tryz.prog 44 #[l0,gL] H0 fun cf a_=>
 av 0 cf fun cJ=>
 av 1 cf fun cQ=>
 ld 0 cQ (.int .i64 0) fun cj=>
 ar cj
 (R (.tuple #[(.pointer none),cQ]) a_)
 (bg a_ 48 8 80 [(str []),(.int .i64 0),(.int .i64 0),(.int .i64 0),(.int .i64 0),(.int .i64 0),(.int .i64 0),(str [])] (.slice none 0 0) l0 fun c_ bf=>
 ab Tryz.prog 41 #[] bf fun cT aO=>
 aZ [(.slice none 0 0),(.int .i64 0),(.pointer none),(.int .i64 0),(.int .i64 0),(.slice none 0 0),(str []),(.bool false)] [(0,1,c_),(1,1,gL),(2,1,cT)] fun dG=>
 cd aO 175 dG fun da bn=>
 R (.tuple #[da,(.int .i64 0)]) bn)
theorem nf.vc (l0 gL:Value) (h:nf.res H0 R l0 gL):ab Tryz.prog 48 #[l0,gL] H0 R:=Tryz.vc nf.an Tryz.func48 (by kernel_rfl) (by kernel_rfl) h
def ie.an:cF:= (.seq (.aq (ae 0 2 .nil)) (.seq (.aq (ae 0 2 .nil)) .leaf))
def ie.res (m0:Value):Prop:=
 cd H0 111 m0 fun m1 a_=>
 R (.func (.func 103) #[] #[m1]) a_
theorem ie.vc (m0:Value) (h:ie.res H0 R m0):ab Tryz.prog 49 #[m0] H0 R:=Tryz.vc ie.an Tryz.func49 (by kernel_rfl) (by kernel_rfl) h
def gB.an:cF:= (.seq (.aq (ae 0 2 .nil)) (.seq (.seq (.aq (ae 0 3 (.dQ 2 (ae 3 6 (.dQ 8 (ae 9 3 .nil) 12 .nil)) 13 .nil))) (.cond (.seq (.aq (ae 0 2 .nil)) .leaf) .leaf)) (.seq (.aq (ae 0 7 .nil)) (.seq (.aq (ae 0 7 .nil)) (.seq (.aq (ae 0 10 .nil)) (.seq (.aq (ae 0 3 .nil)) .leaf))))))
def gB.res (m0:Value):Prop:=
 eA 3 m0 (.pointer none) fun x7=>
 lk x7 (fun jd=>
 aB m0 fun cI=>
 aa 6 cI fun cf=>
 al H0 cf fun cJ=>
 eA 1 cJ (str []) fun cQ=>
 dC cQ (fun tT=>
 ab Tryz.prog 149 #[m0] H0 fun cS br=>
 jV cS fun cN=>
 tT cN br) H0 fun c_ bn=> ∀_:Env,
 jd c_ bn) H0 fun dj bf=> ∀_:Env,
 ar dj
 (R (.tuple #[(str []),(.bool false)]) bf)
 (aB m0 fun dG=>
 aa 6 dG fun da=>
 al bf da fun db=>
 bc db fun cX=>
 np cX (.int .i64 256) fun dq=>
 aB m0 fun c8=>
 aa 6 c8 fun dK=>
 al bf dK fun dt=>
 bt dt none (some dq) fun dX=>
 aB m0 fun fF=>
 aa 6 fF fun fD=>
 al bf fD fun gJ=>
 bt gJ (some dq) none fun iu=>
 aB m0 fun jJ=>
 aa 6 jJ fun jK=>
 aE bf jK iu fun _ cm=>
 R (.tuple #[dX,(.bool true)]) cm)
theorem gB.vc (m0:Value) (h:gB.res H0 R m0):ab Tryz.prog 104 #[m0] H0 R:=Tryz.vc gB.an Tryz.func104 (by kernel_rfl) (by kernel_rfl) h
def dm.an:cF:= (.seq (.aq (.op 0 [] .nil)) (.seq (.block (.seq (.iG [0,1,3,7,0,16,48,112,240,511,1023] (ae 0 11 .nil)) (.cond (.aq (ae 0 6 .nil)) (.seq (.aq (ae 0 6 .nil)) (.cond (.seq (.aq (ae 0 4 .nil)) (.aq (ae 0 9 .nil))) (.seq (.aq (.op 0 [] .nil)) .leaf)))))) (.seq (.aq (.op 0 [] .nil)) .leaf)))
def dm.res (m0:Value):Prop:=
 aB m0 fun x5=>
 aa 3 x5 fun x6=>
 al H0 x6 fun x7=>
 aB m0 fun x9=>
 aa 0 x9 fun cI=>
 al H0 cI fun cf=>
 dh cf fun cJ=>
 ec x7 cJ fun cQ=>
 ar cQ
 (ab Tryz.prog 198 #[m0] H0 fun cS a_=>
 aB m0 fun cN=>
 aa 6 cN fun c_=>
 aE a_ c_ cS fun _ bf=>
 R (.bool true) bf)
 (aB m0 fun dG=>
 aa 7 dG fun da=>
 al H0 da fun db=>
 jV db fun cX=>
 ar cX
 (aB m0 fun cZ=>
 aa 7 cZ fun c8=>
 aE H0 c8 (.bool true) fun _ aO=>
 aB m0 fun cU=>
 aa 5 cU fun dX=>
 al aO dX fun eo=>
 ab Tryz.prog 45 #[eo] aO fun dY bn=>
 aB m0 fun fF=>
 aa 6 fF fun fD=>
 aE bn fD dY fun _ br=>
 R (.bool true) br)
 (R (.bool false) H0))
theorem dm.vc (m0:Value) (h:dm.res H0 R m0):ab Tryz.prog 149 #[m0] H0 R:=Tryz.vc dm.an Tryz.func149 (by kernel_rfl) (by kernel_rfl) h
def gC.an:cF:= (.seq (.aq (.op 0 [] .nil)) (.seq (.iG [0,1,3,7,0,16,48,112,255,511,0,2047] (ae 0 10 (.op 10 [3,7,9] (.op 11 [] .nil)))) (.seq (.aq (ae 0 8 .nil)) (.seq (.iG [0,1,0,4,0,16,48,112,240,0,512,1536,4095,0,16383] (ae 0 13 (.op 13 [1,3,7,10] (.op 14 [] .nil)))) (.seq (.aq (.op 0 [] .nil)) (.cut [5] (5:: (ef 37 21 [])) (.seq (.aq (ae 0 3 .nil)) (.cond (.seq (.iG [0,1,0,4,12,28,63,127,255,255,511] (ae 0 11 .nil)) (.iG [0,1,3,7,0,16,63,127,255] (ae 0 9 .nil))) .leaf)) (.seq (.iG [0,1,3,0,8,24,56,7,135,511,1023] (ae 0 8 (.op 8 [4] (ae 9 2 .nil)))) (.seq (.iG [0,0,2,6,14,0,32,126,255,511,1023] (ae 0 6 (.op 6 [4] (ae 7 4 .nil)))) (.seq (.iG [0,1,0,7,0,19,63,127] (.op 0 [] (.op 2 [] (.op 4 [] (.op 1 [4] (.op 3 [] (ae 5 3 .nil))))))) (.seq (.aq (ae 0 10 .nil)) (.seq (.aq (ae 0 2 .nil)) .leaf)))))))))))
def gC.res (m0:Value):Prop:=
 aB m0 fun x8=>
 aa 0 x8 fun x9=>
 al H0 x9 fun cI=>
 aB m0 fun cJ=>
 aa 3 cJ fun cQ=>
 al H0 cQ fun cx=>
 aN 8 cI cx fun cj=>
 aF H0 8 cj fun cS=>
 cd H0 48 (.agg #[(str []),(.int .i64 0),(.int .i64 0),(.int .i64 0),(.int .i64 0),(.int .i64 0),(.int .i64 0),(str [])]) fun f3 a_=>
 (al a_ x9 fun r_=>
 r_=cI)∧
 (al a_ cQ fun r_=>
 r_=cx)∧
 (aF a_ 8 cj fun r_=>
 r_=cS)∧
 aG a_ 8 f3 cS fun _ bf=>
 aB m0 fun c_=>
 aa 3 c_ fun dj=>
 al bf dj fun cT=>
 aK cT (.int .i64 1) fun dG=>
 aB m0 fun da=>
 aa 3 da fun db=>
 aE bf db dG fun _ aO=>
 aa 0 f3 fun cX=>
 al aO cX fun dq=>
 aa 1 f3 fun cZ=>
 aF aO 6 cZ fun c8=>
 aB m0 fun dt=>
 aa 4 dt fun cU=>
 al aO cU fun dX=>
 cA .u64 dX fun eo=>
 aa 7 f3 fun dY=>
 al aO dY fun fF=>
 eA 1 fF (str []) fun fD=>
 aZ [(str []),(.int .i64 0),(.int .i64 0),(.int .i64 0),(.int .i64 0),(.int .i64 0),(.int .i64 0),(.int .u64 0),(.int .u64 0),(.int .u32 0),(.int .u64 0),(.bool false)] [(0,1,dq),(1,6,c8),(10,1,eo),(11,1,fD)] fun gJ=>
 cd aO 44 (.agg #[(str []),(.int .i64 0),(.int .i64 0),(.int .i64 0),(.int .i64 0),(.int .i64 0),(.int .i64 0),(.int .u64 0),(.int .u64 0),(.int .u32 0),(.int .u64 0),(.bool false)]) fun h4 bn=>
 (al bn cX fun r_=>
 r_=dq)∧
 (aF bn 6 cZ fun r_=>
 r_=c8)∧
 (al bn cU fun r_=>
 r_=dX)∧
 (al bn dY fun r_=>
 r_=fF)∧
 aG bn 12 h4 gJ fun _ br=>
 ∃qH:Value→ak→Prop,(∀_:Env,∀GP:Value,∀cq:ak,qH GP cq→
 bc GP fun pN=>
 cA .u64 pN fun rZ=>
 aa 7 f3 fun oo=>
 al cq oo fun qG=>
 bc qG fun td=>
 cA .u64 td fun pO=>
 aa 7 h4 fun te=>
 aE cq te rZ fun _ cG=>
 (al cG oo fun r_=>
 r_=qG)∧
 aa 8 h4 fun qx=>
 aE cG qx pO fun _ eI=>
 aB m0 fun ub=>
 aa 5 ub fun uW=>
 al eI uW fun uc=>
 aF eI 12 h4 fun xX=>
 aX eI 44 1 [(str []),(.int .i64 0),(.int .i64 0),(.int .i64 0),(.int .i64 0),(.int .i64 0),(.int .i64 0),(.int .u64 0),(.int .u64 0),(.int .u32 0),(.int .u64 0),(.bool false)] [(0,12,xX)] fun wL bI=>
 (al bI uW fun r_=>
 r_=uc)∧
 bg bI 44 12 104 [(str []),(.int .i64 0),(.int .i64 0),(.int .i64 0),(.int .i64 0),(.int .i64 0),(.int .i64 0),(.int .u64 0),(.int .u64 0),(.int .u32 0),(.int .u64 0),(.bool false)] uc wL fun zg dD=>
 aB m0 fun Bc=>
 aa 5 Bc fun DX=>
 aE dD DX zg fun _ bZ=>
 aF bZ 12 h4 fun F0=>
 aF bZ 12 h4 fun A9=>
 ab Tryz.prog 96 #[F0] bZ fun A8 cK=>
 (aF cK 12 h4 fun r_=>
 r_=A9)∧
 aK A8 GP fun Bp=>
 ab Tryz.prog 97 #[A9] cK fun v_ dT=>
 aK Bp v_ fun zp=>
 aB m0 fun KI=>
 aa 4 KI fun A_=>
 al dT A_ fun xW=>
 bc zp fun KJ=>
 aK xW KJ fun PM=>
 aB m0 fun PL=>
 aa 4 PL fun Td=>
 aE dT Td PM fun _ dw=>
 R zp dw)∧
 aa 11 h4 fun im=>
 al br im fun iu=>
 jV iu fun jJ=>
 ar jJ
 (aa 7 f3 fun jj=>
 al br jj fun iV=>
 aB m0 fun jk=>
 aa 1 jk fun kc=>
 al br kc fun jQ=>
 ab Tryz.prog 239 #[iV,jQ] br fun lp eM=>
 av 0 lp fun pM=>
 av 1 lp fun nr=>
 aB m0 fun oh=>
 aa 2 oh fun qF=>
 al eM qF fun om=>
 aa 7 f3 fun nt=>
 al eM nt fun nY=>
 ab Tryz.prog 57 #[om,nY] eM fun tS gN=>
 aa 9 h4 fun lC=>
 aE gN lC tS fun _ gH=>
 qH pM gH)
 (qH (str []) br)
theorem gC.vc (m0:Value) (h:gC.res H0 R m0):ab Tryz.prog 198 #[m0] H0 R:=Tryz.vc gC.an Tryz.func198 (by kernel_rfl) (by kernel_rfl) h
def ma.an:cF:= (.seq (.aq (.op 0 [] .nil)) (.seq (.aq (ae 0 7 .nil)) (.seq (.aq (ae 0 3 (.dQ 2 (ae 3 3 .nil) 6 (.op 7 [] .nil)))) .leaf)))
def ma.res (l0 s1:Value):Prop:=
 ab Tryz.prog 39 #[s1] H0 fun x9 a_=>
 av 0 x9 fun cI=>
 av 1 x9 fun cf=>
 eA 0 cf (.int .i64 0) fun cQ=>
 dC cQ (fun uG=>
 ab Tryz.prog 40 #[cI,l0] a_ fun cN bn=>
 uG cN bn) a_ fun c_ aO=> ∀_:Env,
 R c_ aO
theorem ma.vc (l0 s1:Value) (h:ma.res H0 R l0 s1):ab Tryz.prog 10 #[l0,s1] H0 R:=Tryz.vc ma.an Tryz.func10 (by kernel_rfl) (by kernel_rfl) h
def jz.an:cF:= (.seq (.aq (ae 0 2 .nil)) (.seq (.aq (ae 0 2 .nil)) (.seq (.aq (ae 0 8 .nil)) (.seq (.aq (.op 0 [] .nil)) (.seq (.aq (.op 0 [] .nil)) (.seq (.seq (.aq (ae 0 3 .nil)) (.block (.loop [7,8,20] (7:: (8:: (10:: (ef 20 28 [])))) (.seq (.aq (.op 0 [] .nil)) (.seq (.cond .leaf .leaf) (.seq (.block (.seq (.aq (ae 0 4 .nil)) (.seq (.aq (ae 0 2 .nil)) (.block (.seq (.aq (ae 0 2 .nil)) (.cond (.aq (.op 0 [] .nil)) (.seq (.aq (ae 0 2 .nil)) (.cond (.aq (ae 0 5 .nil)) (.seq (.aq (ae 0 2 .nil)) (.cond (.aq (ae 0 12 .nil)) .leaf)))))))))) (.aq (ae 0 2 .nil)))))))) (.seq (.aq (ae 0 5 .nil)) .leaf)))))))
def jz.res (s0:Value):Prop:=
 ab Tryz.prog 11 #[] H0 fun cf a_=>
 ab Tryz.prog 12 #[cf,s0] a_ fun cj bf=>
 av 0 cj fun cS=>
 av 1 cj fun cN=>
 dh cS fun dj=>
 ∃ (v8:Value→Value→Value→ak→Prop) (xY:Value→Value→Value→ak→Nat),v8 (.slice none 0 0) (str []) (.int .i64 0) bf∧
 ∀_:Env,∀uB:Value,∀vH:Value,∀cT:Value,∀br:ak,v8 uB vH cT br→
 ec cT dj fun dG=>
 ar dG
 (aN 14 cS cT fun da=>
 aF br 14 da fun db=>
 cd br 46 (.agg #[(.int .i64 0),(str []),(.int .i64 0),(.int .i64 0),(.int .i64 0),(.int .i64 0),(.int .i64 0),(.int .i64 0),(.int .u64 0),(.int .u64 0),(.int .u32 0),(.int .u64 0),(.bool false),(str [])]) fun cI cm=>
 aG cm 14 cI db fun _ cq=>
 aa 0 cI fun cX=>
 al cq cX fun dq=>
 eA 0 dq (.int .i64 1) fun c8=>
 ar c8
 (aK cT (.int .i64 1) fun lp=>
 v8 uB (str []) lp cq∧xY uB (str []) lp cq<xY uB vH cT br)
 (eA 0 dq (.int .i64 2) fun dt=>
 ar dt
 (aa 13 cI fun dX=>
 al cq dX fun eo=>
 aK vH eo fun dY=>
 aK cT (.int .i64 1) fun lp=>
 v8 uB dY lp cq∧xY uB dY lp cq<xY uB vH cT br)
 (eA 0 dq (.int .i64 3) fun fD=>
 ar fD
 (aa 1 cI fun im=>
 aa 0 im fun iu=>
 al cq iu fun jJ=>
 aa 1 cI fun jK=>
 aa 1 jK fun jj=>
 aF cq 6 jj fun iV=>
 aZ [(str []),(.int .i64 0),(.int .i64 0),(.int .i64 0),(.int .i64 0),(.int .i64 0),(.int .i64 0),(str [])] [(0,1,jJ),(1,6,iV),(7,1,vH)] fun jk=>
 aX cq 48 1 [(str []),(.int .i64 0),(.int .i64 0),(.int .i64 0),(.int .i64 0),(.int .i64 0),(.int .i64 0),(str [])] [(0,8,jk)] fun kc cG=>
 bg cG 48 8 80 [(str []),(.int .i64 0),(.int .i64 0),(.int .i64 0),(.int .i64 0),(.int .i64 0),(.int .i64 0),(str [])] uB kc fun jQ eI=>
 aK cT (.int .i64 1) fun lp=>
 v8 jQ vH lp eI∧xY jQ vH lp eI<xY uB vH cT br)
 (aK cT (.int .i64 1) fun lp=>
 v8 uB vH lp cq∧xY uB vH lp cq<xY uB vH cT br))))
 (ab Tryz.prog 43 #[cf] br fun qh bI=>
 R (.tuple #[uB,qh]) bI)
theorem jz.vc (s0:Value) (h:jz.res H0 R s0):ab Tryz.prog 14 #[s0] H0 R:=Tryz.vc jz.an Tryz.func14 (by kernel_rfl) (by kernel_rfl) h
def mc.an:cF:= (.seq (.aq (.op 0 [] .nil)) (.seq (.aq (ae 0 2 .nil)) (.seq (.aq (ae 0 3 .nil)) (.seq (.iG [0,0,2,7,0,22,54,127,255] (ae 0 2 (.op 4 [] (ae 2 2 (ae 5 4 .nil))))) .leaf))))
def mc.res (s0:Value):Prop:=
 ab Tryz.prog 11 #[] H0 fun x4 a_=>
 ab Tryz.prog 12 #[x4,s0] a_ fun x7 bf=>
 ab Tryz.prog 43 #[x4] bf fun cI aO=>
 bt s0 none (some cI) fun cf=>
 ab Tryz.prog 46 #[x4] aO fun cQ bn=>
 ab Tryz.prog 45 #[cQ] bn fun cx br=>
 aK cf cx fun cj=>
 R cj br
theorem mc.vc (s0:Value) (h:mc.res H0 R s0):ab Tryz.prog 16 #[s0] H0 R:=Tryz.vc mc.an Tryz.func16 (by kernel_rfl) (by kernel_rfl) h
def ng.an:cF:= (.seq (.aq (ae 0 2 .nil)) (.seq (.aq (ae 0 9 .nil)) (.seq (.seq (.aq (ae 0 2 .nil)) (.cond (.seq (.aq (ae 0 3 .nil)) .leaf) .leaf)) (.seq (.aq (ae 0 2 .nil)) (.seq (.aq (.op 0 [] .nil)) (.seq (.seq (.aq (ae 0 3 .nil)) (.block (.loop [8,25] (2:: (3:: (8:: (10:: (11:: (12:: (ef 25 19 []))))))) (.seq (.aq (.op 0 [] .nil)) (.seq (.cond .leaf .leaf) (.seq (.block (.seq (.aq (ae 0 4 .nil)) (.seq (.aq (ae 0 10 .nil)) (.seq (.seq (.aq (ae 0 2 .nil)) (.cond (.seq (.aq (ae 0 3 .nil)) .leaf) .leaf)) (.aq (ae 0 5 .nil)))))) (.aq (ae 0 2 .nil)))))))) (.seq (.aq (ae 0 3 .nil)) .leaf)))))))
def ng.res (s0:Value):Prop:=
 ab Tryz.prog 87 #[s0] H0 fun cj a_=>
 av 0 cj fun cS=>
 av 1 cj fun cN=>
 av 2 cj fun c_=>
 ld 0 c_ (.int .i64 0) fun cT=>
 ar cT
 (R (.tuple #[(.slice none 0 0),c_]) a_)
 (ab Tryz.prog 41 #[] a_ fun da bf=>
 dh cS fun cX=>
 ∃ (v8:Value→Value→ak→Prop) (xY:Value→Value→ak→Nat),v8 (.slice none 0 0) (.int .i64 0) bf∧
 ∀_:Env,∀uO:Value,∀dq:Value,∀br:ak,v8 uO dq br→
 ec dq cX fun cZ=>
 ar cZ
 (aN 12 cS dq fun c8=>
 aF br 12 c8 fun dK=>
 cd br 44 (.agg #[(str []),(.int .i64 0),(.int .i64 0),(.int .i64 0),(.int .i64 0),(.int .i64 0),(.int .i64 0),(.int .u64 0),(.int .u64 0),(.int .u32 0),(.int .u64 0),(.bool false)]) fun YN cm=>
 aG cm 12 YN dK fun _ cq=>
 aF cq 12 YN fun eo=>
 ab Tryz.prog 88 #[da,s0,eo] cq fun dY cG=>
 av 0 dY fun fF=>
 av 1 dY fun fD=>
 cd cG 48 (.agg #[(str []),(.int .i64 0),(.int .i64 0),(.int .i64 0),(.int .i64 0),(.int .i64 0),(.int .i64 0),(str [])]) fun f11 eI=>
 aG eI 8 f11 fF fun _ bI=>
 ld 0 fD (.int .i64 0) fun im=>
 ar im
 (R (.tuple #[(.slice none 0 0),fD]) bI)
 (aF bI 8 f11 fun jK=>
 aX bI 48 1 [(str []),(.int .i64 0),(.int .i64 0),(.int .i64 0),(.int .i64 0),(.int .i64 0),(.int .i64 0),(str [])] [(0,8,jK)] fun jj dD=>
 bg dD 48 8 80 [(str []),(.int .i64 0),(.int .i64 0),(.int .i64 0),(.int .i64 0),(.int .i64 0),(.int .i64 0),(str [])] uO jj fun iV bZ=>
 aK dq (.int .i64 1) fun ln=>
 v8 iV ln bZ∧xY iV ln bZ<xY uO dq br))
 (R (.tuple #[uO,(.int .i64 0)]) br))
theorem ng.vc (s0:Value) (h:ng.res H0 R s0):ab Tryz.prog 39 #[s0] H0 R:=Tryz.vc ng.an Tryz.func39 (by kernel_rfl) (by kernel_rfl) h
def kX.an:cF:= (.seq (.aq (ae 0 3 .nil)) (.seq (.aq (ae 0 7 .nil)) (.seq (.seq (.aq (ae 0 2 .nil)) (.cond (.seq (.aq (ae 0 4 .nil)) .leaf) .leaf)) (.seq (.aq (.op 0 [] .nil)) (.seq (.seq (.aq (ae 0 3 .nil)) (.block (.loop [7,22] (7:: (9:: (ef 22 10 []))) (.seq (.aq (.op 0 [] .nil)) (.seq (.cond .leaf .leaf) (.seq (.block (.seq (.aq (ae 0 4 .nil)) (.aq (ae 0 6 .nil)))) (.aq (ae 0 2 .nil)))))))) (.seq (.seq (.aq (ae 0 7 .nil)) (.seq (.aq (ae 0 2 .nil)) (.cond (.seq (.aq (ae 0 4 .nil)) .leaf) .leaf))) (.seq (.aq (ae 0 5 .nil)) .leaf)))))))
def kX.res (s0:Value):Prop:=
 ab Tryz.prog 134 #[s0] H0 fun cx a_=>
 av 0 cx fun cj=>
 av 1 cx fun cS=>
 ld 0 cS (.int .i64 0) fun c_=>
 ar c_
 (R (.tuple #[(.slice none 0 0),(.slice none 0 0),cS]) a_)
 (dh cj fun dG=>
 ∃ (rA:Value→Value→ak→Prop) (tU:Value→Value→ak→Nat),rA (.slice none 0 0) (.int .i64 0) a_∧
 ∀_:Env,∀uB:Value,∀da:Value,∀bn:ak,rA uB da bn→
 ec da dG fun db=>
 ar db
 (aN 12 cj da fun cX=>
 aF bn 12 cX fun dq=>
 cd bn 44 (.agg #[(str []),(.int .i64 0),(.int .i64 0),(.int .i64 0),(.int .i64 0),(.int .i64 0),(.int .i64 0),(.int .u64 0),(.int .u64 0),(.int .u32 0),(.int .u64 0),(.bool false)]) fun h9 br=>
 aG br 12 h9 dq fun _ cm=>
 aa 0 h9 fun c8=>
 al cm c8 fun dK=>
 aX cm 9 1 [(str [])] [(0,1,dK)] fun dt cq=>
 bg cq 9 1 16 [(str [])] uB dt fun cU cG=>
 aK da (.int .i64 1) fun dX=>
 rA cU dX cG∧tU cU dX cG<tU uB da bn)
 (ab Tryz.prog 93 #[uB] bn fun fF eI=>
 av 0 fF fun fD=>
 av 1 fF fun gJ=>
 ld 0 gJ (.int .i64 0) fun iu=>
 ar iu
 (R (.tuple #[(.slice none 0 0),(.slice none 0 0),gJ]) eI)
 (R (.tuple #[cj,uB,(.int .i64 0)]) eI)))
theorem kX.vc (s0:Value) (h:kX.res H0 R s0):ab Tryz.prog 87 #[s0] H0 R:=Tryz.vc kX.an Tryz.func87 (by kernel_rfl) (by kernel_rfl) h
def me.an:cF:= (.seq (.aq (ae 0 3 .nil)) (.seq (.iG [0,1,0,7,15,31] (.op 0 [] (.op 2 [] (.op 1 [2] (ae 3 3 .nil))))) (.seq (.aq (ae 0 19 .nil)) (.seq (.seq (.aq (ae 0 3 (.dQ 2 (ae 3 4 .nil) 7 (.op 8 [] (.dQ 8 (ae 9 4 .nil) 13 .nil))))) (.cond (.seq (.aq (ae 0 3 .nil)) .leaf) .leaf)) (.seq (.iG [0,0,2,0,8,0,32,120,255,0,1023,2047,4095,4095,8191,32767] (ae 0 16 .nil)) (.seq (.block (.seq (.aq (ae 0 3 .nil)) (.cond (.seq (.aq (ae 0 4 .nil)) .leaf) (.seq (.aq (ae 0 7 .nil)) (.cond (.seq (.aq (ae 0 3 .nil)) .leaf) (.seq (.iG [0,0,3,0,8,31,63] (ae 0 2 (ae 3 2 (.op 2 [4] (ae 5 2 .nil))))) (.cond (.seq (.aq (ae 0 3 .nil)) .leaf) .leaf))))))) (.seq (.aq (ae 0 8 .nil)) .leaf)))))))
def me.res (t0 s1 h2:Value):Prop:=
 cd H0 44 h2 fun h5 a_=>
 cd a_ 48 (.agg #[(str []),(.int .i64 0),(.int .i64 0),(.int .i64 0),(.int .i64 0),(.int .i64 0),(.int .i64 0),(str [])]) fun x6 bf=>
 aF bf 12 h5 fun cx=>
 aF bf 12 h5 fun cS=>
 ab Tryz.prog 96 #[cx] bf fun cj aO=>
 (aF aO 12 h5 fun r_=>
 r_=cS)∧
 ab Tryz.prog 97 #[cS] aO fun cN bn=>
 aa 10 h5 fun cT=>
 al bn cT fun dG=>
 bc cj fun db=>
 cA .u64 db fun cX=>
 aa 7 h5 fun dq=>
 al bn dq fun cZ=>
 aK cX cZ fun c8=>
 bc cN fun dt=>
 cA .u64 dt fun cU=>
 aK c8 cU fun dX=>
 ab Tryz.prog 135 #[s1,dG,dX] bn fun eo br=>
 av 0 eo fun dY=>
 av 1 eo fun fF=>
 jV fF fun gJ=>
 lk gJ (fun qH=>
 ab Tryz.prog 106 #[dY,cj] br fun jK cG=>
 jV jK fun jj=>
 qH jj cG) br fun iV cq=> ∀_:Env,
 lk iV (fun F3=>
 ab Tryz.prog 136 #[dY,cN] cq fun jQ dD=>
 jV jQ fun lp=>
 F3 lp dD) cq fun pM bI=> ∀_:Env,
 ar pM
 (aZ [(str []),(.int .i64 0),(.int .i64 0),(.int .i64 0),(.int .i64 0),(.int .i64 0),(.int .i64 0),(str [])] [] fun nr=>
 aG bI 8 x6 nr fun _ bZ=>
 aF bZ 8 x6 fun WN=>
 R (.tuple #[WN,(.int .i64 3)]) bZ)
 (bc cj fun om=>
 bc dY fun nY=>
 bc cN fun lC=>
 dJ nY lC fun qp=>
 bt dY (some om) (some qp) fun pN=>
 aF bI 12 h5 fun rZ=>
 ab Tryz.prog 137 #[pN,rZ] bI fun oo dT=>
 av 0 oo fun qG=>
 av 1 oo fun td=>
 ld 0 td (.int .i64 0) fun qx=>
 ar qx
 (aZ [(str []),(.int .i64 0),(.int .i64 0),(.int .i64 0),(.int .i64 0),(.int .i64 0),(.int .i64 0),(str [])] [] fun sE=>
 aG dT 8 x6 sE fun _ dw=>
 aF dw 8 x6 fun aev=>
 R (.tuple #[aev,td]) dw)
 (bc qG fun uc=>
 cA .u64 uc fun xX=>
 aa 8 h5 fun wL=>
 al dT wL fun zg=>
 ld 0 xX zg fun Bc=>
 ar Bc
 (aZ [(str []),(.int .i64 0),(.int .i64 0),(.int .i64 0),(.int .i64 0),(.int .i64 0),(.int .i64 0),(str [])] [] fun DX=>
 aG dT 8 x6 DX fun _ gN=>
 aF gN 8 x6 fun WB=>
 R (.tuple #[WB,(.int .i64 8)]) gN)
 (aa 9 h5 fun A9=>
 al dT A9 fun v_=>
 ab Tryz.prog 57 #[t0,qG] dT fun Bp fX=>
 (al fX A9 fun r_=>
 r_=v_)∧
 ld 0 Bp v_ fun zp=>
 ar zp
 (aZ [(str []),(.int .i64 0),(.int .i64 0),(.int .i64 0),(.int .i64 0),(.int .i64 0),(.int .i64 0),(str [])] [] fun F1=>
 aG fX 8 x6 F1 fun _ iB=>
 aF iB 8 x6 fun aew=>
 R (.tuple #[aew,(.int .i64 7)]) iB)
 (aa 0 h5 fun KI=>
 al fX KI fun A_=>
 aa 1 h5 fun xW=>
 aF fX 6 xW fun Cj=>
 aZ [(str []),(.int .i64 0),(.int .i64 0),(.int .i64 0),(.int .i64 0),(.int .i64 0),(.int .i64 0),(str [])] [(0,1,A_),(1,6,Cj),(7,1,qG)] fun PM=>
 aG fX 8 x6 PM fun _ oH=>
 aF oH 8 x6 fun aex=>
 R (.tuple #[aex,(.int .i64 0)]) oH))))
theorem me.vc (t0 s1 h2:Value) (h:me.res H0 R t0 s1 h2):ab Tryz.prog 88 #[t0,s1,h2] H0 R:=Tryz.vc me.an Tryz.func88 (by kernel_rfl) (by kernel_rfl) h
def kY.an:cF:= (.seq (.aq (ae 0 2 .nil)) (.seq (.aq (ae 0 8 .nil)) (.seq (.aq (ae 0 11 .nil)) (.seq (.aq (ae 0 8 .nil)) (.seq (.seq (.aq (ae 0 3 (.dQ 2 (ae 3 2 .nil) 5 (.op 6 [] (.dQ 6 (ae 7 9 .nil) 16 .nil))))) (.cond (.seq (.aq (ae 0 2 .nil)) .leaf) .leaf)) (.seq (.aq (.op 0 [] .nil)) (.seq (.aq (.op 0 [] .nil)) (.seq (.block (.loop [6,9,10] (2:: (3:: (6:: (ef 9 4 (ef 51 36 []))))) (.seq (.seq (.aq (ae 0 2 .nil)) (.cond .leaf .leaf)) (.block (.seq (.aq (ae 0 8 .nil)) (.seq (.seq (.aq (ae 0 3 (.dQ 2 (ae 3 4 .nil) 7 .nil))) (.cond (.seq (.aq (ae 0 2 .nil)) .leaf) .leaf)) (.seq (.iG [0,0,2,6,14,0,32,126,0,262,774,1798,4094,8191,16383] (ae 0 2 (ae 5 2 (.op 8 [] (.op 2 [6,8] (ae 3 2 (.op 7 [] (.op 9 [6] (ae 10 5 .nil))))))))) (.seq (.aq (ae 0 4 .nil)) (.aq (ae 0 5 .nil)))))))))) (.seq (.seq (.aq (ae 0 7 (.dQ 6 (ae 7 4 .nil) 11 .nil))) (.cond (.seq (.aq (ae 0 2 .nil)) .leaf) .leaf)) (.seq (.aq (ae 0 3 .nil)) .leaf))))))))))
def kY.res (s0:Value):Prop:=
 ab Tryz.prog 187 #[s0] H0 fun cj a_=>
 av 0 cj fun cS=>
 av 1 cj fun cN=>
 cd a_ 266 (.agg #[(.int .u64 0),(.int .u64 0),(.int .u64 0)]) fun p4 bf=>
 aG bf 3 p4 cS fun _ aO=>
 aa 2 p4 fun cT=>
 al aO cT fun dG=>
 aa 1 p4 fun da=>
 al aO da fun db=>
 ab Tryz.prog 135 #[s0,dG,db] aO fun cX bn=>
 av 0 cX fun dq=>
 av 1 cX fun cZ=>
 aa 0 p4 fun c8=>
 al bn c8 fun dK=>
 aa 1 p4 fun dt=>
 al bn dt fun cU=>
 aa 2 p4 fun dX=>
 al bn dX fun eo=>
 ab Tryz.prog 99 #[dK,cU,eo] bn fun dY br=>
 jV cN fun fD=>
 lk fD (fun qH=>
 jV cZ fun iu=>
 qH iu br) br fun jJ cq=> ∀_:Env,
 lk jJ (fun Tf=>
 aa 2 p4 fun iV=>
 al cq iV fun ln=>
 aa 1 p4 fun jk=>
 al cq jk fun kc=>
 aK ln kc fun jQ=>
 bt s0 (some jQ) none fun lp=>
 ld 1 lp dY fun nr=>
 Tf nr cq) cq fun qh eI=> ∀_:Env,
 ar qh
 (R (.tuple #[(.slice none 0 0),(.int .i64 3)]) eI)
 (∃ (KM:Value→Value→Value→ak→Prop) (QR:Value→Value→Value→ak→Nat),KM dq (.slice none 0 0) (.int .u64 0) eI∧
 ∀_:Env,∀Sj:Value,∀Sk:Value,∀Eb:Value,∀bZ:ak,KM Sj Sk Eb bZ→
 ld 1 Sj (str []) fun qF=>
 ar qF
 (ab Tryz.prog 188 #[Sj] bZ fun nY cK=>
 av 0 nY fun tS=>
 av 1 nY fun lC=>
 cd cK 44 (.agg #[(str []),(.int .i64 0),(.int .i64 0),(.int .i64 0),(.int .i64 0),(.int .i64 0),(.int .i64 0),(.int .u64 0),(.int .u64 0),(.int .u32 0),(.int .u64 0),(.bool false)]) fun PW dT=>
 aG dT 12 PW tS fun _ dw=>
 z_ lC (.int .i64 0) fun pN=>
 lk pN (fun Xq=>
 aa 10 PW fun oo=>
 al dw oo fun qG=>
 ld 0 qG Eb fun pO=>
 Xq pO dw) dw fun te gN=> ∀_:Env,
 ar te
 (R (.tuple #[(.slice none 0 0),(.int .i64 3)]) gN)
 (aF gN 12 PW fun sE=>
 aa 7 PW fun uc=>
 al gN uc fun xX=>
 aF gN 12 PW fun zg=>
 ab Tryz.prog 96 #[sE] gN fun vk gH=>
 (al gH uc fun r_=>
 r_=xX)∧
 (aF gH 12 PW fun r_=>
 r_=zg)∧
 bc vk fun ub=>
 cA .u64 ub fun uW=>
 aK uW xX fun wL=>
 ab Tryz.prog 97 #[zg] gH fun Bc fX=>
 (al fX uc fun r_=>
 r_=xX)∧
 bc Bc fun DX=>
 cA .u64 DX fun F0=>
 aK wL F0 fun A8=>
 aK Eb A8 fun uV=>
 bt Sj (some lC) none fun v_=>
 aF fX 12 PW fun F1=>
 aX fX 44 1 [(str []),(.int .i64 0),(.int .i64 0),(.int .i64 0),(.int .i64 0),(.int .i64 0),(.int .i64 0),(.int .u64 0),(.int .u64 0),(.int .u32 0),(.int .u64 0),(.bool false)] [(0,12,F1)] fun KI iB=>
 bg iB 44 12 104 [(str []),(.int .i64 0),(.int .i64 0),(.int .i64 0),(.int .i64 0),(.int .i64 0),(.int .i64 0),(.int .u64 0),(.int .u64 0),(.int .u32 0),(.int .u64 0),(.bool false)] Sk KI fun A_ gh=>
 KM v_ A_ uV gh∧QR v_ A_ uV gh<QR Sj Sk Eb bZ))
 (dh Sk fun Cj=>
 cA .u64 Cj fun KJ=>
 aa 0 p4 fun PM=>
 al bZ PM fun PL=>
 ld 0 KJ PL fun Td=>
 lk Td (fun Bb=>
 aa 2 p4 fun TX=>
 al bZ TX fun J0=>
 ld 0 Eb J0 fun QI=>
 Bb QI bZ) bZ fun QJ lg=> ∀_:Env,
 ar QJ
 (R (.tuple #[(.slice none 0 0),(.int .i64 3)]) lg)
 (R (.tuple #[Sk,(.int .i64 0)]) lg)))
theorem kY.vc (s0:Value) (h:kY.res H0 R s0):ab Tryz.prog 134 #[s0] H0 R:=Tryz.vc kY.an Tryz.func134 (by kernel_rfl) (by kernel_rfl) h
def mf.an:cF:= (.seq (.aq (ae 0 2 .nil)) (.seq (.aq (ae 0 4 .nil)) (.seq (.seq (.aq (ae 0 4 (.dQ 3 (ae 4 5 .nil) 9 .nil))) (.cond (.seq (.aq (ae 0 2 .nil)) .leaf) .leaf)) (.seq (.aq (ae 0 8 .nil)) .leaf))))
def mf.res (s0 A2 n2:Value):Prop:=
 bc s0 fun cI=>
 cA .u64 cI fun cf=>
 ka A2 cf fun cx=>
 lk cx (fun jd=>
 dJ cf A2 fun dj=>
 ka n2 dj fun cT=>
 jd cT H0) H0 fun dG bf=> ∀_:Env,
 ar dG
 (R (.tuple #[(str []),(.bool false)]) bf)
 (aK A2 n2 fun cZ=>
 bt s0 (some A2) (some cZ) fun c8=>
 R (.tuple #[c8,(.bool true)]) bf)
theorem mf.vc (s0 A2 n2:Value) (h:mf.res H0 R s0 A2 n2):ab Tryz.prog 135 #[s0,A2,n2] H0 R:=Tryz.vc mf.an Tryz.func135 (by kernel_rfl) (by kernel_rfl) h
def j8.an:cF:= (.seq (.aq (ae 0 3 .nil)) (.seq (.seq (.aq (ae 0 2 .nil)) (.cond (.seq (.aq (ae 0 2 .nil)) .leaf) .leaf)) (.seq (.aq (ae 0 9 .nil)) (.cut [8] (8:: (ef 17 6 [])) (.seq (.aq (ae 0 3 (.dQ 2 (ae 3 2 .nil) 5 .nil))) (.cond (.aq (.op 0 [] .nil)) .leaf)) (.seq (.aq (ae 0 4 .nil)) .leaf)))))
def j8.res (s0 h1:Value):Prop:=
 cd H0 44 h1 fun h3 a_=>
 aa 11 h3 fun x9=>
 al a_ x9 fun cI=>
 ar cI
 (R (.tuple #[(str []),(.int .i64 0)]) a_)
 (ab Tryz.prog 71 #[s0] a_ fun cQ bf=>
 av 0 cQ fun cx=>
 av 1 cQ fun cj=>
 av 2 cQ fun cS=>
 ∃tT:Value→ak→Prop,(∀_:Env,∀e8:Value,∀bn:ak,tT e8 bn→
 R (.tuple #[cx,e8]) bn)∧
 eA 0 cS (.int .i64 0) fun c_=>
 dC c_ (fun zn=>
 ld 1 cj (str []) fun dG=>
 zn dG bf) bf fun da cm=> ∀_:Env,
 ar da
 (tT (.int .i64 3) cm)
 (tT cS cm))
theorem j8.vc (s0 h1:Value) (h:j8.res H0 R s0 h1):ab Tryz.prog 137 #[s0,h1] H0 R:=Tryz.vc j8.an Tryz.func137 (by kernel_rfl) (by kernel_rfl) h
def nh.an:cF:= (.seq (.aq (ae 0 2 .nil)) (.seq (.seq (.aq (ae 0 3 .nil)) (.cond (.seq (.aq (ae 0 3 .nil)) .leaf) .leaf)) (.seq (.aq (ae 0 6 .nil)) (.cut [5] (5:: (ef 18 10 [])) (.iG [0,1,3,0,8,31,0,64,255,511,0,2047] (ae 0 2 (ae 3 2 (ae 6 2 (.fork (.op 2 [] (.fork (.op 5 [] (.fork (ae 8 4 .nil) (.op 10 [] (ae 8 2 (.op 11 [] .nil))))) (.op 10 [] (.op 5 [] (ae 8 2 (.op 11 [] .nil)))))) (.op 10 [] (.op 2 [] (.op 5 [] (ae 8 2 (.op 11 [] .nil)))))))))) (.cut [] (3:: (6:: (7:: (8:: (ef 28 34 []))))) (.seq (.aq (ae 0 3 .nil)) (.cond (.seq (.aq (ae 0 6 .nil)) (.cut [7] (7:: (ef 36 10 [])) (.iG [0,1,3,0,8,31,0,64,255,511,0,2047] (ae 0 2 (ae 3 2 (ae 6 2 (.fork (.op 2 [] (.fork (.op 5 [] (.fork (ae 8 4 .nil) (.op 10 [] (ae 8 2 (.op 11 [] .nil))))) (.op 10 [] (.op 5 [] (ae 8 2 (.op 11 [] .nil)))))) (.op 10 [] (.op 2 [] (.op 5 [] (ae 8 2 (.op 11 [] .nil)))))))))) (.seq (.aq (ae 0 8 .nil)) (.seq (.aq (ae 0 4 (.dQ 3 (ae 4 3 .nil) 7 .nil))) (.cond (.seq (.aq (ae 0 3 .nil)) .leaf) .leaf))))) .leaf)) (.seq (.iG [0,0,2,0,8,0,32,126,0,510,255,2047] (ae 0 7 (.op 8 [] (.op 7 [0] (ae 9 3 .nil))))) .leaf))))))
def nh.res (s0:Value):Prop:=
 cd H0 266 (.agg #[(.int .u64 0),(.int .u64 0),(.int .u64 0)]) fun x2 a_=>
 bc s0 fun cI=>
 ec cI (.int .i64 22) fun cf=>
 ar cf
 (aZ [(.int .u64 0),(.int .u64 0),(.int .u64 0)] [] fun cJ=>
 aG a_ 3 x2 cJ fun _ bf=>
 aF bf 3 x2 fun r_3=>
 R (.tuple #[r_3,(.bool false)]) bf)
 (bc s0 fun cj=>
 dJ cj (.int .i64 22) fun cS=>
 bt s0 (some cS) none fun cN=>
 ∃qg:Value→ak→Prop,(∀_:Env,∀p5:Value,∀br:ak,qg p5 br→
 ∃qH:ak→Prop,(∀_:Env,∀cq:ak,qH cq→
 aF cq 3 p5 fun qG=>
 aa 0 p5 fun td=>
 al cq td fun pO=>
 aa 1 p5 fun te=>
 al cq te fun qx=>
 aa 2 p5 fun sE=>
 al cq sE fun vk=>
 ab Tryz.prog 99 #[pO,qx,vk] cq fun ub cG=>
 (aF cG 3 p5 fun r_=>
 r_=qG)∧
 eA 1 ub cN fun uc=>
 aG cG 3 x2 qG fun _ eI=>
 aF eI 3 x2 fun QU=>
 R (.tuple #[QU,uc]) eI)∧
 bc s0 fun dt=>
 rS dt (.int .i64 98) fun cU=>
 ar cU
 (bc s0 fun dY=>
 dJ dY (.int .i64 98) fun fF=>
 bt s0 (some fF) none fun fD=>
 ∃rq:Value→ak→Prop,(∀_:Env,∀q7:Value,∀bZ:ak,rq q7 bZ→
 aa 0 q7 fun jQ=>
 al bZ jQ fun lp=>
 aa 1 q7 fun pM=>
 al bZ pM fun nr=>
 aa 2 q7 fun qh=>
 al bZ qh fun oh=>
 ab Tryz.prog 99 #[lp,nr,oh] bZ fun qF cK=>
 bc qF fun nt=>
 eA 0 nt (.int .i64 98) fun nY=>
 dC nY (fun zf=>
 eA 1 qF fD fun pN=>
 zf pN cK) cK fun rZ dw=> ∀_:Env,
 ar rZ
 (aF dw 3 q7 fun oo=>
 aG dw 3 x2 oo fun _ eM=>
 aF eM 3 x2 fun WR=>
 R (.tuple #[WR,(.bool true)]) eM)
 (qH dw))∧
 bt fD (some (.int .i64 24)) (some (.int .i64 32)) fun im=>
 bt fD (some (.int .i64 40)) (some (.int .i64 48)) fun jK=>
 bt fD (some (.int .i64 48)) (some (.int .i64 56)) fun ln=>
 (ab Tryz.prog 109 #[im] br fun iu gH=>
 (ab Tryz.prog 109 #[jK] gH fun jj fX=>
 (ab Tryz.prog 109 #[ln] fX fun jk iB=>
 aZ [(.int .u64 0),(.int .u64 0),(.int .u64 0)] [(0,1,iu),(1,1,jj),(2,1,jk)] fun kc=>
 cd iB 266 (.agg #[(.int .u64 0),(.int .u64 0),(.int .u64 0)]) fun q7 gh=>
 aG gh 3 q7 kc fun _ oH=>
 rq q7 oH)∧
 (cd fX 266 (.agg #[(.int .u64 0),(.int .u64 0),(.int .u64 0)]) fun q7 lg=>
 ab Tryz.prog 109 #[ln] lg fun jk vo=>
 aZ [(.int .u64 0),(.int .u64 0),(.int .u64 0)] [(0,1,iu),(1,1,jj),(2,1,jk)] fun kc=>
 aG vo 3 q7 kc fun _ ru=>
 rq q7 ru))∧
 (cd gH 266 (.agg #[(.int .u64 0),(.int .u64 0),(.int .u64 0)]) fun q7 nZ=>
 ab Tryz.prog 109 #[jK] nZ fun jj zq=>
 ab Tryz.prog 109 #[ln] zq fun jk tj=>
 aZ [(.int .u64 0),(.int .u64 0),(.int .u64 0)] [(0,1,iu),(1,1,jj),(2,1,jk)] fun kc=>
 aG tj 3 q7 kc fun _ HW=>
 rq q7 HW))∧
 (cd br 266 (.agg #[(.int .u64 0),(.int .u64 0),(.int .u64 0)]) fun q7 K2=>
 ab Tryz.prog 109 #[im] K2 fun iu zi=>
 ab Tryz.prog 109 #[jK] zi fun jj HX=>
 ab Tryz.prog 109 #[ln] HX fun jk KU=>
 aZ [(.int .u64 0),(.int .u64 0),(.int .u64 0)] [(0,1,iu),(1,1,jj),(2,1,jk)] fun kc=>
 aG KU 3 q7 kc fun _ F4=>
 rq q7 F4))
 (qH br))∧
 bt cN (some (.int .i64 8)) (some (.int .i64 10)) fun dj=>
 bt cN (some (.int .i64 12)) (some (.int .i64 16)) fun da=>
 bt cN (some (.int .i64 16)) (some (.int .i64 20)) fun dq=>
 (ab Tryz.prog 109 #[dj] a_ fun cT Ea=>
 (ab Tryz.prog 109 #[da] Ea fun db Ue=>
 (ab Tryz.prog 109 #[dq] Ue fun cZ Cl=>
 aZ [(.int .u64 0),(.int .u64 0),(.int .u64 0)] [(0,1,cT),(1,1,db),(2,1,cZ)] fun c8=>
 cd Cl 266 (.agg #[(.int .u64 0),(.int .u64 0),(.int .u64 0)]) fun p5 QY=>
 aG QY 3 p5 c8 fun _ N7=>
 qg p5 N7)∧
 (cd Ue 266 (.agg #[(.int .u64 0),(.int .u64 0),(.int .u64 0)]) fun p5 QZ=>
 ab Tryz.prog 109 #[dq] QZ fun cZ Ge=>
 aZ [(.int .u64 0),(.int .u64 0),(.int .u64 0)] [(0,1,cT),(1,1,db),(2,1,cZ)] fun c8=>
 aG Ge 3 p5 c8 fun _ Rh=>
 qg p5 Rh))∧
 (cd Ea 266 (.agg #[(.int .u64 0),(.int .u64 0),(.int .u64 0)]) fun p5 N8=>
 ab Tryz.prog 109 #[da] N8 fun db Ri=>
 ab Tryz.prog 109 #[dq] Ri fun cZ KW=>
 aZ [(.int .u64 0),(.int .u64 0),(.int .u64 0)] [(0,1,cT),(1,1,db),(2,1,cZ)] fun c8=>
 aG KW 3 p5 c8 fun _ WW=>
 qg p5 WW))∧
 (cd a_ 266 (.agg #[(.int .u64 0),(.int .u64 0),(.int .u64 0)]) fun p5 Rj=>
 ab Tryz.prog 109 #[dj] Rj fun cT WX=>
 ab Tryz.prog 109 #[da] WX fun db WY=>
 ab Tryz.prog 109 #[dq] WY fun cZ WZ=>
 aZ [(.int .u64 0),(.int .u64 0),(.int .u64 0)] [(0,1,cT),(1,1,db),(2,1,cZ)] fun c8=>
 aG WZ 3 p5 c8 fun _ Rk=>
 qg p5 Rk))
theorem nh.vc (s0:Value) (h:nh.res H0 R s0):ab Tryz.prog 187 #[s0] H0 R:=Tryz.vc nh.an Tryz.func187 (by kernel_rfl) (by kernel_rfl) h
def qZ.an:cF:= (.seq (.aq (.op 0 [] .nil)) (.seq (.aq (ae 0 4 .nil)) .leaf))
def qZ.res:Prop:=
 ab Tryz.prog 41 #[] H0 fun x1 a_=>
 aZ [(.pointer none),(str []),(.int .i64 0),(.int .i64 0),(.int .i64 0),(str []),(.int .i64 0),(.int .i64 0),(.int .i64 0),(.int .i64 0),(.int .i64 0),(.int .i64 0),(.int .u64 0),(.int .u64 0),(.int .u32 0),(.int .u64 0),(.bool false),(.bool false),(.pointer none),(.int .i64 0),(.slice none 0 0),(.slice none 0 0),(str []),(.slice none 0 0),(.int .i64 0)] [(0,1,x1)] fun x2=>
 cd a_ 105 x2 fun x3 bf=>
 R x3 bf
theorem qZ.vc (h:qZ.res H0 R):ab Tryz.prog 11 #[] H0 R:=Tryz.vc qZ.an Tryz.func11 (by kernel_rfl) (by kernel_rfl) h
def ig.an:cF:= (.seq (.aq (ae 0 2 .nil)) (.seq (.seq (.aq (ae 0 2 .nil)) (.cond (.seq (.aq (ae 0 2 .nil)) .leaf) .leaf)) (.seq (.seq (.aq (ae 0 5 .nil)) (.cond (.seq (.iG [0,1,3,7,0,31] (ae 0 6 .nil)) .leaf) .leaf)) (.seq (.aq (ae 0 4 .nil)) (.seq (.aq (ae 0 9 .nil)) (.block (.loop [] (4:: (5:: (6:: (ef 29 20 [])))) (.block (.seq (.aq (ae 0 3 .nil)) (.seq (.aq (.op 0 [] .nil)) (.block (.seq (.aq (ae 0 2 .nil)) (.cond .leaf (.seq (.aq (ae 0 2 .nil)) (.cond (.seq (.aq (ae 0 6 .nil)) .leaf) (.seq (.aq (ae 0 5 .nil)) (.seq (.aq (ae 0 7 .nil)) .leaf)))))))))))))))))
def ig.res (p0 s1:Value):Prop:=
 eA 3 p0 (.pointer none) fun x8=>
 ar x8
 (R (.tuple #[(.slice none 0 0),(.int .i64 1)]) H0)
 (aB p0 fun cI=>
 aa 24 cI fun cf=>
 al H0 cf fun cJ=>
 ld 0 cJ (.int .i64 0) fun cQ=>
 ar cQ
 (aB p0 fun cj=>
 aa 24 cj fun cS=>
 al H0 cS fun cN=>
 R (.tuple #[(.slice none 0 0),cN]) H0)
 (aB p0 fun dj=>
 aa 23 dj fun cT=>
 aE H0 cT (.slice none 0 0) fun _ a_=>
 aB p0 fun da=>
 aa 1 da fun db=>
 al a_ db fun cX=>
 aK cX s1 fun cZ=>
 aB p0 fun c8=>
 aa 1 c8 fun dK=>
 aE a_ dK cZ fun _ bf=>
 ∃ (v8:ak→Prop) (xY:ak→Nat),v8 bf∧
 ∀_:Env,∀br:ak,v8 br→
 ab Tryz.prog 42 #[p0] br fun cU cm=>
 eA 0 cU (.int .i64 0) fun iV=>
 ar iV
 (v8 cm∧xY cm<xY br)
 (eA 0 cU (.int .i64 2) fun jk=>
 ar jk
 (aB p0 fun jQ=>
 aa 23 jQ fun lp=>
 al cm lp fun pM=>
 R (.tuple #[pM,(.int .i64 0)]) cm)
 (aB p0 fun fF=>
 aa 24 fF fun fD=>
 aE cm fD cU fun _ cq=>
 aB p0 fun im=>
 aa 23 im fun iu=>
 al cq iu fun jJ=>
 R (.tuple #[jJ,cU]) cq))))
theorem ig.vc (p0 s1:Value) (h:ig.res H0 R p0 s1):ab Tryz.prog 12 #[p0,s1] H0 R:=Tryz.vc ig.an Tryz.func12 (by kernel_rfl) (by kernel_rfl) h
def cc.an:cF:= (.seq (.aq (.op 0 [] .nil)) (.seq (.seq (.aq (ae 0 4 .nil)) (.block (.seq (.aq (ae 0 2 .nil)) (.cond (.seq (.aq (ae 0 3 .nil)) .leaf) (.seq (.aq (ae 0 2 .nil)) (.cond (.seq (.aq (ae 0 3 .nil)) .leaf) (.seq (.aq (ae 0 2 .nil)) (.cond (.seq (.aq (ae 0 3 .nil)) .leaf) (.seq (.aq (ae 0 2 .nil)) (.cond (.seq (.aq (ae 0 3 .nil)) .leaf) .leaf)))))))))) (.seq (.seq (.aq (ae 0 5 .nil)) (.cond (.seq (.aq (.op 0 [] .nil)) .leaf) .leaf)) (.seq (.aq (.op 0 [] .nil)) .leaf))))
def cc.res (p0:Value):Prop:=
 aB p0 fun x4=>
 aa 2 x4 fun x5=>
 al H0 x5 fun x6=>
 eA 0 x6 (.int .i64 0) fun x8=>
 ar x8
 (ab Tryz.prog 89 #[p0] H0 fun cI a_=>
 R cI a_)
 (eA 0 x6 (.int .i64 1) fun cJ=>
 ar cJ
 (ab Tryz.prog 90 #[p0] H0 fun cx bf=>
 R cx bf)
 (eA 0 x6 (.int .i64 2) fun cS=>
 ar cS
 (ab Tryz.prog 91 #[p0] H0 fun c_ aO=>
 R c_ aO)
 (eA 0 x6 (.int .i64 3) fun cT=>
 ar cT
 (ab Tryz.prog 92 #[p0] H0 fun da bn=>
 R da bn)
 (aB p0 fun cX=>
 aa 1 cX fun dq=>
 al H0 dq fun cZ=>
 ld 1 cZ (str []) fun c8=>
 ar c8
 (R (.int .i64 12) H0)
 (R (.int .i64 2) H0)))))
theorem cc.vc (p0:Value) (h:cc.res H0 R p0):ab Tryz.prog 42 #[p0] H0 R:=Tryz.vc cc.an Tryz.func42 (by kernel_rfl) (by kernel_rfl) h
def fA.an:cF:= (.seq (.aq (.op 0 [] .nil)) (.seq (.seq (.aq (ae 0 2 .nil)) (.cond (.seq (.aq (.op 0 [] .nil)) .leaf) .leaf)) (.seq (.aq (ae 0 5 .nil)) .leaf)))
def fA.res (p0:Value):Prop:=
 eA 3 p0 (.pointer none) fun x4=>
 ar x4
 (R (.int .i64 0) H0)
 (aB p0 fun x6=>
 aa 4 x6 fun x7=>
 al H0 x7 fun x8=>
 R x8 H0)
theorem fA.vc (p0:Value) (h:fA.res H0 R p0):ab Tryz.prog 43 #[p0] H0 R:=Tryz.vc fA.an Tryz.func43 (by kernel_rfl) (by kernel_rfl) h
def pg.an:cF:= (.seq (.aq (.op 0 [] .nil)) (.seq (.aq (.op 0 [] .nil)) (.seq (.aq (.op 0 [] .nil)) (.seq (.seq (.aq (ae 0 3 .nil)) (.block (.loop [4,9] (2:: (4:: (6:: (ef 9 26 [])))) (.seq (.aq (.op 0 [] .nil)) (.seq (.cond .leaf .leaf) (.seq (.block (.seq (.aq (ae 0 4 .nil)) (.seq (.seq (.aq (ae 0 3 .nil)) (.cond (.seq (.aq (.op 0 [] .nil)) .leaf) .leaf)) (.seq (.iG [0,1,0,4,12,28,63,0,128,511,0,1036,3084,7180,16383,32767] (ae 0 3 (ae 7 2 (.op 10 [] (.op 3 [1,8,10] (ae 4 3 (.op 9 [] (.op 11 [1,8] (ae 12 4 .nil))))))))) (.aq (ae 0 3 .nil)))))) (.aq (ae 0 2 .nil)))))))) (.seq (.aq (ae 0 10 .nil)) .leaf)))))
def pg.res (l0:Value):Prop:=
 cd H0 153 (.agg #[(.pointer none),(.slice none 0 0)]) fun b3 a_=>
 dh l0 fun x8=>
 ∃ (rA:Value→Value→ak→Prop) (tU:Value→Value→ak→Nat),rA (.int .u64 0) (.int .i64 0) a_∧
 ∀_:Env,∀at4:Value,∀x9:Value,∀bn:ak,rA at4 x9 bn→
 ec x9 x8 fun cI=>
 ar cI
 (aN 12 l0 x9 fun cf=>
 aF bn 12 cf fun cJ=>
 cd bn 44 (.agg #[(str []),(.int .i64 0),(.int .i64 0),(.int .i64 0),(.int .i64 0),(.int .i64 0),(.int .i64 0),(.int .u64 0),(.int .u64 0),(.int .u32 0),(.int .u64 0),(.bool false)]) fun h6 br=>
 aG br 12 h6 cJ fun _ cm=>
 aF cm 12 h6 fun cQ=>
 ab Tryz.prog 95 #[cQ] cm fun cx cq=>
 jV cx fun cj=>
 ar cj
 (R (str []) cq)
 (aa 10 h6 fun cS=>
 al cq cS fun cN=>
 aF cq 12 h6 fun c_=>
 aa 7 h6 fun db=>
 al cq db fun cX=>
 aF cq 12 h6 fun cZ=>
 ab Tryz.prog 96 #[c_] cq fun dj cG=>
 (al cG cS fun r_=>
 r_=cN)∧
 (al cG db fun r_=>
 r_=cX)∧
 (aF cG 12 h6 fun r_=>
 r_=cZ)∧
 bc dj fun cT=>
 cA .u64 cT fun dG=>
 aK cN dG fun da=>
 aK da cX fun dq=>
 ab Tryz.prog 97 #[cZ] cG fun c8 eI=>
 (al eI cS fun r_=>
 r_=cN)∧
 (al eI db fun r_=>
 r_=cX)∧
 bc c8 fun dK=>
 cA .u64 dK fun dt=>
 aK dq dt fun cU=>
 aF eI 12 h6 fun dX=>
 ab Tryz.prog 98 #[dX] eI fun eo bI=>
 ab Tryz.prog 75 #[b3,eo] bI fun dY dD=>
 aK x9 (.int .i64 1) fun fF=>
 rA cU fF dD∧tU cU fF dD<tU at4 x9 bn))
 (ab Tryz.prog 76 #[b3] bn fun fD bZ=>
 dh l0 fun im=>
 cA .u64 im fun iu=>
 ab Tryz.prog 100 #[b3] bZ fun jJ cK=>
 cA .u64 jJ fun jK=>
 ab Tryz.prog 99 #[iu,jK,at4] cK fun iV dT=>
 aK fD iV fun ln=>
 R ln dT)
theorem pg.vc (l0:Value) (h:pg.res H0 R l0):ab Tryz.prog 45 #[l0] H0 R:=Tryz.vc pg.an Tryz.func45 (by kernel_rfl) (by kernel_rfl) h
def gE.an:cF:= (.seq (.aq (.op 0 [] .nil)) (.seq (.seq (.aq (ae 0 2 .nil)) (.cond (.seq (.aq (.op 0 [] .nil)) .leaf) .leaf)) (.seq (.aq (ae 0 6 .nil)) .leaf)))
def gE.res (p0:Value):Prop:=
 eA 3 p0 (.pointer none) fun x4=>
 ar x4
 (R (.slice none 0 0) H0)
 (aB p0 fun x6=>
 aa 20 x6 fun x7=>
 al H0 x7 fun x8=>
 ab Tryz.prog 101 #[x8] H0 fun x9 a_=>
 R x9 a_)
theorem gE.vc (p0:Value) (h:gE.res H0 R p0):ab Tryz.prog 46 #[p0] H0 R:=Tryz.vc gE.an Tryz.func46 (by kernel_rfl) (by kernel_rfl) h
def dH.an:cF:= (.seq (.aq (.op 0 [] .nil)) (.seq (.aq (ae 0 11 .nil)) (.seq (.block (.seq (.aq (ae 0 3 .nil)) (.cond (.seq (.aq (ae 0 13 .nil)) (.seq (.aq (.op 0 [] .nil)) .leaf)) (.seq (.aq (ae 0 3 .nil)) (.cond (.seq (.aq (.op 0 [] .nil)) .leaf) .leaf))))) (.seq (.seq (.iG [0,1,3,7,0,16,48,127,255,511,1023,1023,2047,8191] (ae 0 6 (.op 6 [3] (ae 7 7 .nil)))) (.seq (.aq (ae 0 2 .nil)) (.cond (.seq (.aq (ae 0 2 .nil)) .leaf) .leaf))) (.seq (.iG [0,0,2,6,14,0,32,96,254,511,1023,2047] (ae 0 7 (.op 7 [4] (ae 8 4 .nil)))) (.seq (.aq (ae 0 6 .nil)) (.seq (.iG [0,1,3,7,15,0,32,127,255] (ae 0 6 (.op 6 [3] (ae 7 2 .nil)))) (.seq (.aq (ae 0 5 .nil)) (.seq (.aq (ae 0 3 .nil)) (.seq (.iG [0,0,2,6,14,0,32,96,254,511,1023,2047] (ae 0 7 (.op 7 [4] (ae 8 4 .nil)))) (.seq (.seq (.aq (ae 0 2 .nil)) (.cond (.seq (.aq (ae 0 2 .nil)) (.seq (.aq (.op 0 [] .nil)) .leaf)) .leaf)) (.seq (.aq (ae 0 13 .nil)) (.seq (.aq (.op 0 [] .nil)) .leaf)))))))))))))
def dH.res (p0:Value):Prop:=
 aB p0 fun x9=>
 aa 1 x9 fun cI=>
 al H0 cI fun cf=>
 ab Tryz.prog 138 #[cf] H0 fun cJ a_=>
 av 0 cJ fun cQ=>
 av 1 cJ fun cx=>
 cd a_ 44 (.agg #[(str []),(.int .i64 0),(.int .i64 0),(.int .i64 0),(.int .i64 0),(.int .i64 0),(.int .i64 0),(.int .u64 0),(.int .u64 0),(.int .u32 0),(.int .u64 0),(.bool false)]) fun h3 bf=>
 aG bf 12 h3 cQ fun _ aO=>
 ec cx (.int .i64 0) fun cN=>
 ar cN
 (aB p0 fun dG=>
 aa 20 dG fun da=>
 al aO da fun db=>
 ab Tryz.prog 45 #[db] aO fun cX bn=>
 aB p0 fun dq=>
 aa 2 dq fun cZ=>
 aE bn cZ (.int .i64 3) fun _ br=>
 aB p0 fun c8=>
 aa 22 c8 fun dK=>
 aE br dK cX fun _ cm=>
 R (.int .i64 0) cm)
 (eA 0 cx (.int .i64 0) fun dX=>
 ar dX
 (R (.int .i64 2) aO)
 (aB p0 fun fF=>
 aa 21 fF fun fD=>
 al aO fD fun gJ=>
 aa 0 h3 fun im=>
 al aO im fun iu=>
 aX aO 9 1 [(str [])] [(0,1,iu)] fun jJ cq=>
 (al cq fD fun r_=>
 r_=gJ)∧
 bg cq 9 1 16 [(str [])] gJ jJ fun jK cG=>
 ab Tryz.prog 93 #[jK] cG fun jj eI=>
 av 0 jj fun iV=>
 av 1 jj fun ln=>
 ld 0 ln (.int .i64 0) fun kc=>
 ar kc
 (R ln eI)
 (aB p0 fun nr=>
 aa 21 nr fun qh=>
 al eI qh fun oh=>
 aa 0 h3 fun qF=>
 al eI qF fun om=>
 aX eI 9 1 [(str [])] [(0,1,om)] fun nt bI=>
 (al bI qh fun r_=>
 r_=oh)∧
 bg bI 9 1 16 [(str [])] oh nt fun nY dD=>
 aB p0 fun tS=>
 aa 21 tS fun lC=>
 aE dD lC nY fun _ bZ=>
 aF bZ 12 h3 fun pN=>
 ab Tryz.prog 139 #[pN] bZ fun rZ cK=>
 aB p0 fun oo=>
 aa 17 oo fun qG=>
 aE cK qG rZ fun _ dT=>
 aB p0 fun pO=>
 aa 3 pO fun te=>
 al dT te fun qx=>
 cA .u64 qx fun sE=>
 aa 8 h3 fun vk=>
 aE dT vk (.int .u64 0) fun _ dw=>
 (al dw te fun r_=>
 r_=qx)∧
 aa 10 h3 fun ub=>
 aE dw ub sE fun _ eM=>
 aF eM 12 h3 fun uc=>
 aB p0 fun xX=>
 aa 5 xX fun wL=>
 aG eM 12 wL uc fun _ gN=>
 ab Tryz.prog 140 #[p0,cx] gN fun DX gH=>
 aB p0 fun uV=>
 aa 23 uV fun Bp=>
 al gH Bp fun A9=>
 aF gH 12 h3 fun v_=>
 aZ [(.int .i64 0),(str []),(.int .i64 0),(.int .i64 0),(.int .i64 0),(.int .i64 0),(.int .i64 0),(.int .i64 0),(.int .u64 0),(.int .u64 0),(.int .u32 0),(.int .u64 0),(.bool false),(str [])] [(0,1,(.int .i64 1)),(1,12,v_)] fun zp=>
 aX gH 46 1 [(.int .i64 0),(str []),(.int .i64 0),(.int .i64 0),(.int .i64 0),(.int .i64 0),(.int .i64 0),(.int .i64 0),(.int .u64 0),(.int .u64 0),(.int .u32 0),(.int .u64 0),(.bool false),(str [])] [(0,14,zp)] fun F1 fX=>
 (al fX Bp fun r_=>
 r_=A9)∧
 bg fX 46 14 128 [(.int .i64 0),(str []),(.int .i64 0),(.int .i64 0),(.int .i64 0),(.int .i64 0),(.int .i64 0),(.int .i64 0),(.int .u64 0),(.int .u64 0),(.int .u32 0),(.int .u64 0),(.bool false),(str [])] A9 F1 fun KI iB=>
 aB p0 fun A_=>
 aa 23 A_ fun xW=>
 aE iB xW KI fun _ gh=>
 aa 11 h3 fun Cj=>
 al gh Cj fun KJ=>
 ar KJ
 (ab Tryz.prog 141 #[p0] gh fun PL oH=>
 R (.int .i64 0) oH)
 (ab Tryz.prog 123 #[] gh fun TX lg=>
 aB p0 fun J0=>
 aa 2 J0 fun QI=>
 aE lg QI (.int .i64 1) fun _ vo=>
 aB p0 fun QJ=>
 aa 18 QJ fun Te=>
 aE vo Te TX fun _ ru=>
 aB p0 fun D9=>
 aa 19 D9 fun F2=>
 aE ru F2 (.int .i64 0) fun _ nZ=>
 R (.int .i64 0) nZ))))
theorem dH.vc (p0:Value) (h:dH.res H0 R p0):ab Tryz.prog 89 #[p0] H0 R:=Tryz.vc dH.an Tryz.func89 (by kernel_rfl) (by kernel_rfl) h
end
section
set_option maxRecDepth 100000
variable {H H0 H' :ak} {R:Value→ak→Prop} {v:Value} {L:List It} {b:Nat} {B:List Bool}
theorem Steps.W {D D' :DM} {o:List UInt8} (h:Steps D o D') (hl:mO D.st):D'.W=D.W++o∧mO D'.st:=by
 induction h with
 |refl=>exact⟨by simp,hl⟩
 |step hs _ ih=>
  have hi:=vF hl (.inl hs);have:=ih hi.2.2;exact⟨by rw [this.1,hi.1,ajT],this.2⟩
theorem UO {x y z:List Int} {E:List Ex} {c:Nat} {G:List Tok} {V:List UInt8} {r:List Bool} (d:AG x y z E c) (yJ:uw x 256) (hx:wP x) (hy:wP y) (hG: ∀t∈G,yx x y t) (ht:ux G [] V) (hr:r.length<8):
  run ⟨.hd,true::false::true:: (vv x y z E c++jO x y G)++r,[]⟩= (V,⟨.dn,[],V⟩,0):=by
 have s1:=IQ d (l:=true) (C:=jO x y G++r) (W:= []);obtain⟨o,s2⟩:=sj hx hy yJ (C:=r) (l:=true) ht hG;have qC:=Steps.step s1 s2;have ze:eZ r= []:=by unfold eZ;rw [aj_ hr,akW]
 have hw:= (Steps.W qC trivial).1;have he:ml true r V= ⟨.dn,[],V⟩:=by unfold ml;rw [if_pos rfl,ze]
 rw [he] at qC hw;have e:true::false::true:: (vv x y z E c++jO x y G)++r=true::false::true:: (vv x y z E c++ (jO x y G++r)):=by simp
 rw [e];have:=qC.fin rfl;rw [this];have hw:V= []++ ([]++o):=hw;simp only [aj4] at hw ⊢;rw [←hw]
def LO:Tok:= ⟨97,0,0⟩
theorem Jj (hG:Reads H ⟨0,0,none⟩ je) (hI:Reads H ⟨4,0,none⟩ je) (h: ∀H',Ext H H' →R (.bool true) H'):ab Tryz.prog 28 #[] H R:=by
 refine ic.vc _ _ ?_;unfold ic.res;refine(aw.start (H:=H)).box fun b H1 o _=>?_;have o:aw H H1 (.ay (p_ (wp b 141) (.slice none 0 0) []):: []):=RZ o;refine aU rfl (by decide) ?_;rw [bG];refine o.ej (sz:=3) (by decide) rfl rfl fun lv H2 o=>?_;have o:aw H H2 (.sl lv 3 (eu [LO]):: .ay (p_ (wp b 141) (.slice none 0 0) []):: []):=o;have o:=o.fW (L' := .ay (p_ (wp b 141) (.slice none 0 0) []):: .sl lv 3 (eu [LO]):: []) (by repeat(first|exact aY.refl|exact bu.here|apply aY.cons|apply bu.there));refine Fu (b:=wp b 141) (G:= [LO]) (s:= [97]) (l:=true) hG (by decide) (by repeat(first|exact ajP|apply ajO)) (by decide) (fun t ht=>by rw [akt.1 ht];rfl) (by decide) o fun H3 UM x y z E c d _ yJ hx hy Tq o=>?_;have PX:=Dl d;have Jb: (jO x y [LO]).length≤30:=by
  unfold jO;rw [alp,List.flatMap_nil,akb,ajQ];have h1:=lM hx 256;have h2:=lM hx 97;have e:uR x y LO=gY (natL x) 97:=rfl;rw [e];omega
 rw [aj4] at o;have hBl: (true::false::true:: (vv x y z E c++jO x y [LO])).length≤30000:=by simp only [aj2,ajQ];omega
 have jc:=fun {r:List Bool} (hr:r.length<8)=>UO (V:= [97]) (r:=r) d yJ hx hy Tq ⟨⟨rfl,by decide⟩,rfl⟩ hr;generalize true::false::true:: (vv x y z E c++jO x y [LO])=BB at o hBl jc;refine ss (yF o (by repeat(first|exact ajP|apply ajO))) (by omega) fun H4 Ts w c4=>?_;have o:=su o w c4 bd.here (by repeat(first|exact ajP|apply ajO));obtain⟨r,Jk,hr8⟩:=Fq BB;have DY:=yE BB;have hpm: (od BB).length%8=0:=by omega
 refine vB (yF o (by repeat(first|exact ajP|apply ajO))) fun H5 dv5 w c5=>?_;have o:=su o w c5 bd.here (by repeat(first|exact ajP|apply ajO));have hs:toBits (a7 (od BB))=BB++r:=by rw [rz ((od BB).length/8) _ (by omega),Jk]
 have n_: (a7 (od BB)).length≤100000000:=by
  rw [pR ((od BB).length/8) _ rfl,Jk,ajQ];omega
 have jc:=jc hr8;rw [←hs] at jc;have fin: ∀ (o' :List UInt8) (D' :DM) (e:Int),run ⟨.hd,toBits (a7 (od BB)),[]⟩= (o',D',e)→o' = [97]∧D' = ⟨.dn,[],[97]⟩∧e=0:=fun o' D' e he=>by
  rw [jc] at he
  cases he;exact⟨rfl,rfl,rfl⟩
 refine Ft hI o n_ (fun o' D' H6 he GL xn=>?_) (fun o' D' H6 he GL _=>?_) (fun o' D' e H6 he d_ _=>?_)
 ·obtain⟨rfl,rfl,_⟩:=fin _ _ _ he
  refine ai (vs:= [str [97],str (a7 _),.int .i64 0]) rfl ?_;refine ai (vs:= [str [97],str (a7 _),.int .i64 0]) rfl ?_;refine ai (vs:= [str [97],str (a7 _),.int .i64 0]) rfl ?_;have hz: ∀n,a7 (List.take n (eZ []))= []:=fun n=>by rw [show eZ []= [] from rfl,amW];rfl
  rw [bj,decide_eq_true rfl];refine bX ?_;rw [bj,decide_eq_true rfl];intro _;refine bX ?_;refine pD ?_;rw [decide_eq_true rfl];intro _;refine bX ?_;refine pD ?_;rw [decide_eq_true (hz _)];intro _;exact h H6 xn
 ·obtain⟨_,rfl,_⟩:=fin _ _ _ he
  exact absurd GL (by decide)
 ·obtain⟨_,_,rfl⟩:=fin _ _ _ he
  exact absurd rfl d_
end
section
set_option maxRecDepth 100000
theorem vI (n:Nat): ∀k,toBits (aP n k)=aW n (8*k)
 |0=>rfl
 |k+1=>by
  rw [zm,ey,vI n k,Co,show 8* (k+1)=8*k+8 by omega,oK]
  congr 1
  rw [UInt8.toNat_ofNat_of_lt' (by show _<256;omega),show (256:Nat)=2 ^ 8 from rfl,qP,show (2:Nat) ^ (8*k)= (2 ^ 8) ^ k by rw [Nat.pow_mul]]
theorem BF (l:List UInt8): (toBits l).length%8=0:=by rw [bs];omega
noncomputable def lh (s:List UInt8) (p:Nat):List UInt8 × DM × Int:=run ⟨.hd,toBits (s.take p),[]⟩
theorem zQ (s:List UInt8):lh s 0= ([],⟨.hd,[],[]⟩,0):=E_
theorem Jl {s:List UInt8} {p:Nat} (h:s.length≤p):lh s p=run ⟨.hd,toBits s,[]⟩:=by unfold lh;rw [aj9 h]
theorem Nl {s:List UInt8} (h: (run ⟨.hd,toBits s,[]⟩).2.2=0) (p:Nat): (lh s p).2.2=0:=by
 by_cases h0: (lh s p).2.2=0
 ·exact h0
 ·have:= (Bx (C:=toBits (s.drop p)) (BF _) _ ⟨.hd,toBits (s.take p),[]⟩ (amD _) trivial).2 h0
  have e:DM.add ⟨.hd,toBits (s.take p),[]⟩ (toBits (s.drop p))= ⟨.hd,toBits s,[]⟩:=by
   unfold DM.add;rw [←ey,akf]
  rw [e] at this;exact absurd (this.1.symm.trans h) h0
theorem zR {s:List UInt8} (h: (run ⟨.hd,toBits s,[]⟩).2.2=0) (p q:Nat):lh s (p+q)= ((lh s p).1++ (run ((lh s p).2.1.add (toBits ((s.drop p).take q)))).1,(run ((lh s p).2.1.add (toBits ((s.drop p).take q)))).2):=by
 have h0:=Nl h p;have:= (Bx (C:=toBits ((s.drop p).take q)) (BF _) _ ⟨.hd,toBits (s.take p),[]⟩ (amD _) trivial).1 h0;have e:DM.add ⟨.hd,toBits (s.take p),[]⟩ (toBits ((s.drop p).take q))= ⟨.hd,toBits (s.take (p+q)),[]⟩:=by
  unfold DM.add;rw [←ey,←List.take_add]
 rw [e] at this;exact this
theorem Jm (s:List UInt8) (p:Nat): (lh s p).2.1.W= (lh s p).1∧(lh s p).2.1.W.length+258* (lh s p).2.1.B.length≤258* (8*s.length)∧mO (lh s p).2.1.st:=by
 have:=Ni _ ⟨.hd,toBits (s.take p),[]⟩ (amD _) trivial;refine⟨this.1,?_,this.2.2⟩;have h2:=this.2.1;rw [show (DM.mk .hd (toBits (s.take p)) []).B.length=8* (s.take p).length from bs _,ajW] at h2;have: (DM.mk .hd (toBits (s.take p)) []).W.length=0:=rfl;unfold lh;omega
end
section
set_option maxRecDepth 100000
theorem Sm {sy di:List Int} (Be:wP sy) (EG:wP di) {t:Tok} (hg:jC t=true): (uR sy di t).length≤50:=by
 unfold uR
 split
 ·have:=lM Be t.b.toNat;omega
 ·rcases mY hg with ⟨h,_⟩ | ⟨h1,h2,h3,h4⟩
  ·contradiction
  obtain⟨s,e,x,es,el,eb,he5,wQ⟩:=Nd h1 h2;obtain⟨d,f,z,ed,edl,edb,aah,ad8⟩:=Nf h3 h4;have M7:=lM Be (my t.n).toNat;have Tc:=lM EG (mK t.d).toNat;rw [eb,edb];simp only [ajQ,aR];omega
theorem Fv {sy di:List Int} (Be:wP sy) (EG:wP di) {G:List Tok} (hg: ∀t∈G,jC t=true): (jO sy di G).length≤50*G.length+15:=by
 have h1: (G.flatMap (uR sy di)).length≤50*G.length:=BE fun t ht=>Sm Be EG (hg t ht);have h2:=lM Be 256;unfold jO;rw [ajQ];omega
def XJ (n:Nat) (l:Bool) (X:List Bool) (W V:List UInt8):Prop:= ∀C:List Bool,(n+X.length+C.length) %8=0→∃o,Steps ⟨.hd,X++C,W⟩ o (ml l C V)
def Jn (B:List Bool) (W:List UInt8):Prop:= ∀C:List Bool,(B.length+C.length) %8=0→∃o,Steps ⟨.hd,B++C,[]⟩ o ⟨.hd,C,W⟩
theorem Jn.nil:Jn [] []:=fun C _=> ⟨_,Steps.refl⟩
theorem Jn.add {B X:List Bool} {W V:List UInt8} (h:Jn B W) (k:XJ B.length false X W V):Jn (B++X) V:=fun C hC=>by
 rw [ajQ] at hC;obtain⟨o1,s1⟩:=h (X++C) (by rw [ajQ];omega);obtain⟨o2,s2⟩:=k C hC;rw [ajT];exact⟨_,s1.trans s2⟩
theorem Jn.fin {B X:List Bool} {W V:List UInt8} {r:List Bool} (h:Jn B W) (k:XJ B.length true X W V) (hr:r.length<8) (h8: (B++X++r).length%8=0):run ⟨.hd,B++X++r,[]⟩= (V,⟨.dn,[],V⟩,0):=by
 rw [ajQ,ajQ] at h8;obtain⟨o1,s1⟩:=h (X++r) (by rw [ajQ];omega);obtain⟨o2,s2⟩:=k r h8;have qC:=s1.trans s2;have ze:eZ r= []:=by unfold eZ;rw [aj_ hr,akW]
 have hw:= (Steps.W qC trivial).1;have he:ml true r V= ⟨.dn,[],V⟩:=by unfold ml;rw [if_pos rfl,ze]
 rw [he] at qC hw;rw [ajT];have:=qC.fin rfl;rw [this];have hw:V= []++ (o1++o2):=hw;simp only [aj4] at hw;rw [←hw]
theorem UP {n:Nat} {l:Bool} {G:List Tok} {W V:List UInt8} (hG: ∀t∈G,yx lI sI t) (yJ:uw lI 256) (ht:ux G W V):XJ n l (l::true::false::jO lI sI G) W V:=fun C _=>by
 obtain⟨o,s⟩:=sj Bv Bw yJ (C:=C) (l:=l) ht hG;exact⟨_,Steps.step (Lo (l:=l) (C:=jO lI sI G++C)) s⟩
theorem UQ {n:Nat} {x y z:List Int} {E:List Ex} {c:Nat} {l:Bool} {G:List Tok} {W V:List UInt8} (d:AG x y z E c) (hx:wP x) (hy:wP y) (hG: ∀t∈G,yx x y t) (yJ:uw x 256) (ht:ux G W V):XJ n l (l::false::true:: (vv x y z E c++jO x y G)) W V:=fun C _=>by
 obtain⟨o,s⟩:=sj hx hy yJ (C:=C) (l:=l) ht hG;have e:l::false::true:: (vv x y z E c++jO x y G)++C=l::false::true:: (vv x y z E c++ (jO x y G++C)):=by simp
 rw [e];exact⟨_,Steps.step (IQ d (l:=l) (C:=jO x y G++C) (W:=W)) s⟩
def O9 (l:Bool) (r:List Bool) (s:List UInt8):List Bool:=l::false::false:: (r++ (aW s.length 16++aW (65535 - s.length) 16++toBits s))
theorem LP {n:Nat} {l:Bool} {r:List Bool} {s W:List UInt8} (hs:s.length<65536) (hr:r.length<8) (hn: (n+3+r.length) %8=0):XJ n l (O9 l r s) W (W++s):=fun C hC=>by
 have n_:=bs s;unfold O9 at hC ⊢;simp only [aj2,ajQ,aR,n_] at hC;have hC8:C.length%8=0:=by omega
 have ze:eZ (r++ (aW s.length 16++aW (65535 - s.length) 16++ (toBits s++C)))=aW s.length 16++aW (65535 - s.length) 16++ (toBits s++C):=by
  unfold eZ;rw [show (r++ (aW s.length 16++aW (65535 - s.length) 16++ (toBits s++C))).length%8=r.length by simp only [ajQ,aR,n_];omega,amA rfl]
 have s1:=IG (l:=l) (W:=W) hs ze;have s2:=OC (l:=l) (W:=W) (s:=s) hC8;have e:l::false::false:: (r++ (aW s.length 16++aW (65535 - s.length) 16++toBits s))++C=l::false::false:: (r++ (aW s.length 16++aW (65535 - s.length) 16++ (toBits s++C))):=by simp
 rw [e];exact⟨_,Steps.step s1 (Steps.one s2)⟩
theorem yL {s:Nat} (h:s<288):uw lI s:= ⟨by rw [show lI.length=288 by decide+kernel];exact h,(OE ⟨s,h⟩).2⟩
theorem O_ {s:Nat} (h:s<32):uw sI s:= ⟨by rw [show sI.length=32 by decide+kernel];exact h,(Lp ⟨s,h⟩).2⟩
theorem Jo {t:Tok} (hg:jC t=true):yx lI sI t:=by
 unfold yx
 split
 ·have:=t.b.toNat_lt
  exact yL (by omega)
 ·rcases mY hg with ⟨h,_⟩ | ⟨h1,h2,h3,h4⟩
  ·contradiction
  have f:=uo h1 h2;have g:=uq h3 h4;exact⟨yL (by omega),O_ (by omega)⟩
end
section
set_option maxRecDepth 100000
variable {H H0 H' :ak} {R:Value→ak→Prop} {v:Value} {L:List It} {zs:List Int} {b:WP} {B:List Bool}
theorem Bk (o:aw H0 H L) (h: ∀H' M cb p q rest,It.box cb (p::q::rest) 232∈M→jM M lI p→jM M sI q→aw H0 H' (M++L)→R (.pointer (some ⟨cb,0,none⟩)) H'):ab Tryz.prog 119 #[] H R:=by
 refine iR.vc _ _ ?_;unfold iR.res;refine fJ rfl rfl ?_;refine fJ rfl rfl ?_;refine fJ rfl rfl ?_;refine fJ rfl rfl ?_;simp only [fV,bG,kJ,eN,iq,ak9,ak1,aj2,aj7,Nat.reduceAdd,Nat.reduceLeDiff,true_and];refine⟨rfl,rfl,rfl,rfl,?_⟩;refine⟨fun l u H' => ∃i:Nat,u=i64 i∧i≤4∧aw H0 H' (.sl l 1 (aM (lI.take (fixUp i)))::L),fun _ u _=>match u with| .int _ i=> (4 - i).toNat|_=>0,⟨0,rfl,by omega,o.Ox⟩,?_⟩;rintro _ l2 _ H3 ⟨i,rfl,hi,o⟩;rw [aQ];refine ax (fun hc=>?_) (fun hc=>?_)
 ·have Up:i<4:=by omega
  obtain⟨e1,e2,e3,e4⟩:=IA ⟨i,Up⟩
  dsimp only at e1 e2 e3 e4
  have hx: ∀K:Value→Prop,K (.agg #[i64 (Xf i),i64 (fixUp (i+1))])→pG 4 2 (.agg [Value.int .i64 8,.int .i64 144,.int .i64 9,.int .i64 256,.int .i64 7,.int .i64 280,.int .i64 8,.int .i64 288].toArray) (i64 i) K:=by
   intro K hK;refine⟨by omega,by omega,?_⟩;rw [ajS]
   match i,Up with
   |0,_=>exact hK
   |1,_=>exact hK
   |2,_=>exact hK
   |3,_=>exact hK
  refine hx _ ?_;refine Ix o (by rw [e2];exact e3) e4 fun l H4 o=>?_;rw [e2,e1] at o;rw [aC,bH (by omega) (by omega)];exact⟨⟨i+1,rfl,by omega,o⟩,by show (_:Int).toNat< (_:Int).toNat;omega⟩
 have Up:i=4:=by omega
 subst Up;rw [show lI.take (fixUp 4)=lI by decide+kernel] at o;refine⟨fun d u H' => ∃i:Nat,u=i64 i∧i≤32∧aw H0 H' (.sl d 1 (aM (List.replicate i 5)):: .sl l2 1 (aM lI)::L),fun _ u _=>match u with| .int _ i=> (32 - i).toNat|_=>0,⟨0,rfl,by omega,o.Ox⟩,?_⟩;rintro _ d3 _ H4 ⟨i,rfl,hi,o⟩;rw [aQ];refine ax (fun hc=>?_) (fun hc=>?_)
 ·refine o.ej (by decide) rfl rfl fun y H5 o=>?_
  refine o.app (v:=d3) (x:=y) (by repeat(first|exact bu.here|apply bu.there)) (o.sl (by repeat(first|exact ajP|apply ajO))) (by rfl) (by rw [aS,akw];show 2* (i+1)*8≤_;omega) fun y2 H6 o=>?_;rw [uu,←amu] at o;rw [aC,bH (by omega) (by omega)];exact⟨⟨i+1,rfl,by omega,o.sf⟩,by show (_:Int).toNat< (_:Int).toNat;omega⟩
 have Xg:i=32:=by omega
 subst Xg;refine o.box fun cb H5 o _=>?_;have o:aw H0 H5 (.box cb [.pointer none,.pointer none,.pointer none,.slice none 0 0,.int .i64 0,.int .i64 0,.int .i64 0] 232:: .sl d3 1 (aM (List.replicate 32 5)):: .sl l2 1 (aM lI)::L):=o;refine kU (zs:=lI) o (o.sl (v:=l2) (by repeat(first|exact ajP|apply ajO))) (by decide+kernel) (fun H5 hw=>absurd Iy hw) fun H6 M p _ hp o=>?_;refine ai (vs:= [p,.int .i64 0]) rfl ?_;refine ai (vs:= [p,.int .i64 0]) rfl ?_;rw [aA,ag,au];have o:=o.mid;have D8:=hp;obtain⟨_,cb1,lv1,wv1,sv1,hpe,_⟩:=D8;refine o.bK (b:=cb) (f:=0+0) (x:=p) (by repeat(first|exact ajP|apply ajO)) (by decide) (by rw [hpe];rfl) (by repeat(first|exact bd.here|apply bd.there)) fun H7 o _=>?_;have o:aw H0 H7 (.box cb [p,.pointer none,.pointer none,.slice none 0 0,.int .i64 0,.int .i64 0,.int .i64 0] 232:: (M++ .sl d3 1 (aM (List.replicate 32 5)):: .sl l2 1 (aM lI)::L)):=o;have o:=o.pick (List.Sublist.cons_cons _ (alq (ak_ M) (List.Sublist.cons_cons _ (ak2 _ L))));refine kU (zs:=sI) o (o.sl (v:=d3) (ajO _ (alr _ (by repeat(first|exact ajP|apply ajO))))) (by decide+kernel) (fun H5 hw=>absurd Iz hw) fun H8 M2 q _ hq o=>?_;refine ai (vs:= [q,.int .i64 0]) rfl ?_;refine ai (vs:= [q,.int .i64 0]) rfl ?_;rw [aA,ag,au];have o:=o.mid;have Gw:=hq;obtain⟨_,cb2,lv2,wv2,sv2,Sb,_⟩:=Gw;refine o.bK (b:=cb) (f:=0+1) (x:=q) (by repeat(first|exact ajP|apply ajO)) (by simp) (by rw [Sb];rfl) (by repeat(first|exact bd.here|apply bd.there)) fun H9 o _=>?_;have o:aw H0 H9 (.box cb [p,q,.pointer none,.slice none 0 0,.int .i64 0,.int .i64 0,.int .i64 0] 232:: (M2++ (M++ .sl d3 1 (aM (List.replicate 32 5))::L))):=o;have o:=o.pick (List.Sublist.cons_cons _ (alq (ak_ M2) (alq (ak_ M) (ak2 _ L))));have e:It.box cb [p,q,.pointer none,.slice none 0 0,.int .i64 0,.int .i64 0,.int .i64 0] 232:: (M2++ (M++L))= (It.box cb [p,q,.pointer none,.slice none 0 0,.int .i64 0,.int .i64 0,.int .i64 0] 232:: (M2++M))++L:=by simp
 rw [e] at o;exact h H9 _ cb p q _ (by repeat(first|exact ajP|apply ajO)) hp.app.cons hq.sB.cons o
theorem XK (l:Bool):aW (2+ (if l then 1 else 0)) 3= [l,true,false]:=by cases l<;>rfl
theorem XL (l:Bool):aW (0+ (if l then 1 else 0)) 3= [l,false,false]:=by cases l<;>rfl
theorem Pa {G:List Tok} {lv dv:Value} {s:List UInt8} {l:Bool} (n_:s.length≤65535) (hl:It.sl lv 3 (eu G)∈L) (hlen:G.length≤65535) (hg: ∀t∈G,jC t=true) (il:B.length≤400000000)
  (o:aw H0 H (.ay (p_ b dv B)::L))
  (h: ∀H' nu,aw H0 H' (.ay (p_ b nu (B++ (l::true::false::jO lI sI G)))::L)→R (.int .i64 0) H'):
  ab Tryz.prog 69 #[b.at,.int .i64 1,.bool l,str s,lv] H R:=by
 refine iF.vc _ _ _ _ _ _ _ ?_;unfold iF.res;rw [iA];refine bh ?_;refine yK (kind:=1) (by decide) n_ (o.sl (v:=lv) (ajO _ hl)) hlen hg fun H1 nP=>?_;rw [fc];intro _;show ar (.bool false) _ _;rw [ao,eH,eX (by decide) (by decide),jg];refine⟨by decide,?_⟩;have o1:=o.more nP;refine⟨fun hd H' =>hd= .int .u64 ((2+ (if l then 1 else 0):Nat):Int)∧H1=H',?_,?_⟩
 ·rintro _ _ _ ⟨rfl,rfl⟩
  refine uz (n:=2+ (if l then 1 else 0)) (k:=3) (by split<;>omega) (by decide) (by omega) o1 fun H3 UM o=>?_;rw [bj,decide_eq_false (by decide),ao,bj,decide_eq_true rfl,aH];refine Bk o fun H4 M cb p q rest Bh hp hq o=>?_;have o:=o.perm (L' := .ay (p_ b UM (B++aW (2+ (if l then 1 else 0)) 3)):: (M++L)) ami.symm;refine AR (sy:=lI) (di:=sI) (alr _ hl) (ald _ Bh) hp.sB hq.sB (yL (by decide)) (fun t ht=> ⟨hg t ht,Jo (hg t ht)⟩) hlen (by rw [ajQ,aR];omega) o fun H6 VJ o=>?_;refine h H6 VJ ?_;rw [XK] at o;simp only [ajT,akX,aj4] at o ⊢;exact o.pick (List.Sublist.cons_cons _ (alH M L))
 ·rw [show IntKind.u64.wrap (1*2 ^ (min (1:Int).toNat IntKind.u64.bits))=2 from rfl]
  cases l
  ·rw [ao];exact⟨rfl,rfl⟩
  ·rw [aH,dF];exact⟨rfl,rfl⟩
def Jp (n:Nat):List Bool:=List.replicate ((8 - n%8) %8) false
theorem yM (n:Nat): (Jp n).length<8∧(n+ (Jp n).length) %8=0:=by
 unfold Jp;rw [akw];omega
theorem XM {X:List Bool} (h:X.length%8=0):od X=X:=by
 unfold od;rw [h]
 simp
theorem GQ {G:List Tok} {lv dv:Value} {s:List UInt8} {l:Bool} (n_:s.length≤65535) (hl:It.sl lv 3 (eu G)∈L) (hlen:G.length≤65535) (hg: ∀t∈G,jC t=true) (il:B.length≤400000000)
  (o:aw H0 H (.ay (p_ b dv B)::L))
  (h: ∀H' nu,aw H0 H' (.ay (p_ b nu (B++O9 l (Jp (B.length+3)) s))::L)→R (.int .i64 0) H'):
  ab Tryz.prog 69 #[b.at,.int .i64 0,.bool l,str s,lv] H R:=by
 refine iF.vc _ _ _ _ _ _ _ ?_;unfold iF.res;rw [iA];refine bh ?_;refine yK (kind:=0) (by decide) n_ (o.sl (v:=lv) (ajO _ hl)) hlen hg fun H1 nP=>?_;rw [fc];intro _;show ar (.bool false) _ _;rw [ao,eH,eX (by decide) (by decide),jg];refine⟨by decide,?_⟩;have o1:=o.more nP;refine⟨fun hd H' =>hd= .int .u64 ((0+ (if l then 1 else 0):Nat):Int)∧H1=H',?_,?_⟩
 ·rintro _ _ _ ⟨rfl,rfl⟩
  refine uz (n:=0+ (if l then 1 else 0)) (k:=3) (by split<;>omega) (by decide) (by omega) o1 fun H3 UM o=>?_;rw [bj,decide_eq_true rfl,aH,XL] at*;have hl3: (B++ [l,false,false]).length=B.length+3:=by rw [ajQ];rfl
  refine ss (yF o (by repeat(first|exact ajP|apply ajO))) (by omega) fun H4 Ts w c4=>?_;have o:=su o w c4 bd.here (by repeat(first|exact ajP|apply ajO));have Jk:od (B++ [l,false,false])= (B++ [l,false,false])++Jp (B.length+3):=by unfold od Jp;rw [hl3]
  have DY:=yE (B++ [l,false,false]);have hr8:= (yM (B.length+3)).1;have hlp: (od (B++ [l,false,false])).length=B.length+3+ (Jp (B.length+3)).length:=by rw [Jk,ajQ];omega
  refine aJ ?_;refine cC ?_;rw [eX (by omega) (by omega)];refine cL (n:=s.length) (k:=2) (by omega) (by decide) (by decide) fun H5 wQ=>?_;refine aJ ?_;rw [bE,show (65535:Int) - (s.length:Int)= ((65535 - s.length:Nat):Int) by omega,bH (by omega) (by omega)];refine cC ?_;rw [eX (by omega) (by omega)];refine cL (n:=65535 - s.length) (k:=2) (by omega) (by decide) (by decide) fun H6 xn=>?_;refine aT (by rw [aD,aD];omega) ?_;refine aT (by rw [ajQ,aD,aD];omega) ?_;have o:= (o.more wQ).more xn;refine OY (yF o (by repeat(first|exact ajP|apply ajO))) (by simp only [ajQ,aD,hlp];omega) fun H7 dv7 w c7=>?_;have o:=su o w c7 bd.here (by repeat(first|exact ajP|apply ajO));rw [XM DY.1,Jk,ey,ey,vI,vI] at o;refine h H7 dv7 ?_;unfold O9;simp only [ajT,akX,aj4] at o ⊢;exact o
 ·rw [show IntKind.u64.wrap (0*2 ^ (min (1:Int).toNat IntKind.u64.bits))=0 from rfl]
  cases l
  ·rw [ao];exact⟨rfl,rfl⟩
  ·rw [aH,dF];exact⟨rfl,rfl⟩
inductive Dm (n:Nat) (l:Bool) (s:List UInt8) (G:List Tok):Nat→List Bool→Prop
 |stored:Dm n l s G 0 (O9 l (Jp (n+3)) s)
 |fixed:Dm n l s G 1 (l::true::false::jO lI sI G)
 |dyn {x y z:List Int} {E:List Ex} {c:Nat}:O6 G x y z E c→Dm n l s G 2 (l::false::true:: (vv x y z E c++jO x y G))
theorem Dm.one {n k:Nat} {l:Bool} {s:List UInt8} {G:List Tok} {X Y:List Bool} (h:Dm n l s G k X) (g:Dm n l s G k Y):X=Y:=by
 cases h with
 |stored=>cases g;rfl
 |fixed=>cases g;rfl
 |dyn h=>cases g with
  |dyn g=>obtain⟨rfl,rfl,rfl,rfl,rfl⟩:=h.one g;rfl
theorem Fw {G:List Tok} {lv dv:Value} {s W V:List UInt8} {kind:Nat} {l:Bool} (hk:kind<3) (hG:Reads H0 ⟨0,0,none⟩ je) (n_:s.length≤65535) (hl:It.sl lv 3 (eu G)∈L) (hlen:G.length≤65535) (il:B.length≤400000000)
  (hV0:kind=0→V=W++s) (hg: ∀t∈G,jC t=true) (hV:kind≠0→ux G W V)
  (o:aw H0 H (.ay (p_ b dv B)::L))
  (h: ∀H' nu X,Dm B.length l s G kind X→XJ B.length l X W V→X.length≤21000+50*G.length+8*s.length→aw H0 H' (.ay (p_ b nu (B++X))::L)→R (.int .i64 0) H'):
  ab Tryz.prog 69 #[b.at,.int .i64 (kind:Int),.bool l,str s,lv] H R:=by
 match kind,hk with
 |0,_=>
  refine GQ n_ hl hlen hg il o fun H' nu o=>h H' nu _ .stored ?_ ?_ o
  ·rw [hV0 rfl];exact LP (by omega) (yM _).1 (yM _).2
  ·have:= (yM (B.length+3)).1
   unfold O9;simp only [aj2,ajQ,aR,bs];omega
 |1,_=>
  refine Pa n_ hl hlen hg il o fun H' nu o=>h H' nu _ .fixed (UP (fun t ht=>Jo (hg t ht)) (yL (by decide)) (hV (by decide))) ?_ o;have:=Fv Bv Bw hg;simp only [aj2];omega
 |2,_=>
  refine Fu hG n_ hl hlen hg il o fun H' nu x y z E c d dx yJ hx hy Tq o=>h H' nu _ (.dyn dx) (UQ d hx hy Tq yJ (hV (by decide))) ?_ o;have h1:=Fv hx hy hg;have h2:=Dl d;simp only [aj2,ajQ];omega
end
section
set_option maxRecDepth 100000
def gG (T:List UInt8) (i:Nat):Nat:= ((T.getD i 0).toNat*1024 ^^^ (T.getD (i+1) 0).toNat*32 ^^^ (T.getD (i+2) 0).toNat) %32768
def qc (T:List UInt8) (k i:Nat):Nat→Nat
 |0=>0
 |m+1=>if T.getD k 0=T.getD i 0 then qc T (k+1) (i+1) m+1 else 0
theorem Jq (T:List UInt8): ∀ (m k i:Nat),qc T k i m≤m
 |0,_,_=>ajR _
 |m+1,k,i=>by
  unfold qc
  split
  ·have:=Jq T m (k+1) (i+1);omega
  ·omega
theorem Dn (T:List UInt8): ∀ (m k i p:Nat),p<qc T k i m→T.getD (k+p) 0=T.getD (i+p) 0
 |0,k,i,p,h=>by unfold qc at h;omega
 |m+1,k,i,p,h=>by
  unfold qc at h
  split at h
  ·rename_i he
   cases p with
   |zero=>exact he
   |succ p=>
    have:=Dn T m (k+1) (i+1) p (by omega);rw [show k+ (p+1)=k+1+p by omega,show i+ (p+1)=i+1+p by omega];exact this
  ·omega
theorem Jr (T:List UInt8): ∀ (m k i:Nat),qc T k i m<m→T.getD (k+qc T k i m) 0≠T.getD (i+qc T k i m) 0
 |0,k,i,h=>by unfold qc at h;omega
 |m+1,k,i,h=>by
  unfold qc at h ⊢
  split at h
  ·rename_i he
   rw [if_pos he];have:=Jr T m (k+1) (i+1) (by omega);rw [show k+ (qc T (k+1) (i+1) m+1)=k+1+qc T (k+1) (i+1) m by omega,show i+ (qc T (k+1) (i+1) m+1)=i+1+qc T (k+1) (i+1) m by omega];exact this
  ·rename_i he
   rw [if_neg he];exact he
def wI (T:List UInt8) (k i:Nat):Nat:=qc T k i (min 258 (T.length - i))
theorem BG (T:List UInt8) (k i:Nat):wI T k i≤258∧wI T k i≤T.length - i:=by
 have:=Jq T (min 258 (T.length - i)) k i;unfold wI;omega
def fL (T:List UInt8):Nat→Nat→Nat
 |0,_=>0
 |e+1,h=>if e+3≤T.length∧gG T e=h then e+1 else fL T e h
theorem rI (T:List UInt8) (h:Nat): ∀e,fL T e h≤e
 |0=>ajR _
 |e+1=>by
  unfold fL
  split
  ·omega
  ·have:=rI T h e;omega
theorem Dp (T:List UInt8) (h:Nat): ∀e,0<fL T e h→fL T e h - 1+3≤T.length∧gG T (fL T e h - 1)=h
 |0,h0=>by unfold fL at h0;omega
 |e+1,h0=>by
  unfold fL at h0 ⊢
  split
  ·rename_i hc;exact hc
  ·rename_i hc
   rw [if_neg hc] at h0;exact Dp T h e h0
def qA (T:List UInt8) (i k iw:Nat):Nat:=if iw<wI T (k - 1) i then wI T (k - 1) i else iw
def vJ (T:List UInt8) (i k iw mo:Nat):Nat:=if iw<wI T (k - 1) i then i - (k - 1) else mo
def rJ (T:List UInt8) (depth i:Nat):Nat→Nat→Nat→Nat→Nat→Nat × Nat
 |0,_,_,iw,mo=> (iw,mo)
 |c+1,n,k,iw,mo=>if 0<k∧n<depth∧i - (k - 1)≤32768 then
   (if qA T i k iw=258 then (qA T i k iw,vJ T i k iw mo)
   else rJ T depth i c (n+1) (fL T (k - 1) (gG T (k - 1))) (qA T i k iw) (vJ T i k iw mo))
  else (iw,mo)
theorem Js {T:List UInt8} {depth i c n k iw mo:Nat} (h:0<k∧n<depth∧i - (k - 1)≤32768) (h2:qA T i k iw≠258):rJ T depth i (c+1) n k iw mo=rJ T depth i c (n+1) (fL T (k - 1) (gG T (k - 1))) (qA T i k iw) (vJ T i k iw mo):=by
 show (if 0<k∧n<depth∧i - (k - 1)≤32768 then _ else _)=_;rw [if_pos h,if_neg h2]
theorem Dq {T:List UInt8} {depth i c n k iw mo:Nat} (h:0<k∧n<depth∧i - (k - 1)≤32768) (h2:qA T i k iw=258):rJ T depth i (c+1) n k iw mo= (qA T i k iw,vJ T i k iw mo):=by
 show (if 0<k∧n<depth∧i - (k - 1)≤32768 then _ else _)=_;rw [if_pos h,if_pos h2]
theorem Dr {T:List UInt8} {depth i c n k iw mo:Nat} (h: ¬ (0<k∧n<depth∧i - (k - 1)≤32768)):rJ T depth i (c+1) n k iw mo= (iw,mo):=by
 show (if 0<k∧n<depth∧i - (k - 1)≤32768 then _ else _)=_;rw [if_neg h]
def e7 (T:List UInt8) (depth i:Nat):Nat × Nat:=if T.length<i+3 then (0,0) else if (rJ T depth i (i+1) 0 (fL T i (gG T i)) 0 0).1<3 then (0,0) else rJ T depth i (i+1) 0 (fL T i (gG T i)) 0 0
def Is (T:List UInt8) (i n d:Nat):Prop:=1≤d∧d≤i∧d≤32768∧n=wI T (i - d) i
theorem Jt {T:List UInt8} {depth i:Nat}: ∀c n k iw mo,k≤i→(iw=0∨Is T i iw mo)→(rJ T depth i c n k iw mo).1=0∨Is T i (rJ T depth i c n k iw mo).1 (rJ T depth i c n k iw mo).2
 |0,n,k,iw,mo,hk,h=>h
 |c+1,n,k,iw,mo,hk,h=>by
  by_cases hc:0<k∧n<depth∧i - (k - 1)≤32768
  ·have Hz:qA T i k iw=0∨Is T i (qA T i k iw) (vJ T i k iw mo):=by
    unfold qA vJ
    by_cases hb:iw<wI T (k - 1) i
    ·rw [if_pos hb,if_pos hb]
     right
     refine⟨by omega,by omega,hc.2.2,?_⟩;rw [show i - (i - (k - 1))=k - 1 by omega]
    ·rw [if_neg hb,if_neg hb];exact h
   by_cases UR:qA T i k iw=258
   ·rw [Dq hc UR];exact Hz
   ·rw [Js hc UR]
    exact Jt c _ _ _ _ (by have:=rI T (gG T (k - 1)) (k - 1);omega) Hz
  ·rw [Dr hc];exact h
theorem Ju {T:List UInt8} {depth i:Nat} (h: (e7 T depth i).1≠0):3≤(e7 T depth i).1∧Is T i (e7 T depth i).1 (e7 T depth i).2:=by
 unfold e7 at h ⊢
 split
 ·rename_i hc;rw [if_pos hc] at h;exact absurd rfl h
 ·rename_i hc
  rw [if_neg hc] at h
  split
  ·rename_i h3;rw [if_pos h3] at h;exact absurd rfl h
  ·rename_i h3
   refine⟨by omega,?_⟩;rcases Jt (T:=T) (depth:=depth) (i:=i) (i+1) 0 (fL T i (gG T i)) 0 0 (rI T _ i) (.inl rfl) with h0|h0
   ·omega
   ·exact h0
end
section
set_option maxRecDepth 100000
variable {H H0:ak} {R:Value→ak→Prop} {v:Value} {L:List It} {T:List UInt8} {fb at_ dp e:Nat}
theorem Nn {a b:Nat} (ha:a<4611686018427387904) (hb:b<4611686018427387904):bitsOf .xor .i64 (a:Int) (b:Int)= ((a ^^^ b:Nat):Int):=by
 have eF:a ^^^ b<2 ^ 62:=alD (by simpa using ha) (by simpa using hb);have e: ((BitVec.ofInt 64 (a:Int)) ^^^ (BitVec.ofInt 64 (b:Int))).toNat=a ^^^ b:=by
  rw [amM,akC,akC,akD,akD,aj_ (by omega),aj_ (by omega)]
 show IntKind.i64.wrap ((((BitVec.ofInt 64 (a:Int)) ^^^ (BitVec.ofInt 64 (b:Int))).toNat:Nat):Int)=_;rw [e,bH (by omega) (by omega)]
abbrev Pb (b:Nat):Value:= .pointer (some ⟨b,0,none⟩)
def xv (l:List Nat):List Value:=l.map fun n:Nat=> .int .i64 (n:Int)
theorem Jv (l:List Nat): (xv l).length=l.length:=by simp [xv]
theorem Sn {l:List Nat} {i:Nat} (h:i<l.length): (xv l)[i]? =some (.int .i64 (l.getD i 0:Int)):=by
 unfold xv;rw [ake,ajV h,ajX,ajV h];rfl
theorem Sp (l:List Nat) (i n:Nat): (xv l).set i (.int .i64 (n:Int))=xv (l.set i n):=by unfold xv;rw [List.map_set]
def Ek (r:Nat) (m:Int→Option Value):ir where
 eL k:=k=r
 holds H:=fS (vV .i64) H r m
 frame:=fun h hf=>h.A5 (hf r rfl)
 lt:=fun h hf=>by subst hf;exact h.lt
def El (T:List UInt8) (e:Nat):Int→Option Value:=fun k=>if 0≤k∧0<fL T e k.toNat then some (.int .i64 (fL T e k.toNat:Int)) else none
theorem No (T:List UInt8) (e h:Nat): (El T e (h:Int)).getD (.int .i64 0)= .int .i64 (fL T e h:Int):=by
 unfold El;rw [ajS]
 by_cases hc:0<fL T e h
 ·rw [if_pos ⟨by omega,hc⟩];rfl
 ·rw [if_neg (fun g=>hc g.2),show fL T e h=0 by omega];rfl
theorem Sq (T:List UInt8):El T 0=fun _=>none:=by
 funext k
 unfold El fL;rw [if_neg (by omega)]
theorem Ds {T:List UInt8} {e:Nat} (h:e+3≤T.length) (x:Nat):fL T (e+1) x=if x=gG T e then e+1 else fL T e x:=by
 show (if e+3≤T.length∧gG T e=x then e+1 else fL T e x)=_
 by_cases hx:x=gG T e
 ·rw [if_pos ⟨h,hx.symm⟩,if_pos hx]
 ·rw [if_neg (fun g=>hx g.2.symm),if_neg hx]
theorem Pc {T:List UInt8} {e:Nat} (h: ¬e+3≤T.length) (x:Nat):fL T (e+1) x=fL T e x:=by
 show (if e+3≤T.length∧gG T e=x then e+1 else fL T e x)=_;rw [if_neg (fun g=>h g.1)]
theorem Sr {T:List UInt8} {e:Nat} (h:e+3≤T.length):xU (vV .i64) (El T e) (gG T e:Int) (some (.int .i64 ((e+1:Nat):Int)))=El T (e+1):=by
 funext k
 by_cases hk:k= (gG T e:Int)
 ·subst hk
  rw [ta];unfold El;rw [ajS,Ds h,if_pos rfl,if_pos ⟨by omega,by omega⟩]
 ·rw [qE _ hk]
  unfold El;rw [Ds h]
  by_cases h0:0≤k
  ·rw [if_neg (show ¬k.toNat=gG T e by omega)]
  ·rw [if_neg (fun g=>h0 g.1),if_neg (fun g=>h0 g.1)]
theorem US {T:List UInt8} {e:Nat} (h: ¬e+3≤T.length):El T (e+1)=El T e:=by
 funext k
 unfold El;rw [Pc h]
def uT (T:List UInt8) (e:Nat):List Nat:= (List.range T.length).map fun j=>if j<e∧j+3≤T.length then fL T j (gG T j) else 0
theorem yN (T:List UInt8) (e:Nat): (uT T e).length=T.length:=by simp [uT]
theorem Ss {T:List UInt8} {e j:Nat} (h:j<e) (h2:j+3≤T.length): (uT T e).getD j 0=fL T j (gG T j):=by
 unfold uT;rw [ajX,ake,ak8 (by omega)];show (if j<e∧j+3≤T.length then fL T j (gG T j) else 0)=_;rw [if_pos ⟨h,h2⟩]
theorem Pe {T:List UInt8} {e:Nat} (h:e+3≤T.length): (uT T e).set e (fL T e (gG T e))=uT T (e+1):=by
 apply akV;intro i;rw [anm,yN];unfold uT
 by_cases hi:e=i
 ·subst hi
  rw [if_pos rfl,if_pos (by omega),ake,ak8 (by omega)];show _=some (if e<e+1∧e+3≤T.length then fL T e (gG T e) else 0);rw [if_pos ⟨by omega,h⟩]
 ·rw [if_neg hi]
  by_cases hl:i<T.length
  ·rw [ake,ake,ak8 hl]
   show some (if i<e∧i+3≤T.length then fL T i (gG T i) else 0)=some (if i<e+1∧i+3≤T.length then fL T i (gG T i) else 0);have Oj: (i<e∧i+3≤T.length)↔(i<e+1∧i+3≤T.length):=by omega
   simp only [Oj]
  ·rw [akc (by simp;omega),akc (by simp;omega)]
theorem Su {T:List UInt8} {e:Nat} (h: ¬e+3≤T.length):uT T (e+1)=uT T e:=by
 unfold uT;refine alg fun i _=>?_;have Oj: (i<e+1∧i+3≤T.length)↔(i<e∧i+3≤T.length):=by omega
 simp only [Oj]
abbrev XN (fb:Nat) (T:List UInt8) (at_ r:Nat) (pv:Value) (dp:Nat):It:= .box fb [str T,.int .i64 (at_:Int),.map (some r),pv,.int .i64 (dp:Int)] 406
def FS (H0 H:ak) (fb:Nat) (T:List UInt8) (at_ dp e:Nat) (L:List It):Prop:= ∃r pv,aw H0 H (XN fb T at_ r pv dp:: .ay (Ek r (El T e)):: .sl pv 1 (xv (uT T e))::L)
theorem FS.ext (f:FS H0 H fb T at_ dp e L):Ext H0 H:=by obtain⟨_,_,o⟩:=f;exact o.ext
theorem FS.more {H' :ak} (f:FS H0 H fb T at_ dp e L) (hx:Ext H H'):FS H0 H' fb T at_ dp e L:=by
 obtain⟨r,pv,o⟩:=f;exact⟨r,pv,o.more hx⟩
theorem Dt {i r:Nat} {pv:Value} (o:aw H0 H L) (lf:XN fb T at_ r pv dp∈L) (hi:i+3≤T.length) (hl:T.length≤1000000) (h:R (.int .i64 (gG T i:Int)) H):ab Tryz.prog 322 #[Pb fb,.int .i64 (i:Int)] H R:=by
 refine ib.vc _ _ _ _ ?_;unfold ib.res;have h0:= (T.getD i 0).toNat_lt;have h1:= (T.getD (i+1) 0).toNat_lt;have h2:= (T.getD (i+2) 0).toNat_lt;rw [aA,ag,au];refine o.az (f:=0+0) lf rfl ?_;rw [dU];refine⟨by omega,by rw [cn];omega,?_⟩;rw [cn,ajS,eH,bH (n:= (((T.getD i 0).toNat:Nat):Int)) (by omega) (by omega),jg];refine⟨by decide,?_⟩;rw [show (((T.getD i 0).toNat:Nat):Int)*2 ^ (min (Int.toNat 10) IntKind.i64.bits)= (((T.getD i 0).toNat*1024:Nat):Int) from by
  rw [show min (Int.toNat 10) IntKind.i64.bits=10 from rfl];omega,bH (by omega) (by omega),aC,show (i:Int)+1= ((i+1:Nat):Int) by omega,bH (by omega) (by omega),dU]
 refine⟨by omega,by rw [cn];omega,?_⟩;rw [cn,ajS,eH,bH (n:= (((T.getD (i+1) 0).toNat:Nat):Int)) (by omega) (by omega),jg];refine⟨by decide,?_⟩;rw [show (((T.getD (i+1) 0).toNat:Nat):Int)*2 ^ (min (Int.toNat 5) IntKind.i64.bits)= (((T.getD (i+1) 0).toNat*32:Nat):Int) from by
  rw [show min (Int.toNat 5) IntKind.i64.bits=5 from rfl];omega,bH (by omega) (by omega),dF,Nn (by omega) (by omega),aC,show (i:Int)+2= ((i+2:Nat):Int) by omega,bH (by omega) (by omega),dU]
 refine⟨by omega,by rw [cn];omega,?_⟩;rw [cn,ajS,eH,bH (n:= (((T.getD (i+2) 0).toNat:Nat):Int)) (by omega) (by omega),dF];have hx: (T.getD i 0).toNat*1024 ^^^ (T.getD (i+1) 0).toNat*32<2 ^ 20:=alD (by omega) (by omega);rw [Nn (by omega) (by omega),dF,t_ (k:=15) (m:=32767) (by decide) rfl];exact h
theorem vK (f:FS H0 H fb T at_ dp e L) (hl:T.length≤1000000) (he:e≤T.length) (h: ∀H',FS H0 H' fb T at_ dp (e+1) L→R (.tuple #[]) H'):ab Tryz.prog 319 #[Pb fb,.int .i64 (e:Int)] H R:=by
 obtain⟨r,pv,o⟩:=f;refine gA.vc _ _ _ _ ?_;unfold gA.res;rw [aC,bH (n:= (e:Int)+3) (by omega) (by omega),aA,ag,au];refine o.az (b:=fb) (f:=0+0) (by repeat(first|exact ajP|apply ajO)) rfl ?_;refine aJ ?_;rw [bU];refine ax (fun hc=>?_) (fun hc=>?_)
 ·have d_: ¬e+3≤T.length:=by omega
  exact h H ⟨r,pv,by rw [US d_,Su d_];exact o⟩
 ·have he3:e+3≤T.length:=by omega
  refine Dt (fb:=fb) (r:=r) (pv:=pv) (at_:=at_) (dp:=dp) o (by repeat(first|exact ajP|apply ajO)) he3 hl ?_;rw [aA,ag,au];refine o.az (b:=fb) (f:=0+3) (by repeat(first|exact ajP|apply ajO)) rfl ?_;rw [aA,ag,au];refine o.az (b:=fb) (f:=0+2) (by repeat(first|exact ajP|apply ajO)) rfl ?_;refine fS.lookup (κ:=vV .i64) (o.ay (T:=Ek r (El T e)) (by repeat(first|exact ajP|apply ajO))) (k:= (gG T e:Int)) ?_;rw [cond_false,No];have DY: (xv (uT T e)).length=T.length*1:=by rw [Jv,yN,aj0]
  refine(o.sl (v:=pv) (by repeat(first|exact ajP|apply ajO))).at_ DY (by decide) (by omega) (by omega) fun p hp=>?_;refine o.store hp (by repeat(first|exact ajP|apply ajO)) (by rw [DY];omega) rfl (by repeat(first|exact bd.here|apply bd.there)) fun H1 o _=>?_;rw [ajS,aj0,Sp,Pe he3] at o;rw [aA,ag,au];refine o.az (b:=fb) (f:=0+2) (by repeat(first|exact ajP|apply ajO)) rfl ?_;rw [aC,show (e:Int)+1= ((e+1:Nat):Int) by omega,bH (by omega) (by omega)];refine fS.set (κ:=vV .i64) (o.ay (T:=Ek r (El T e)) (by repeat(first|exact ajP|apply ajO))) (k:= (gG T e:Int)) fun H2 hm hs d_=>?_;rw [Sr he3] at hm;exact h H2 ⟨r,pv,o.nq (i:= .ay (Ek r (El T e))) (i' := .ay (Ek r (El T (e+1)))) (by repeat(first|exact bd.here|apply bd.there)) (by omega) (fun k _ hf=>d_ k hf) hm (fun k hk=> .inl hk)⟩
theorem Pf {k i r:Nat} {pv:Value} (o:aw H0 H L) (lf:XN fb T at_ r pv dp∈L) (hk:k≤i) (hi:i≤T.length) (hl:T.length≤1000000) (h:R (.int .i64 (wI T k i:Int)) H):ab Tryz.prog 323 #[Pb fb,.int .i64 (k:Int),.int .i64 (i:Int)] H R:=by
 refine fQ.vc _ _ _ _ _ ?_;unfold fQ.res;rw [aA,ag,au];refine o.az (f:=0+0) lf rfl ?_;refine aJ ?_;rw [bE,show (T.length:Int) - (i:Int)= ((T.length - i:Nat):Int) by omega,bH (by omega) (by omega),qm,show min (258:Int) ((T.length - i:Nat):Int)= ((min 258 (T.length - i):Nat):Int) by omega];refine⟨fun n H' => ∃q:Nat,n= .int .i64 q∧q≤wI T k i∧H=H',fun n _=>match n with| .int _ x=>1000 - x.toNat|_=>0,⟨0,rfl,by omega,rfl⟩,?_⟩;rintro _ _ _ ⟨q,rfl,hq,rfl⟩;have hle:=BG T k i;rw [aQ];refine kn (d:=decide (T.getD (k+q) 0=T.getD (i+q) 0)) (fun hc=>?_) ?_
 ·rw [decide_eq_true_eq] at hc
  rw [aA,ag,au];refine o.az (f:=0+0) lf rfl ?_;rw [aC,show (k:Int)+ (q:Int)= ((k+q:Nat):Int) by omega,bH (by omega) (by omega),dU];refine⟨by omega,by rw [cn];omega,?_⟩;rw [cn,ajS,aA,ag,au];refine o.az (f:=0+0) lf rfl ?_;rw [aC,show (i:Int)+ (q:Int)= ((i+q:Nat):Int) by omega,bH (by omega) (by omega),dU];refine⟨by omega,by rw [cn];omega,?_⟩;rw [cn,ajS,bj];refine⟨?_,rfl⟩
  congr 1
  rw [decide_eq_decide]
  constructor
  ·intro g
   exact UInt8.toNat_inj.1 (by omega)
  ·intro g;rw [g]
 intro _;refine fI (fun hc=>?_) (fun hc=>?_)
 ·rw [aj3,decide_eq_true_eq,decide_eq_true_eq] at hc
  have hqm:q<min 258 (T.length - i):=by omega
  rw [aC,bH (n:= (q:Int)+1) (by omega) (by omega)];refine⟨⟨q+1,rfl,?_,rfl⟩,by show 1000 - ((q:Int)+1).toNat<1000 - (q:Int).toNat;omega⟩
  by_cases eF:q<wI T k i
  ·omega
  ·have Sb:wI T k i=q:=by omega
   have:=Jr T (min 258 (T.length - i)) k i (by show wI T k i<_;omega);rw [show qc T k i (min 258 (T.length - i))=q from Sb] at this;exact absurd hc.2 this
 ·have Sb:q=wI T k i:=by
   by_cases eF:q<wI T k i
   ·have:=Dn T (min 258 (T.length - i)) k i q eF
    rw [this,decide_eq_true rfl,Bool.and_true,decide_eq_false_iff_not] at hc;omega
   ·omega
  rw [Sb];exact h
theorem wR (f:FS H0 H fb T at_ dp e L) (hl:T.length≤1000000) (he:e≤T.length) (h:R (.tuple #[.int .i64 ((e7 T dp e).1:Int),.int .i64 ((e7 T dp e).2:Int)]) H):ab Tryz.prog 320 #[Pb fb,.int .i64 (e:Int)] H R:=by
 obtain⟨r,pv,o⟩:=f;refine fx.vc _ _ _ _ ?_;unfold fx.res;rw [aC,bH (n:= (e:Int)+3) (by omega) (by omega),aA,ag,au];refine o.az (b:=fb) (f:=0+0) (by repeat(first|exact ajP|apply ajO)) rfl ?_;refine aJ ?_;rw [bU];refine ax (fun hc=>?_) (fun hc=>?_)
 ·unfold e7 at h
  rw [if_pos (by omega)] at h;exact h
 have he3:e+3≤T.length:=by omega
 have aaz:e7 T dp e=if (rJ T dp e (e+1) 0 (fL T e (gG T e)) 0 0).1<3 then (0,0) else rJ T dp e (e+1) 0 (fL T e (gG T e)) 0 0:=by
  unfold e7;rw [if_neg (by omega)]
 rw [aaz] at h;rw [aA,ag,au];refine o.az (b:=fb) (f:=0+2) (by repeat(first|exact ajP|apply ajO)) rfl ?_;refine Dt (fb:=fb) (r:=r) (pv:=pv) (at_:=at_) (dp:=dp) o (by repeat(first|exact ajP|apply ajO)) he3 hl ?_;refine⟨o.az (b:=fb) (f:=0+2) (by repeat(first|exact ajP|apply ajO)) rfl rfl,?_⟩;refine fS.lookup (κ:=vV .i64) (o.ay (T:=Ek r (El T e)) (by repeat(first|exact ajP|apply ajO))) (k:= (gG T e:Int)) ?_;rw [No];have DY: (xv (uT T e)).length=T.length*1:=by rw [Jv,yN,aj0]
 generalize hW:rJ T dp e (e+1) 0 (fL T e (gG T e)) 0 0=W at*;refine⟨fun b d H' =>b= .int .i64 (W.1:Int)∧d= .int .i64 (W.2:Int)∧H=H',?_,?_⟩
 ·rintro _ _ _ _ ⟨rfl,rfl,rfl⟩
  rw [aQ];refine ax (fun hc=>?_) (fun hc=>?_)
  ·rw [if_pos (by omega)] at h;exact h
  ·rw [if_neg (by omega)] at h;exact h
 refine⟨fun b d k n H' => ∃ (iw mo kk nn c:Nat),b= .int .i64 (iw:Int)∧d= .int .i64 (mo:Int)∧k= .int .i64 (kk:Int)∧n= .int .i64 (nn:Int)∧kk≤c∧kk≤e∧(0<kk→kk - 1+3≤T.length)∧nn+kk≤e∧iw≤258∧mo≤e∧rJ T dp e c nn kk iw mo=W∧H=H',fun _ _ k _ _=>match k with| .int _ x=>x.toNat|_=>0,
  ⟨0,0,fL T e (gG T e),0,e+1,rfl,rfl,rfl,rfl,by have:=rI T (gG T e) e;omega,rI _ _ _,fun g=> (Dp T _ _ g).1,by have:=rI T (gG T e) e;omega,by omega,by omega,hW,rfl⟩,?_⟩
 rintro _ _ _ _ _ _ ⟨iw,mo,k,n,c,rfl,rfl,rfl,rfl,hkc,hke,VM,hnk,hb,hd,hw,rfl⟩;rw [bU];refine kn (d:=decide ((n:Int)< (dp:Int))) (fun _=>?_) ?_
 ·rw [aA,ag,au]
  refine o.az (b:=fb) (f:=0+4) (by repeat(first|exact ajP|apply ajO)) rfl ?_;rw [aQ];exact⟨rfl,rfl⟩
 intro _;refine kn (d:=decide ((e:Int) - ((k:Int) - 1)≤32768)) (fun _=>?_) ?_
 ·rw [bE,bH (by omega) (by omega),bE,bH (by omega) (by omega),qw]
  exact⟨rfl,rfl⟩
 intro _;refine fI (fun hc=>?_) (fun hc=>?_)
 ·rw [aj3,aj3,decide_eq_true_eq,decide_eq_true_eq,decide_eq_true_eq] at hc
  have Yu:0<k:=by omega
  obtain⟨c,rfl⟩: ∃c',c=c' +1:= ⟨c - 1,by omega⟩;have K7:0<k∧n<dp∧e - (k - 1)≤32768:= ⟨Yu,by omega,by omega⟩;have hlen:=BG T (k - 1) e;refine⟨fun b d H' =>b= .int .i64 (qA T e k iw:Int)∧d= .int .i64 (vJ T e k iw mo:Int)∧H=H',?_,?_⟩
  ·rintro _ _ _ _ ⟨rfl,rfl,rfl⟩
   rw [bj];refine ax (fun UR=>?_) (fun UR=>?_)
   ·rw [Dq K7 (by omega)] at hw
    rw [←hw];exact⟨rfl,rfl,rfl⟩
   ·rw [Js K7 (by omega)] at hw
    rw [aA,ag,au];refine o.az (b:=fb) (f:=0+3) (by repeat(first|exact ajP|apply ajO)) rfl ?_;rw [bE,show (k:Int) - 1= ((k - 1:Nat):Int) by omega,bH (by omega) (by omega)];have VM:=VM Yu;refine(o.sl (v:=pv) (by repeat(first|exact ajP|apply ajO))).at_ DY (by decide) (by omega) (by omega) fun p hp=>?_;refine hp.load (o.sl (v:=pv) (by repeat(first|exact ajP|apply ajO))) (by rw [ajS,aj0];exact Sn (by rw [yN];omega)) ?_;rw [Ss (by omega) VM,aC,bH (n:= (n:Int)+1) (by omega) (by omega)];have Uj:=rI T (gG T (k - 1)) (k - 1);refine⟨⟨qA T e k iw,vJ T e k iw mo,fL T (k - 1) (gG T (k - 1)),n+1,c,rfl,rfl,rfl,rfl,by omega,by omega,fun g=> (Dp T _ _ g).1,by omega,?_,?_,hw,rfl⟩,by show ((fL T (k - 1) (gG T (k - 1)):Nat):Int).toNat< (k:Int).toNat;omega⟩
    ·unfold qA;split<;>omega
    ·unfold vJ;split<;>omega
  ·rw [bE,show (k:Int) - 1= ((k - 1:Nat):Int) by omega,bH (by omega) (by omega)]
   refine Pf (fb:=fb) (r:=r) (pv:=pv) (at_:=at_) (dp:=dp) o (by repeat(first|exact ajP|apply ajO)) (by omega) he hl ?_;rw [bU];refine ax (fun eF=>?_) (fun eF=>?_)
   ·rw [bE,show (k:Int) - 1= ((k - 1:Nat):Int) by omega,bH (by omega) (by omega),bE,show (e:Int) - ((k - 1:Nat):Int)= ((e - (k - 1):Nat):Int) by omega,bH (by omega) (by omega)]
    unfold qA vJ;rw [if_pos (by omega),if_pos (by omega)];exact⟨rfl,rfl,rfl⟩
   ·unfold qA vJ
    rw [if_neg (by omega),if_neg (by omega)];exact⟨rfl,rfl,rfl⟩
 ·have aaA:rJ T dp e c n k iw mo= (iw,mo):=by
   cases c with
   |zero=>rfl
   |succ c=>
    refine Dr fun g=>?_;rw [decide_eq_true (by omega),decide_eq_true (by omega),decide_eq_true (by omega)] at hc
    cases hc
  rw [aaA] at hw;rw [←hw];exact⟨rfl,rfl,rfl⟩
theorem LQ {A s:List UInt8} {d:Nat} (o:aw H0 H L) (hl:A.length+s.length≤900000) (hd:d≤1073741824)
  (h: ∀H' fb,FS H0 H' fb (A.drop (A.length - 32768)++s) (A.drop (A.length - 32768)).length d (A.drop (A.length - 32768)).length L→R (Pb fb) H'):ab Tryz.prog 315 #[str A,str s,.int .i64 (d:Int)] H R:=by
 refine jy.vc _ _ _ _ _ ?_;unfold jy.res;refine aJ ?_;rw [bE,bH (n:= (A.length:Int) - 32768) (by omega) (by omega),KA,show max ((A.length:Int) - 32768) 0= ((A.length - 32768:Nat):Int) by omega];refine bz (lo:=A.length - 32768) (hi:=A.length) (.inl rfl) (.inr ⟨rfl,rfl⟩) (by omega) (by omega) ?_;rw [aj9 (by rw [aj1];exact ajR _)];have hBl: (A.drop (A.length - 32768)).length≤A.length:=by rw [aj1];omega
 generalize A.drop (A.length - 32768)=B at*;refine aT (by omega) ?_;refine aJ ?_;have VE: (B++s).length≤1000000:=by rw [ajQ];omega
 have hBT:B.length≤(B++s).length:=by rw [ajQ];omega
 generalize B++s=T at*;refine vi (vV .i64) fun H1 hm hx u0=>?_;have o:=o.add hx (i:= .ay (Ek H.size (El T 0))) (by rw [Sq];exact hm) (by intro k hk;obtain rfl:k=H.size:=hk;exact ajR _);refine aU rfl (by decide) ?_;refine aU rfl (by simp) ?_;refine aU rfl (by simp) ?_;refine aU rfl (by simp) ?_;rw [bG];refine o.box fun fb H2 o _=>?_
 change aw H0 H2 (XN fb T B.length H.size (.slice none 0 0) d::_) at o
 rw [aA,ag,au];refine o.az (b:=fb) (f:=0+0) (by repeat(first|exact ajP|apply ajO)) rfl ?_;refine aJ ?_;refine o.xV (by omega) (by omega) (by omega) fun pv H3 o=>?_;rw [ajS] at o;rw [aA,ag,au];refine o.bK (b:=fb) (f:=0+3) (by repeat(first|exact ajP|apply ajO)) (by simp) (o.sl (v:=pv) (by repeat(first|exact ajP|apply ajO))).one (by repeat(first|exact bd.here|apply bd.there)) fun H4 o _=>?_;refine aJ ?_;have Z4:List.replicate T.length (Value.int .i64 0)=xv (uT T 0):=by
  unfold xv uT;rw [al1];apply akV;intro i;rw [amg,ake]
  by_cases hi:i<T.length
  ·rw [if_pos hi,ak8 hi]
   show _=some (Value.int .i64 (((if i<0∧i+3≤T.length then fL T i (gG T i) else 0):Nat):Int));rw [if_neg (by omega)];rfl
  ·rw [if_neg hi,akc (by rw [ang];omega)];rfl
 rw [Z4] at o;have f:FS H0 H4 fb T B.length d 0 L:= ⟨H.size,pv,o.fW (by repeat(first|exact aY.refl|exact bu.here|apply aY.cons|apply bu.there))⟩;clear o;refine⟨fun i H' => ∃j:Nat,i= .int .i64 j∧j≤B.length∧FS H0 H' fb T B.length d j L,fun i _=>match i with| .int _ x=>B.length - x.toNat|_=>0,⟨0,rfl,by omega,f⟩,?_⟩;clear f;rintro _ _ H5 ⟨j,rfl,hj,f⟩;rw [aQ];refine ax (fun hc=>?_) (fun hc=>?_)
 ·refine vK f VE (by omega) fun H6 f=>?_
  rw [aC,bH (n:= (j:Int)+1) (by omega) (by omega)];exact⟨⟨j+1,rfl,by omega,f⟩,by show B.length - ((j:Int)+1).toNat<B.length - (j:Int).toNat;omega⟩
 ·have hjB:j=B.length:=by omega
  subst hjB;exact h H5 fb f
end
section
set_option maxRecDepth 100000
variable {T:List UInt8}
abbrev nx (x:UInt8):Tok:= ⟨x,0,0⟩
abbrev Du (n d:Nat):Tok:= ⟨0,(n:Int),(d:Int)⟩
def takeN (T:List UInt8) (dp:Nat) (lazy:Bool) (i:Nat):Nat:=if 0< (e7 T dp i).1∧lazy=true∧(e7 T dp i).1<258∧(e7 T dp i).1< (e7 T dp (i+1)).1 then 0 else (e7 T dp i).1
theorem Sv (T:List UInt8) (dp:Nat) (lazy:Bool) (i:Nat):takeN T dp lazy i=0∨takeN T dp lazy i= (e7 T dp i).1:=by
 unfold takeN
 by_cases h:0< (e7 T dp i).1∧lazy=true∧(e7 T dp i).1<258∧(e7 T dp i).1< (e7 T dp (i+1)).1
 ·rw [if_pos h];exact .inl rfl
 ·rw [if_neg h];exact .inr rfl
def ni (T:List UInt8) (dp:Nat) (lazy:Bool):Nat→Nat→List Tok
 |0,_=> []
 |c+1,i=>if i<T.length then (if takeN T dp lazy i=0 then nx (T.getD i 0)::ni T dp lazy c (i+1) else Du (takeN T dp lazy i) (e7 T dp i).2::ni T dp lazy c (i+takeN T dp lazy i)) else []
theorem kZ {dp:Nat} {lazy:Bool} {c i:Nat} (h:T.length≤i):ni T dp lazy c i= []:=by
 cases c with
 |zero=>rfl
 |succ c=>
  show (if i<T.length then _ else [])= [];rw [if_neg (by omega)]
theorem q9 {dp:Nat} {lazy:Bool} {c i:Nat} (h:i<T.length) (h0:takeN T dp lazy i=0):ni T dp lazy (c+1) i=nx (T.getD i 0)::ni T dp lazy c (i+1):=by
 show (if i<T.length then _ else [])=_;rw [if_pos h,if_pos h0]
theorem q_ {dp:Nat} {lazy:Bool} {c i:Nat} (h:i<T.length) (h0:takeN T dp lazy i≠0):ni T dp lazy (c+1) i=Du (takeN T dp lazy i) (e7 T dp i).2::ni T dp lazy c (i+takeN T dp lazy i):=by
 show (if i<T.length then _ else [])=_;rw [if_pos h,if_neg h0]
theorem BH {dp:Nat} {lazy:Bool} {i:Nat} (h:takeN T dp lazy i≠0):takeN T dp lazy i= (e7 T dp i).1∧3≤takeN T dp lazy i∧takeN T dp lazy i≤258∧i+takeN T dp lazy i≤T.length∧1≤(e7 T dp i).2∧(e7 T dp i).2≤i∧(e7 T dp i).2≤32768∧∀p,p<takeN T dp lazy i→T.getD (i - (e7 T dp i).2+p) 0=T.getD (i+p) 0:=by
 have e:takeN T dp lazy i= (e7 T dp i).1:=by
  rcases Sv T dp lazy i with g|g
  ·exact absurd g h
  ·exact g
 obtain⟨g3,g1,g2,g4,g5⟩:=Ju (T:=T) (depth:=dp) (i:=i) (by omega);have hle:=BG T (i - (e7 T dp i).2) i;refine⟨e,by omega,by omega,by omega,g1,g2,g4,fun p hp=>?_⟩;refine Dn T (min 258 (T.length - i)) _ _ p ?_;show p<wI T (i - (e7 T dp i).2) i;omega
theorem pj {dp:Nat} {lazy:Bool}: ∀ (c c' i:Nat),T.length - i≤c→T.length - i≤c' →ni T dp lazy c i=ni T dp lazy c' i
 |0,c',i,h1,h2=>by rw [kZ (by omega),kZ (by omega)]
 |c+1,0,i,h1,h2=>by rw [kZ (by omega),kZ (by omega)]
 |c+1,c' +1,i,h1,h2=>by
  by_cases hi:i<T.length
  ·by_cases h0:takeN T dp lazy i=0
   ·rw [q9 hi h0,q9 hi h0,pj c c' (i+1) (by omega) (by omega)]
   ·rw [q_ hi h0,q_ hi h0,pj c c' (i+takeN T dp lazy i) (by omega) (by omega)]
  ·rw [kZ (by omega),kZ (by omega)]
theorem Dv (x:UInt8):jC (nx x)=true:=rfl
theorem Jw {n d:Nat} (h1:3≤n) (h2:n≤258) (h3:1≤d) (h4:d≤32768):jC (Du n d)=true:=by
 unfold jC;show (if (n:Int)=0 then _ else decide ((((0:UInt8).toNat:Nat):Int)=0∧3≤(n:Int)∧(n:Int)≤258∧1≤(d:Int)∧(d:Int)≤32768))=true;rw [if_neg (by omega),decide_eq_true_eq];exact⟨rfl,by omega,by omega,by omega,by omega⟩
theorem xx {i:Nat} (h:i<T.length):T.take i++ [T.getD i 0]=T.take (i+1):=by
 rw [akq,ajX,ajV h];rfl
theorem Dw: ∀ (n i d:Nat),1≤d→d≤i→i+n≤T.length→(∀p,p<n→T.getD (i - d+p) 0=T.getD (i+p) 0)→dZ n (T.take i) d=T.take (i+n)
 |0,i,d,_,_,_,_=>rfl
 |n+1,i,d,h1,h2,h3,h4=>by
  have h0:=h4 0 (by omega);have hl: (T.take i).length=i:=by rw [ajW];omega
  have hg: (T.take i).getD ((T.take i).length - d) 0=T.getD i 0:=by
   rw [hl,ajX,alQ,if_pos (by omega),←ajX];exact h0
  rw [dZ,hg,xx (by omega),Dw n (i+1) d h1 (by omega) (by omega) (fun p hp=>by
   have:=h4 (p+1) (by omega);rw [show i+1 - d+p=i - d+ (p+1) by omega,show i+1+p=i+ (p+1) by omega];exact this)]
  rw [show i+1+n=i+ (n+1) by omega]
theorem Dx {x:UInt8} {r:List Tok} {b:List UInt8}:ja (nx x::r) b=ja r (b++ [x]):=by
 rw [ja,if_pos ⟨Dv x,by show (0:Int)≤_;omega⟩,if_pos (show (nx x).n=0 from rfl)]
 rfl
theorem LR {n d:Nat} {r:List Tok} {b:List UInt8} (h1:3≤n) (h2:n≤258) (h3:1≤d) (h4:d≤32768) (h5:d≤b.length):ja (Du n d::r) b=ja r (dZ n b d):=by
 rw [ja,if_pos ⟨Jw h1 h2 h3 h4,by show (d:Int)≤_;omega⟩,if_neg (show ¬ ((n:Int)=0) by omega)]
 rfl
theorem vL {dp:Nat} {lazy:Bool}: ∀ (c i:Nat),i≤T.length→T.length - i≤c→ja (ni T dp lazy c i) (T.take i)=some T
 |0,i,hi,hc=>by
  show some (T.take i)=some T;rw [aj9 (by omega)]
 |c+1,i,hi,hc=>by
  by_cases hl:i<T.length
  ·by_cases h0:takeN T dp lazy i=0
   ·rw [q9 hl h0,Dx,xx hl]
    exact vL c (i+1) (by omega) (by omega)
   ·obtain⟨_,h1,h2,h3,h4,h5,h6,h7⟩:=BH h0
    rw [q_ hl h0,LR h1 h2 h4 h6 (by rw [ajW];omega),Dw _ _ _ h4 h5 h3 h7];exact vL c _ h3 (by omega)
  ·rw [kZ (by omega),aj9 (by omega)];rfl
theorem vM {dp:Nat} {lazy:Bool}: ∀ (c i:Nat),T.length - i≤c→(ni T dp lazy c i).length≤T.length - i
 |0,i,hc=>akj _
 |c+1,i,hc=>by
  by_cases hl:i<T.length
  ·by_cases h0:takeN T dp lazy i=0
   ·have:=vM (dp:=dp) (lazy:=lazy) c (i+1) (by omega)
    rw [q9 hl h0,aj2];omega
   ·obtain⟨_,h1,h2,h3,h4,h5,h6,h7⟩:=BH h0
    have:=vM (dp:=dp) (lazy:=lazy) c (i+takeN T dp lazy i) (by omega);rw [q_ hl h0,aj2];omega
  ·rw [kZ (by omega)];exact akj _
theorem xy {dp:Nat} {lazy:Bool}: ∀ (c i:Nat),∀t∈ni T dp lazy c i,jC t=true∧t.d≤32768
 |0,i,t,ht=>by cases ht
 |c+1,i,t,ht=>by
  by_cases hl:i<T.length
  ·by_cases h0:takeN T dp lazy i=0
   ·rw [q9 hl h0] at ht
    rcases aj5.1 ht with rfl|ht
    ·exact⟨Dv _,by show (0:Int)≤32768;decide⟩
    ·exact xy c _ t ht
   ·obtain⟨_,h1,h2,h3,h4,h5,h6,h7⟩:=BH h0
    rw [q_ hl h0] at ht;rcases aj5.1 ht with rfl|ht
    ·exact⟨Jw h1 h2 h4 h6,by show ((e7 T dp i).2:Int)≤32768;omega⟩
    ·exact xy c _ t ht
  ·rw [kZ (by omega)] at ht;cases ht
theorem AW: ∀ (n:Nat) (p b:List UInt8) (d:Nat),1≤d→d≤b.length→dZ n (p++b) d=p++dZ n b d
 |0,p,b,d,_,_=>rfl
 |n+1,p,b,d,h1,h2=>by
  have hg: (p++b).getD ((p++b).length - d) 0=b.getD (b.length - d) 0:=by
   rw [ajX,ajX,ajQ,akB (by omega)]
   congr 2
   omega
  rw [dZ,hg,ajT,AW n p _ d h1 (by rw [ajQ];omega),dZ]
theorem sM: ∀ (l:List Tok) (p b x:List UInt8),ja l b=some x→ja l (p++b)=some (p++x)
 | [],p,b,x,h=>by
  unfold ja at h ⊢
  cases h;rfl
 |t::r,p,b,x,h=>by
  unfold ja at h ⊢
  by_cases hc:jC t=true∧t.d≤(b.length:Int)
  ·rw [if_pos hc] at h
   rw [if_pos ⟨hc.1,by rw [ajQ];omega⟩]
   by_cases h0:t.n=0
   ·rw [if_pos h0] at h ⊢
    rw [h0] at h ⊢;have h:ja r (b++ [t.b])=some x:=h;show ja r (p++b++ [t.b])=some (p++x);rw [ajT];exact sM r p _ x h
   ·rw [if_neg h0] at h ⊢
    have hg:=mY hc.1;rw [AW _ _ _ _ (by omega) (by omega)];exact sM r p _ x h
  ·rw [if_neg hc] at h;cases h
end
section
set_option maxRecDepth 100000
variable {H H0:ak} {R:Value→ak→Prop} {v:Value} {L:List It} {T:List UInt8} {fb at_ dp e:Nat}
theorem aez (sz:Nat) (hz:0<sz) (o:aw H0 H L):aw H0 H (.sl (.slice none 0 0) sz []::L):=
 o.add (Ext.refl _) (i:= .sl (.slice none 0 0) sz []) ⟨hz,.inl ⟨rfl,rfl⟩⟩ (by intro k hk;exact absurd hk (by simp [It.eL,aV]))
theorem Dy (l:List Tok) (t:Tok):eu (l++ [t])=eu l++t.cells:=by simp [eu]
theorem GR {lazy:Bool} (f:FS H0 H fb T at_ dp at_ L) (hl:T.length≤1000000) (ha:at_≤T.length) (h: ∀H' y L',aw H0 H' (.sl y 3 (eu (ni T dp lazy T.length at_))::L')→R y H'):ab Tryz.prog 316 #[Pb fb,.bool lazy] H R:=by
 refine fP.vc _ _ _ _ ?_;unfold fP.res;obtain⟨r,pv,o⟩:=f;rw [aA,ag,au];refine o.az (b:=fb) (f:=0+1) (by repeat(first|exact ajP|apply ajO)) rfl ?_;have o:=aez 3 (by decide) o;have f:FS H0 H fb T at_ dp at_ (.sl (.slice none 0 0) 3 (eu [])::L):= ⟨r,pv,o.fW (by repeat(first|exact aY.refl|exact bu.here|apply aY.cons|apply bu.there))⟩;refine⟨fun out i H' => ∃ (k:Nat) (pre:List Tok) (L' :List It),i= .int .i64 (k:Int)∧at_≤k∧k≤T.length∧FS H0 H' fb T at_ dp k (.sl out 3 (eu pre)::L')∧pre++ni T dp lazy T.length k=ni T dp lazy T.length at_∧pre.length≤k,fun _ i _=>match i with| .int _ x=>T.length - x.toNat|_=>0,⟨at_,[],L,rfl,ajR _,ha,f,rfl,by simp⟩,?_⟩;clear f o;rintro _ out _ H1 ⟨k,pre,L',rfl,hak,VM,f,Jx,DY⟩;obtain⟨r,pv,o⟩:=f;rw [aA,ag,au];refine o.az (b:=fb) (f:=0+0) (by repeat(first|exact ajP|apply ajO)) rfl ?_;refine aJ ?_;rw [aQ];refine ax (fun hc=>?_) (fun hc=>?_)
 ·have j5:k<T.length:=by omega
  have f:FS H0 H1 fb T at_ dp k (.sl out 3 (eu pre)::L'):= ⟨r,pv,o⟩;have hL:=BG T (k - (e7 T dp k).2) k;refine wR f hl VM ?_;refine ai rfl ?_;refine ai rfl ?_;have agd: (e7 T dp k).1≤258:=by
   by_cases h0: (e7 T dp k).1=0
   ·omega
   ·obtain⟨_,_,_,_,g⟩:=Ju h0;omega
  refine vK f hl VM fun H2 f=>?_;have aaB: (eu pre).length=pre.length*3:=l7 pre;refine⟨fun n H' =>n= .int .i64 (takeN T dp lazy k:Int)∧FS H0 H' fb T at_ dp (k+1) (.sl out 3 (eu pre)::L'),?_,?_⟩
  ·clear f o
   rintro _ _ H3 ⟨rfl,f⟩;obtain⟨r,pv,o⟩:=f;rw [bj];refine ax (fun h0=>?_) (fun h0=>?_)
   ·have h0:takeN T dp lazy k=0:=by omega
    have hft:ni T dp lazy T.length k=nx (T.getD k 0)::ni T dp lazy T.length (k+1):=by
     rw [pj T.length ((T.length - 1)+1) k (by omega) (by omega),q9 j5 h0,pj (T.length - 1) T.length (k+1) (by omega) (by omega)]
    rw [aA,ag,au];refine o.az (b:=fb) (f:=0+0) (by repeat(first|exact ajP|apply ajO)) rfl ?_;rw [dU];refine⟨by omega,by rw [cn];omega,?_⟩;rw [cn,ajS];refine aU rfl (by decide) ?_;rw [bG];refine o.ej (sz:=3) (by decide) rfl rfl fun y H4 o=>?_;have o:aw H0 H4 (.sl y 3 (nx (T.getD k 0)).cells::XN fb T at_ r pv dp:: .ay (Ek r (El T (k+1))):: .sl pv 1 (xv (uT T (k+1))):: .sl out 3 (eu pre)::L'):=o;refine o.append (v:=out) (n:=pre.length) (m:=1) (by repeat(first|exact bu.here|apply bu.there)) rfl (o.sl (v:=y) (by repeat(first|exact ajP|apply ajO))) aaB rfl rfl (by omega) fun y2 H5 o=>?_;rw [←Dy] at o;rw [aC,bH (n:= (k:Int)+1) (by omega) (by omega)];refine⟨⟨k+1,pre++ [nx (T.getD k 0)],_,rfl,by omega,by omega,⟨r,pv,o.fW (by repeat(first|exact aY.refl|exact bu.here|apply aY.cons|apply bu.there))⟩,?_,by rw [ajQ];show pre.length+1≤_;omega⟩,by show T.length - ((k:Int)+1).toNat<T.length - (k:Int).toNat;omega⟩;rw [←Jx,hft,ajT];rfl
   ·have h0:takeN T dp lazy k≠0:=by omega
    obtain⟨t1,t2,t3,t4,t5,t6,t7,t8⟩:=BH h0;have hft:ni T dp lazy T.length k=Du (takeN T dp lazy k) (e7 T dp k).2::ni T dp lazy T.length (k+takeN T dp lazy k):=by
     rw [pj T.length ((T.length - 1)+1) k (by omega) (by omega),q_ j5 h0,pj (T.length - 1) T.length _ (by omega) (by omega)]
    refine aU rfl (by decide) ?_;refine aU rfl (by simp) ?_;rw [bG];refine o.ej (sz:=3) (by decide) rfl rfl fun y H4 o=>?_;have o:aw H0 H4 (.sl y 3 (Du (takeN T dp lazy k) (e7 T dp k).2).cells::XN fb T at_ r pv dp:: .ay (Ek r (El T (k+1))):: .sl pv 1 (xv (uT T (k+1))):: .sl out 3 (eu pre)::L'):=o;refine o.append (v:=out) (n:=pre.length) (m:=1) (by repeat(first|exact bu.here|apply bu.there)) rfl (o.sl (v:=y) (by repeat(first|exact ajP|apply ajO))) aaB rfl rfl (by omega) fun y2 H5 o=>?_;rw [←Dy] at o;generalize hN:takeN T dp lazy k=N at*;rw [bE,show (N:Int) - 1= ((N - 1:Nat):Int) by omega,bH (by omega) (by omega)];have f:FS H0 H5 fb T at_ dp (k+1+0) (.sl y2 3 (eu (pre++ [Du N (e7 T dp k).2])):: .sl y 3 (Du N (e7 T dp k).2).cells::L'):= ⟨r,pv,o.fW (by repeat(first|exact aY.refl|exact bu.here|apply aY.cons|apply bu.there))⟩;refine⟨fun i x H' => ∃j:Nat,i= .int .i64 ((k+j:Nat):Int)∧x= .int .i64 (j:Int)∧j≤N - 1∧FS H0 H' fb T at_ dp (k+1+j) (.sl y2 3 (eu (pre++ [Du N (e7 T dp k).2])):: .sl y 3 (Du N (e7 T dp k).2).cells::L'),fun _ x _=>match x with| .int _ x=>N - x.toNat|_=>0,⟨0,rfl,rfl,by omega,f⟩,?_⟩;clear f o;rintro _ _ _ H6 ⟨j,rfl,rfl,hj,f⟩;rw [aQ];refine ax (fun lz=>?_) (fun lz=>?_)
    ·rw [aC,show ((k+j:Nat):Int)+1= ((k+1+j:Nat):Int) by omega,bH (by omega) (by omega)]
     refine vK f hl (by omega) fun H7 f=>?_;rw [aC,bH (n:= (j:Int)+1) (by omega) (by omega)];exact⟨⟨j+1,by rw [show k+ (j+1)=k+1+j by omega],rfl,by omega,f⟩,by show N - ((j:Int)+1).toNat<N - (j:Int).toNat;omega⟩
    ·have hjN:j=N - 1:=by omega
     rw [aC,show ((k+j:Nat):Int)+1= ((k+N:Nat):Int) by omega,bH (by omega) (by omega)];rw [show k+1+j=k+N by omega] at f;refine⟨⟨k+N,pre++ [Du N (e7 T dp k).2],_,rfl,by omega,by omega,f,?_,by rw [ajQ];show pre.length+1≤_;omega⟩,by show T.length - ((k+N:Nat):Int).toNat<T.length - (k:Int).toNat;omega⟩;rw [←Jx,hft,ajT];rfl
  ·rw [bU]
   refine kn (d:=lazy) (fun _=> ⟨rfl,rfl⟩) ?_;intro _;refine kn (d:=decide (((e7 T dp k).1:Int)<258)) (fun _=>by rw [aQ];exact⟨rfl,rfl⟩) ?_;intro _;refine fI (fun lz=>?_) (fun lz=>?_)
   ·rw [aj3,aj3,decide_eq_true_eq,decide_eq_true_eq] at lz
    rw [aC,show (k:Int)+1= ((k+1:Nat):Int) by omega,bH (by omega) (by omega)];refine wR f hl (by omega) ?_;refine ai rfl ?_;refine ai rfl ?_;rw [bU];refine ax (fun DU=>?_) (fun DU=>?_)
    ·refine⟨?_,f⟩
     unfold takeN;rw [if_pos ⟨by omega,lz.1.2,by omega,by omega⟩];rfl
    ·refine⟨?_,f⟩
     unfold takeN;rw [if_neg (by omega)]
   ·refine⟨?_,f⟩
    unfold takeN;rw [if_neg];rintro⟨g1,g2,g3,_⟩;rw [decide_eq_true (by omega),g2,decide_eq_true (by omega)] at lz
    cases lz
 ·have j5:k=T.length:=by omega
  rw [j5,kZ (ajR _),akb] at Jx;rw [←Jx] at h;have o:aw H0 H1 (.sl out 3 (eu pre)::XN fb T at_ r pv dp:: .ay (Ek r (El T k)):: .sl pv 1 (xv (uT T k))::L'):=o.fW (by repeat(first|exact aY.refl|exact bu.here|apply aY.cons|apply bu.there));exact h H1 out _ o
abbrev uM (A:List UInt8):List UInt8:=A.drop (A.length - 32768)
def uC (l:Nat):Nat:= [0,4,8,16,16,32,64,128,512,1073741824].getD l 0
def jU:List Value:= [0,4,8,16,16,32,64,128,512,1073741824].map fun n:Nat=> .int .i64 (n:Int)
theorem Pg (l:Nat):uC l≤1073741824:=by
 unfold uC
 match l with
 |0|1|2|3|4|5|6|7|8|9=>decide
 |l+10=>exact akj _
theorem AX {l:Nat} (h:l<10):jU[l]? =some (.int .i64 (uC l:Int)):=by
 match l,h with
 |0,_|1,_|2,_|3,_|4,_|5,_|6,_|7,_|8,_|9,_=>rfl
def Dz (A s:List UInt8) (l:Nat):List Tok:=if l=0 then s.map nx else ni (uM A++s) (uC l) (decide (4≤l)) (uM A++s).length (uM A).length
theorem DA: ∀ (l:List Tok) (i:Nat) (x:UInt8),i<l.length→(eu l).set (i*3) (cY x)=eu (l.set i ⟨x,(l.getD i ⟨0,0,0⟩).n,(l.getD i ⟨0,0,0⟩).d⟩)
 |t::l,0,x,_=>by
  rw [al8,ak9,List.getD_cons_zero]
  rfl
 |t::l,i+1,x,h=>by
  rw [ak1,List.getD_cons_succ];show (t.cells++eu l).set ((i+1)*3) (cY x)=t.cells++eu (l.set i _);rw [←DA l i x (by simpa using h),show (i+1)*3=t.cells.length+i*3 by show (i+1)*3=3+i*3;omega,amK _ _ (by omega),amj]
theorem Sw (n:Nat):jG [.int .u8 0,.int .i64 0,.int .i64 0] n=eu (List.replicate n (nx 0)):=by
 induction n with
 |zero=>rfl
 |succ n ih=>
  show [.int .u8 0,.int .i64 0,.int .i64 0]++jG [.int .u8 0,.int .i64 0,.int .i64 0] n= (nx 0).cells++eu (List.replicate n (nx 0));rw [ih];rfl
theorem GS {A s:List UInt8} {l:Nat} (hG:Reads H ⟨5,0,none⟩ jU) (hl:l≤9) (hlen:A.length+s.length≤900000) (h: ∀H' y L',aw H H' (.sl y 3 (eu (Dz A s l))::L')→R (.tuple #[y,.int .i64 0]) H'):ab Tryz.prog 305 #[str A,str s,.int .i64 (l:Int)] H R:=by
 refine l9.vc _ _ _ _ _ ?_;unfold l9.res;rw [aQ,decide_eq_false (by omega)];refine bh ?_;rw [bU,decide_eq_false (by omega)];intro _;rw [ao,bj];unfold Dz at h;refine ax (fun h0=>?_) (fun h0=>?_)
 ·rw [if_pos (by omega)] at h
  refine aJ ?_;refine(aw.start (H:=H)).make (by decide) (by omega) (by omega) (by omega) fun y H1 o=>?_;have o:aw H H1 [.sl y 3 (jG [.int .u8 0,.int .i64 0,.int .i64 0] s.length)]:=by rw [ajS] at o;exact o
  rw [Sw] at o;refine(o.sl (v:=y) (by repeat(first|exact ajP|apply ajO))).len (n:=s.length) (by rw [l7,akw]) (by decide) ?_;refine⟨fun i H' => ∃k:Nat,i= .int .i64 (k:Int)∧k≤s.length∧aw H H' [.sl y 3 (eu ((s.take k).map nx++List.replicate (s.length - k) (nx 0)))],fun i _=>match i with| .int _ x=>s.length - x.toNat|_=>0,⟨0,rfl,by omega,by simpa using o⟩,?_⟩;clear o;rintro _ _ H2 ⟨k,rfl,hk,o⟩;rw [aQ];refine ax (fun hc=>?_) (fun hc=>?_)
  ·have NG:k<s.length:=by omega
   rw [dU];refine⟨by omega,by rw [cn];omega,?_⟩;rw [cn,ajS];have xE: ((s.take k).map nx++List.replicate (s.length - k) (nx 0)).length=s.length:=by rw [ajQ,aka,ajW,akw];omega
   refine(o.sl (v:=y) (by repeat(first|exact ajP|apply ajO))).at_ (n:=s.length) (by rw [l7,xE]) (by decide) (by omega) (by omega) fun p hp=>?_;rw [ajS] at hp;refine hp.field (f:=0) fun q hq=>?_;refine o.store hq (by repeat(first|exact ajP|apply ajO)) (by rw [l7,xE];omega) rfl (by repeat(first|exact bd.here|apply bd.there)) fun H3 o _=>?_;have e: ((s.take k).map nx++List.replicate (s.length - k) (nx 0)).set k (nx (s.getD k 0))= (s.take (k+1)).map nx++List.replicate (s.length - (k+1)) (nx 0):=by
    obtain⟨m,hm⟩: ∃m,s.length - k=m+1:= ⟨s.length - k - 1,by omega⟩;rw [hm,show s.length - (k+1)=m by omega,amK _ _ (by rw [aka,ajW];omega),aka,ajW,show k - min k s.length=0 by omega,List.replicate_succ,ak9,←xx NG,aky,ajT]
    rfl
   have Yp: ((s.take k).map nx++List.replicate (s.length - k) (nx 0)).getD k ⟨0,0,0⟩=nx 0:=by
    rw [ajX,akB (by rw [aka,ajW];omega),amg,if_pos (by rw [aka,ajW];omega)];rfl
   rw [akp] at o;have o:aw H H3 [.sl y 3 ((eu ((s.take k).map nx++List.replicate (s.length - k) (nx 0))).set (k*3) (cY (s.getD k 0)))]:=o;rw [DA _ _ _ (by omega),Yp] at o;have o:aw H H3 [.sl y 3 (eu (((s.take k).map nx++List.replicate (s.length - k) (nx 0)).set k (nx (s.getD k 0))))]:=o;rw [e] at o;rw [aC,bH (n:= (k:Int)+1) (by omega) (by omega)];exact⟨⟨k+1,rfl,by omega,o⟩,by show s.length - ((k:Int)+1).toNat<s.length - (k:Int).toNat;omega⟩
  ·have NG:k=s.length:=by omega
   rw [NG,aj8,ali,List.replicate_zero,akb] at o;exact h H2 y [] o
 ·rw [if_neg (by omega)] at h
  rw [lR];refine⟨by omega,by omega,?_⟩;rw [ajS,aj0];refine hG.loadAt (AX (by omega)) ?_;refine LQ (aw.start (H:=H)) hlen (Pg l) fun H1 fb f=>?_;have hT: (uM A++s).length≤1000000:=by rw [ajQ,aj1];omega
  rw [iU,show (decide ((4:Int)≤(l:Int)))=decide (4≤l) from by rw [decide_eq_decide];omega];exact GR f hT (by rw [ajQ];omega) fun H2 y L' o=>h H2 y L' o
end
section
set_option maxRecDepth 100000
theorem Fx: ∀ (s b:List UInt8),ja (s.map nx) b=some (b++s)
 | [],b=>by rw [akb];rfl
 |x::s,b=>by
  rw [akU,Dx,Fx s,ajT];rfl
theorem LS (A s:List UInt8) (l:Nat):ja (Dz A s l) A=some (A++s):=by
 unfold Dz
 by_cases h0:l=0
 ·rw [if_pos h0];exact Fx s A
 ·rw [if_neg h0]
  have h:=vL (T:=uM A++s) (dp:=uC l) (lazy:=decide (4≤l)) (uM A++s).length (uM A).length (by rw [ajQ];omega) (by omega);rw [amX] at h;have h2:=sM _ (A.take (A.length - 32768)) _ _ h;rw [show A.take (A.length - 32768)++uM A=A from akf _ _,←ajT,show A.take (A.length - 32768)++uM A=A from akf _ _] at h2;exact h2
theorem LU (A s:List UInt8) (l:Nat): (Dz A s l).length≤s.length:=by
 unfold Dz
 by_cases h0:l=0
 ·rw [if_pos h0,aka];exact ajR _
 ·rw [if_neg h0]
  have:=vM (T:=uM A++s) (dp:=uC l) (lazy:=decide (4≤l)) (uM A++s).length (uM A).length (by omega);rw [ajQ] at this ⊢;omega
theorem Pj (A s:List UInt8) (l:Nat): ∀t∈Dz A s l,jC t=true∧t.d≤32768:=by
 intro t ht;unfold Dz at ht
 by_cases h0:l=0
 ·rw [if_pos h0] at ht
  obtain⟨x,_,rfl⟩:=akn.1 ht;exact⟨Dv x,by show (0:Int)≤32768;decide⟩
 ·rw [if_neg h0] at ht
  exact xy _ _ t ht
end
end Go.Proofs.YtpcgccdmmoggmaaGreatDoor

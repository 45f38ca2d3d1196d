/- Part 6 of the proof of RowTopKeeps: what it is built on, in the order of its needs. -/
import Derived.Test.YtpcgccdmmoggmaaGreatDoorPqE
set_option linter.unusedSimpArgs false
set_option linter.unusedVariables false
namespace Go.Proofs.YtpcgccdmmoggmaaGreatDoor
open Go Go.Vc Go.Proofs
section
set_option maxRecDepth 100000
variable {H H0:ai} {R:Value→ai→Prop} {v fS:Value} {B:List Bool} {L M:List It} {b:Nat} {q:List Value} {W out:List UInt8}
theorem Rb {a b:Nat} (ha:a<4611686018427387904) (hb:b<4611686018427387904):bitsOf .xor .i64 (a:Int) (b:Int)= ((a ^^^ b:Nat):Int):=by
 have cF:a ^^^ b<2 ^ 62:=ahK (by simpa using ha) (by simpa using hb);have e: ((BitVec.ofInt 64 (a:Int)) ^^^ (BitVec.ofInt 64 (b:Int))).toNat=a ^^^ b:=by
  rw [ai8,agY,agY,agZ,agZ,agp (by omega),agp (by omega)]
 show IntKind.i64.wrap ((((BitVec.ofInt 64 (a:Int)) ^^^ (BitVec.ofInt 64 (b:Int))).toNat:Nat):Int)=_;rw [e,ba (by omega) (by omega)]
def Dd (fS:Value) (q:List Value):Prop:= ∃ (n:Nat) (last left sy di:Value),q= [i64 n,last,left,sy,di,fS,.int .i64 0]∧n<3∧aK last=true∧aK left=true∧aK sy=true∧aK di=true
def q8 (L:List It) (fS:Value) (s:St) (q:List Value):Prop:= ∃ (st last left sy di:Value),q= [st,last,left,sy,di,fS,.int .i64 0]∧aK last=true∧aK left=true∧aK sy=true∧aK di=true∧match s with
 | .hd=>st=i64 0
 | .cp n l=>st=i64 1∧last= .bool l∧left=i64 n
 | .tl zs zd l=>st=i64 2∧last= .bool l∧fe L zs sy∧fe L zd di
 | .dn=>st=i64 3
theorem q8.len {s:St} (h:q8 L fS s q):q.length=7:=by obtain⟨_,_,_,_,_,rfl,_⟩:=h;rfl
theorem Dd.len (h:Dd fS q):q.length=7:=by obtain⟨_,_,_,_,_,rfl,_⟩:=h;rfl
theorem q8.mono {L' :List It} {s:St} (h:q8 L fS s q) (hm: ∀i∈L,i∈L'):q8 L' fS s q:=by
 obtain⟨st,last,left,sy,di,h1,h2,h3,h4,h5,h6⟩:=h;refine⟨st,last,left,sy,di,h1,h2,h3,h4,h5,?_⟩
 cases s with
 |tl zs zd l=>exact⟨h6.1,h6.2.1,h6.2.2.1.mono hm,h6.2.2.2.mono hm⟩
 |_=>exact h6
theorem fe.one {zs:List Int} {p:Value} (h:fe L zs p):aK p=true:=by obtain⟨_,_,_,_,_,rfl,_⟩:=h;rfl
theorem Dc.pl {K:Value→Prop} {g:Nat} {x:Value} (d:Dc H0 H b q B W out L) (h7:7≤g) (hx:q[g - 7]? =some x) (hk:K x):ak H (at_ b g) K:=by
 obtain⟨bp,bv,rX,zh,w⟩:=d;refine w.pl (x:=x) (by omega) ?_ hk;obtain⟨j,rfl⟩: ∃j,g=j+7:= ⟨g - 7,by omega⟩;simp only [aif] at hx;rw [show j+7 - 5=j+1+1 by omega];exact hx
theorem Dc.ps {K:Value→ai→Prop} {g:Nat} {x:Value} (d:Dc H0 H b q B W out L) (h7:7≤g) (hg:g - 7<q.length) (hx:aK x=true) (hk: ∀H',Dc H0 H' b (q.set (g - 7) x) B W out L→K undef H'):aF H (at_ b g) x K:=by
 obtain⟨bp,bv,rX,zh,w⟩:=d;refine w.ps (by omega) (by simp;omega) hx fun H' w=>hk H' ⟨bp,bv,rX,zh,?_⟩;obtain⟨j,rfl⟩: ∃j,g=j+7:= ⟨g - 7,by omega⟩;rw [show j+7 - 5=j+1+1 by omega] at w;exact w
theorem Dc.rd (d:Dc H0 H b q B W out L): ∃ (post:List Value) (rv bv:Value) (ring:List UInt8),ar H0 H (lp b post 255 B:: .sl rv 1 (ring.map bX):: .aA (mW bv out)::L)∧∀H' C M,ar H0 H' (lp b post 255 C:: .sl rv 1 (ring.map bX):: .aA (mW bv out)::M)→Dc H0 H' b q C W out M:=by
 obtain⟨bp,bv,rX,zh,rv,ring,hr,hs,o⟩:=d;exact⟨_,rv,bv,ring,o,fun H' C M o=> ⟨bp,bv,rX,zh,rv,ring,hr,hs,o⟩⟩
theorem J8 {M:List It} {i j k:It} (o:ar H0 H (i:: (M++j::k::L))):ar H0 H (i::j::k:: (M++L)):=by
 refine o.perm (List.Perm.cons _ ?_);refine List.Perm.symm (aiE.trans (List.Perm.cons _ aiE))
theorem FO (d:Dc H0 H b q B W out L)
  (gl: ∀x C H',dY 32 (gQ B)= .ok x C→(x%65536) ^^^ (x/65536)=65535→Dc H0 H' b q C W out L→R (.tuple #[i64 (x%65536),.int .i64 0]) H')
  (nI: ∀x C H',dY 32 (gQ B)= .ok x C→(x%65536) ^^^ (x/65536)≠65535→Dc H0 H' b q C W out L→R (.tuple #[i64 (x%65536),.int .i64 8]) H')
  (lC: ∀H',dY 32 (gQ B)= .er 2→Dc H0 H' b q (gQ B) W out L→R (.tuple #[i64 0,.int .i64 2]) H'):ab 250 #[at_ b 0] H R:=by
 obtain⟨post,rv,bv,ring,o,back⟩:=d.rd;refine pw.vc _ _ _ ?_;refine vM (pF o (by repeat(first|exact af8|apply af7))) fun H1 w c=>?_;have o:=o.rd w c aV.here
 change ar H0 H1 (lp b post 255 (gQ B)::_) at o
 refine kN (n:=32) (by decide) o (fun x C H2 hx adz o=>?_) (fun hx=>?_)
 ·refine ag rfl ?_
  refine ag rfl ?_;have a1:=xm (v:=x) (k:=16) (m:=65535) (by decide) rfl;rw [show (2:Nat) ^ 16=65536 from rfl] at a1;have e1:bitsOf .xor .i64 ((x%65536:Nat):Int) ((x/65536:Nat):Int)= (((x%65536) ^^^ (x/65536):Nat):Int):=Rb (by omega) (by omega);refine⟨fun e H' =>H2=H' ∧e=if (x%65536) ^^^ (x/65536)≠65535 then .int .i64 8 else .int .i64 0,?_,?_⟩
  ·rintro _ _ _ ⟨rfl,rfl⟩
   rw [cd,a1]
   by_cases hb: (x%65536) ^^^ (x/65536)≠65535
   ·rw [if_pos hb];exact nI x C H2 hx hb (back _ _ _ o)
   ·rw [if_neg hb];exact gl x C H2 hx (Decidable.not_not.1 hb) (back _ _ _ o)
  ·rw [bc,decide_eq_true rfl]
   refine bB ?_;rw [cd,a1,kj];refine⟨by decide,?_⟩;rw [iX (m:=min (Int.toNat 16) IntKind.i64.bits) (j:=16) rfl,show (2:Nat) ^ 16=65536 from rfl,cd,e1,cA];intro _
   by_cases hb: (x%65536) ^^^ (x/65536)≠65535
   ·rw [decide_eq_true (by omega),aD,if_pos hb];exact⟨rfl,rfl⟩
   ·rw [decide_eq_false (by omega),aj,if_neg hb];exact⟨rfl,rfl⟩
 ·refine ag rfl ?_
  refine ag rfl ?_;refine⟨fun e H' =>H1=H' ∧e= .int .i64 2,?_,?_⟩
  ·rintro _ _ _ ⟨rfl,rfl⟩
   rw [cd];exact lC H1 hx (back _ _ _ o)
  ·rw [bc,decide_eq_false (by decide),cW]
   intro _;rw [aj];exact⟨rfl,rfl⟩
theorem IQ (hG:Reads H0 ⟨4,0,none⟩ ff) (hq:Dd fS q) (d:Dc H0 H b q B W out L)
  (gl: ∀st C H' M q',iY B= .ok st C→Dc H0 H' b q' C W out (M++L)→q8 (M++L) fS st q' →R (.int .i64 0) H')
  (lC: ∀e H' C q',iY B= .er e→e≠0→Dc H0 H' b q' C W out L→Dd fS q' →R (.int .i64 e) H'):ab 220 #[at_ b 0] H R:=by
 obtain⟨n,last,left,sy,di,rfl,Ts,P1,hle,w7,Bc⟩:=hq;generalize hT:iY B=T at*;unfold iY at hT;refine pr.vc _ _ _ ?_;rw [au,ae,al];obtain⟨post,rv,bv,ring,o,back⟩:=d.rd;refine kN (n:=3) (by decide) o (fun x C1 H1 hx q7 o=>?_) (fun hx=>?_)
 rotate_left
 ·rw [hx] at hT
  refine ag rfl ?_;refine ag rfl ?_;refine j4 (by decide) ?_;rw [aD];exact lC 2 H B _ hT.symm (by decide) d ⟨n,last,left,sy,di,rfl,Ts,P1,hle,w7,Bc⟩
 rw [hx] at hT
 dsimp only [Rs.bind] at hT
 have d:=back _ _ _ o;refine ag rfl ?_;refine ag rfl ?_;refine fH ?_;rw [aj];have N3:x<8:=q7;have a1:=xm (v:=x) (k:=1) (m:=1) (by decide) rfl;rw [show (2:Nat) ^ 1=2 from rfl] at a1;refine⟨fun e H' => ∃q' C M,Dc H0 H' b q' C W out (M++L)∧((e= .int .i64 0∧∀wh,∃st,wh= .bool (decide (x%2=1))→T= .ok st C∧q8 (M++L) fS st (q'.set 1 wh))∨(∃ev,e= .int .i64 ev∧T= .er ev∧ev≠0∧Dd fS q' ∧M= [])),?_,?_⟩
 ·rintro _ _ H2 ⟨q',C,M,d,hd⟩
  rw [cd,a1,bc,au,ae,al];have hl7:7=q'.length:=by
   rcases hd with ⟨_,h⟩ | ⟨ev,_,_,_,h,_⟩
   ·obtain⟨st,h⟩:=h (.bool (decide (x%2=1)))
    have:= (h rfl).2.len;rw [ag8] at this;exact this.symm
   ·exact h.len.symm
  refine d.ps (g:=0+8) (by decide) (by omega) rfl fun H3 d=>?_;have eb: (decide (((x%2:Nat):Int)=1))=decide (x%2=1):=by rw [ahm,decide_eq_true_eq,decide_eq_true_eq];omega
  rw [eb] at d;rcases hd with ⟨rfl,h⟩ | ⟨ev,rfl,h1,h2,h3,rfl⟩
  ·obtain⟨st,h⟩:=h (.bool (decide (x%2=1)))
   obtain⟨h1,h2⟩:=h rfl;exact gl st C H3 M _ h1 d h2
  ·refine lC ev H3 C _ h1 h2 d ?_
   obtain⟨n,last,left,sy,di,rfl,g1,g2,g3,g4,g5⟩:=h3;exact⟨n,_,left,sy,di,rfl,g1,rfl,g3,g4,g5⟩
 rw [kj];refine⟨by decide,?_⟩;rw [iX (m:=min (Int.toNat 1) IntKind.i64.bits) (j:=1) rfl,show (2:Nat) ^ 1=2 from rfl,bc];refine av (fun h0=>?_) (fun h0=>?_)
 ·rw [if_pos (by omega)] at hT
  rw [au,ae,al];have fin: ∀ (nv:Nat) (ev:Int) (C:List Bool) (H2:ai),Dc H0 H2 b [i64 n,last,left,sy,di,fS,.int .i64 0] C W out L→((ev=0∧T= .ok (.cp nv (decide (x%2=1))) C)∨(T= .er ev∧ev≠0))→
    aB (at_ b 0) fun PV=>aa 9 PV fun V7=>aF H2 V7 (i64 nv) fun _ Zf=>aB (at_ b 0) fun x30=>aa 7 x30 fun Zg=>aF Zf Zg (.int .i64 1) fun _ H_7=>
    (∃q' C M,Dc H0 H_7 b q' C W out (M++L)∧(((.int .i64 ev:Value)= .int .i64 0∧∀wh,∃st,wh= .bool (decide (x%2=1))→T= .ok st C∧q8 (M++L) fS st (q'.set 1 wh))∨(∃Zh,(.int .i64 ev:Value)= .int .i64 Zh ∧T= .er Zh ∧Zh ≠0∧Dd fS q' ∧M= []))):=by
   intro nv ev C H2 d hh;rw [au,ae,al];refine d.ps (g:=0+9) (by decide) (by simp) rfl fun H3 d=>?_;rw [au,ae,al];refine d.ps (g:=0+7) (by decide) (by simp) rfl fun H4 d=>?_;refine⟨_,C,[],d,?_⟩;rcases hh with ⟨rfl,h⟩ | ⟨h1,h2⟩
   ·exact .inl ⟨rfl,fun wh=> ⟨.cp nv (decide (x%2=1)),fun e=>by subst e;exact⟨h,_,_,_,_,_,rfl,rfl,rfl,w7,Bc,rfl,rfl,rfl⟩⟩⟩
   ·exact .inr ⟨ev,rfl,h1,h2,⟨1,last,i64 nv,sy,di,rfl,by decide,P1,rfl,w7,Bc⟩,rfl⟩
  refine FO d (fun y C H2 hy TE d=>?_) (fun y C H2 hy TE d=>?_) (fun H2 hy d=>?_)
  ·refine ag rfl ?_
   refine ag rfl ?_;rw [hy] at hT
   dsimp only [Rs.bind] at hT
   rw [if_neg (fun g=>g TE)] at hT;exact fin (y%65536) 0 C H2 d (.inl ⟨rfl,hT.symm⟩)
  ·refine ag rfl ?_
   refine ag rfl ?_;rw [hy] at hT
   dsimp only [Rs.bind] at hT
   rw [if_pos TE] at hT;exact fin (y%65536) 8 C H2 d (.inr ⟨hT.symm,by decide⟩)
  ·refine ag rfl ?_
   refine ag rfl ?_;rw [hy] at hT;exact fin 0 2 _ H2 d (.inr ⟨hT.symm,by decide⟩)
 rw [if_neg (by omega)] at hT;rw [bc];refine av (fun h1=>?_) (fun h1=>?_)
 ·rw [if_pos (by omega)] at hT
  refine Ik o fun H2 M p r hp hr o=>?_;have d:=back H2 C1 (M++L) (J8 o.mid|>fun o=>o.perm (by
   refine List.Perm.cons _ (List.Perm.cons _ ?_);exact aiK _))
  refine ag rfl ?_;refine ag rfl ?_;rw [au,ae,al];refine d.ps (g:=0+10) (by decide) (by simp) hp.one fun H3 d=>?_;rw [au,ae,al];refine d.ps (g:=0+11) (by decide) (by simp) hr.one fun H4 d=>?_;rw [au,ae,al];refine d.ps (g:=0+7) (by decide) (by simp) rfl fun H5 d=>?_;exact⟨_,C1,M,d,.inl ⟨rfl,fun wh=> ⟨.tl gw mg (decide (x%2=1)),fun e=>by subst e;exact⟨hT.symm,_,_,_,_,_,rfl,rfl,hle,hp.one,hr.one,rfl,rfl,hp.l_,hr.l_⟩⟩⟩⟩
 rw [if_neg (by omega)] at hT;rw [bc];refine av (fun h2=>?_) (fun h2=>?_)
 ·rw [if_pos (by omega)] at hT
  rw [au,ae,al];refine C_ hG o (fun p C H2 M y z hd hy hz o=>?_) (fun e C H2 y z hd he hy hz o=>?_)
  ·rw [hd] at hT
   dsimp only [Rs.bind] at hT
   have d:=back H2 C (M++L) (J8 o);refine ag rfl ?_;refine ag rfl ?_;refine ag rfl ?_;rw [au,ae,al];refine d.ps (g:=0+10) (by decide) (by simp) hy.one fun H3 d=>?_;rw [au,ae,al];refine d.ps (g:=0+11) (by decide) (by simp) hz.one fun H4 d=>?_;rw [au,ae,al];refine d.ps (g:=0+7) (by decide) (by simp) rfl fun H5 d=>?_;exact⟨_,C,M,d,.inl ⟨rfl,fun wh=> ⟨.tl p.1 p.2 (decide (x%2=1)),fun e=>by subst e;exact⟨hT.symm,_,_,_,_,_,rfl,rfl,hle,hy.one,hz.one,rfl,rfl,hy.l_,hz.l_⟩⟩⟩⟩
  ·rw [hd] at hT
   dsimp only [Rs.bind] at hT
   have d:=back H2 C L o;refine ag rfl ?_;refine ag rfl ?_;refine ag rfl ?_;rw [au,ae,al];refine d.ps (g:=0+10) (by decide) (by simp) hy fun H3 d=>?_;rw [au,ae,al];refine d.ps (g:=0+11) (by decide) (by simp) hz fun H4 d=>?_;rw [au,ae,al];refine d.ps (g:=0+7) (by decide) (by simp) rfl fun H5 d=>?_;exact⟨_,C,[],d,.inr ⟨e,rfl,hT.symm,he,⟨2,last,left,y,z,rfl,by decide,P1,hle,hy,hz⟩,rfl⟩⟩
 ·rw [if_neg (by omega)] at hT
  exact lC 3 H1 C1 _ hT.symm (by decide) d ⟨n,last,left,sy,di,rfl,Ts,P1,hle,w7,Bc⟩
end
section
set_option maxRecDepth 100000
variable {H H0:ai} {R:Value→ai→Prop} {v fS:Value} {B:List Bool} {L M:List It} {b:Nat} {q:List Value} {W out:List UInt8}
theorem zi {st left sy di:Value} {l:Bool} (h1:aK left=true) (h2:aK sy=true) (h3:aK di=true) (d:Dc H0 H b [st,.bool l,left,sy,di,fS,.int .i64 0] B W out L)
  (h: ∀H' q',Dc H0 H' b q' (ln l B W).B (ln l B W).W out L→q8 L fS (ln l B W).st q' →R (.tuple #[]) H'):ab 254 #[at_ b 0] H R:=by
 refine oG.vc _ _ _ ?_;rw [au,ae,al];refine d.ps (g:=0+7) (by decide) (by simp) rfl fun H1 d=>?_;rw [au,ae,al];refine d.pl (g:=0+8) (x:= .bool l) (by decide) rfl ?_
 cases l with
 |true=>
  rw [aD,au,ae,al];refine d.ps (g:=0+7) (by decide) (by simp) rfl fun H2 d=>?_;rw [au,ae,al];obtain⟨post,rv,bv,ring,o,back⟩:=d.rd;refine vM (pF o (by repeat(first|exact af8|apply af7))) fun H3 w c=>?_;have o:=o.rd w c aV.here;exact h H3 _ (back H3 (gQ B) L o) ⟨_,_,_,_,_,rfl,rfl,h1,h2,h3,rfl⟩
 |false=>
  rw [aj];exact h H1 _ d ⟨_,_,_,_,_,rfl,rfl,h1,h2,h3,rfl⟩
theorem uV {l:List Bool} {k:Nat} (h:l.length=8*k): (bG l).length=k:=j1 k l (by omega)
theorem FP {left:Nat} {last:Bool} (hq:q8 L fS (.cp left last) q) (hl:left≤65535) (kg:W.length+258*B.length≤1000000000000) (ho:out.length≤W.length) (d:Dc H0 H b q B W out L)
  (Bn: ∀D' o H' q',dg ⟨.cp left last,B,W⟩= .go D' o→Dc H0 H' b q' D'.B D'.W (out++o) L→q8 L fS D'.st q' →R (.int .i64 0) H')
  (XC: ∀D' o H' q',dg ⟨.cp left last,B,W⟩= .wait D' o→Dc H0 H' b q' D'.B D'.W (out++o) L→q8 L fS D'.st q' →R (.int .i64 2) H'):ab 221 #[at_ b 0] H R:=by
 obtain⟨_,_,_,sy,di,rfl,-,-,h4,h5,rfl,rfl,rfl⟩:=hq;have hq7: ([i64 1,.bool last,i64 left,sy,di,fS,.int .i64 0]:List Value).length=7:=rfl;have Cx:=qs B;refine nE.vc _ _ _ ?_;rw [au,ae,al,au,ae,al];refine d.pl (g:=0+9) (x:=i64 left) (by decide) rfl ?_;obtain⟨post,rv,bv,ring,o,back⟩:=d.rd;refine yJ (n:= (left:Int)) (by omega) (pF o (by repeat(first|exact af8|apply af7))) fun H1 k hk w c=>?_
 change k=min (left:Int).toNat ((B.length - B.length%8) /8) at hk
 rw [←Cx.2,af_] at hk
 change Rd H1 b 0 ((gQ B).drop (8*k)) at w
 change aB (at_ b 0) _
 rw [show List.drop (B.length%8) B=gQ B from rfl];have d:=back H1 _ L (o.rd w c aV.here);have fG:8*k≤(gQ B).length:=by omega
 have OH: (bG ((gQ B).take (8*k))).length=k:=uV (by rw [age];omega);rw [au,ae,al];refine d.pl (g:=0+9) (x:=i64 left) (by decide) rfl ?_;refine aJ ?_;rw [OH,aZ,show (left:Int) - (k:Int)= ((left - k:Nat):Int) by omega,ba (by omega) (by omega),au,ae,al];refine d.ps (g:=0+9) (by decide) (by simp) rfl fun H2 d=>?_;rw [au,ae,al];obtain⟨bp,bv,rX,zh,w⟩:=d;refine V5 w (by rw [OH];omega) fun H3 w=>?_;have d:Dc H0 H3 b _ _ _ out L:= ⟨bp,bv,rX,zh,w⟩;rw [au,ae,al];refine FM (by rfl) (by rw [OH];omega) d fun H4 d=>?_;rw [au,ae,al];refine d.pl (g:=0+9) (x:=i64 (left - k)) (by decide) rfl ?_;rw [a8];have e1:dg ⟨.cp left last,B,W⟩=if min left ((gQ B).length/8)<left then .wait ⟨.cp (left - min left ((gQ B).length/8)) last,(gQ B).drop (8*min left ((gQ B).length/8)),W++bG ((gQ B).take (8*min left ((gQ B).length/8)))⟩ (bG ((gQ B).take (8*min left ((gQ B).length/8))))
   else .go (ln last ((gQ B).drop (8*left)) (W++bG ((gQ B).take (8*left)))) (bG ((gQ B).take (8*left))):=rfl
 rw [←hk] at e1;refine av (fun hc=>?_) (fun hc=>?_)
 ·rw [if_pos (by omega)] at e1
  exact XC _ _ H4 _ e1 d ⟨_,_,_,_,_,rfl,rfl,rfl,h4,h5,rfl,rfl,rfl⟩
 ·have Uw:k=left:=by omega
  rw [if_neg (by omega)] at e1;rw [Uw] at d;refine zi (left:=i64 (left - left)) (sy:=sy) (di:=di) rfl h4 h5 d fun H5 q' d hs=>?_;exact Bn _ _ H5 _ e1 d hs
theorem zj: ∀k:Fin 29,3≤(lenOf (257+ ((k.val:Nat):Int))).1∧0≤(lenOf (257+ ((k.val:Nat):Int))).2∧(lenOf (257+ ((k.val:Nat):Int))).2≤5∧(lenOf (257+ ((k.val:Nat):Int))).1.toNat+2 ^ (lenOf (257+ ((k.val:Nat):Int))).2.toNat≤259:=by decide+kernel
theorem FQ: ∀k:Fin 30,1≤(bH ((k.val:Nat):Int)).1∧0≤(bH ((k.val:Nat):Int)).2∧(bH ((k.val:Nat):Int)).2≤13∧(bH ((k.val:Nat):Int)).1.toNat+2 ^ (bH ((k.val:Nat):Int)).2.toNat≤32769:=by decide+kernel
theorem zk {least n:Nat} (hn:n≤32) (hl:least≤100000) (d:Dc H0 H b q B W out L)
  (gl: ∀x C H',dY n B= .ok x C→x<2 ^ n→Dc H0 H' b q C W out L→R (.tuple #[i64 (least+x),.int .i64 0]) H')
  (lC:dY n B= .er 2→R (.tuple #[i64 least,.int .i64 2]) H):ab 280 #[at_ b 0,i64 least,i64 n,.bool true] H R:=by
 refine jn.vc _ _ _ _ _ _ ?_;rw [db,ahn,aj,au,ae,al];obtain⟨post,rv,bv,ring,o,back⟩:=d.rd;refine kN hn o (fun x C H1 hx XD o=>?_) (fun hx=>?_)
 ·refine ag rfl ?_
  refine ag rfl ?_;have:2 ^ n≤2 ^ 32:=agA (by decide) hn;rw [az,show (least:Int)+ (x:Int)= ((least+x:Nat):Int) by omega,ba (by omega) (by omega)];exact gl x C H1 hx XD (back _ _ _ o)
 ·refine ag rfl ?_
  refine ag rfl ?_;rw [az,Int.add_zero,ba (by omega) (by omega)];exact lC hx
theorem FR {x y:Int} (h:R (.tuple #[.int .i64 0,.int .i64 4]) H):ab 280 #[at_ b 0,.int .i64 x,.int .i64 y,.bool false] H R:=by
 refine jn.vc _ _ _ _ _ _ ?_;rw [db,ahG,aD];exact h
theorem FT {zd:List Int} {s:Nat} {st last left sy di e:Value} (hs:257≤s) (kg:W.length+258*B.length≤1000000000000) (hB:0<B.length∨W.length+258≤1000000000000) (ho:out.length≤W.length) (hc:fe L zd di) (d:Dc H0 H b [st,last,left,sy,di,fS,e] B W out L)
  (gl: ∀p C H',iv zd s B= .ok p C→1≤p.2∧p.2≤min W.length 32768→Dc H0 H' b [st,last,left,sy,di,fS,e] C (cU p.1 W p.2) (out++ (cU p.1 W p.2).drop W.length) L→R (.int .i64 0) H')
  (Zi: ∀p C H',iv zd s B= .ok p C→¬ (1≤p.2∧p.2≤min W.length 32768)→Dc H0 H' b [st,last,left,sy,di,fS,e] C W out L→R (.int .i64 6) H')
  (lC: ∀ev C H',iv zd s B= .er ev→ev≠0→Dc H0 H' b [st,last,left,sy,di,fS,e] C W out L→R (.int .i64 ev) H'):ab 256 #[at_ b 0,i64 s] H R:=by
 generalize hT:iv zd s B=T at*;unfold iv at hT;rcases ag6 285 s with V8|V8
 ·rw [if_pos V8] at hT
  refine jm.vc _ _ _ _ ?_;refine mf ?_;rw [if_pos (.inr (by omega))];refine ag rfl ?_;refine ag rfl ?_;refine ag rfl ?_;refine FR ?_;refine ag rfl ?_;refine ag rfl ?_;refine j4 (by decide) ?_;rw [aD];exact lC 4 B H hT.symm (by decide) d
 rw [if_neg (by omega)] at hT;refine jm.vc _ _ _ _ ?_;refine mf ?_;rw [if_neg (by omega)];refine ag rfl ?_;refine ag rfl ?_;refine ag rfl ?_;obtain⟨f1,f2,f3,f4⟩:=zj ⟨s - 257,by omega⟩;have es: (257:Int)+ ((s - 257:Nat):Int)= (s:Int):=by omega
 dsimp only at f1 f2 f3 f4
 rw [es] at f1 f2 f3 f4;have p5:0<2 ^ (lenOf (s:Int)).2.toNat:=Nat.pow_pos (by decide);obtain⟨l1,P3⟩: ∃l1:Nat,(lenOf (s:Int)).1=l1:= ⟨_,(ahv (by omega)).symm⟩;obtain⟨n1,xl⟩: ∃n1:Nat,(lenOf (s:Int)).2=n1:= ⟨_,(ahv (by omega)).symm⟩;rw [P3] at f1 f4;rw [xl] at f2 f3 f4 p5;rw [P3,xl] at hT ⊢;rw [af_,af_] at f4 hT;rw [af_] at p5;refine zk (least:=l1) (n:=n1) (by omega) (by omega) d (fun x C1 H1 hx kO d=>?_) (fun hx=>?_)
 rotate_left
 ·rw [hx] at hT
  refine ag rfl ?_;refine ag rfl ?_;refine j4 (by decide) ?_;rw [aD];exact lC 2 B H hT.symm (by decide) d
 rw [hx] at hT
 dsimp only [Rs.bind] at hT
 refine ag rfl ?_;refine ag rfl ?_;refine fH ?_;rw [aj,au,ae,al];refine d.pl (g:=0+11) (x:=di) (by decide) rfl ?_;rw [au,ae,al];obtain⟨post,rv,bv,ring,o,back⟩:=d.rd;refine rP hc.cons.cons o (fun k C2 H2 hk fG o=>?_) (fun ev H2 hk he o=>?_)
 rotate_left
 ·rw [hk] at hT
  dsimp only [Rs.bind] at hT
  refine ag rfl ?_;refine ag rfl ?_;refine j4 he ?_;rw [aD];exact lC ev C1 H2 hT.symm he (back _ _ _ o)
 rw [hk] at hT
 dsimp only [Rs.bind] at hT
 have d:=back H2 C2 L o;refine ag rfl ?_;refine ag rfl ?_;refine fH ?_;rw [aj];refine vN ?_;rcases ag6 29 k with h29|h29
 ·rw [if_pos h29] at hT
  rw [if_pos (.inr (by omega))];refine ag rfl ?_;refine ag rfl ?_;refine ag rfl ?_;refine FR ?_;refine ag rfl ?_;refine ag rfl ?_;refine j4 (by decide) ?_;rw [aD];exact lC 4 C2 H2 hT.symm (by decide) d
 rw [if_neg (by omega)] at hT;rw [if_neg (by omega)];refine ag rfl ?_;refine ag rfl ?_;refine ag rfl ?_;obtain⟨g1,g2,g3,g4⟩:=FQ ⟨k,by omega⟩
 dsimp only at g1 g2 g3 g4
 obtain⟨l2,Uz⟩: ∃l2:Nat,(bH (k:Int)).1=l2:= ⟨_,(ahv (by omega)).symm⟩;obtain⟨n2,Vs⟩: ∃n2:Nat,(bH (k:Int)).2=n2:= ⟨_,(ahv (by omega)).symm⟩;have p6:0<2 ^ (bH (k:Int)).2.toNat:=Nat.pow_pos (by decide);rw [Uz] at g1 g4;rw [Vs] at g2 g3 g4 p6;rw [Uz,Vs] at hT ⊢;rw [af_,af_] at g4 hT;rw [af_] at p6;refine zk (least:=l2) (n:=n2) (by omega) (by omega) d (fun y C3 H3 hy YA d=>?_) (fun hy=>?_)
 rotate_left
 ·rw [hy] at hT
  refine ag rfl ?_;refine ag rfl ?_;refine j4 (by decide) ?_;rw [aD];exact lC 2 C2 H2 hT.symm (by decide) d
 rw [hy] at hT
 dsimp only [Rs.bind] at hT
 refine ag rfl ?_;refine ag rfl ?_;refine fH ?_;rw [aj,au,ae,al];obtain⟨bp,bv,rX,zh,w⟩:=d;have CR:l1+x≤258:=by omega
 by_cases hd:1≤l2+y∧l2+y≤min W.length 32768
 ·refine TB w CR hd.1 hd.2 (by rcases hB with h|h<;>omega) fun H4 w=>?_
  refine ag rfl ?_;refine ag rfl ?_;rw [db,ahn,aj,au,ae,al];have dX:=qq (l1+x) W (l2+y);refine FM (by rfl) (by rw [agl,dX];rcases hB with h|h<;>omega) ⟨bp,bv,rX,zh,w⟩ fun H5 d=>?_;exact gl (l1+x,l2+y) C3 H5 hT.symm hd d
 ·refine LQ w CR (by omega) ?_
  refine ag rfl ?_;refine ag rfl ?_;rw [db,ahG,aD];exact Zi (l1+x,l2+y) C3 H3 hT.symm hd ⟨bp,bv,rX,zh,w⟩
theorem De {zs zd:List Int} {l:Bool} (hq:q8 L fS (.tl zs zd l) q) (kg:W.length+258*B.length≤1000000000000) (ho:out.length≤W.length) (d:Dc H0 H b q B W out L)
  (Bn: ∀D' o H' q',dg ⟨.tl zs zd l,B,W⟩= .go D' o→Dc H0 H' b q' D'.B D'.W (out++o) L→q8 L fS D'.st q' →R (.int .i64 0) H')
  (lC: ∀e C H',dg ⟨.tl zs zd l,B,W⟩=SR.of ⟨.tl zs zd l,B,W⟩ e→e≠0→Dc H0 H' b q C W out L→R (.int .i64 e) H'):ab 222 #[at_ b 0] H R:=by
 have Uv:=hq;obtain⟨_,_,left,sy,di,rfl,-,h3,h4,h5,rfl,rfl,vB,f_⟩:=hq;have e1:dg ⟨.tl zs zd l,B,W⟩=match fV zs B with
  | .er e=>SR.of ⟨.tl zs zd l,B,W⟩ e
  | .ok s B2=>if s=256 then .go (ln l B2 W) [] else if s<256 then .go ⟨.tl zs zd l,B2,W++ [UInt8.ofNat s]⟩ [UInt8.ofNat s] else match iv zd s B2 with
   | .er e=>SR.of ⟨.tl zs zd l,B,W⟩ e
   | .ok p B2=>if 1≤p.2∧p.2≤min W.length 32768 then .go ⟨.tl zs zd l,B2,cU p.1 W p.2⟩ ((cU p.1 W p.2).drop W.length) else .bad 6:=rfl
 refine nF.vc _ _ _ ?_;rw [au,ae,al];refine d.pl (g:=0+10) (x:=sy) (by decide) rfl ?_;rw [au,ae,al];obtain⟨post,rv,bv,ring,o,back⟩:=d.rd;refine rP vB.cons.cons o (fun s C1 H1 hs ik o=>?_) (fun ev H1 hs he o=>?_)
 rotate_left
 ·rw [hs] at e1
  refine ag rfl ?_;refine ag rfl ?_;refine j4 he ?_;rw [aD];exact lC ev B H1 e1 he (back _ _ _ o)
 have lF:=uM hs;rw [hs] at e1
 dsimp only at e1
 have d:=back H1 C1 L o;refine ag rfl ?_;refine ag rfl ?_;refine fH ?_;rw [aj,bc];refine av (fun tB=>?_) (fun tB=>?_)
 ·rw [if_pos (by omega)] at e1
  refine zi h3 h4 h5 d fun H2 q' d hs=>?_;exact Bn _ _ H2 _ e1 (by rw [agy];exact d) hs
 rw [if_neg (by omega)] at e1;rw [a8];refine av (fun PT=>?_) (fun PT=>?_)
 ·rw [if_neg (by omega)] at e1
  refine FT (by omega) (by omega) (.inr (by omega)) ho f_ d (fun p C H2 hm hp d=>?_) (fun p C H2 hm hp d=>?_) (fun ev C H2 hm he d=>?_)
  ·rw [hm] at e1
   dsimp only at e1
   rw [if_pos hp] at e1;exact Bn _ _ H2 _ e1 d Uv
  ·rw [hm] at e1
   dsimp only at e1
   rw [if_neg hp] at e1;refine lC 6 C H2 (by rw [e1];rfl) (by decide) d
  ·rw [hm] at e1
   exact lC ev C H2 e1 he d
 ·rw [if_pos (by omega)] at e1
  rw [au,ae,al];refine b7 ?_;have eb:Value.int .u8 (IntKind.u8.wrap (s:Int))=bX (UInt8.ofNat s):=by
   have:=sR (v:=s);rw [agp (by omega)] at this;exact this
  rw [eb];obtain⟨bp,bv,rX,zh,w⟩:=d;refine OB w (by omega) fun H2 w=>?_;rw [au,ae,al];refine b7 ?_;rw [eb];refine OF (by rfl) (by omega) ⟨bp,bv,rX,zh,w⟩ fun H3 d=>?_;exact Bn _ _ H3 _ e1 d Uv
end
section
set_option maxRecDepth 100000
variable {H H0:ai} {R:Value→ai→Prop} {v fS:Value} {B:List Bool} {L M:List It} {b:Nat} {q:List Value} {W out:List UInt8}
theorem q8.any {s:St} (h:q8 L fS s q) (hd:s.tf=false):Dd fS q:=by
 obtain⟨st,last,left,sy,di,rfl,h2,h3,h4,h5,h6⟩:=h
 cases s with
 |hd=>subst h6;exact⟨0,_,_,_,_,rfl,by decide,h2,h3,h4,h5⟩
 |cp n l=>obtain⟨rfl,rfl,rfl⟩:=h6;exact⟨1,_,_,_,_,rfl,by decide,h2,h3,h4,h5⟩
 |tl zs zd l=>obtain⟨rfl,rfl,_⟩:=h6;exact⟨2,_,_,_,_,rfl,by decide,h2,h3,h4,h5⟩
 |dn=>cases hd
theorem Df {a c:Nat} (h:i64 a=i64 c):a=c:=by
 simp only [Value.int.injEq,true_and] at h;omega
def mh:St→Prop
 | .cp n _=>n≤65535
 |_=>True
theorem Dc.items {v' :It} (d:Dc H0 H b q B W out (M++v' ::L)):Dc H0 H b q B W out (M++L):=by
 obtain⟨post,rv,bv,ring,o,back⟩:=d.rd;exact back H B _ (o.pick (List.Sublist.cons_cons _ (List.Sublist.cons_cons _ (List.Sublist.cons_cons _ (ahO (ahq M) (ag_ _ _))))))
theorem fe.uW {zs:List Int} {p:Value} {c:Nat} {cs:List Value} (h:fe (M++ .box c cs 250::L) zs p):fe (M++L) zs p:=by
 obtain⟨h1,cb,lv,wv,sv,h2,h3⟩:=h;refine⟨h1,cb,lv,wv,sv,h2,fun i hi=>?_⟩;rcases agv.1 (h3 i hi) with g|g
 ·exact ahJ _ g
 ·rcases ago.1 g with rfl|g
  ·simp only [qo,ago,List.not_mem_nil,or_false,It.box.injEq,reduceCtorEq,or_self] at hi
   exact absurd hi.2.2 (by decide)
  ·exact ahY _ g
theorem q8.uW {s:St} {c:Nat} {cs:List Value} (h:q8 (M++ .box c cs 250::L) fS s q):q8 (M++L) fS s q:=by
 obtain⟨st,last,left,sy,di,h1,h2,h3,h4,h5,h6⟩:=h;refine⟨st,last,left,sy,di,h1,h2,h3,h4,h5,?_⟩
 cases s with
 |tl zs zd l=>exact⟨h6.1,h6.2.1,h6.2.2.1.uW,h6.2.2.2.uW⟩
 |_=>exact h6
theorem IS {D:DM} (hG:Reads H0 ⟨4,0,none⟩ ff) (hq:q8 L fS D.st q) (hd:D.st.tf=false) (UL:mh D.st) (kg:D.W.length+258*D.B.length≤1000000000000) (ho:out.length≤D.W.length) (d:Dc H0 H b q D.B D.W out L)
  (Bn: ∀D' o H' M q',dg D= .go D' o→Dc H0 H' b q' D'.B D'.W (out++o) (M++L)→q8 (M++L) fS D'.st q' →R (.int .i64 0) H')
  (XC: ∀D' o H' q',dg D= .wait D' o→Dc H0 H' b q' D'.B D'.W (out++o) L→q8 L fS D'.st q' →R (.int .i64 2) H')
  (Ho: ∀e H' C q',dg D= .bad e→e≠0→e≠2→Dc H0 H' b q' C D.W out L→Dd fS q' →R (.int .i64 e) H'):ab 175 #[at_ b 0] H R:=by
 obtain⟨s,B,W⟩:=D
 dsimp only at hq hd UL kg ho d Ho
 have Zj:=hq.any hd;obtain⟨n0,last,left,sy,di,rfl,Ts,P1,hle,w7,Bc⟩:=Zj;refine pq.vc _ _ _ ?_;rw [au,ae,al];obtain⟨post,rv,bv,ring,o,back⟩:=d.rd;obtain⟨rest,acc,n,h1,hB,TF,TG,jh⟩:=o.aA (T:=Vz b post 255 B) (by repeat(first|exact af8|apply af7));have hR: ∀ {H' :ai},H'[b]? =H[b]? →Reads H' ⟨b,0,none⟩ [str rest,u64 acc,i64 n]:=fun {H'} he i x hx=>by
  have hs:= (kl.all (he.trans h1)).part (x:= []) (y:= [str rest,u64 acc,i64 n]) (z:=post);rw [al];have:=hs.cell (k:=i) hx
  simpa using this
 refine(hR rfl).fE (n:=3) rfl ?_;rw [au,ae,al];refine d.pl (g:=0+7) (x:=i64 n0) (by decide) rfl ?_;refine eW fun H1 s1 e1 b1=>?_;have Xk:=bq h1;have o1:=o.add (i:= .box H.size [.string ⟨#[]⟩,.int .u64 0,.int .i64 0] 250) e1 b1 (fun k hk=>by simp only [It.cN] at hk;omega);have o1:ar H0 H1 (lp b post 255 B:: .sl rv 1 (ring.map bX):: .aA (mW bv out):: .box H.size [.string ⟨#[]⟩,.int .u64 0,.int .i64 0] 250::L):=o1.eR (by repeat(first|exact bd.refl|exact bw.here|apply bd.cons|apply bw.there));have d1:=back H1 B _ o1;refine⟨(hR (e1.get b Xk)).fE (n:=3) rfl rfl,d1.pl (g:=0+7) (x:=i64 n0) (by decide) rfl rfl,?_⟩;have aa4:=o1;refine o1.br (b:=H.size) (vs:= [str rest,u64 acc,i64 n]) (by repeat(first|exact af8|apply af7)) rfl rfl rfl (by repeat(first|exact aV.here|apply aV.there)) fun H2 o2 _=>?_;have d2:=back H2 B _ o2;refine⟨d2.pl (g:=0+7) (x:=i64 n0) (by decide) rfl rfl,?_⟩;have hqb:q8 (.box H.size [str rest,u64 acc,i64 n] 250::L) fS s [i64 n0,last,left,sy,di,fS,.int .i64 0]:=hq.mono fun _=>af7 _;generalize Q5:It.box H.size [str rest,u64 acc,i64 n] 250=bx at*;refine⟨fun e H' => (e= .int .i64 0∧∃D' o M q',dg ⟨s,B,W⟩= .go D' o∧Dc H0 H' b q' D'.B D'.W (out++o) (M++bx::L)∧q8 (M++bx::L) fS D'.st q')∨
   (e= .int .i64 2∧dg ⟨s,B,W⟩= .wait ⟨s,B,W⟩ []∧∃C q',Dc H0 H' b q' C W out (bx::L)∧q8 L fS s (q'.set 0 (i64 n0)))∨
   (∃ev C q',e= .int .i64 ev∧ev≠0∧ev≠2∧dg ⟨s,B,W⟩= .bad ev∧Dc H0 H' b q' C W out (bx::L)∧Dd fS q'),?_,?_⟩
 ·rintro _ _ H3 (⟨rfl,D',o,M,q',hs,d,IT⟩ | ⟨rfl,hs,C,q',d,IT⟩ | ⟨ev,C,q',rfl,h0,h2,hs,d,IT⟩)
  ·rw [bc,decide_eq_false (by decide),aj]
   subst Q5;exact Bn D' o H3 M q' hs d.items IT.uW
  ·rw [bc,decide_eq_true rfl,aD]
   obtain⟨post,rv,bv,ring,o,back⟩:=d.rd;refine o.bf (b:=H.size) (cs:= [str rest,u64 acc,i64 n]) (t:=250) (n:=3) (by subst Q5;repeat(first|exact af8|apply af7)) rfl ?_;rw [au,ae,al];refine o.p3s (B' :=B) aV.here hB TF TG jh fun H4 o _=>?_;have d:=back H4 B _ o;rw [au,ae,al];have hl:=IT.len;rw [ag8] at hl;refine d.ps (g:=0+7) (by decide) (by omega) rfl fun H5 d=>?_;exact XC _ [] H5 _ hs (by rw [agy];exact Dc.items (M:= []) d) IT
  ·rw [bc,decide_eq_false h2,aj]
   exact Ho ev H3 C q' hs h0 h2 (Dc.items (M:= []) d) IT
 ·have bad: ∀ {e:Int},e≠0→e≠2→dg ⟨s,B,W⟩=SR.of ⟨s,B,W⟩ e→dg ⟨s,B,W⟩= .bad e:=fun _ h hh=>by rw [hh];unfold SR.of;rw [if_neg h]
  have wt: ∀ {e:Int},e=2→dg ⟨s,B,W⟩=SR.of ⟨s,B,W⟩ e→dg ⟨s,B,W⟩= .wait ⟨s,B,W⟩ []:=fun h hh=>by rw [hh];unfold SR.of;rw [if_pos h]
  rw [au,ae,al];refine d2.pl (g:=0+7) (x:=i64 n0) (by decide) rfl ?_
  cases s with
  |hd=>
   have Bg:n0=0:=by obtain⟨_,_,_,_,_,J9,_,_,_,_,jM⟩:=hq;exact Df ((ajh J9).1.trans jM)
   subst Bg;rw [bc,decide_eq_true (p:= ((0:Nat):Int)=0) rfl,aD];refine IQ hG ⟨0,last,left,sy,di,rfl,by decide,P1,hle,w7,Bc⟩ d2 (fun st C H3 M q' hh d hs=>?_) (fun e H3 C q' hh he d hs=>?_)
   ·exact .inl ⟨rfl,⟨st,C,W⟩,[],M,q',by unfold dg;rw [hh],by rw [agy];exact d,hs⟩
   ·have jM:dg ⟨.hd,B,W⟩=SR.of ⟨.hd,B,W⟩ e:=by conv=>lhs;unfold dg;rw [hh]
    by_cases h2:e=2
    ·refine .inr (.inl ⟨by rw [h2],wt h2 jM,C,q',d,?_⟩)
     obtain⟨n',last,left,sy,di,rfl,g1,g2,g3,g4,g5⟩:=hs;exact⟨_,_,_,_,_,rfl,g2,g3,g4,g5,rfl⟩
    ·exact .inr (.inr ⟨e,C,q',rfl,he,h2,bad he h2 jM,d,hs⟩)
  |cp nl l=>
   have Bg:n0=1:=by obtain⟨_,_,_,_,_,J9,_,_,_,_,jM,_⟩:=hq;exact Df ((ajh J9).1.trans jM)
   subst Bg;rw [bc,decide_eq_false (by decide),aj,bc,decide_eq_true (p:= ((1:Nat):Int)=1) rfl,aD];refine FP hqb UL kg ho d2 (fun D' o H3 q' hh d hs=>?_) (fun D' o H3 q' hh d hs=>?_)
   ·subst Q5;exact Bn D' o H3 [] q' hh (Dc.items (M:= []) d) (q8.uW (M:= []) hs)
   ·subst Q5;exact XC D' o H3 q' hh (Dc.items (M:= []) d) (q8.uW (M:= []) hs)
  |tl zs zd l=>
   have Bg:n0=2:=by obtain⟨_,_,_,_,_,J9,_,_,_,_,jM,_⟩:=hq;exact Df ((ajh J9).1.trans jM)
   subst Bg;rw [bc,decide_eq_false (by decide),aj,bc,decide_eq_false (by decide),aj,bc,decide_eq_true (p:= ((2:Nat):Int)=2) rfl,aD];refine De hqb kg ho d2 (fun D' o H3 q' hh d hs=>?_) (fun e C H3 hh he d=>?_)
   ·exact .inl ⟨rfl,D',o,[],q',hh,d,hs⟩
   ·by_cases h2:e=2
    ·exact .inr (.inl ⟨by rw [h2],wt h2 hh,C,_,d,hq⟩)
    ·exact .inr (.inr ⟨e,C,_,rfl,he,h2,bad he h2 hh,d,hq.any rfl⟩)
  |dn=>cases hd
end
section
set_option maxRecDepth 100000
variable {H H0:ai} {R:Value→ai→Prop} {v fS:Value} {B:List Bool} {L M:List It} {b:Nat} {q:List Value} {W out:List UInt8}
theorem Dg (k:Nat) (all:List UInt8) (d:Nat):cU k all d=all++ (cU k all d).drop all.length:=by
 have:=Ie k all d
 conv=>lhs;rw [←agE all.length (cU k all d),this]
theorem Dh {di:List Int} {s:Nat} {p:Nat × Nat} {C:List Bool} (hs:257≤s) (h:iv di s B= .ok p C):p.1≤258:=by
 unfold iv at h
 split at h
 ·cases h
 ·obtain⟨f1,f2,f3,f4⟩:=zj ⟨s - 257,by omega⟩
  have es: (257:Int)+ ((s - 257:Nat):Int)= (s:Int):=by omega
  dsimp only at f1 f2 f3 f4
  rw [es] at f1 f2 f3 f4
  cases hx:dY (lenOf (s:Int)).2.toNat B with
  |er e=>rw [hx] at h;cases h
  |ok x C1=>
   rw [hx] at h;obtain⟨g1,g2,g3⟩:=NT hx;have cF:=sP (B.take (lenOf (s:Int)).2.toNat);rw [age,ag2 g1,←g2] at cF
   dsimp only [Rs.bind] at h
   cases hk:fV di C1 with
   |er e=>rw [hk] at h;cases h
   |ok k C2=>
    rw [hk] at h
    dsimp only at h
    split at h
    ·cases h
    ·cases hy:dY (bH (k:Int)).2.toNat C2 with
     |er e=>rw [hy] at h;cases h
     |ok y C3=>
      rw [hy] at h
      cases h
      dsimp only
      omega
theorem IU {st:St} {C:List Bool} (h:iY B= .ok st C):mh st:=by
 have: (iY B).QM mh:=by
  unfold iY;refine Rs.QM.bind fun v B=>?_
  split
  ·refine Rs.QM.bind fun x B=>?_
   split
   ·exact NX
   ·exact Ii (by show x%65536≤65535;omega)
  split
  ·exact Ii trivial
  split
  ·exact Rs.QM.bind fun p B=>Ii trivial
  ·exact NX
 rw [h] at this;exact this.h
theorem OI (l:Bool) (B:List Bool) (W:List UInt8): (ln l B W).W=W∧mh (ln l B W).st∧(ln l B W).B.length≤B.length:=by
 have:=qs B
 cases l
 ·exact⟨rfl,trivial,aga _⟩
 ·exact⟨rfl,trivial,this.1⟩
theorem zm {D D' :DM} {o:List UInt8} (hl:mh D.st) (h:dg D= .go D' o∨dg D= .wait D' o):D'.W=D.W++o∧D'.W.length+258*D'.B.length≤D.W.length+258*D.B.length∧mh D'.st:=by
 obtain⟨st,B,W⟩:=D;unfold dg at h
 cases st with
 |hd=>
  dsimp only at h
  split at h
  ·rename_i st C hh
   rcases h with h|h<;>cases h
   have:=vP hh;exact⟨by simp,by dsimp only;omega,IU hh⟩
  ·unfold SR.of at h
   split at h<;>rcases h with h|h<;>cases h
   exact⟨by simp,aga _,trivial⟩
 |cp left last=>
  dsimp only at h hl ⊢
  have Cx:=qs B
  split at h
  ·rcases h with h|h<;>cases h
   refine⟨rfl,?_,?_⟩
   ·dsimp only
    rw [af9,uV (k:=min left ((gQ B).length/8)) (by rw [age];omega),agl];omega
   ·show left - _≤65535
    have:left≤65535:=hl;omega
  ·rcases h with h|h<;>cases h
   obtain⟨e1,e2,e3⟩:=OI last ((gQ B).drop (8*left)) (W++bG ((gQ B).take (8*left)));refine⟨e1,?_,e2⟩;rw [e1,af9,uV (k:=left) (by rw [age];omega)];rw [agl] at e3;omega
 |tl sy di last=>
  dsimp only at h ⊢
  split at h
  ·unfold SR.of at h
   split at h<;>rcases h with h|h<;>cases h
   exact⟨by simp,aga _,trivial⟩
  ·rename_i s C hn
   have h1:=uM hn
   split at h
   ·rcases h with h|h<;>cases h
    obtain⟨e1,e2,e3⟩:=OI last C W;exact⟨by rw [e1];simp,by rw [e1];omega,e2⟩
   split at h
   ·rcases h with h|h<;>cases h
    exact⟨rfl,by dsimp only;rw [af9,aii];omega,trivial⟩
   ·split at h
    ·unfold SR.of at h
     split at h<;>rcases h with h|h<;>cases h
     exact⟨by simp,aga _,trivial⟩
    ·rename_i p E hm
     have h2:=vQ (di:=di) (s:=s) (B:=C);rw [hm] at h2;have h2:E.length≤C.length:=h2.h;have h3:=Dh (by omega) hm
     split at h<;>rcases h with h|h<;>cases h
     exact⟨Dg _ _ _,by dsimp only;rw [qq];omega,trivial⟩
 |dn=>
  rcases h with h|h<;>cases h
  exact⟨by simp,aga _,trivial⟩
def zn (b:Nat) (H:ai):Nat:=match H[b]? with
 |some (.cells cs _ _)=> (match cs[0]?,cs[2]?,cs[7]? with
  |some (Value.string s),some (Value.int _ n),some (Value.int _ st)=>2* (8* (fL s).length+n.toNat)+ (if st=1 then 1 else 0)
  |_,_,_=>0)
 |_=>0
theorem wi {s:St} (d:Dc H0 H b q B W out L) (hq:q8 L fS s q):zn b H=nN ⟨s,B,W⟩:=by
 obtain⟨st,last,left,sy,di,rfl,-,-,-,-,h6⟩:=hq;obtain⟨bp,bv,rX,zh,rv,ring,hr,hs,o⟩:=d;obtain⟨rest,acc,n,h1,h2,-⟩:=o.aA (T:=Vz b _ 255 B) (by repeat(first|exact af8|apply af7));unfold zn nN;have hlen:B.length=n+8*rest.length:=by rw [h2,af9,aR,bA]
 rw [h1]
 cases s with
 |hd=>subst h6;simp only [agO,agB,agI,bu,af_];rw [if_neg (show ¬ ((0:Nat):Int)=1 by decide)];omega
 |cp n l=>obtain⟨rfl,-⟩:=h6;simp only [agO,agB,agI,bu,af_];rw [if_pos (show ((1:Nat):Int)=1 by decide)];omega
 |tl zs zd l=>obtain⟨rfl,-⟩:=h6;simp only [agO,agB,agI,bu,af_];rw [if_neg (show ¬ ((2:Nat):Int)=1 by decide)];omega
 |dn=>subst h6;simp only [agO,agB,agI,bu,af_];rw [if_neg (show ¬ ((3:Nat):Int)=1 by decide)];omega
def tC (H0 H:ai) (b:Nat) (D:DM) (fS:Nat) (L:List It):Prop:= ∃q,q8 L (i64 fS) D.st q∧Idle H0 H b q D.B D.W L
def Sh (H0 H:ai) (b:Nat) (W:List UInt8) (fS:Nat) (e:Int) (L:List It):Prop:= ∃ (n:Nat) (last left sy di:Value) (C:List Bool),n<3∧Idle H0 H b [i64 n,last,left,sy,di,i64 fS,.int .i64 e] C W L∧aK last=true∧aK left=true∧aK sy=true∧aK di=true
theorem Idle.pl {K:Value→Prop} {g:Nat} {x:Value} (d:Idle H0 H b q B W L) (h7:7≤g) (hx:q[g - 7]? =some x) (hk:K x):ak H (at_ b g) K:=by
 obtain⟨bp,bv,rX,zh,w⟩:=d;refine w.pl (x:=x) (by omega) ?_ hk;obtain⟨j,rfl⟩: ∃j,g=j+7:= ⟨g - 7,by omega⟩;simp only [aif] at hx;rw [show j+7 - 5=j+1+1 by omega];exact hx
theorem Idle.ps {K:Value→ai→Prop} {g:Nat} {x:Value} (d:Idle H0 H b q B W L) (h7:7≤g) (hg:g - 7<q.length) (hx:aK x=true) (hk: ∀H',Idle H0 H' b (q.set (g - 7) x) B W L→K undef H'):aF H (at_ b g) x K:=by
 obtain⟨bp,bv,rX,zh,w⟩:=d;refine w.ps (by omega) (by simp;omega) hx fun H' w=>hk H' ⟨bp,bv,rX,zh,?_⟩;obtain⟨j,rfl⟩: ∃j,g=j+7:= ⟨g - 7,by omega⟩;rw [show j+7 - 5=j+1+1 by omega] at w;exact w
theorem Idle.rd (d:Idle H0 H b q B W L): ∃ (post:List Value) (rv:Value) (ring:List UInt8),ar H0 H (lp b post 255 B:: .sl rv 1 (ring.map bX)::L)∧∀H' C M,ar H0 H' (lp b post 255 C:: .sl rv 1 (ring.map bX)::M)→Idle H0 H' b q C W M:=by
 obtain⟨bp,bv,rX,zh,rv,ring,hr,hs,o⟩:=d;exact⟨_,rv,ring,o,fun H' C M o=> ⟨bp,bv,rX,zh,rv,ring,hr,hs,o⟩⟩
theorem LS (o:ar H0 H L) (h: ∀H' b,tC H0 H' b ⟨.hd,[],[]⟩ 0 L→R (at_ b 0) H'):ab 123 #[] H R:=by
 refine EO.vc _ _ ?_;rw [bz];refine eW fun H1 s1 e1 b1=>?_;have o1:=o.Lh;have o1:=o1.add (i:=lp H.size [.slice none 0 0,i64 0,.pointer none,.slice none 0 0,i64 0,.bool false,.int .i64 0,.pointer none,.pointer none,i64 0,.int .i64 0] 255 []) e1 ⟨[],0,0,b1,rfl,by decide,by decide,by decide⟩ (fun k hk=>by
  have hk:k=H.size:=hk;omega)
 refine h H1 H.size ⟨[i64 0,.bool false,.int .i64 0,.pointer none,.pointer none,i64 0,.int .i64 0],⟨_,_,_,_,_,rfl,rfl,rfl,rfl,rfl,rfl⟩,.pointer none,.slice none 0 0,rfl,rfl,.slice none 0 0,[],⟨rfl,fun i hi=>by simp at hi⟩,by simp,o1⟩
theorem IV {s:List UInt8} {D:DM} {fS:Nat} (hG:Reads H0 ⟨4,0,none⟩ ff) (r:tC H0 H b D fS L) (hl:mh D.st) (kg:D.W.length+258* (D.B.length+8*s.length)≤1000000000000) (adD:fS+s.length≤1000000000000)
  (gl: ∀o D' H' M,run (D.add (toBits s))= (o,D',0)→tC H0 H' b D' (fS+s.length) (M++L)→R (.tuple #[str o,.int .i64 0]) H')
  (lC: ∀o D' e H' M,run (D.add (toBits s))= (o,D',e)→e≠0→Sh H0 H' b D'.W (fS+s.length) e (M++L)→R (.tuple #[str o,.int .i64 e]) H'):ab 124 #[at_ b 0,str s] H R:=by
 obtain⟨q,hq,d⟩:=r;have hq7:=hq.len;have Uv:=hq;obtain⟨st,last,left,sy,di,rfl,q2,q3,q4,q5,q6⟩:=Uv;refine ph.vc _ _ _ _ ?_;rw [cB,aj,au,ae,al];refine d.pl (g:=0+13) (x:= .int .i64 0) (by decide) rfl ?_;refine fH ?_;rw [aj,au,ae,al];obtain⟨post,rv,ring,o,back⟩:=d.rd;refine Ia (pF o (by repeat(first|exact af8|apply af7))) (by omega) fun H1 w c=>?_;have d:=back H1 _ L (o.rd w c aV.here);rw [au,ae,al];refine d.pl (g:=0+12) (x:=i64 fS) (by decide) rfl ?_;refine aJ ?_;rw [az,show (fS:Int)+ (s.length:Int)= ((fS+s.length:Nat):Int) by omega,ba (by omega) (by omega),au,ae,al];refine d.ps (g:=0+12) (by decide) (by simp) rfl fun H2 d=>?_;rw [au,ae,al];refine Ra rfl d fun H3 d=>?_;have UN:q8 L (i64 (fS+s.length)) D.st [st,last,left,sy,di,i64 (fS+s.length),.int .i64 0]:= ⟨_,_,_,_,_,rfl,q2,q3,q4,q5,q6⟩
 change Dc H0 H3 b [st,last,left,sy,di,i64 (fS+s.length),.int .i64 0] (D.B++toBits s) D.W [] L at d
 generalize NS:fS+s.length=fd at*;generalize fY:run (D.add (toBits s))=T at*;have Zk:D.W.length+258* (D.B++toBits s).length≤1000000000000:=by rw [af9,bA];exact kg
 refine⟨fun H' => ∃o D' M q',T= (o,D',0)∧o.length≤1000000000000∧Dc H0 H' b q' D'.B D'.W o (M++L)∧q8 (M++L) (i64 fd) D'.st q',?_,?_⟩
 ·rintro _ H4 ⟨o,D',M,q',hT,Hu,d,IT⟩
  rw [au,ae,al];refine FN IT.len (by omega) d fun H5 d=>?_;exact gl o D' H5 M hT ⟨q',IT,d⟩
 refine⟨fun H' => ∃o D1 M q',T= (o++ (run D1).1,(run D1).2)∧Dc H0 H' b q' D1.B D1.W o (M++L)∧q8 (M++L) (i64 fd) D1.st q' ∧mh D1.st∧D1.W.length+258*D1.B.length≤1000000000000∧o.length≤D1.W.length,zn b,⟨[],D.add (toBits s),[],_,by rw [fY,agn],d,UN,hl,Zk,by simp⟩,?_⟩;rintro _ H4 ⟨o,D1,M,q',hT,d,IT,P3,Zl,ho⟩;have hm:=wi d IT;rw [au,ae,al];obtain⟨stv,aa7,aa8,sy1,di1,rfl,p2,p3,p4,p5,p6⟩:=id IT;refine d.pl (g:=0+7) (x:=stv) (by decide) rfl ?_
 cases lE:D1.st.tf with
 |true=>
  have Zm :D1.st= .dn:=by cases hs:D1.st<;>rw [hs] at lE<;>first|rfl|cases lE
  rw [Zm] at p6;subst p6;rw [cA,decide_eq_false (by decide),aj];refine⟨o,D1,M,_,?_,by omega,d,IT⟩;rw [hT,NW lE,agy]
 |false=>
  have jM: ∃n:Nat,stv=i64 n∧n<3:=by
   obtain⟨n,_,_,_,_,he,hn,_⟩:=IT.any lE;exact⟨n,(ajh he).1,hn⟩
  obtain⟨n,rfl,hn⟩:=jM;rw [cA,decide_eq_true (by omega),aD];refine IS hG IT lE P3 Zl ho d (fun D2 o2 H5 M2 q2 hs d2 GX=>?_) (fun D2 o2 H5 q2 hs d2 GX=>?_) (fun e H5 C q2 hs h0 h2 d2 GX=>?_)
  ·rw [bc,decide_eq_false (by decide),aj]
   refine fH ?_;rw [aj];have hinv:=zm P3 (.inl hs);have Lb:=wi d2 GX;refine⟨⟨o++o2,D2,M2++M,q2,by rw [hT,NU hs,agc],by rw [agc];exact d2,by rw [agc];exact GX,hinv.2.2,by omega,by rw [hinv.1,af9,af9];omega⟩,?_⟩;rw [hm,Lb];exact uN hs
  ·rw [bc,decide_eq_true rfl,aD]
   have hinv:=zm P3 (.inr hs);exact⟨o++o2,D2,M,q2,by rw [hT,NV lE hs],by have:=congrArg List.length hinv.1;rw [af9] at this;rw [af9];omega,d2,GX⟩
  ·rw [bc,decide_eq_false h2,aj]
   refine j4 h0 ?_;rw [aD,au,ae,al];obtain⟨n',V9,V_,sy2,di2,rfl,g1,g2,g3,g4,g5⟩:=GX;refine d2.ps (g:=0+13) (by decide) (by simp) rfl fun H6 d2=>?_;rw [au,ae,al];refine FN rfl (by omega) d2 fun H7 d2=>?_;exact lC o D1 e H7 M (by rw [hT,QL lE hs,agy]) h0 ⟨n',V9,V_,sy2,di2,C,g1,d2,g2,g3,g4,g5⟩
end
section
set_option maxRecDepth 100000
variable {H H0:ai} {R:Value→ai→Prop} {v:Value} {B:List Bool} {L M:List It} {b fS:Nat} {q:List Value} {W out:List UInt8} {D:DM}
theorem zo (r:tC H0 H b D fS L) (h:R (.bool D.st.tf) H):ab 125 #[at_ b 0] H R:=by
 obtain⟨q,hq,d⟩:=r;refine pj.vc _ _ _ ?_;rw [rn];refine bB ?_;rw [au,ae,al];obtain⟨st,last,left,sy,di,rfl,-,-,-,-,h6⟩:=hq;refine d.pl (g:=0+7) (x:=st) (by decide) rfl ?_
 cases hs:D.st with
 |hd=>rw [hs] at h h6;subst h6;rw [bc];intro _;exact h
 |cp n l=>rw [hs] at h h6;obtain⟨rfl,-⟩:=h6;rw [bc];intro _;exact h
 |tl zs zd l=>rw [hs] at h h6;obtain⟨rfl,-⟩:=h6;rw [bc];intro _;exact h
 |dn=>rw [hs] at h h6;subst h6;rw [bc];intro _;exact h
theorem tC.more {H' :ai} (r:tC H0 H b D fS L) (hx:Ext H H'):tC H0 H' b D fS L:=by
 obtain⟨q,hq,d⟩:=r;obtain⟨post,rv,ring,o,back⟩:=d.rd;exact⟨q,hq,back H' _ L (o.more hx)⟩
theorem IW (r:tC H0 H b D fS L) (hn:D.st.tf=true) (h: ∀H',Ext H H' →R (str (bG ((gQ D.B).take (8* (D.B.length/8))))) H'):ab 126 #[at_ b 0] H R:=by
 obtain⟨q,hq,d⟩:=id r;obtain⟨post,rv,ring,o,back⟩:=d.rd;refine pn.vc _ _ _ ?_;refine zo r ?_;rw [hn,db,ahn,aj,au,ae,al];refine o.p3 (by repeat(first|exact af8|apply af7)) fun rest acc n hB TF TG jh=>?_;refine(ar.start (H:=H)).box fun c H1 oc hc=>?_
 change ar H H1 [.box c [str [],.int .u64 0,.int .i64 0] _] at oc
 refine oc.br (vs:= [str rest,u64 acc,i64 n]) (by repeat(first|exact af8|apply af7)) rfl rfl rfl (by repeat(first|exact aV.here|apply aV.there)) fun H2 oc _=>?_;have PK:Rd H2 c 0 D.B:= ⟨⟨rest,acc,n,kl.all (oc.fZ (by repeat(first|exact af8|apply af7))),hB,TF,TG⟩,jh⟩;have kO:=oc.ext;refine nK PK ?_;rw [ug];refine⟨by decide,?_⟩;rw [aix (by omega),show ((D.B.length:Nat):Int) /8= ((D.B.length/8:Nat):Int) by omega,ba (by omega) (by omega)];refine yJ (by omega) PK fun H3 k hk w cg=>?_;rw [af_] at hk;have Ap:k=D.B.length/8:=by omega
 subst Ap;refine h H3 ?_;have:=cg.ext kO (by omega) (fun _ h=>h.elim);exact this.1
theorem BP {s:List UInt8} (hG:Reads H0 ⟨4,0,none⟩ ff) (o:ar H0 H L) (hs:s.length≤100000000)
  (lE: ∀o D' H',run ⟨.hd,toBits s,[]⟩= (o,D',0)→D'.st.tf=true→Ext H0 H' →R (.tuple #[str o,str (bG ((gQ D'.B).take (8* (D'.B.length/8)))),.int .i64 0]) H')
  (Wa: ∀o D' H',run ⟨.hd,toBits s,[]⟩= (o,D',0)→D'.st.tf=false→Ext H0 H' →R (.tuple #[str [],str [],.int .i64 2]) H')
  (lC: ∀o D' e H',run ⟨.hd,toBits s,[]⟩= (o,D',e)→e≠0→Ext H0 H' →R (.tuple #[str [],str [],.int .i64 e]) H'):ab 71 #[str s] H R:=by
 refine EN.vc _ _ _ ?_;refine LS o fun H1 b r=>?_;refine IV hG r trivial (by simp;omega) (by omega) (fun o D' H2 M hr r=>?_) (fun o D' e H2 M hr he d=>?_)
 ·refine ag rfl ?_
  refine ag rfl ?_;refine fH ?_;rw [aj];refine zo r ?_;have hx:Ext H0 H2:=by obtain⟨q,_,bp,bv,_,_,rv,ring,_,_,o⟩:=r;exact o.ext
  cases hd:D'.st.tf with
  |true=>
   rw [db,ahn,aj];exact IW r hd fun H3 q7=>lE o D' H3 hr hd (hx.trans q7)
  |false=>
   rw [db,ahG,aD];exact Wa o D' H2 hr hd hx
 ·refine ag rfl ?_
  refine ag rfl ?_;refine j4 he ?_;rw [aD];have hx:Ext H0 H2:=by obtain⟨_,_,_,_,_,_,_,⟨bp,bv,_,_,rv,ring,_,_,o⟩,_⟩:=d;exact o.ext
  exact lC o D' e H2 hr he hx
end
section
set_option maxRecDepth 100000
variable {H H0:ai} {R:Value→ai→Prop} {v:Value} {B:List Bool} {L M:List It} {b fS:Nat} {q:List Value} {W out:List UInt8} {D:DM} {e:Int}
def OJ (H0 H:ai) (b:Nat) (D:DM) (fS:Nat) (e:Int) (L:List It):Prop:= (e=0∧tC H0 H b D fS L)∨(e≠0∧Sh H0 H b D.W fS e L)
theorem OJ.ext (a:OJ H0 H b D fS e L):Ext H0 H:=by
 rcases a with ⟨_,q,_,bp,bv,_,_,rv,ring,_,_,o⟩ | ⟨_,_,_,_,_,_,_,_,⟨bp,bv,_,_,rv,ring,_,_,o⟩,_⟩<;>exact o.ext
theorem OJ.more {H' :ai} (a:OJ H0 H b D fS e L) (hx:Ext H H'):OJ H0 H' b D fS e L:=by
 rcases a with ⟨h,r⟩ | ⟨h,n,la,le,sy,di,C,hn,d,g⟩
 ·exact .inl ⟨h,r.more hx⟩
 ·obtain⟨post,rv,ring,o,back⟩:=d.rd
  exact .inr ⟨h,n,la,le,sy,di,C,hn,back H' _ L (o.more hx),g⟩
def pR (P:List It):jl where
 cN k:= ∃i∈P,i.cN k
 holds H:= (∀i∈P,i.holds H)∧P.Pairwise fun (i j:It)=> ∀k:Nat,i.cN k→¬j.cN k
 frame:=fun h hf=> ⟨fun i hi=>It.frame (h.1 i hi) fun k hk=>hf k ⟨i,hi,hk⟩,h.2⟩
 lt:=fun h hf=>by obtain⟨i,hi,hk⟩:=hf;exact It.lt (h.1 i hi) hk
theorem Di {P:List It} (o:ar H0 H (P++L)):ar H0 H (.aA (pR P)::L):=by
 have hp:=ai7.1 o.D0;refine⟨o.ext,?_,?_,agC.2 ⟨?_,hp.2.1⟩⟩
 ·intro i hi
  rcases ago.1 hi with rfl|hi
  ·exact⟨fun i hi=>o.ok i (ahJ _ hi),hp.1⟩
  ·exact o.ok i (ahY _ hi)
 ·intro i hi k hk
  rcases ago.1 hi with rfl|hi
  ·obtain⟨j,hj,hk⟩:=hk;exact o.new j (ahJ _ hj) k hk
  ·exact o.new i (ahY _ hi) k hk
 ·rintro j hj k ⟨i,hi,hk⟩
  exact hp.2.2 i hi j hj k hk
theorem zp {P:List It} (o:ar H0 H (.aA (pR P)::L)):ar H0 H (P++L):=by
 have hp:=agC.1 o.D0;have ht:=o.ok (.aA (pR P)) af8;refine⟨o.ext,?_,?_,ai7.2 ⟨ht.2,hp.2,?_⟩⟩
 ·intro i hi
  rcases agv.1 hi with hi|hi
  ·exact ht.1 i hi
  ·exact o.ok i (af7 _ hi)
 ·intro i hi k hk
  rcases agv.1 hi with hi|hi
  ·exact o.new (.aA (pR P)) af8 k ⟨i,hi,hk⟩
  ·exact o.new i (af7 _ hi) k hk
 ·intro i hi j hj k hk
  exact hp.1 j hj k ⟨i,hi,hk⟩
end
section
set_option maxRecDepth 100000
variable {H H0 H' :ai} {R:Value→ai→Prop} {v:Value} {L:List It} {zs:List Int} {b:Nat} {B:List Bool}
def OK (H:ai) (b f:Nat):Nat:=match H[b]? with
 |some (.cells cs _ _)=>match cs[f]? with
  |some (.int _ x)=>x.toNat
  |_=>0
 |_=>0
theorem FU {b f:Nat} {cs:List Value} {t:TypeId} {fr:Nat × Nat} {k:IntKind} {x:Int} (h:H[b]? =some (.cells cs.toArray t fr)) (hf:cs[f]? =some (.int k x)):OK H b f=x.toNat:=by
 unfold OK;rw [h]
 simp [hf]
theorem FV {zs:List Int} {s:Nat} (h:0<zs.getD s 0):1≤(fI zs zs.length).length:=by
 have hs:s<zs.length:=aji fun hn=>by rw [agd,agq hn] at h;simp at h
 exact List.length_pos_of_mem (jI.2 ⟨hs,h⟩)
def Rc (E:List Ex):List Int:=E.foldl (fun ws e=>Ov ws e.1) (List.replicate 19 0)
structure OL (E:List Ex) (ws:List Int):Prop where
 wl:ws.length=19
 wr: ∀z∈ws,0≤z∧z≤(E.length:Int)
 wt: ∀e∈E,1≤ws.getD e.1 0
 ex:ws=Rc E
theorem OM {E:List Ex} {tv wv:Value} {k:Nat} {ws:List Int} (hE: ∀e∈E,e.1≤18) (UO:E.length≤400) (hk:k<E.length) (c:OL (E.take k) ws) (o:ar H0 H (.sl wv 1 (aH ws)::L)) (ht:It.sl tv 3 (i_ E)∈L) {K:Value→ai→Prop}
  (h: ∀XE H',OL (E.take (k+1)) XE →ar H0 H' (.sl wv 1 (aH XE)::L)→K undef H'):
  aI 3 tv (.int .i64 (k:Int)) fun x75=>aE H 3 x75 fun x76=>bs H 237 (.agg #[(.int .i64 0),(.int .i64 0),(.int .u64 0)]) fun t11 Zn=>aC Zn 3 t11 x76 fun _ TH=>aa 0 t11 fun x78=>ak TH x78 fun x79=>
  aI 1 wv x79 fun x80=>ak TH x80 fun x81=>aG x81 (.int .i64 1) fun XF=>aI 1 wv x79 fun x83=>aF TH x83 XF K:=by
 have ik:=o.sl (v:=tv) (af7 _ ht);have x6: ((i_ E).drop (k*3)).take 3=D3 (E[k]):=by
  have: ∀ (E:List Ex) (k:Nat) (hk:k<E.length),((i_ E).drop (k*3)).take 3=D3 (E[k]):=by
   intro E
   induction E with
   |nil=>intro k hk;simp at hk
   |cons e E ih=>
    intro k hk;have e1:i_ (e::E)=D3 e++i_ E:=rfl
    cases k with
    |zero=>rw [e1];rfl
    |succ k=>
     rw [e1,show (k+1)*3=3+k*3 by omega,←ahc];exact ih k (by simpa using hk)
  exact this E k hk
 have me:E.take (k+1)=E.take k++ [E[k]]:=by rw [agz,agb hk];rfl
 have h18:=hE _ (agj hk);have fG: (E.take k).length=k:=by rw [age];omega
 generalize E[k]=e at x6 me h18;have QI:=c.wl;have wr:=c.wr;rw [fG] at wr;refine ik.at_ (lr E) (by decide) (by omega) (by omega) fun p hp=>?_;rw [af_] at hp;refine hp.fE ik (ws:=D3 e) x6 rfl ?_;refine o.box fun tb H4 o4 _=>?_;refine o4.br (vs:=D3 e) (by repeat(first|exact af8|apply af7)) rfl rfl rfl (by repeat(first|exact aV.here|apply aV.there)) fun H5 o5 _=>?_;rw [ae,al];refine o5.aw (b:=tb) (f:=0+0) (w:= .int .i64 (e.1:Nat)) (by repeat(first|exact af8|apply af7)) rfl ?_;refine tz (a:=e.1) (kd:= .i64) o5 (by repeat(first|exact af8|apply af7)) (by omega) wr (by omega) (by repeat(first|exact aV.here|apply aV.there)) fun H6 o6=>?_;refine h _ H6 ⟨by rw [ag8];exact QI,?_,fun u hu=>?_,by rw [me,xo (by omega),Rc,aiW,←Rc,←c.ex];rfl⟩ o6.tl
 ·rw [me,af9,fG]
  have:=xp (a:=e.1) (by omega) wr;exact this
 ·rw [me] at hu
  rcases agv.1 hu with hu|hu
  ·have:=c.wt u hu
   have h5:=inc_le (cs:=ws) (a:=e.1) (by omega) u.1;omega
  ·rw [agH.1 hu,tx (by omega),if_pos rfl]
   have:=wr _ (agj (show e.1<ws.length by omega));omega
structure LU (G:List Tok) (x y z:List Int) (E:List Ex) (c:Nat):Prop where
 hx: ∃x0 a,qu (IL G) 15 x0∧BL x0 257 a∧x=x0.take a
 hy: ∃y0 n,pI (IM G) 15 y0∧BL y0 1 n∧y=y0.take n
 hE:J2 (x++y) E
 hz:qu (Rc E) 7 z
 hc:4≤c∧c≤19∧(∀j,c≤j→j<19→z.getD (bI.getD j 0) 0=0)∧(4<c→z.getD (bI.getD (c - 1) 0) 0≠0)
theorem LU.one {G:List Tok} {x y z x' y' z' :List Int} {E E' :List Ex} {c c' :Nat} (h:LU G x y z E c) (k:LU G x' y' z' E' c'):x=x' ∧y=y' ∧z=z' ∧E=E' ∧c=c' :=by
 obtain⟨⟨x0,a,h1,h2,rfl⟩,⟨y0,n,h3,h4,rfl⟩,h5,h6,h7,h8,h9,Zo⟩:=h;obtain⟨⟨x1,b,k1,k2,rfl⟩,⟨y1,m,k3,k4,rfl⟩,k5,k6,k7,k8,k9,k10⟩:=k;obtain rfl:=wa h1 k1;obtain rfl:=BM h2 k2;obtain rfl:=y7 h3 k3;obtain rfl:=BM h4 k4;obtain rfl:=LF h5 k5;obtain rfl:=wa h6 k6;refine⟨rfl,rfl,rfl,rfl,?_⟩;rcases aiV c c' with g|g|g
 ·exact absurd (h9 (c' - 1) (by omega) (by omega)) (k10 (by omega))
 ·exact g
 ·exact absurd (k9 (c - 1) (by omega) (by omega)) (Zo (by omega))
theorem ON {G:List Tok} {lv:Value} (hG:Reads H0 ⟨0,0,none⟩ ff) (hs:Sl H lv 3 (cP G)) (hlen:G.length≤65535) (hg: ∀t∈G,eH t=true) (o:ar H0 H L)
  (h: ∀H' M cb ps pd pt tv x y z E c,fe M x ps→fe M y pd→fe M z pt→It.sl tv 3 (i_ E)∈M→It.box cb [ps,pd,pt,tv,i64 x.length,i64 y.length,i64 c] 232∈M→vT x y z E c→LU G x y z E c→nS x 256→(∀t∈G,tp x y t)→
   ar H0 H' (M++L)→R (.pointer (some ⟨cb,0,none⟩)) H'):ab 121 #[lv] H R:=by
 refine rD.vc _ _ _ ?_;refine FG hs hlen hg fun y1 y2 cs ds H1 c o1=>?_;refine ag (vs:= [y1,y2]) rfl ?_;refine ag (vs:= [y1,y2]) rfl ?_;have dX:=c.cl;have Sd:=c.dl;have hgc:v7 cs=true:=mV.2 fun z hz=>by have:=c.cr z hz;omega
 have Uo:v7 ds=true:=mV.2 fun z hz=>by have:=c.dr z hz;omega
 have gW:=iG cs cs.length;have lV:=iG ds ds.length;refine wc (m:=15) (o1.sl (v:=y1) (by repeat(first|exact af8|apply af7))) (by omega) (by omega) hgc (by decide) (by decide) (by omega) (FV (s:=256) (by have:=c.ce;omega)) fun y3 x0 H2 sx o2=>?_;refine tu (m:=15) ((o1.sl (v:=y2) (by repeat(first|exact af8|apply af7))).ext o2.ext) (by omega) Uo (by decide) (by decide) (by omega) fun y4 y0 H3 ly o3=>?_;refine ag (vs:= [y4,.int .i64 0]) rfl ?_;refine ag (vs:= [y4,.int .i64 0]) rfl ?_;have oA:ar H0 H3 (.sl y4 1 (aH y0):: .sl y3 1 (aH x0)::L):= (((o.call o1).call o2).call o3).pick (List.Sublist.cons_cons _ (List.Sublist.cons_cons _ (List.Sublist.cons _ (List.Sublist.cons _ (ahq _)))));have hx0:=sx.len;obtain⟨ly1,ly2,_⟩:=nU ly (by decide) (by decide) (by omega);refine BK (least:=257) (oA.sl (v:=y3) (by repeat(first|exact af8|apply af7))) (by omega) (by omega) (by decide) fun a qG S1 Zp Xb=>?_;refine BK (least:=1) (oA.sl (v:=y4) (by repeat(first|exact af8|apply af7))) (by omega) (by omega) (by decide) fun n xl Vs Zq Ts=>?_;refine aM rfl (by simp) ?_;refine aM rfl (by simp) ?_;rw [bz];refine oA.box fun cb H6 o6 _=>?_;rw [au,ae,al];refine o6.aw (b:=cb) (f:=0+4) (w:=i64 a) (by repeat(first|exact af8|apply af7)) rfl ?_;refine IH (o6.sl (v:=y3) (by repeat(first|exact af8|apply af7))) (by decide) (n:=x0.length) (by rw [aL];omega) (by omega) fun vx Zr bvx=>?_;rw [au,ae,al];refine o6.aw (b:=cb) (f:=0+5) (w:=i64 n) (by repeat(first|exact af8|apply af7)) rfl ?_;refine IH (o6.sl (v:=y4) (by repeat(first|exact af8|apply af7))) (by decide) (n:=y0.length) (by rw [aL];omega) (by omega) fun vy Zs bvy=>?_;rw [agh,rG] at Zr Zs;have Zt:gJ (x0.take a) false=0:=Oz sx dX Zp (by omega);have Zu:gJ (y0.take n) true=0:=LO ly Sd Zq (by omega);have JQ: (x0.take a).length=a:=by rw [age];omega
 have DZ: (y0.take n).length=n:=by rw [age];omega
 have XD:aH (x0.take a)≠ []:=fun e=>by have:=congrArg List.length e;rw [aL,JQ] at this;simp at this;omega
 have hyn:aH (y0.take n)≠ []:=fun e=>by have:=congrArg List.length e;rw [aL,DZ] at this;simp at this;omega
 have Wh:1≤(x0.take a).getD 256 0:=by rw [jK (by omega)];exact sx.has 256 (by have:=c.ce;omega)
 have Zv: ∀s:Nat,1≤cs.getD s 0→nS (x0.take a) s:=fun s h1=>by
  have h2:=sx.has s (by omega);have TI:s<a:=aji fun hn=>by have:=Zp s hn;omega
  exact⟨by omega,by rw [gA,jK TI];omega⟩
 have hhy: ∀s:Nat,1≤ds.getD s 0→nS (y0.take n) s:=fun s h1=>by
  have hsd:s<ds.length:=aji fun hn=>by rw [agd,agq hn] at h1;simp at h1
  have h2:=ly2 s hsd;rw [if_pos (by omega)] at h2;have TI:s<n:=aji fun hn=>by have:=Zq s hn;omega
  exact⟨by omega,by rw [gA,jK TI];omega⟩
 have P4: ∀t∈G,tp (x0.take a) (y0.take n) t:=fun t ht=>by
  have:=c.ct t ht;unfold tp
  split at this
  ·rename_i e;rw [if_pos e];exact Zv _ this
  ·rename_i e;rw [if_neg e];exact⟨Zv _ this.1,hhy _ this.2⟩
 have hrx: ∀s,0≤(x0.take a).getD s 0∧(x0.take a).getD s 0≤15:=fun s=>by
  by_cases TI:s<a
  ·rw [jK TI];exact sx.P2 s
  ·rw [agd,agq (by omega)];simp
 have hry: ∀s,0≤(y0.take n).getD s 0∧(y0.take n).getD s 0≤15:=fun s=>by
  by_cases TI:s<n
  ·rw [jK TI]
   by_cases hs:s<ds.length
   ·have:=ly2 s hs
    split at this<;>omega
   ·rw [agd,agq (by omega)];simp
  ·rw [agd,agq (by omega)];simp
 have hDx: ∃x1 b,qu (IL G) 15 x1∧BL x1 257 b∧x0.take a=x1.take b:= ⟨x0,a,by rw [←c.ex.1];exact sx.ex,⟨qG,S1,Zp,Xb⟩,rfl⟩;have hDy: ∃y1 m,pI (IM G) 15 y1∧BL y1 1 m∧y0.take n=y1.take m:= ⟨y0,n,by rw [←c.ex.2];exact ly,⟨xl,Vs,Zq,Ts⟩,rfl⟩;generalize x0.take a=x at Zr Zt JQ XD Wh Zv P4 hrx hDx;generalize y0.take n=y at Zs Zu DZ hyn hhy P4 hry hDy;have oB:ar H0 H6 (.box cb [.pointer none,.pointer none,.pointer none,.slice none 0 0,i64 a,i64 n,.int .i64 0] 232:: .sl y4 1 (aH y0):: .sl y3 1 (aH x0)::L):=o6;have o7:ar H0 H6 (.sl y3 1 (aH x0):: .box cb [.pointer none,.pointer none,.pointer none,.slice none 0 0,i64 a,i64 n,.int .i64 0] 232:: .sl y4 1 (aH y0)::L):=oB.eR (by repeat(first|exact bd.refl|exact bw.here|apply bd.cons|apply bw.there));have o8:=o7.view Zr XD bvx;have o9:ar H0 H6 (.sl y4 1 (aH y0):: .aA (zb vx 1 (aH x)):: .box cb [.pointer none,.pointer none,.pointer none,.slice none 0 0,i64 a,i64 n,.int .i64 0] 232::L):=o8.eR (by repeat(first|exact bd.refl|exact bw.here|apply bd.cons|apply bw.there));have o:=o9.view Zs hyn bvy;have vX: ∀ {H:ai} {M:List It},ar H0 H M→It.aA (zb vx 1 (aH x))∈M→Sl H vx 1 (aH x):=fun o h=> (o.aA h:_∧_).1;have vY: ∀ {H:ai} {M:List It},ar H0 H M→It.aA (zb vy 1 (aH y))∈M→Sl H vy 1 (aH y):=fun o h=> (o.aA h:_∧_).1;refine fM (loose:=false) o (vX o (by repeat(first|exact af8|apply af7))) (by omega) (fun H' hw _=>absurd Zt hw) fun H7 M1 px _ hM1 o=>?_;have o:=Di o;refine ag (vs:= [px,.int .i64 0]) rfl ?_;refine ag (vs:= [px,.int .i64 0]) rfl ?_;rw [au,ae,al];refine o.bF (b:=cb) (f:=0+0) (by repeat(first|exact af8|apply af7)) (by simp) hM1.Tz (by repeat(first|exact aV.here|apply aV.there)) fun H8 o _=>?_;refine fM (loose:=true) o (vY o (by repeat(first|exact af8|apply af7))) (by omega) (fun H' hw _=>absurd Zu hw) fun H9 M2 py _ hM2 o=>?_;have o:=Di o;refine ag (vs:= [py,.int .i64 0]) rfl ?_;refine ag (vs:= [py,.int .i64 0]) rfl ?_;rw [au,ae,al];refine o.bF (b:=cb) (f:=0+1) (by repeat(first|exact af8|apply af7)) (by simp) hM2.Tz (by repeat(first|exact aV.here|apply aV.there)) fun Q7 o _=>?_;refine o.build (sz:=1) (vs:= [vx,vy]) (by decide) (fun K' hK=>dm (vX o (by repeat(first|exact af8|apply af7))).one (vY o (by repeat(first|exact af8|apply af7))).one hK) rfl fun yl R9 o=>?_;refine vU (svs:= [vx,vy]) (ls:= [aH x,aH y]) (o.sl (v:=yl) (by repeat(first|exact af8|apply af7))) (by simp) rfl (fun k hk=>?_) ?_ ?_ fun zc Sg oc=>?_
 ·match k,hk with
  |0,_=>exact⟨vX o (by repeat(first|exact af8|apply af7)),_,(agh _).symm⟩
  |1,_=>exact⟨vY o (by repeat(first|exact af8|apply af7)),_,(agh _).symm⟩
 ·simp [aH,aK]
 ·simp only [ag0,aiD,af9,aL,agt];omega
 have ez: ([aH x,aH y]:List (List Value)).flatten=aH (x++y):=by rw [nG];simp
 rw [ez] at oc;have Zw: ∀z∈x++y,0≤z∧z≤15:=fun z hz=>by
  rcases agv.1 hz with hz|hz
  ·obtain⟨i,hi,rfl⟩:=ahZ hz
   have:=hrx i
   rwa [agd,agb hi] at this
  ·obtain⟨i,hi,rfl⟩:=ahZ hz
   have:=hry i
   rwa [agd,agb hi] at this
 refine LG (zs:=x++y) (oc.sl (v:=zc) (by repeat(first|exact af8|apply af7))) (by rw [af9];omega) Zw fun tv E Re hT hPk oE=>?_;have Lq:=hT.len;rw [af9] at Lq;have htv:= (oE.sl (v:=tv) (by repeat(first|exact af8|apply af7))).one;have o:ar H0 Re (.sl tv 3 (i_ E)::_):= ((o.call oc).call oE);rw [au,ae,al];refine o.bF (b:=cb) (f:=0+3) (x:=tv) (by repeat(first|exact af8|apply af7)) (by simp) htv (by repeat(first|exact aV.here|apply aV.there)) fun TJ o _=>?_;have oC:ar H0 TJ (.sl yl 1 [vx,vy]:: .sl zc 1 (aH (x++y)):: .aA (zb vy 1 (aH y)):: .aA (zb vx 1 (aH x)):: .sl tv 3 (i_ E):: .box cb [px,py,.pointer none,tv,i64 a,i64 n,.int .i64 0] 232:: .aA (pR M2):: .aA (pR M1)::L):=o.eR (by repeat(first|exact bd.refl|exact bw.here|apply bd.cons|apply bw.there));have o:=oC.tl.tl.tl.tl;refine o.qV (by decide) (by decide) (by decide) fun wv Zx o=>?_;rw [jE] at o;rw [au,ae,al];refine o.aw (b:=cb) (f:=0+3) (w:=tv) (by repeat(first|exact af8|apply af7)) rfl ?_;refine(o.sl (v:=tv) (by repeat(first|exact af8|apply af7))).len (lr E) (by decide) ?_;have UO:E.length≤400:=by simp at Lq;omega
 refine⟨fun i H' => ∃ (k:Nat) (ws:List Int),i= .int .i64 k∧k≤E.length∧OL (E.take k) ws∧ar H0 H' (.sl wv 1 (aH ws):: .sl tv 3 (i_ E):: .box cb [px,py,.pointer none,tv,i64 a,i64 n,.int .i64 0] 232:: .aA (pR M2):: .aA (pR M1)::L),
  fun i _=>match i with| .int _ x=> (E.length - x).toNat|_=>0,⟨0,List.replicate 19 0,rfl,by omega,⟨agF,?_,fun e he=>by simp at he,rfl⟩,o⟩,?_⟩
 ·intro q hq;rw [ajG hq,ahW];decide
 rintro _ _ Ol ⟨k,ws,rfl,hk,cw,o⟩;rw [aN];refine av (fun hc=>?_) (fun hc=>?_)
 ·refine OM (tv:=tv) hT.sym UO (by omega) cw o (by repeat(first|exact af8|apply af7)) fun XE VR cw' o' =>?_
  rw [az,ba (by omega) (by omega)];exact⟨⟨k+1,XE,rfl,by omega,cw',o'⟩,by show (_:Int).toNat< (_:Int).toNat;omega⟩
 have Zy:k=E.length:=by omega
 rw [Zy,agr] at cw;have QI:=cw.wl;have GW:=iG ws ws.length;obtain⟨e0,Xf⟩: ∃e,e∈E:=by
  cases E with
  |nil=>
   have: []=x++y:=hT;have:=congrArg List.length this;rw [af9] at this
   simp at this;omega
  |cons e E=>exact⟨e,by simp⟩
 refine wc (m:=7) (o.sl (v:=wv) (by repeat(first|exact af8|apply af7))) (by omega) (by omega) (mV.2 fun z hz=>by have:=cw.wr z hz;omega) (by decide) (by decide) (by omega) (FV (s:=e0.1) (by have:=cw.wt e0 Xf;omega)) fun zv z VR sz oz=>?_;have o:=o.call oz;have hzl:=sz.len;have hrz:=sz.P2;have Zz:gJ z false=0:=zg (IN (by omega) fun s=>by have:=hrz s;omega) sz.share;refine fM (loose:=false) o (o.sl (v:=zv) (by repeat(first|exact af8|apply af7))) (by omega) (fun H' hw _=>absurd Zz hw) fun H18 M3 pz _ hM3 o=>?_;have o:=Di o;refine ag (vs:= [pz,.int .i64 0]) rfl ?_;refine ag (vs:= [pz,.int .i64 0]) rfl ?_;rw [au,ae,al];refine o.bF (b:=cb) (f:=0+2) (x:=pz) (by repeat(first|exact af8|apply af7)) (by simp) hM3.Tz (by repeat(first|exact aV.here|apply aV.there)) fun H19 o _=>?_;rw [au,ae,al];refine o.bF (b:=cb) (f:=0+6) (x:= .int .i64 19) (by repeat(first|exact af8|apply af7)) (by simp) rfl (by repeat(first|exact aV.here|apply aV.there)) fun H20 o _=>?_;have hhz: ∀e∈E,nS z e.1:=fun e he=>by
  have h1:=cw.wt e he;have h2:=sz.has e.1 (by omega);have h3:=hT.sym e he;exact⟨by omega,by rw [gA];omega⟩
 refine⟨fun H' => ∃c:Nat,4≤c∧c≤19∧(∀j,c≤j→j<19→z.getD (bI.getD j 0) 0=0)∧ar H0 H' (.aA (pR M3):: .sl zv 1 (aH z):: .sl wv 1 (aH ws):: .sl tv 3 (i_ E):: .box cb [px,py,pz,tv,i64 a,i64 n,i64 c] 232:: .aA (pR M2):: .aA (pR M1)::L),
  fun H' =>OK H' cb 6,⟨19,by decide,by decide,fun j h1 h2=>by omega,o⟩,?_⟩
 rintro _ UK ⟨c,Xy,Wi,En,o⟩;rw [au,ae,al];refine o.aw (b:=cb) (f:=0+6) (w:=i64 c) (by repeat(first|exact af8|apply af7)) rfl ?_;have fin: (∀j,c≤j→j<19→z.getD (bI.getD j 0) 0=0)→(4<c→z.getD (bI.getD (c - 1) 0) 0≠0)→R (.pointer (some ⟨cb,0,none⟩)) UK:=fun En hz9=>by
  have o:ar H0 UK (.sl zv 1 (aH z):: .sl wv 1 (aH ws):: .aA (pR M1):: .aA (pR M2):: .aA (pR M3):: .sl tv 3 (i_ E):: .box cb [px,py,pz,tv,i64 a,i64 n,i64 c] 232::L):=o.eR (by repeat(first|exact bd.refl|exact bw.here|apply bd.cons|apply bw.there));have o1:=zp o.tl.tl;have o2:=o1.perm (L' := .aA (pR M2):: (M1++ (.aA (pR M3):: .sl tv 3 (i_ E):: .box cb [px,py,pz,tv,i64 a,i64 n,i64 c] 232::L))) aiE.symm;have o3:=zp o2;have o4:ar H0 UK (.aA (pR M3):: (M2++ (M1++ (.sl tv 3 (i_ E):: .box cb [px,py,pz,tv,i64 a,i64 n,i64 c] 232::L)))):=o3.perm (by
   rw [←agc,←agc];exact aiE.symm)
  have o5:=zp o4;refine h UK (M3++ (M2++ (M1++ [.sl tv 3 (i_ E),.box cb [px,py,pz,tv,i64 a,i64 n,i64 c] 232]))) cb px py pz tv x y z E c (hM1.mono fun i hi=>by simp [hi]) (hM2.mono fun i hi=>by simp [hi]) (hM3.mono fun i hi=>by simp [hi]) (by simp) (by rw [JQ,DZ];simp)
   ⟨by omega,by omega,by omega,by omega,Xy,Wi,by omega,fun s=>by have:=hrz s;omega,En,Zz,JR Zz,hT,hhz,by omega,Zt,Zu⟩ ⟨hDx,hDy,hPk,by rw [←cw.ex];exact sz.ex,Xy,Wi,En,hz9⟩ ⟨by omega,by rw [gA];omega⟩ P4 ?_
  simpa [agc] using o5
 rw [a8]
 by_cases hc:4<c
 ·rw [decide_eq_true (by omega)]
  refine bB ?_;rw [au,ae,al];refine o.aw (b:=cb) (f:=0+6) (w:=i64 c) (by repeat(first|exact af8|apply af7)) rfl ?_;rw [aZ,ba (by omega) (by omega),gG];refine⟨by omega,by omega,?_⟩;have eD:= (hG.ext o.ext) (c - 1) _ (pN (by omega));rw [al,ags] at eD;rw [al,show 0+ ((c:Int) - 1).toNat*1=c - 1 by omega,aW eD];have cF:=uU ⟨c - 1,by omega⟩
  dsimp only at cF
  have P0:=o.sl (v:=zv) (by repeat(first|exact af8|apply af7));have XG:z.getD (bI.getD (c - 1) 0) 0=z[bI.getD (c - 1) 0]'(by omega):=by rw [agd,agb (by omega)];rfl
  refine P0.at_ (n:=z.length) (by rw [aL];omega) (by decide) (by omega) (by omega) fun p hp=>?_;refine hp.load P0 (w:= .int .i64 (z[bI.getD (c - 1) 0]'(by omega))) (by rw [af_,agh,bM (by omega)]) ?_;rw [bc];intro _;refine av (fun he=>?_) (fun he=>fin En fun _=>by rw [XG];exact he);rw [au,ae,al];refine o.aw (b:=cb) (f:=0+6) (w:=i64 c) (by repeat(first|exact af8|apply af7)) rfl ?_;rw [aZ,ba (by omega) (by omega),au,ae,al];have m1:=FU (o.fZ (b:=cb) (cs:= [px,py,pz,tv,i64 a,i64 n,i64 c]) (t:=232) (by repeat(first|exact af8|apply af7))) (f:=6) (k:= .i64) (x:=c) rfl;refine o.bF (b:=cb) (f:=0+6) (x:= .int .i64 ((c:Int) - 1)) (by repeat(first|exact af8|apply af7)) (by simp) rfl (by repeat(first|exact aV.here|apply aV.there)) fun H22 o2 _=>?_;rw [show (c:Int) - 1= ((c - 1:Nat):Int) by omega] at o2;have m2:=FU (o2.fZ (b:=cb) (cs:= [px,py,pz,tv,i64 a,i64 n,i64 (c - 1:Nat)]) (t:=232) (by repeat(first|exact af8|apply af7))) (f:=6) (k:= .i64) (x:= (c - 1:Nat)) rfl;refine⟨⟨c - 1,by omega,by omega,fun j h1 h2=>?_,o2⟩,by dsimp only;rw [m1,m2];omega⟩
  by_cases e:j=c - 1
  ·subst e;rw [XG];exact he
  ·exact En j (by omega) h2
 ·rw [decide_eq_false (by omega),cW]
  intro _;rw [aj];exact fin En fun g=>absurd g hc
end
section
set_option maxRecDepth 100000
variable {H H0 H' :ai} {R:Value→ai→Prop} {v:Value} {L:List It} {zs:List Int} {b:WP} {B:List Bool}
theorem OO {a c k:Nat} (h:a<2 ^ k):a|||2 ^ k*c=a+2 ^ k*c:=by
 rw [aiq,←ajs h];omega
theorem J_: ∀ (E:List Ex) (k:Nat) (hk:k<E.length),((i_ E).drop (k*3)).take 3=D3 (E[k])
 | [],k,hk=>by simp at hk
 |e::E,0,hk=>rfl
 |e::E,k+1,hk=>by
  rw [show i_ (e::E)=D3 e++i_ E from rfl,show (k+1)*3=3+k*3 by omega,←ahc];exact J_ E k (by simpa using hk)
theorem uX: ∀ {es:List Ex} {out l:List Int},Told out es l→∀e∈es,e.2.1≤7∧e.2.2<128
 | [],out,l,h,e,he=>by simp at he
 |u::es,out,l,h,e,he=>by
  rcases ago.1 he with rfl|he
  ·rcases h.1 with h|h|h|h<;>omega
  ·exact uX h.2 e he
theorem LV {dv pt tv q0 q1:Value} {cb c:Nat} {x y z:List Int} {E:List Ex} (hG:Reads H0 ⟨0,0,none⟩ ff) (d:vT x y z E c) (w_:It.box cb [q0,q1,pt,tv,i64 x.length,i64 y.length,i64 c] 232∈L) (hz:fe L z pt) (ht:It.sl tv 3 (i_ E)∈L)
  (jh:B.length≤500000000) (o:ar H0 H (.aA (ka b dv B)::L)) (h: ∀H' iK,ar H0 H' (.aA (ka b iK (B++pH x y z E c))::L)→R (.tuple #[]) H'):
  ab 122 #[.pointer (some ⟨cb,0,none⟩),b.at] H R:=by
 have a1:=d.a1;have a2:=d.a2;have b1:=d.b1;have b2:=d.b2;have c1:=d.c1;have c2:=d.c2;have zl:=d.zl;have Lq:=d.told.len;rw [af9] at Lq;have UO:E.length≤316:=by simp at Lq;omega
 refine uv.vc _ _ _ _ ?_;rw [au,ae,al];refine o.aw (b:=cb) (f:=0+4) (cs:= [q0,q1,pt,tv,i64 x.length,i64 y.length,i64 c]) (t:=232) (w:=i64 x.length) (by simp [w_]) rfl ?_;rw [aZ,ba (by omega) (by omega),bR,cR (by omega) (by omega),au,ae,al];refine o.aw (b:=cb) (f:=0+5) (cs:= [q0,q1,pt,tv,i64 x.length,i64 y.length,i64 c]) (t:=232) (w:=i64 y.length) (by simp [w_]) rfl ?_;rw [aZ,ba (by omega) (by omega),bR,cR (by omega) (by omega),eB];refine⟨by decide,?_⟩;rw [show min (5:Int).toNat IntKind.u64.bits=5 from rfl,show ((y.length:Int) - 1)*2 ^ 5= ((2 ^ 5* (y.length - 1):Nat):Int) by omega,cR (by omega) (by omega),show (x.length:Int) - 257= ((x.length - 257:Nat):Int) by omega,cd,uq (by omega) (by omega),OO (by omega)];rw [au,ae,al];refine o.aw (b:=cb) (f:=0+6) (cs:= [q0,q1,pt,tv,i64 x.length,i64 y.length,i64 c]) (t:=232) (w:=i64 c) (by simp [w_]) rfl ?_;rw [aZ,ba (by omega) (by omega),bR,cR (by omega) (by omega),eB];refine⟨by decide,?_⟩;rw [show min (10:Int).toNat IntKind.u64.bits=10 from rfl,show ((c:Int) - 4)*2 ^ 10= ((2 ^ 10* (c - 4):Nat):Int) by omega,cR (by omega) (by omega),cd,uq (by omega) (by omega),OO (by omega)];refine nV (n:=x.length - 257+2 ^ 5* (y.length - 1)+2 ^ 10* (c - 4)) (k:=14) (by omega) (by omega) (by omega) o fun H1 J4 o=>?_;rw [au,ae,al];refine o.aw (b:=cb) (f:=0+2) (cs:= [q0,q1,pt,tv,i64 x.length,i64 y.length,i64 c]) (t:=232) (w:=pt) (by simp [w_]) rfl ?_;obtain⟨hzo,kb,lv,wv,sv,rfl,hm⟩:=hz;have hz:fe L z (.pointer (some ⟨kb,0,none⟩)):= ⟨hzo,kb,lv,wv,sv,rfl,hm⟩;refine K7 o (lv:=lv) (wv:=wv) (sv:=sv) (af7 _ (hm (.box kb (bU lv wv (cj (natL z)) sv) 285) af8)) (af7 _ (hm (.sl lv 1 (aH z)) (by simp [qo]))) (by omega) fun yv H2 ov=>?_;have o:=o.call ov;have o:ar H0 H2 (.aA (ka b J4 (B++aU (x.length - 257+2 ^ 5* (y.length - 1)+2 ^ 10* (c - 4)) 14)):: .sl yv 1 (aH z)::L):=o.eR (by repeat(first|exact bd.refl|exact bw.here|apply bd.cons|apply bw.there));generalize hB1:B++aU (x.length - 257+2 ^ 5* (y.length - 1)+2 ^ 10* (c - 4)) 14=B1 at o;have adX:B1.length=B.length+14:=by rw [←hB1,af9,aR]
 rw [au,ae,al];refine o.aw (b:=cb) (f:=0+6) (cs:= [q0,q1,.pointer (some ⟨kb,0,none⟩),tv,i64 x.length,i64 y.length,i64 c]) (t:=232) (w:=i64 c) (by simp [w_]) rfl ?_;rw [EB,dc];refine⟨by omega,by omega,?_⟩;rw [af_,ahb,if_neg (by decide),al,o_];refine⟨fun u H' => ∃ (i:Nat) (iK :Value),u=i64 i∧i≤c∧ar H0 H' (.aA (ka b iK (B1++l3 z (bI.take i))):: .sl yv 1 (aH z)::L),fun u _=>match u with| .int _ i=> (c - i).toNat|_=>0,⟨0,J4,rfl,by omega,by simpa [l3] using o⟩,?_⟩;rintro _ _ H3 ⟨i,Rf,rfl,hi,o⟩;have OH: ∀i,(l3 z (bI.take i)).length≤3*19:=fun i=>by
  have: ∀l:List Nat,(l3 z l).length=3*l.length:=fun l=>by
   induction l with
   |nil=>rfl
   |cons s l ih=>unfold l3 at ih ⊢;rw [ahL,af9,ih,aR,agi];omega
  rw [this,age];have:bI.length=19:=rfl;omega
 rw [aN];refine av (fun vB=>?_) (fun vB=>?_)
 ·have V1:i<c:=by omega
  rw [oZ];refine⟨by omega,by omega,?_⟩;have eD:= (hG.ext o.ext) i _ (pN (by omega));rw [al,ags] at eD;rw [al,af_,show 0+0+i*1=i by omega,aW eD];have cF:=uU ⟨i,by omega⟩
  dsimp only at cF
  have P0:=o.sl (v:=yv) (by repeat(first|exact af8|apply af7));have hz7:=d.z7 (bI.getD i 0);have XG:z.getD (bI.getD i 0) 0=z[bI.getD i 0]'(by omega):=by rw [agd,agb (by omega)];rfl
  refine P0.at_ (n:=z.length) (by rw [aL];omega) (by decide) (by omega) (by omega) fun p hp=>?_;refine hp.load P0 (w:= .int .i64 (z.getD (bI.getD i 0) 0)) (by rw [af_,agh,bM (by omega),XG]) ?_;rw [bR,cR (by omega) (by omega),show z.getD (bI.getD i 0) 0= (((z.getD (bI.getD i 0) 0).toNat:Nat):Int) by omega];refine nV (n:= (z.getD (bI.getD i 0) 0).toNat) (k:=3) (by omega) (by omega) (by rw [af9];have:=OH i;omega) o fun H4 P5 o=>?_;rw [az,ba (by omega) (by omega)];refine⟨⟨i+1,P5,rfl,by omega,?_⟩,by show (_:Int).toNat< (_:Int).toNat;omega⟩;have e:l3 z (bI.take (i+1))=l3 z (bI.take i)++aU (z.getD (bI.getD i 0) 0).toNat 3:=by
   have hio:i<bI.length:=by show i<19;omega
   unfold l3;rw [agz,agb hio,ajH,agd (l:=bI),agb hio]
   simp
  rw [e,←agc];exact o
 ·have V1:i=c:=by omega
  rw [V1] at o;rw [au,ae,al];refine o.aw (b:=cb) (f:=0+3) (cs:= [q0,q1,.pointer (some ⟨kb,0,none⟩),tv,i64 x.length,i64 y.length,i64 c]) (t:=232) (w:=tv) (by simp [w_]) rfl ?_;have o:= (o.eR (L' := .sl yv 1 (aH z):: .aA (ka b Rf (B1++l3 z (bI.take c)))::L) (by repeat(first|exact bd.refl|exact bw.here|apply bd.cons|apply bw.there))).tl;have hB2:=OH c;generalize ZA:l3 z (bI.take c)=T2 at o hB2;refine(o.sl (v:=tv) (af7 _ ht)).len (lr E) (by decide) ?_;refine⟨fun u H' => ∃ (k:Nat) (iK :Value),u=i64 k∧k≤E.length∧((E.take k).flatMap (w8 z)).length≤30*k∧ar H0 H' (.aA (ka b iK (B1++T2++ (E.take k).flatMap (w8 z)))::L),fun u _=>match u with| .int _ k=> (E.length - k).toNat|_=>0,⟨0,Rf,rfl,by omega,by simp,by simpa using o⟩,?_⟩;rintro _ _ H5 ⟨k,XH,rfl,hk,fG,o⟩;rw [aN];refine av (fun f_=>?_) (fun f_=>?_)
  ·have dV:k<E.length:=by omega
   have x6:=J_ E k dV;have me: (E.take (k+1)).flatMap (w8 z)= (E.take k).flatMap (w8 z)++w8 z E[k]:=by rw [agz,agb dV,ajH];simp
   have hbt:=uX d.told _ (agj dV);have hhs:=d.has _ (agj dV);generalize E[k]=e at x6 me hbt hhs;generalize (E.take k).flatMap (w8 z)=X at o fG me;have hw:=gB hzo e.1;have ik:=o.sl (v:=tv) (af7 _ ht);refine ik.at_ (lr E) (by decide) (by omega) (by omega) fun p hp=>?_;rw [af_] at hp;refine hp.fE ik (ws:=D3 e) x6 rfl ?_;refine o.box fun tb H6 o _=>?_;refine o.br (vs:=D3 e) (by repeat(first|exact af8|apply af7)) rfl rfl rfl (by repeat(first|exact aV.here|apply aV.there)) fun H7 o _=>?_;rw [au,ae,al];refine o.aw (b:=cb) (f:=0+2) (cs:= [q0,q1,.pointer (some ⟨kb,0,none⟩),tv,i64 x.length,i64 y.length,i64 c]) (t:=232) (w:= .pointer (some ⟨kb,0,none⟩)) (by simp [w_]) rfl ?_;rw [ae,al];refine o.aw (b:=tb) (f:=0+0) (w:= .int .i64 (e.1:Nat)) (by repeat(first|exact af8|apply af7)) rfl ?_;have o:=o.eR (L' := .aA (ka b XH (B1++T2++X)):: .box tb (D3 e) 237::L) (by repeat(first|exact bd.refl|exact bw.here|apply bd.cons|apply bw.there));refine kc (s:=e.1) hz.cons hhs (by simp only [af9];omega) o fun H8 dv8 o=>?_;rw [ae,al];refine o.aw (b:=tb) (f:=0+2) (w:= .int .u64 (e.2.2:Nat)) (by repeat(first|exact af8|apply af7)) rfl ?_;rw [ae,al];refine o.aw (b:=tb) (f:=0+1) (w:= .int .i64 (e.2.1:Nat)) (by repeat(first|exact af8|apply af7)) rfl ?_;refine nV (n:=e.2.2) (k:=e.2.1) (by omega) (by omega) (by simp only [af9];omega) o fun H9 dv9 o=>?_;rw [az,ba (by omega) (by omega)];have ee:w8 z e=dQ (natL z) e.1++aU e.2.2 e.2.1:=rfl;refine⟨⟨k+1,dv9,rfl,by omega,by rw [me,ee];simp only [af9,aR];omega,?_⟩,by show (_:Int).toNat< (_:Int).toNat;omega⟩;rw [me,ee];simp only [agc] at o ⊢;exact o.pick (List.Sublist.cons_cons _ (List.Sublist.cons _ (ahq _)))
  ·have Zy:k=E.length:=by omega
   rw [Zy,agr] at o;refine h H5 XH ?_;unfold pH;rw [show x.length - 257+32* (y.length - 1)+1024* (c - 4)=x.length - 257+2 ^ 5* (y.length - 1)+2 ^ 10* (c - 4) from rfl,ZA,←agc,hB1,←agc];exact o
end
section
set_option maxRecDepth 100000
variable {H H0 H' :ai} {R:Value→ai→Prop} {v:Value} {L:List It} {zs:List Int} {b:WP} {B:List Bool}
theorem LW {t:Tok} (hg:eH t=true) (h: ∀H',Ext H H' →R (.bool false) H'):ab 158 #[t.v] H R:=by
 refine CC.vc _ _ _ ?_;refine(ar.start (H:=H)).box fun tb H1 o _=>?_;refine o.bf (by repeat(first|exact af8|apply af7)) rfl ?_;refine CV (t:=t) fun H2 hx=>?_;rw [hg,db];exact h H2 (o.ext.trans hx)
theorem Dj {G:List Tok} {lv:Value} (hs:Sl H lv 3 (cP G)) (hlen:G.length≤65535) (hg: ∀t∈G,eH t=true) (h: ∀H',Ext H H' →R (.bool false) H'):
  ab 160 #[lv,.func (.func 158) #[] #[]] H R:=by
 have dI:=gL G;refine gh.vc _ _ _ _ ?_;refine gS.vc _ _ _ _ ?_;refine hs.len dI (by decide) ?_;refine⟨fun i H' => ∃k:Nat,i= .int .i64 k∧k≤G.length∧Ext H H',fun i _=>match i with| .int _ x=> (G.length - x).toNat|_=>0,⟨0,rfl,by omega,Ext.refl _⟩,?_⟩;rintro _ _ H1 ⟨k,rfl,hk,hx⟩;rw [aN];refine av (fun hc=>?_) (fun hc=>?_)
 ·have dV:k<G.length:=by omega
  have x6:=te G k _ (agb dV);have Sc:=hg _ (agj dV);generalize G[k]=t at x6 Sc;refine(hs.ext hx).at_ dI (by decide) (by omega) (by omega) fun p hp=>?_;rw [af_] at hp;refine hp.fE (hs.ext hx) (ws:=t.cells) x6 rfl ?_;refine qn (by kernel_rfl) ?_;refine LW (t:=t) Sc fun H2 kO=>?_;rw [aj,az,ba (by omega) (by omega)];exact⟨⟨k+1,rfl,by omega,hx.trans kO⟩,by show (_:Int).toNat< (_:Int).toNat;omega⟩
 ·show lB _ _ _
  rw [dP,decide_eq_false (by decide)];exact h H1 hx
theorem tE {G:List Tok} {lv:Value} {s:List UInt8} {kind:Nat} (hk:kind<3) (ik:s.length≤65535) (hs:Sl H lv 3 (cP G)) (hlen:G.length≤65535) (hg: ∀t∈G,eH t=true) (h: ∀H',Ext H H' →R (.bool true) H'):
  ab 115 #[.int .i64 (kind:Int),str s,lv] H R:=by
 have dI:=gL G;refine K3.vc _ _ _ _ _ ?_;rw [dP,decide_eq_true (by omega)];refine bB ?_;rw [aN,decide_eq_true (by omega)];intro _;refine bB ?_;refine aJ ?_;rw [kp,decide_eq_true (by omega)];intro _;refine bB ?_;refine hs.len dI (by decide) ?_;rw [kp,decide_eq_true (by omega)];intro _;refine bB ?_;refine Dj hs hlen hg fun H1 hx=>?_;rw [db];intro _;exact h H1 hx
theorem xq {α β:Type} {f:α→List β} {k:Nat}: ∀ {l:List α},(∀x∈l,(f x).length≤k)→(l.flatMap f).length≤k*l.length
 | [],h=>by simp
 |a::l,h=>by
  have h1:=h a (by simp);have h2:=xq (l:=l) fun x hx=>h x (by simp [hx]);rw [ahL,af9,agi,Nat.mul_succ];omega
theorem zq {x y z:List Int} {E:List Ex} {c:Nat} (d:vT x y z E c): (pH x y z E c).length≤20000:=by
 have Lq:=d.told.len;have a2:=d.a2;have b2:=d.b2;have c2:=d.c2;rw [af9] at Lq;have UO:E.length≤316:=by simp at Lq;omega
 have h1: (l3 z (bI.take c)).length≤3* (bI.take c).length:=xq fun s _=>by rw [aR];omega
 have h2: (E.flatMap (w8 z)).length≤30*E.length:=xq fun e he=>by
  have:=uX d.told e he;have:=gB d.zok e.1;unfold w8;rw [af9,aR];omega
 have h3: (bI.take c).length≤19:=by rw [age];show min c 19≤19;omega
 unfold pH;rw [af9,af9,aR];omega
theorem Wj (l:Bool):aU (4+ (if l then 1 else 0)) 3= [l,false,true]:=by cases l<;>rfl
theorem BQ {G:List Tok} {lv dv:Value} {s:List UInt8} {l:Bool} (hG:Reads H0 ⟨0,0,none⟩ ff) (ik:s.length≤65535) (hl:It.sl lv 3 (cP G)∈L) (hlen:G.length≤65535) (hg: ∀t∈G,eH t=true) (jh:B.length≤400000000)
  (o:ar H0 H (.aA (ka b dv B)::L))
  (h: ∀H' iK x y z E c,vT x y z E c→LU G x y z E c→nS x 256→w6 x→w6 y→(∀t∈G,tp x y t)→ar H0 H' (.aA (ka b iK (B++ (l::false::true:: (pH x y z E c++eO x y G))))::L)→R (.int .i64 0) H'):
  ab 69 #[b.at,.int .i64 2,.bool l,str s,lv] H R:=by
 refine pD.vc _ _ _ _ _ _ _ ?_;rw [cB];refine aO ?_;refine tE (kind:=2) (by decide) ik (o.sl (v:=lv) (af7 _ hl)) hlen hg fun H1 kr=>?_;rw [db];intro _;show ao (.bool false) _ _;rw [aj,bR,cR (by decide) (by decide),eB];refine⟨by decide,?_⟩;have o1:=o.more kr;refine⟨fun hd H' =>hd= .int .u64 ((4+ (if l then 1 else 0):Nat):Int)∧H1=H',?_,?_⟩
 ·rintro _ _ _ ⟨rfl,rfl⟩
  refine nV (n:=4+ (if l then 1 else 0)) (k:=3) (by split<;>omega) (by decide) (by omega) o1 fun H3 Rf o=>?_;rw [bc,decide_eq_false (by decide),aj,bc,decide_eq_false (by decide),aj,];refine ON hG (o.sl (v:=lv) (af7 _ hl)) hlen hg o fun H4 M cb ps pd pt tv x y z E c hx hy hz ht w_ d dx tB P4 o=>?_;have o:=o.perm (L' := .aA (ka b Rf (B++aU (4+ (if l then 1 else 0)) 3)):: (M++L)) aiE.symm;have Ux:=hx.1;have h16:=hy.1;refine LV hG d (ahJ _ w_) hz.l_ (ahJ _ ht) (by rw [af9,aR];omega) o fun H5 XH o=>?_;refine wg (sy:=x) (di:=y) (ahY _ hl) (ahJ _ w_) hx.l_ hy.l_ tB (fun t ht=> ⟨hg t ht,P4 t ht⟩) hlen (by have:=zq d;rw [af9,af9,aR];omega) o fun H6 Sf o=>?_;refine h H6 Sf x y z E c d dx tB Ux h16 P4 ?_;rw [Wj] at o;simp only [agc,ahd,agn] at o ⊢;exact o.pick (List.Sublist.cons_cons _ (ah1 M L))
 ·rw [show IntKind.u64.wrap (2*2 ^ (min (1:Int).toNat IntKind.u64.bits))=4 from rfl]
  cases l
  ·rw [aj];exact⟨rfl,rfl⟩
  ·rw [aD,cd];exact⟨rfl,rfl⟩
end
section
set_option maxHeartbeats 4000000
set_option maxRecDepth 100000
variable [Go.Vc.Mode] (H0:ai) (R:Value→ai→Prop)
theorem qN.vc (a b c:Value) (h:
 ab 17 #[] H0 fun d e=>e7 d fun d=>ao d (R (.bool false) e) (ab 7 #[a] e fun a d=>ab 18 #[a,(.int .i64 1)] d fun d e=>aq 0 d fun f=>aq 1 d fun _=>ab 8 #[a,(.int .i64 1)] e fun a d=>aq 0 a fun e=>aq 1 a fun _=>ab 19 #[(.int .i64 128)] d fun a d=>aq 0 a fun g=>aq 1 a fun _=> ∃ (a:Value→ai→Prop) (h:Value→ai→Nat),a (.int .i64 0) d∧∀ (_:Env) (d:Value) (i:ai),a d i→cq d (.int .i64 30) fun j=>ao j (ab 20 #[g,(.int .i64 (-1))] i fun _ j=> ∃k:ai→Prop,(∀ (_:Env) (l:ai),k l→ab 21 #[g] l fun l m=>aq 0 l fun n=>aq 1 l fun l=>ea 0 l (.int .i64 0) fun l=>ao l (R (.bool false) m) (ab 22 #[n] m fun l m=>ic 2 l fun l=>ab 23 #[n,(.int .i64 0),l] m fun m o=>aq 0 m fun p=>aq 1 m fun m=>ea 0 m (.int .i64 0) fun q=>d_ q (fun q=>aX e fun r=>dW l r fun r=>q r o) o fun o q=> ∀_:Env,d_ o (fun o=>a7 e none (some l) fun r=>ea 1 p r fun r=>o r q) q fun o q=> ∀_:Env,ao o (R (.bool false) q) (∃ (o:Value→Value→ai→Prop) (r:Value→Value→ai→Nat),o (.int .i64 0) (.int .i64 0) q∧∀ (_:Env) (q s:Value) (t:ai),o q s t→bV f fun u=>cq q u fun u=>bZ u (fun u=>cq s l fun v=>u v t) t fun u v=> ∀_:Env,ao u (aI 1 f q fun u=>ak v u fun u=>aX u fun u=>aG s u fun u=>aG q (.int .i64 1) fun w=>o w u v∧r w u v<r q s t) (ea 0 s l fun l=>ao l (R (.bool false) v) (∃ (l:Value→Value→ai→Prop) (o:Value→Value→ai→Nat),l m q v∧∀ (_:Env) (m q:Value) (r:ai),l m q r→bV f fun s=>cq q s fun s=>bZ s (fun s=>cu 0 m (.int .i64 0) fun t=>s t r) r fun s t=> ∀_:Env,ao s (aI 1 f q fun f=>ak t f fun f=>ab 24 #[n,f] t fun f s=>aG q (.int .i64 1) fun u=>l f u s∧o f u s<o m q r) (∃f:Value→ai→Prop,(∀ (_:Env) (l:Value) (o:ai),f l o→cu 0 l (.int .i64 0) fun q=>ao q (ab 22 #[n] o fun q r=>ic 4 q fun q=>bZ q (fun q=>ab 22 #[n] r fun s u=>ic 2 s fun s=>aX e fun v=>cu 0 s v fun s=>q s u) r fun q r=> ∀_:Env,R q r) (ea 0 l (.int .i64 14) fun q=>bZ q (fun q=>ea 0 l (.int .i64 16) fun r=>q r o) o fun o q=> ∀_:Env,ao o (R (.bool false) q) (cu 0 l (.int .i64 16) fun l=>bZ l (fun l=>ab 22 #[n] q fun o r=>ic 4 o fun o=>l o r) q fun l o=> ∀_:Env,ao l (cu 1 p e fun e=>R e o) (ab 26 #[g,c] o fun _ c=>ab 27 #[g] c fun _ c=>aG d (.int .i64 1) fun e=>a e c∧h e c<h d i))))∧cu 0 m (.int .i64 0) fun a=>ao a (ab 25 #[n] t fun a c=>f a c) (f m t)))))))∧bV b fun a=>cq d a fun a=>bZ a (fun a=>cq d (.int .i64 20) fun c=>a c j) j fun a c=> ∀_:Env,ao a (aI 1 b d fun a=>ak c a fun a=>cx .and a (.int .i64 15) fun a=>ab 20 #[g,a] c fun _ a=>k a) (k c)) (R (.bool false) i))):ab 5 #[a,b,c] H0 R:=bD 0x101a39293a004a506033422304133001a5050234223041330001b51a0644324041352a303952a31df028202814397963005070254425041331f1bc020283020282763001a53a33918a60050180354425041332918e12b212b17632a001a501e05194182185704342230413318a4a001a52a37a079507025442504131e5d1042a630052a31fe2a6706301e1761a36a7a7a3a001a52a31a Tryz.func5 h
theorem qO.vc (h:
 aT [(.int .i64 0),(.int .i64 0),(.int .i64 0),(.int .i64 0),(.int .i64 0),(.int .i64 0)] [(0,1,(.int .i64 1980)),(1,1,(.int .i64 1)),(2,1,(.int .i64 1))] fun a=>aT [(str []),(.int .i64 0),(.int .i64 0),(.int .i64 0),(.int .i64 0),(.int .i64 0),(.int .i64 0),(str [])] [(0,1,(str [97])),(1,6,a),(7,1,(str [120]))] fun a=>aY H0 48 1 [(str []),(.int .i64 0),(.int .i64 0),(.int .i64 0),(.int .i64 0),(.int .i64 0),(.int .i64 0),(str [])] [(0,8,a)] fun a b=>ab 8 #[a,(.int .i64 6)] b fun b c=>aq 0 b fun d=>aq 1 b fun b=>ab 28 #[] c fun c e=>bZ c (fun c=>cu 0 b (.int .i64 0) fun b=>c b e) e fun b c=> ∀_:Env,bZ b (fun b=>ab 10 #[a,d] c fun a d=>b a d) c fun a b=> ∀_:Env,R a b):ab 6 #[] H0 R:=bD 0x1001a519036452554022412204137a4a1a Tryz.func6 h
theorem uY.vc (a:Value) (h:
 ∃ (b:Value→Value→ai→Prop) (c:Value→Value→ai→Nat),b (.slice none 0 0) (.int .i64 0) H0∧∀ (_:Env) (d e:Value) (f:ai),b d e f→bV a fun g=>cq e g fun g=>bZ g (fun g=>cq e (.int .i64 5) fun h=>g h f) f fun g h=> ∀_:Env,ao g (aI 2 a e fun g=>aa 0 g fun g=>ak h g fun g=>G1 g (.int .i64 0) fun g=>l8 g (.int .i64 2019643200) fun g=>ab 29 #[g] h fun g i=>aq 0 g fun j=>aq 1 g fun _=>bs i 40 (.agg #[(.int .i64 0),(.int .i64 0),(.int .i64 0),(.int .i64 0),(.int .i64 0),(.int .i64 0)]) fun g i=>aC i 6 g j fun _ i=>aG (.int .i64 97) e fun j=>bm .u8 j fun j=>aE i 6 g fun k=>aI 2 a e fun l=>aa 1 l fun l=>ak i l fun m=>aI 2 a e fun a=>aa 1 a fun a=>ak i a fun n=>aX n fun o=>jU o (.int .i64 400) fun o=>a7 m none (some o) fun o=>aY i 5 1 [(.int .u8 0)] [(0,1,j)] fun i j=> (aE j 6 g fun g=>g=k)∧(ak j l fun g=>g=m)∧(ak j a fun a=>a=n)∧kh j i fun a=>aG a (str [47,102,105,108,101]) fun a=>aT [(str []),(.int .i64 0),(.int .i64 0),(.int .i64 0),(.int .i64 0),(.int .i64 0),(.int .i64 0),(str [])] [(0,1,a),(1,6,k),(7,1,o)] fun a=>aY j 48 1 [(str []),(.int .i64 0),(.int .i64 0),(.int .i64 0),(.int .i64 0),(.int .i64 0),(.int .i64 0),(str [])] [(0,8,a)] fun a g=>bj g 48 8 80 [(str []),(.int .i64 0),(.int .i64 0),(.int .i64 0),(.int .i64 0),(.int .i64 0),(.int .i64 0),(str [])] d a fun a g=>aG e (.int .i64 1) fun i=>b a i g∧c a i g<c d e f) (R d h)):ab 7 #[a] H0 R:=bD 0x102a39042d4254291c73411e744041217fffffe53fffc885111168888500111c88500011111003921ea63005070254425041336831131761a31a1a Tryz.func7 h
theorem xd.vc (h:
 ab 19 #[(.int .i64 12)] H0 fun a b=>aq 0 a fun c=>aq 1 a fun _=>ab 21 #[c] b fun a b=>aq 0 a fun d=>aq 1 a fun a=>ea 0 a (.int .i64 0) fun a=>d_ a (fun a=>ab 47 #[d] b fun e f=>ea 0 e (.int .i64 0) fun e=>a e f) b fun a b=> ∀_:Env,d_ a (fun a=>ab 24 #[d,(str [97,98,99])] b fun d e=>ea 0 d (.int .i64 0) fun d=>a d e) b fun a b=> ∀_:Env,ao a (R (.bool false) b) (ab 21 #[c] b fun a b=>aq 0 a fun c=>aq 1 a fun a=>ab 6 #[] b fun b d=>bZ b (fun b=>cu 0 a (.int .i64 0) fun a=>b a d) d fun a b=> ∀_:Env,bZ a (fun a=>ab 22 #[c] b fun c d=>ab 37 #[(.int .u32 0),(str [97,98,99])] d fun d e=>aT [(.int .u32 0),(.int .u32 0),(.int .i64 0),(.int .u32 0),(.bool false)] [(1,1,(.int .u32 1)),(2,1,(.int .i64 3)),(3,1,d)] fun d=>GZ [0,0,0,0,2] c d fun c=>a c e) b fun a b=> ∀_:Env,R a b)):ab 17 #[] H0 R:=bD 0x1001c51b056452554022412204137a001a501b03184727560334223041337a6a1a Tryz.func17 h
theorem tF.vc (h:
 bs H0 141 (.agg #[(.slice none 0 0),(.int .u64 0),(.int .i64 0)]) fun a b=>aT [(.int .u8 0),(.int .i64 0),(.int .i64 0)] [(0,1,(.int .u8 97))] fun c=>aY b 145 1 [(.int .u8 0),(.int .i64 0),(.int .i64 0)] [(0,3,c)] fun b c=>ab 69 #[a,(.int .i64 2),(.bool true),(str [97]),b] c fun b c=>ab 70 #[a] c fun _ c=>ab 72 #[a] c fun a c=>ab 71 #[a] c fun a c=>aq 0 a fun d=>aq 1 a fun e=>aq 2 a fun a=>cu 0 b (.int .i64 0) fun b=>bZ b (fun b=>cu 0 a (.int .i64 0) fun a=>b a c) c fun a b=> ∀_:Env,bZ a (fun a=>cu 1 d (str [97]) fun c=>a c b) b fun a b=> ∀_:Env,bZ a (fun a=>cu 1 e (str []) fun c=>a c b) b fun a b=> ∀_:Env,R a b):ab 28 #[] H0 R:=bD 0x1001e51d021b41a21a5190274626550234223041319a1a4a1a1a Tryz.func28 h
theorem Dl.vc (a b:Value) (h:
 ab 18 #[a,b] H0 fun a b=>aq 0 a fun c=>aq 1 a fun a=>ab 30 #[c,(str [])] b fun b c=>R (.tuple #[b,a]) c):ab 8 #[a,b] H0 R:=bD 0x105a18a2a Tryz.func8 h
theorem AR.vc (a b:Value) (h:
 cq b (.int .i64 0) fun c=>d_ c (fun c=>dW b (.int .i64 9) fun b=>c b H0) H0 fun b c=> ∀_:Env,ao b (R (.tuple #[(.int .i64 0),(.int .i64 1)]) c) (bV a fun b=> ∃ (d:Value→Value→ai→Prop) (e:Value→Value→ai→Nat),d (.slice none 0 0) (.int .i64 0) c∧∀ (_:Env) (c f:Value) (g:ai),d c f g→cq f b fun b=>ao b (aI 8 a f fun b=>aE g 8 b fun b=>bs g 48 (.agg #[(str []),(.int .i64 0),(.int .i64 0),(.int .i64 0),(.int .i64 0),(.int .i64 0),(.int .i64 0),(str [])]) fun h i=>aC i 8 h b fun _ b=>aa 0 h fun h=>ak b h fun h=>aY b 9 1 [(str [])] [(0,1,h)] fun b h=>bj h 9 1 16 [(str [])] c b fun b h=>aG f (.int .i64 1) fun i=>d b i h∧e b i h<e c f g) (ab 93 #[c] g fun b c=>aq 0 b fun d=>aq 1 b fun b=>ea 0 b (.int .i64 0) fun e=>ao e (R (.tuple #[d,b]) c) (bV a fun b=> ∃ (d:Value→ai→Prop) (e:Value→ai→Nat),d (.int .i64 0) c∧∀ (_:Env) (c:Value) (f:ai),d c f→cq c b fun b=>ao b (aI 8 a c fun b=>aE f 8 b fun b=>bs f 48 (.agg #[(str []),(.int .i64 0),(.int .i64 0),(.int .i64 0),(.int .i64 0),(.int .i64 0),(.int .i64 0),(str [])]) fun g h=>aC h 8 g b fun _ b=>aa 1 g fun g=>aE b 6 g fun g=>ab 94 #[g] b fun b g=>e7 b fun b=>ao b (R (.tuple #[c,(.int .i64 13)]) g) (aG c (.int .i64 1) fun b=>d b g∧e b g<e c f)) (bV a fun b=> ∃ (c:Value→Value→ai→Prop) (d:Value→Value→ai→Nat),c (.int .i64 0) (.int .i64 0) f∧∀ (_:Env) (e f:Value) (g:ai),c e f g→cq f b fun b=>ao b (aI 8 a f fun a=>aE g 8 a fun a=>bs g 48 (.agg #[(str []),(.int .i64 0),(.int .i64 0),(.int .i64 0),(.int .i64 0),(.int .i64 0),(.int .i64 0),(str [])]) fun b h=>aC h 8 b a fun _ a=>aa 7 b fun b=>ak a b fun b=>aX b fun b=>aG e b fun b=>dW b (.int .i64 1099511627776) fun h=>ao h (R (.tuple #[f,(.int .i64 11)]) a) (aG f (.int .i64 1) fun h=>c b h a∧d b h a<d e f g)) (R (.tuple #[(.int .i64 0),(.int .i64 0)]) g)))))):ab 44 #[a,b] H0 R:=bD 0x102a29003a52a6a6a6300531a1d5a2714305c01d2763a31a29003a54a6a6300531a1a481514305d1763a3004a52a7a329694a6300531a191f01063029062763a31a002a5050234223041332a Tryz.func44 h
theorem FW.vc (a b:Value) (h:
 ab 44 #[a,b] H0 fun c d=>aq 0 c fun _=>aq 1 c fun c=>ea 0 c (.int .i64 0) fun e=>ao e (R (.tuple #[(.pointer none),c]) d) (bj d 48 8 80 [(str []),(.int .i64 0),(.int .i64 0),(.int .i64 0),(.int .i64 0),(.int .i64 0),(.int .i64 0),(str [])] (.slice none 0 0) a fun a c=>ab 41 #[] c fun c d=>aT [(.slice none 0 0),(.int .i64 0),(.pointer none),(.int .i64 0),(.int .i64 0),(.slice none 0 0),(str []),(.bool false)] [(0,1,a),(1,1,b),(2,1,c)] fun a=>bs d 175 a fun a b=>R (.tuple #[a,(.int .i64 0)]) b)):ab 48 #[a,b] H0 R:=bD 0x1018a003a52a18a32a Tryz.func48 h
theorem tG.vc (a:Value) (h:
 bs H0 111 a fun a b=>R (.func (.func 103) #[] #[a]) b):ab 49 #[a] H0 R:=bD 0x102a2a Tryz.func49 h
theorem rY.vc (a:Value) (h:
 cu 3 a (.pointer none) fun b=>d_ b (fun b=>aB a fun c=>aa 6 c fun c=>ak H0 c fun c=>cu 1 c (str []) fun c=>bZ c (fun c=>ab 149 #[a] H0 fun d e=>e7 d fun d=>c d e) H0 fun c d=> ∀_:Env,b c d) H0 fun b c=> ∀_:Env,ao b (R (.tuple #[(str []),(.bool false)]) c) (aB a fun b=>aa 6 b fun b=>ak c b fun b=>aX b fun b=>jU b (.int .i64 256) fun b=>aB a fun d=>aa 6 d fun d=>ak c d fun d=>a7 d none (some b) fun d=>aB a fun e=>aa 6 e fun e=>ak c e fun e=>a7 e (some b) none fun b=>aB a fun a=>aa 6 a fun a=>aF c a b fun _ a=>R (.tuple #[d,(.bool true)]) a)):ab 104 #[a] H0 R:=bD 0x103a1aa7a7a002a501d01c03194182634223041332a Tryz.func104 h
theorem iy.vc (a:Value) (h:
 aB a fun b=>aa 3 b fun b=>ak H0 b fun b=>aB a fun c=>aa 0 c fun c=>ak H0 c fun c=>bV c fun c=>cq b c fun b=>ao b (ab 198 #[a] H0 fun b c=>aB a fun d=>aa 6 d fun d=>aF c d b fun _ b=>R (.bool true) b) (aB a fun b=>aa 7 b fun b=>ak H0 b fun b=>e7 b fun b=>ao b (aB a fun b=>aa 7 b fun b=>aF H0 b (.bool true) fun _ b=>aB a fun c=>aa 5 c fun c=>ak b c fun c=>ab 45 #[c] b fun b c=>aB a fun a=>aa 6 a fun a=>aF c a b fun _ a=>R (.bool true) a) (R (.bool false) H0))):ab 149 #[a] H0 R:=bD 0x101a01a1994a56a69501b04121111011101b23631a Tryz.func149 h
theorem rZ.vc (a:Value) (h:
 aB a fun b=>aa 0 b fun b=>ak H0 b fun c=>aB a fun d=>aa 3 d fun d=>ak H0 d fun e=>aI 8 c e fun f=>aE H0 8 f fun g=>bs H0 48 (.agg #[(str []),(.int .i64 0),(.int .i64 0),(.int .i64 0),(.int .i64 0),(.int .i64 0),(.int .i64 0),(str [])]) fun h i=> (ak i b fun b=>b=c)∧(ak i d fun b=>b=e)∧(aE i 8 f fun b=>b=g)∧aC i 8 h g fun _ b=>aB a fun c=>aa 3 c fun c=>ak b c fun c=>aG c (.int .i64 1) fun c=>aB a fun d=>aa 3 d fun d=>aF b d c fun _ b=>aa 0 h fun c=>ak b c fun d=>aa 1 h fun e=>aE b 6 e fun f=>aB a fun g=>aa 4 g fun g=>ak b g fun i=>bm .u64 i fun j=>aa 7 h fun k=>ak b k fun l=>cu 1 l (str []) fun m=>aT [(str []),(.int .i64 0),(.int .i64 0),(.int .i64 0),(.int .i64 0),(.int .i64 0),(.int .i64 0),(.int .u64 0),(.int .u64 0),(.int .u32 0),(.int .u64 0),(.bool false)] [(0,1,d),(1,6,f),(10,1,j),(11,1,m)] fun j=>bs b 44 (.agg #[(str []),(.int .i64 0),(.int .i64 0),(.int .i64 0),(.int .i64 0),(.int .i64 0),(.int .i64 0),(.int .u64 0),(.int .u64 0),(.int .u32 0),(.int .u64 0),(.bool false)]) fun b m=> (ak m c fun c=>c=d)∧(aE m 6 e fun c=>c=f)∧(ak m g fun c=>c=i)∧(ak m k fun c=>c=l)∧aC m 12 b j fun _ c=> ∃d:Value→ai→Prop,(∀ (_:Env) (e:Value) (f:ai),d e f→aX e fun g=>bm .u64 g fun g=>aa 7 h fun i=>ak f i fun j=>aX j fun k=>bm .u64 k fun k=>aa 7 b fun l=>aF f l g fun _ f=> (ak f i fun g=>g=j)∧aa 8 b fun g=>aF f g k fun _ f=>aB a fun g=>aa 5 g fun g=>ak f g fun i=>aE f 12 b fun j=>aY f 44 1 [(str []),(.int .i64 0),(.int .i64 0),(.int .i64 0),(.int .i64 0),(.int .i64 0),(.int .i64 0),(.int .u64 0),(.int .u64 0),(.int .u32 0),(.int .u64 0),(.bool false)] [(0,12,j)] fun f j=> (ak j g fun g=>g=i)∧bj j 44 12 104 [(str []),(.int .i64 0),(.int .i64 0),(.int .i64 0),(.int .i64 0),(.int .i64 0),(.int .i64 0),(.int .u64 0),(.int .u64 0),(.int .u32 0),(.int .u64 0),(.bool false)] i f fun f g=>aB a fun i=>aa 5 i fun i=>aF g i f fun _ f=>aE f 12 b fun g=>aE f 12 b fun i=>ab 96 #[g] f fun f g=> (aE g 12 b fun j=>j=i)∧aG f e fun e=>ab 97 #[i] g fun f g=>aG e f fun e=>aB a fun f=>aa 4 f fun f=>ak g f fun f=>aX e fun i=>aG f i fun f=>aB a fun i=>aa 4 i fun i=>aF g i f fun _ f=>R e f)∧aa 11 b fun e=>ak c e fun e=>e7 e fun e=>ao e (aa 7 h fun e=>ak c e fun e=>aB a fun f=>aa 1 f fun f=>ak c f fun f=>ab 239 #[e,f] c fun e f=>aq 0 e fun g=>aq 1 e fun _=>aB a fun a=>aa 2 a fun a=>ak f a fun a=>aa 7 h fun e=>ak f e fun e=>ab 57 #[a,e] f fun a e=>aa 9 b fun b=>aF e b a fun _ a=>d g a) (d (str []) c)):ab 198 #[a] H0 R:=bD 0x102a1aa0354354111452505122b5020101823047441616041121fe510111001b23021944118118041217511101101b2300190411210111019201b047ff531121110101b2353a2c3f05205141a01e51a73141d11d042021101111010101f2318a01b5197331a11a042012111011101c231a Tryz.func198 h
theorem Dm.vc (a b:Value) (h:
 ab 39 #[b] H0 fun b c=>aq 0 b fun d=>aq 1 b fun b=>cu 0 b (.int .i64 0) fun b=>bZ b (fun b=>ab 40 #[d,a] c fun a d=>b a d) c fun a b=> ∀_:Env,R a b):ab 10 #[a,b] H0 R:=bD 0x100756033422304137a1a Tryz.func10 h
theorem FX.vc (a:Value) (h:
 ab 87 #[a] H0 fun b c=>aq 0 b fun d=>aq 1 b fun _=>aq 2 b fun b=>ea 0 b (.int .i64 0) fun e=>ao e (R (.tuple #[(.slice none 0 0),b]) c) (ab 41 #[] c fun b c=>bV d fun e=> ∃ (f:Value→Value→ai→Prop) (g:Value→Value→ai→Nat),f (.slice none 0 0) (.int .i64 0) c∧∀ (_:Env) (c h:Value) (i:ai),f c h i→cq h e fun e=>ao e (aI 12 d h fun d=>aE i 12 d fun d=>bs i 44 (.agg #[(str []),(.int .i64 0),(.int .i64 0),(.int .i64 0),(.int .i64 0),(.int .i64 0),(.int .i64 0),(.int .u64 0),(.int .u64 0),(.int .u32 0),(.int .u64 0),(.bool false)]) fun e j=>aC j 12 e d fun _ d=>aE d 12 e fun e=>ab 88 #[b,a,e] d fun a b=>aq 0 a fun d=>aq 1 a fun a=>bs b 48 (.agg #[(str []),(.int .i64 0),(.int .i64 0),(.int .i64 0),(.int .i64 0),(.int .i64 0),(.int .i64 0),(str [])]) fun b e=>aC e 8 b d fun _ d=>ea 0 a (.int .i64 0) fun e=>ao e (R (.tuple #[(.slice none 0 0),a]) d) (aE d 8 b fun a=>aY d 48 1 [(str []),(.int .i64 0),(.int .i64 0),(.int .i64 0),(.int .i64 0),(.int .i64 0),(.int .i64 0),(str [])] [(0,8,a)] fun a b=>bj b 48 8 80 [(str []),(.int .i64 0),(.int .i64 0),(.int .i64 0),(.int .i64 0),(.int .i64 0),(.int .i64 0),(str [])] c a fun a b=>aG h (.int .i64 1) fun d=>f a d b∧g a d b<g c h i)) (R (.tuple #[c,(.int .i64 0)]) i))):ab 39 #[a] H0 R:=bD 0x103a2959003a52a31aa4a6300531a2a1c21041240280182763a31a2a003a52a319a2a Tryz.func39 h
theorem AS.vc (a:Value) (h:
 ab 134 #[a] H0 fun a b=>aq 0 a fun c=>aq 1 a fun a=>ea 0 a (.int .i64 0) fun d=>ao d (R (.tuple #[(.slice none 0 0),(.slice none 0 0),a]) b) (bV c fun a=> ∃ (d:Value→Value→ai→Prop) (e:Value→Value→ai→Nat),d (.slice none 0 0) (.int .i64 0) b∧∀ (_:Env) (b f:Value) (g:ai),d b f g→cq f a fun a=>ao a (aI 12 c f fun a=>aE g 12 a fun a=>bs g 44 (.agg #[(str []),(.int .i64 0),(.int .i64 0),(.int .i64 0),(.int .i64 0),(.int .i64 0),(.int .i64 0),(.int .u64 0),(.int .u64 0),(.int .u32 0),(.int .u64 0),(.bool false)]) fun h i=>aC i 12 h a fun _ a=>aa 0 h fun h=>ak a h fun h=>aY a 9 1 [(str [])] [(0,1,h)] fun a h=>bj h 9 1 16 [(str [])] b a fun a h=>aG f (.int .i64 1) fun i=>d a i h∧e a i h<e b f g) (ab 93 #[b] g fun a d=>aq 0 a fun _=>aq 1 a fun a=>ea 0 a (.int .i64 0) fun e=>ao e (R (.tuple #[(.slice none 0 0),(.slice none 0 0),a]) d) (R (.tuple #[c,b,(.int .i64 0)]) d)))):ab 87 #[a] H0 R:=bD 0x105a004a52a7a329694a6300531a191c0107301e072763a31a004a52a37a3a Tryz.func87 h
theorem Dn.vc (a b c:Value) (h:
 bs H0 44 c fun c d=>bs d 48 (.agg #[(str []),(.int .i64 0),(.int .i64 0),(.int .i64 0),(.int .i64 0),(.int .i64 0),(.int .i64 0),(str [])]) fun d e=>aE e 12 c fun f=>aE e 12 c fun g=>ab 96 #[f] e fun e f=> (aE f 12 c fun h=>h=g)∧ab 97 #[g] f fun f g=>aa 10 c fun h=>ak g h fun h=>aX e fun i=>bm .u64 i fun i=>aa 7 c fun j=>ak g j fun j=>aG i j fun i=>aX f fun j=>bm .u64 j fun j=>aG i j fun i=>ab 135 #[b,h,i] g fun b g=>aq 0 b fun h=>aq 1 b fun b=>e7 b fun b=>d_ b (fun b=>ab 106 #[h,e] g fun i j=>e7 i fun i=>b i j) g fun b g=> ∀_:Env,d_ b (fun b=>ab 136 #[h,f] g fun i j=>e7 i fun i=>b i j) g fun b g=> ∀_:Env,ao b (aT [(str []),(.int .i64 0),(.int .i64 0),(.int .i64 0),(.int .i64 0),(.int .i64 0),(.int .i64 0),(str [])] [] fun b=>aC g 8 d b fun _ b=>aE b 8 d fun i=>R (.tuple #[i,(.int .i64 3)]) b) (aX e fun b=>aX h fun e=>aX f fun f=>bY e f fun e=>a7 h (some b) (some e) fun b=>aE g 12 c fun e=>ab 137 #[b,e] g fun b e=>aq 0 b fun f=>aq 1 b fun b=>ea 0 b (.int .i64 0) fun g=>ao g (aT [(str []),(.int .i64 0),(.int .i64 0),(.int .i64 0),(.int .i64 0),(.int .i64 0),(.int .i64 0),(str [])] [] fun g=>aC e 8 d g fun _ g=>aE g 8 d fun h=>R (.tuple #[h,b]) g) (aX f fun b=>bm .u64 b fun b=>aa 8 c fun g=>ak e g fun g=>ea 0 b g fun b=>ao b (aT [(str []),(.int .i64 0),(.int .i64 0),(.int .i64 0),(.int .i64 0),(.int .i64 0),(.int .i64 0),(str [])] [] fun b=>aC e 8 d b fun _ b=>aE b 8 d fun g=>R (.tuple #[g,(.int .i64 8)]) b) (aa 9 c fun b=>ak e b fun g=>ab 57 #[a,f] e fun a e=> (ak e b fun b=>b=g)∧ea 0 a g fun a=>ao a (aT [(str []),(.int .i64 0),(.int .i64 0),(.int .i64 0),(.int .i64 0),(.int .i64 0),(.int .i64 0),(str [])] [] fun a=>aC e 8 d a fun _ a=>aE a 8 d fun b=>R (.tuple #[b,(.int .i64 7)]) a) (aa 0 c fun a=>ak e a fun a=>aa 1 c fun b=>aE e 6 b fun b=>aT [(str []),(.int .i64 0),(.int .i64 0),(.int .i64 0),(.int .i64 0),(.int .i64 0),(.int .i64 0),(str [])] [(0,1,a),(1,6,b),(7,1,f)] fun a=>aC e 8 d a fun _ a=>aE a 8 d fun b=>R (.tuple #[b,(.int .i64 0)]) a))))):ab 88 #[a,b,c] H0 R:=bD 0x1018a003a502544121234204121020072303a57a04a53a630280421ffff53112021f8510101002823003a501d0419418218570434223041332ba0334211125051120106233a Tryz.func88 h
theorem AT.vc (a:Value) (h:
 ab 187 #[a] H0 fun b c=>aq 0 b fun d=>aq 1 b fun b=>bs c 266 (.agg #[(.int .u64 0),(.int .u64 0),(.int .u64 0)]) fun c e=>aC e 3 c d fun _ d=>aa 2 c fun e=>ak d e fun e=>aa 1 c fun f=>ak d f fun f=>ab 135 #[a,e,f] d fun d e=>aq 0 d fun f=>aq 1 d fun d=>aa 0 c fun g=>ak e g fun g=>aa 1 c fun h=>ak e h fun h=>aa 2 c fun i=>ak e i fun i=>ab 99 #[g,h,i] e fun e g=>e7 b fun b=>d_ b (fun b=>e7 d fun d=>b d g) g fun b d=> ∀_:Env,d_ b (fun b=>aa 2 c fun g=>ak d g fun g=>aa 1 c fun h=>ak d h fun h=>aG g h fun g=>a7 a (some g) none fun a=>ea 1 a e fun a=>b a d) d fun a b=> ∀_:Env,ao a (R (.tuple #[(.slice none 0 0),(.int .i64 3)]) b) (∃ (a:Value→Value→Value→ai→Prop) (d:Value→Value→Value→ai→Nat),a f (.slice none 0 0) (.int .u64 0) b∧∀ (_:Env) (b e f:Value) (g:ai),a b e f g→ea 1 b (str []) fun h=>ao h (ab 188 #[b] g fun h i=>aq 0 h fun j=>aq 1 h fun h=>bs i 44 (.agg #[(str []),(.int .i64 0),(.int .i64 0),(.int .i64 0),(.int .i64 0),(.int .i64 0),(.int .i64 0),(.int .u64 0),(.int .u64 0),(.int .u32 0),(.int .u64 0),(.bool false)]) fun i k=>aC k 12 i j fun _ j=>vk h (.int .i64 0) fun k=>d_ k (fun k=>aa 10 i fun l=>ak j l fun l=>ea 0 l f fun l=>k l j) j fun j k=> ∀_:Env,ao j (R (.tuple #[(.slice none 0 0),(.int .i64 3)]) k) (aE k 12 i fun j=>aa 7 i fun l=>ak k l fun m=>aE k 12 i fun n=>ab 96 #[j] k fun j k=> (ak k l fun o=>o=m)∧(aE k 12 i fun o=>o=n)∧aX j fun j=>bm .u64 j fun j=>aG j m fun j=>ab 97 #[n] k fun k n=> (ak n l fun l=>l=m)∧aX k fun k=>bm .u64 k fun k=>aG j k fun j=>aG f j fun j=>a7 b (some h) none fun h=>aE n 12 i fun i=>aY n 44 1 [(str []),(.int .i64 0),(.int .i64 0),(.int .i64 0),(.int .i64 0),(.int .i64 0),(.int .i64 0),(.int .u64 0),(.int .u64 0),(.int .u32 0),(.int .u64 0),(.bool false)] [(0,12,i)] fun i k=>bj k 44 12 104 [(str []),(.int .i64 0),(.int .i64 0),(.int .i64 0),(.int .i64 0),(.int .i64 0),(.int .i64 0),(.int .u64 0),(.int .u64 0),(.int .u32 0),(.int .u64 0),(.bool false)] e i fun i k=>a h i j k∧d h i j k<d b e f g)) (bV e fun a=>bm .u64 a fun a=>aa 0 c fun b=>ak g b fun b=>ea 0 a b fun a=>d_ a (fun a=>aa 2 c fun b=>ak g b fun b=>ea 0 f b fun b=>a b g) g fun a b=> ∀_:Env,ao a (R (.tuple #[(.slice none 0 0),(.int .i64 3)]) b) (R (.tuple #[e,(.int .i64 0)]) b)))):ab 134 #[a] H0 R:=bD 0x103a002a501b047462704133594a051a46119175234186221185254204127ffe51148e501fe510111001f23002a50704342230413318a60052a34b4e3202124120627631a1a002a5028019746265502342230413318a1ba18a2a Tryz.func134 h
theorem Dp.vc (a b c:Value) (h:
 aX a fun d=>bm .u64 d fun d=>dW b d fun e=>d_ e (fun e=>bY d b fun d=>dW c d fun d=>e d H0) H0 fun d e=> ∀_:Env,ao d (R (.tuple #[(str []),(.bool false)]) e) (aG b c fun c=>a7 a (some b) (some c) fun a=>R (.tuple #[a,(.bool true)]) e)):ab 135 #[a,b,c] H0 R:=bD 0x1018a002a50190544324041334a2a Tryz.func135 h
theorem zr.vc (a b:Value) (h:
 bs H0 44 b fun b c=>aa 11 b fun b=>ak c b fun b=>ao b (R (.tuple #[(str []),(.int .i64 0)]) c) (ab 71 #[a] c fun a b=>aq 0 a fun c=>aq 1 a fun d=>aq 2 a fun a=> ∃e:Value→ai→Prop,(∀ (_:Env) (f:Value) (g:ai),e f g→R (.tuple #[c,f]) g)∧cu 0 a (.int .i64 0) fun c=>bZ c (fun c=>ea 1 d (str []) fun d=>c d b) b fun b c=> ∀_:Env,ao b (e (.int .i64 3) c) (e a c))):ab 137 #[a,b] H0 R:=bD 0x104a0195050234223041351801820181419a002a52a33a Tryz.func137 h
theorem FY.vc (a:Value) (h:
 bs H0 266 (.agg #[(.int .u64 0),(.int .u64 0),(.int .u64 0)]) fun b c=>aX a fun d=>cq d (.int .i64 22) fun d=>ao d (aT [(.int .u64 0),(.int .u64 0),(.int .u64 0)] [] fun d=>aC c 3 b d fun _ d=>aE d 3 b fun e=>R (.tuple #[e,(.bool false)]) d) (aX a fun d=>bY d (.int .i64 22) fun d=>a7 a (some d) none fun d=> ∃e:Value→ai→Prop,(∀ (_:Env) (f:Value) (g:ai),e f g→∃h:ai→Prop,(∀ (_:Env) (i:ai),h i→aE i 3 f fun j=>aa 0 f fun k=>ak i k fun k=>aa 1 f fun l=>ak i l fun l=>aa 2 f fun m=>ak i m fun m=>ab 99 #[k,l,m] i fun i k=> (aE k 3 f fun f=>f=j)∧cu 1 i d fun f=>aC k 3 b j fun _ i=>aE i 3 b fun j=>R (.tuple #[j,f]) i)∧aX a fun f=>lB f (.int .i64 98) fun f=>ao f (aX a fun f=>bY f (.int .i64 98) fun f=>a7 a (some f) none fun a=> ∃f:Value→ai→Prop,(∀ (_:Env) (i:Value) (j:ai),f i j→aa 0 i fun k=>ak j k fun k=>aa 1 i fun l=>ak j l fun l=>aa 2 i fun m=>ak j m fun m=>ab 99 #[k,l,m] j fun j k=>aX j fun l=>cu 0 l (.int .i64 98) fun l=>bZ l (fun l=>cu 1 j a fun j=>l j k) k fun j k=> ∀_:Env,ao j (aE k 3 i fun i=>aC k 3 b i fun _ i=>aE i 3 b fun b=>R (.tuple #[b,(.bool true)]) i) (h k))∧a7 a (some (.int .i64 24)) (some (.int .i64 32)) fun b=>a7 a (some (.int .i64 40)) (some (.int .i64 48)) fun i=>a7 a (some (.int .i64 48)) (some (.int .i64 56)) fun a=> (ab 109 #[b] g fun j k=> (ab 109 #[i] k fun l m=> (ab 109 #[a] m fun n o=>aT [(.int .u64 0),(.int .u64 0),(.int .u64 0)] [(0,1,j),(1,1,l),(2,1,n)] fun n=>bs o 266 (.agg #[(.int .u64 0),(.int .u64 0),(.int .u64 0)]) fun o p=>aC p 3 o n fun _ n=>f o n)∧(bs m 266 (.agg #[(.int .u64 0),(.int .u64 0),(.int .u64 0)]) fun m n=>ab 109 #[a] n fun n o=>aT [(.int .u64 0),(.int .u64 0),(.int .u64 0)] [(0,1,j),(1,1,l),(2,1,n)] fun l=>aC o 3 m l fun _ l=>f m l))∧(bs k 266 (.agg #[(.int .u64 0),(.int .u64 0),(.int .u64 0)]) fun k l=>ab 109 #[i] l fun l m=>ab 109 #[a] m fun m n=>aT [(.int .u64 0),(.int .u64 0),(.int .u64 0)] [(0,1,j),(1,1,l),(2,1,m)] fun j=>aC n 3 k j fun _ j=>f k j))∧(bs g 266 (.agg #[(.int .u64 0),(.int .u64 0),(.int .u64 0)]) fun j k=>ab 109 #[b] k fun b k=>ab 109 #[i] k fun i k=>ab 109 #[a] k fun a k=>aT [(.int .u64 0),(.int .u64 0),(.int .u64 0)] [(0,1,b),(1,1,i),(2,1,a)] fun a=>aC k 3 j a fun _ a=>f j a)) (h g))∧a7 d (some (.int .i64 8)) (some (.int .i64 10)) fun a=>a7 d (some (.int .i64 12)) (some (.int .i64 16)) fun b=>a7 d (some (.int .i64 16)) (some (.int .i64 20)) fun d=> (ab 109 #[a] c fun f g=> (ab 109 #[b] g fun h i=> (ab 109 #[d] i fun j k=>aT [(.int .u64 0),(.int .u64 0),(.int .u64 0)] [(0,1,f),(1,1,h),(2,1,j)] fun j=>bs k 266 (.agg #[(.int .u64 0),(.int .u64 0),(.int .u64 0)]) fun k l=>aC l 3 k j fun _ j=>e k j)∧(bs i 266 (.agg #[(.int .u64 0),(.int .u64 0),(.int .u64 0)]) fun i j=>ab 109 #[d] j fun j k=>aT [(.int .u64 0),(.int .u64 0),(.int .u64 0)] [(0,1,f),(1,1,h),(2,1,j)] fun h=>aC k 3 i h fun _ h=>e i h))∧(bs g 266 (.agg #[(.int .u64 0),(.int .u64 0),(.int .u64 0)]) fun g h=>ab 109 #[b] h fun h i=>ab 109 #[d] i fun i j=>aT [(.int .u64 0),(.int .u64 0),(.int .u64 0)] [(0,1,f),(1,1,h),(2,1,i)] fun f=>aC j 3 g f fun _ f=>e g f))∧(bs c 266 (.agg #[(.int .u64 0),(.int .u64 0),(.int .u64 0)]) fun c f=>ab 109 #[a] f fun a f=>ab 109 #[b] f fun b f=>ab 109 #[d] f fun d f=>aT [(.int .u64 0),(.int .u64 0),(.int .u64 0)] [(0,1,a),(1,1,b),(2,1,d)] fun a=>aC f 3 c a fun _ a=>e c a))):ab 187 #[a] H0 R:=bD 0x1003194017118570423ff57fe501fe510101001c230003a5070344324041318a01b5218455251a501b52184551a501b521841a50418435532532642342042012102101101c2193c07207146a53a492b220330401b5218455251a501b52184551a501b521841a50418435532532642342042012102101101c2191c05205146a003a53a32a Tryz.func187 h
theorem IX.vc (a:Value) (h:
 bs H0 153 (.agg #[(.pointer none),(.slice none 0 0)]) fun b c=>bV a fun d=> ∃ (e:Value→Value→ai→Prop) (f:Value→Value→ai→Nat),e (.int .u64 0) (.int .i64 0) c∧∀ (_:Env) (c g:Value) (h:ai),e c g h→cq g d fun d=>ao d (aI 12 a g fun d=>aE h 12 d fun d=>bs h 44 (.agg #[(str []),(.int .i64 0),(.int .i64 0),(.int .i64 0),(.int .i64 0),(.int .i64 0),(.int .i64 0),(.int .u64 0),(.int .u64 0),(.int .u32 0),(.int .u64 0),(.bool false)]) fun i j=>aC j 12 i d fun _ d=>aE d 12 i fun j=>ab 95 #[j] d fun d j=>e7 d fun d=>ao d (R (str []) j) (aa 10 i fun d=>ak j d fun k=>aE j 12 i fun l=>aa 7 i fun m=>ak j m fun n=>aE j 12 i fun o=>ab 96 #[l] j fun j l=> (ak l d fun p=>p=k)∧(ak l m fun p=>p=n)∧(aE l 12 i fun p=>p=o)∧aX j fun j=>bm .u64 j fun j=>aG k j fun j=>aG j n fun j=>ab 97 #[o] l fun l o=> (ak o d fun d=>d=k)∧(ak o m fun d=>d=n)∧aX l fun d=>bm .u64 d fun d=>aG j d fun d=>aE o 12 i fun i=>ab 98 #[i] o fun i j=>ab 75 #[b,i] j fun _ i=>aG g (.int .i64 1) fun j=>e d j i∧f d j i<f c g h)) (ab 76 #[b] h fun d e=>bV a fun a=>bm .u64 a fun a=>ab 100 #[b] e fun b e=>bm .u64 b fun b=>ab 99 #[a,b,c] e fun a b=>aG d a fun a=>R a b)):ab 45 #[a] H0 R:=bD 0x101aa2939041c418121b11953441a1813311a52743041211289c5021021110102823001a53a34a6300531a392010102404042763a31a1a1a Tryz.func45 h
end
section
set_option maxRecDepth 100000
variable {H H0 H' :ai} {R:Value→ai→Prop} {v:Value} {L:List It} {b:Nat} {B:List Bool}
theorem Steps.W {D D' :DM} {o:List UInt8} (h:Steps D o D') (hl:mh D.st):D'.W=D.W++o∧mh D'.st:=by
 induction h with
 |refl=>exact⟨by simp,hl⟩
 |step hs _ ih=>
  have hi:=zm hl (.inl hs);have:=ih hi.2.2;exact⟨by rw [this.1,hi.1,agc],this.2⟩
theorem Rg {x y z:List Int} {E:List Ex} {c:Nat} {G:List Tok} {V:List UInt8} {r:List Bool} (d:vT x y z E c) (tB:nS x 256) (hx:w6 x) (hy:w6 y) (hG: ∀t∈G,tp x y t) (ht:nT G [] V) (hr:r.length<8):
  run ⟨.hd,true::false::true:: (pH x y z E c++eO x y G)++r,[]⟩= (V,⟨.dn,[],V⟩,0):=by
 have s1:=Fw d (l:=true) (C:=eO x y G++r) (W:= []);obtain⟨o,s2⟩:=lZ hx hy tB (C:=r) (l:=true) ht hG;have ij:=Steps.step s1 s2;have Cx:gQ r= []:=by unfold gQ;rw [agp hr,ahM]
 have hw:= (Steps.W ij trivial).1;have he:ln true r V= ⟨.dn,[],V⟩:=by unfold ln;rw [if_pos rfl,Cx]
 rw [he] at ij hw;have e:true::false::true:: (pH x y z E c++eO x y G)++r=true::false::true:: (pH x y z E c++ (eO x y G++r)):=by simp
 rw [e];have:=ij.fin rfl;rw [this];have hw:V= []++ ([]++o):=hw;simp only [agn] at hw ⊢;rw [←hw]
def IY:Tok:= ⟨97,0,0⟩
theorem FZ (hG:Reads H ⟨0,0,none⟩ ff) (hI:Reads H ⟨4,0,none⟩ ff) (h: ∀H',Ext H H' →R (.bool true) H'):ab 28 #[] H R:=by
 refine tF.vc _ _ ?_;refine(ar.start (H:=H)).box fun b H1 o _=>?_;have o:ar H H1 (.aA (ka (wp b 141) (.slice none 0 0) []):: []):=Ot o;refine aM rfl (by decide) ?_;rw [bz];refine o.dj (sz:=3) (by decide) rfl rfl fun lv H2 o=>?_;have o:ar H H2 (.sl lv 3 (cP [IY]):: .aA (ka (wp b 141) (.slice none 0 0) []):: []):=o;have o:=o.eR (L' := .aA (ka (wp b 141) (.slice none 0 0) []):: .sl lv 3 (cP [IY]):: []) (by repeat(first|exact bd.refl|exact bw.here|apply bd.cons|apply bw.there));refine BQ (b:=wp b 141) (G:= [IY]) (s:= [97]) (l:=true) hG (by decide) (by repeat(first|exact af8|apply af7)) (by decide) (fun t ht=>by rw [agH.1 ht];rfl) (by decide) o fun H3 Rf x y z E c d _ tB hx hy P4 o=>?_;have Sd:=zq d;have OH: (eO x y [IY]).length≤30:=by
  unfold eO;rw [ahL,List.flatMap_nil,agy,af9];have h1:=gB hx 256;have h2:=gB hx 97;have e:oM x y IY=dQ (natL x) 97:=rfl;rw [e];omega
 rw [agn] at o;have hBl: (true::false::true:: (pH x y z E c++eO x y [IY])).length≤30000:=by simp only [agi,af9];omega
 have fY:=fun {r:List Bool} (hr:r.length<8)=>Rg (V:= [97]) (r:=r) d tB hx hy P4 ⟨⟨rfl,by decide⟩,rfl⟩ hr;generalize true::false::true:: (pH x y z E c++eO x y [IY])=BB at o hBl fY;refine l6 (tw o (by repeat(first|exact af8|apply af7))) (by omega) fun H4 P5 w c4=>?_;have o:=l7 o w c4 aV.here (by repeat(first|exact af8|apply af7));obtain⟨r,Dq,XI⟩:=BN BB;have y5:=pK BB;have Y3: (iL BB).length%8=0:=by omega
 refine pM (tw o (by repeat(first|exact af8|apply af7))) fun H5 XH w c5=>?_;have o:=l7 o w c5 aV.here (by repeat(first|exact af8|apply af7));have hs:toBits (bG (iL BB))=BB++r:=by rw [lj ((iL BB).length/8) _ (by omega),Dq]
 have ik: (bG (iL BB)).length≤100000000:=by
  rw [j1 ((iL BB).length/8) _ rfl,Dq,af9];omega
 have fY:=fY XI;rw [←hs] at fY;have fin: ∀ (o' :List UInt8) (D' :DM) (e:Int),run ⟨.hd,toBits (bG (iL BB)),[]⟩= (o',D',e)→o' = [97]∧D' = ⟨.dn,[],[97]⟩∧e=0:=fun o' D' e he=>by
  rw [fY] at he
  cases he;exact⟨rfl,rfl,rfl⟩
 refine BP hI o ik (fun o' D' H6 he lE vS=>?_) (fun o' D' H6 he lE _=>?_) (fun o' D' e H6 he df _=>?_)
 ·obtain⟨rfl,rfl,_⟩:=fin _ _ _ he
  refine ag (vs:= [str [97],str (bG _),.int .i64 0]) rfl ?_;refine ag (vs:= [str [97],str (bG _),.int .i64 0]) rfl ?_;refine ag (vs:= [str [97],str (bG _),.int .i64 0]) rfl ?_;have hz: ∀n,bG (List.take n (gQ []))= []:=fun n=>by rw [show gQ []= [] from rfl,List.take_nil];rfl
  rw [bc,decide_eq_true rfl];refine bB ?_;rw [bc,decide_eq_true rfl];intro _;refine bB ?_;refine iW ?_;rw [decide_eq_true rfl];intro _;refine bB ?_;refine iW ?_;rw [decide_eq_true (hz _)];intro _;exact h H6 vS
 ·obtain⟨_,rfl,_⟩:=fin _ _ _ he
  exact absurd lE (by decide)
 ·obtain⟨_,_,rfl⟩:=fin _ _ _ he
  exact absurd rfl df
end
section
set_option maxRecDepth 100000
theorem pU (n:Nat): ∀k,toBits (aQ n k)=aU n (8*k)
 |0=>rfl
 |k+1=>by
  rw [ur,dG,pU n k,yk,show 8* (k+1)=8*k+8 by omega,jD]
  congr 1
  rw [UInt8.toNat_ofNat_of_lt' (by show _<256;omega),show (256:Nat)=2 ^ 8 from rfl,kK,show (2:Nat) ^ (8*k)= (2 ^ 8) ^ k by rw [Nat.pow_mul]]
end
section
set_option maxRecDepth 100000
theorem OP {sy di:List Int} (w7:w6 sy) (Bc:w6 di) {t:Tok} (hg:eH t=true): (oM sy di t).length≤50:=by
 unfold oM
 split
 ·have:=gB w7 t.b.toNat;omega
 ·rcases iE hg with ⟨h,_⟩ | ⟨h1,h2,h3,h4⟩
  ·contradiction
  obtain⟨s,e,x,es,el,eb,he5,uP⟩:=J5 h1 h2;obtain⟨d,f,z,ed,edl,Y9,V0,Y_⟩:=J6 h3 h4;have JZ:=gB w7 (g_ t.n).toNat;have PM:=gB Bc (iu t.d).toNat;rw [eb,Y9];simp only [af9,aR];omega
theorem BR {sy di:List Int} (w7:w6 sy) (Bc:w6 di) {G:List Tok} (hg: ∀t∈G,eH t=true): (eO sy di G).length≤50*G.length+15:=by
 have h1: (G.flatMap (oM sy di)).length≤50*G.length:=xq fun t ht=>OP w7 Bc (hg t ht);have h2:=gB w7 256;unfold eO;rw [af9];omega
def TK (n:Nat) (l:Bool) (X:List Bool) (W V:List UInt8):Prop:= ∀C:List Bool,(n+X.length+C.length) %8=0→∃o,Steps ⟨.hd,X++C,W⟩ o (ln l C V)
def F0 (B:List Bool) (W:List UInt8):Prop:= ∀C:List Bool,(B.length+C.length) %8=0→∃o,Steps ⟨.hd,B++C,[]⟩ o ⟨.hd,C,W⟩
theorem F0.nil:F0 [] []:=fun C _=> ⟨_,Steps.refl⟩
theorem F0.add {B X:List Bool} {W V:List UInt8} (h:F0 B W) (k:TK B.length false X W V):F0 (B++X) V:=fun C hC=>by
 rw [af9] at hC;obtain⟨o1,s1⟩:=h (X++C) (by rw [af9];omega);obtain⟨o2,s2⟩:=k C hC;rw [agc];exact⟨_,s1.trans s2⟩
theorem F0.fin {B X:List Bool} {W V:List UInt8} {r:List Bool} (h:F0 B W) (k:TK B.length true X W V) (hr:r.length<8) (h8: (B++X++r).length%8=0):run ⟨.hd,B++X++r,[]⟩= (V,⟨.dn,[],V⟩,0):=by
 rw [af9,af9] at h8;obtain⟨o1,s1⟩:=h (X++r) (by rw [af9];omega);obtain⟨o2,s2⟩:=k r h8;have ij:=s1.trans s2;have Cx:gQ r= []:=by unfold gQ;rw [agp hr,ahM]
 have hw:= (Steps.W ij trivial).1;have he:ln true r V= ⟨.dn,[],V⟩:=by unfold ln;rw [if_pos rfl,Cx]
 rw [he] at ij hw;rw [agc];have:=ij.fin rfl;rw [this];have hw:V= []++ (o1++o2):=hw;simp only [agn] at hw;rw [←hw]
theorem Rh {n:Nat} {l:Bool} {G:List Tok} {W V:List UInt8} (hG: ∀t∈G,tp gw mg t) (tB:nS gw 256) (ht:nT G W V):TK n l (l::true::false::eO gw mg G) W V:=fun C _=>by
 obtain⟨o,s⟩:=lZ CX CY tB (C:=C) (l:=l) ht hG;exact⟨_,Steps.step (Iu (l:=l) (C:=eO gw mg G++C)) s⟩
theorem Ri {n:Nat} {x y z:List Int} {E:List Ex} {c:Nat} {l:Bool} {G:List Tok} {W V:List UInt8} (d:vT x y z E c) (hx:w6 x) (hy:w6 y) (hG: ∀t∈G,tp x y t) (tB:nS x 256) (ht:nT G W V):TK n l (l::false::true:: (pH x y z E c++eO x y G)) W V:=fun C _=>by
 obtain⟨o,s⟩:=lZ hx hy tB (C:=C) (l:=l) ht hG;have e:l::false::true:: (pH x y z E c++eO x y G)++C=l::false::true:: (pH x y z E c++ (eO x y G++C)):=by simp
 rw [e];exact⟨_,Steps.step (Fw d (l:=l) (C:=eO x y G++C) (W:=W)) s⟩
def F1 (l:Bool) (r:List Bool) (s:List UInt8):List Bool:=l::false::false:: (r++ (aU s.length 16++aU (65535 - s.length) 16++toBits s))
theorem IZ {n:Nat} {l:Bool} {r:List Bool} {s W:List UInt8} (hs:s.length<65536) (hr:r.length<8) (hn: (n+3+r.length) %8=0):TK n l (F1 l r s) W (W++s):=fun C hC=>by
 have ik:=bA s;unfold F1 at hC ⊢;simp only [agi,af9,aR,ik] at hC;have hC8:C.length%8=0:=by omega
 have Cx:gQ (r++ (aU s.length 16++aU (65535 - s.length) 16++ (toBits s++C)))=aU s.length 16++aU (65535 - s.length) 16++ (toBits s++C):=by
  unfold gQ;rw [show (r++ (aU s.length 16++aU (65535 - s.length) 16++ (toBits s++C))).length%8=r.length by simp only [af9,aR,ik];omega,ajg rfl]
 have s1:=Fj (l:=l) (W:=W) hs Cx;have s2:=Lm (l:=l) (W:=W) (s:=s) hC8;have e:l::false::false:: (r++ (aU s.length 16++aU (65535 - s.length) 16++toBits s))++C=l::false::false:: (r++ (aU s.length 16++aU (65535 - s.length) 16++ (toBits s++C))):=by simp
 rw [e];exact⟨_,Steps.step s1 (Steps.one s2)⟩
theorem tH {s:Nat} (h:s<288):nS gw s:= ⟨by rw [show gw.length=288 by decide+kernel];exact h,(Lo ⟨s,h⟩).2⟩
theorem LX {s:Nat} (h:s<32):nS mg s:= ⟨by rw [show mg.length=32 by decide+kernel];exact h,(Iv ⟨s,h⟩).2⟩
theorem F2 {t:Tok} (hg:eH t=true):tp gw mg t:=by
 unfold tp
 split
 ·have:=t.b.toNat_lt
  exact tH (by omega)
 ·rcases iE hg with ⟨h,_⟩ | ⟨h1,h2,h3,h4⟩
  ·contradiction
  have f:=nL h1 h2;have g:=nM h3 h4;exact⟨tH (by omega),LX (by omega)⟩
end
section
set_option maxRecDepth 100000
variable {H H0 H' :ai} {R:Value→ai→Prop} {v:Value} {L:List It} {zs:List Int} {b:WP} {B:List Bool}
theorem xf (o:ar H0 H L) (h: ∀H' M cb p q rest,It.box cb (p::q::rest) 232∈M→fe M gw p→fe M mg q→ar H0 H' (M++L)→R (.pointer (some ⟨cb,0,none⟩)) H'):ab 119 #[] H R:=by
 refine uu.vc _ _ ?_;refine dm rfl rfl ?_;refine dm rfl rfl ?_;refine dm rfl rfl ?_;refine dm rfl rfl ?_;simp only [eE,bz,eV,dd,eh,ahx,ahp,agi,agt,Nat.reduceAdd,Nat.reduceLeDiff,true_and];refine⟨rfl,rfl,rfl,rfl,?_⟩;refine⟨fun l u H' => ∃i:Nat,u=i64 i∧i≤4∧ar H0 H' (.sl l 1 (aH (gw.take (fixUp i)))::L),fun _ u _=>match u with| .int _ i=> (4 - i).toNat|_=>0,⟨0,rfl,by omega,o.Lh⟩,?_⟩;rintro _ l2 _ H3 ⟨i,rfl,hi,o⟩;rw [aN];refine av (fun hc=>?_) (fun hc=>?_)
 ·have QP:i<4:=by omega
  obtain⟨e1,e2,e3,e4⟩:=Fc ⟨i,QP⟩
  dsimp only at e1 e2 e3 e4
  have hx: ∀K:Value→Prop,K (.agg #[i64 (Tl i),i64 (fixUp (i+1))])→jV 4 2 (.agg [Value.int .i64 8,.int .i64 144,.int .i64 9,.int .i64 256,.int .i64 7,.int .i64 280,.int .i64 8,.int .i64 288].toArray) (i64 i) K:=by
   intro K hK;refine⟨by omega,by omega,?_⟩;rw [af_]
   match i,QP with
   |0,_=>exact hK
   |1,_=>exact hK
   |2,_=>exact hK
   |3,_=>exact hK
  refine hx _ ?_;refine E_ o (by rw [e2];exact e3) e4 fun l H4 o=>?_;rw [e2,e1] at o;rw [az,ba (by omega) (by omega)];exact⟨⟨i+1,rfl,by omega,o⟩,by show (_:Int).toNat< (_:Int).toNat;omega⟩
 have QP:i=4:=by omega
 subst QP;rw [show gw.take (fixUp 4)=gw by decide+kernel] at o;refine⟨fun d u H' => ∃i:Nat,u=i64 i∧i≤32∧ar H0 H' (.sl d 1 (aH (List.replicate i 5)):: .sl l2 1 (aH gw)::L),fun _ u _=>match u with| .int _ i=> (32 - i).toNat|_=>0,⟨0,rfl,by omega,o.Lh⟩,?_⟩;rintro _ d3 _ H4 ⟨i,rfl,hi,o⟩;rw [aN];refine av (fun hc=>?_) (fun hc=>?_)
 ·refine o.dj (by decide) rfl rfl fun y H5 o=>?_
  refine o.app (v:=d3) (x:=y) (by repeat(first|exact bw.here|apply bw.there)) (o.sl (by repeat(first|exact af8|apply af7))) (by rfl) (by rw [aL,agF];show 2* (i+1)*8≤_;omega) fun y2 H6 o=>?_;rw [nO,←aiP] at o;rw [az,ba (by omega) (by omega)];exact⟨⟨i+1,rfl,by omega,o.lW⟩,by show (_:Int).toNat< (_:Int).toNat;omega⟩
 have Tm:i=32:=by omega
 subst Tm;refine o.box fun cb H5 o _=>?_;have o:ar H0 H5 (.box cb [.pointer none,.pointer none,.pointer none,.slice none 0 0,.int .i64 0,.int .i64 0,.int .i64 0] 232:: .sl d3 1 (aH (List.replicate 32 5)):: .sl l2 1 (aH gw)::L):=o;refine fM (zs:=gw) o (o.sl (v:=l2) (by repeat(first|exact af8|apply af7))) (by decide+kernel) (fun H5 hw=>absurd Fa hw) fun H6 M p _ hp o=>?_;refine ag (vs:= [p,.int .i64 0]) rfl ?_;refine ag (vs:= [p,.int .i64 0]) rfl ?_;rw [au,ae,al];have o:=o.mid;have Aq:=hp;obtain⟨_,cb1,lv1,wv1,sv1,Yt,_⟩:=Aq;refine o.bF (b:=cb) (f:=0+0) (x:=p) (by repeat(first|exact af8|apply af7)) (by decide) (by rw [Yt];rfl) (by repeat(first|exact aV.here|apply aV.there)) fun H7 o _=>?_;have o:ar H0 H7 (.box cb [p,.pointer none,.pointer none,.slice none 0 0,.int .i64 0,.int .i64 0,.int .i64 0] 232:: (M++ .sl d3 1 (aH (List.replicate 32 5)):: .sl l2 1 (aH gw)::L)):=o;have o:=o.pick (List.Sublist.cons_cons _ (ahO (ahq M) (List.Sublist.cons_cons _ (ag_ _ L))));refine fM (zs:=mg) o (o.sl (v:=d3) (af7 _ (ahY _ (by repeat(first|exact af8|apply af7))))) (by decide+kernel) (fun H5 hw=>absurd Fb hw) fun H8 M2 q _ hq o=>?_;refine ag (vs:= [q,.int .i64 0]) rfl ?_;refine ag (vs:= [q,.int .i64 0]) rfl ?_;rw [au,ae,al];have o:=o.mid;have GX:=hq;obtain⟨_,cb2,lv2,wv2,sv2,J9,_⟩:=GX;refine o.bF (b:=cb) (f:=0+1) (x:=q) (by repeat(first|exact af8|apply af7)) (by simp) (by rw [J9];rfl) (by repeat(first|exact aV.here|apply aV.there)) fun H9 o _=>?_;have o:ar H0 H9 (.box cb [p,q,.pointer none,.slice none 0 0,.int .i64 0,.int .i64 0,.int .i64 0] 232:: (M2++ (M++ .sl d3 1 (aH (List.replicate 32 5))::L))):=o;have o:=o.pick (List.Sublist.cons_cons _ (ahO (ahq M2) (ahO (ahq M) (ag_ _ L))));have e:It.box cb [p,q,.pointer none,.slice none 0 0,.int .i64 0,.int .i64 0,.int .i64 0] 232:: (M2++ (M++L))= (It.box cb [p,q,.pointer none,.slice none 0 0,.int .i64 0,.int .i64 0,.int .i64 0] 232:: (M2++M))++L:=by simp
 rw [e] at o;exact h H9 _ cb p q _ (by repeat(first|exact af8|apply af7)) hp.app.cons hq.l_.cons o
theorem TL (l:Bool):aU (2+ (if l then 1 else 0)) 3= [l,true,false]:=by cases l<;>rfl
theorem TM (l:Bool):aU (0+ (if l then 1 else 0)) 3= [l,false,false]:=by cases l<;>rfl
theorem LY {G:List Tok} {lv dv:Value} {s:List UInt8} {l:Bool} (ik:s.length≤65535) (hl:It.sl lv 3 (cP G)∈L) (hlen:G.length≤65535) (hg: ∀t∈G,eH t=true) (jh:B.length≤400000000)
  (o:ar H0 H (.aA (ka b dv B)::L))
  (h: ∀H' iK,ar H0 H' (.aA (ka b iK (B++ (l::true::false::eO gw mg G)))::L)→R (.int .i64 0) H'):
  ab 69 #[b.at,.int .i64 1,.bool l,str s,lv] H R:=by
 refine pD.vc _ _ _ _ _ _ _ ?_;rw [cB];refine aO ?_;refine tE (kind:=1) (by decide) ik (o.sl (v:=lv) (af7 _ hl)) hlen hg fun H1 kr=>?_;rw [db];intro _;show ao (.bool false) _ _;rw [aj,bR,cR (by decide) (by decide),eB];refine⟨by decide,?_⟩;have o1:=o.more kr;refine⟨fun hd H' =>hd= .int .u64 ((2+ (if l then 1 else 0):Nat):Int)∧H1=H',?_,?_⟩
 ·rintro _ _ _ ⟨rfl,rfl⟩
  refine nV (n:=2+ (if l then 1 else 0)) (k:=3) (by split<;>omega) (by decide) (by omega) o1 fun H3 Rf o=>?_;rw [bc,decide_eq_false (by decide),aj,bc,decide_eq_true rfl,aD];refine xf o fun H4 M cb p q rest w_ hp hq o=>?_;have o:=o.perm (L' := .aA (ka b Rf (B++aU (2+ (if l then 1 else 0)) 3)):: (M++L)) aiE.symm;refine wg (sy:=gw) (di:=mg) (ahY _ hl) (ahJ _ w_) hp.l_ hq.l_ (tH (by decide)) (fun t ht=> ⟨hg t ht,F2 (hg t ht)⟩) hlen (by rw [af9,aR];omega) o fun H6 Sf o=>?_;refine h H6 Sf ?_;rw [TL] at o;simp only [agc,ahd,agn] at o ⊢;exact o.pick (List.Sublist.cons_cons _ (ah1 M L))
 ·rw [show IntKind.u64.wrap (1*2 ^ (min (1:Int).toNat IntKind.u64.bits))=2 from rfl]
  cases l
  ·rw [aj];exact⟨rfl,rfl⟩
  ·rw [aD,cd];exact⟨rfl,rfl⟩
def Dr (n:Nat):List Bool:=List.replicate ((8 - n%8) %8) false
theorem tI (n:Nat): (Dr n).length<8∧(n+ (Dr n).length) %8=0:=by
 unfold Dr;rw [agF];omega
theorem TN {X:List Bool} (h:X.length%8=0):iL X=X:=by
 unfold iL;rw [h]
 simp
theorem Ds {G:List Tok} {lv dv:Value} {s:List UInt8} {l:Bool} (ik:s.length≤65535) (hl:It.sl lv 3 (cP G)∈L) (hlen:G.length≤65535) (hg: ∀t∈G,eH t=true) (jh:B.length≤400000000)
  (o:ar H0 H (.aA (ka b dv B)::L))
  (h: ∀H' iK,ar H0 H' (.aA (ka b iK (B++F1 l (Dr (B.length+3)) s))::L)→R (.int .i64 0) H'):
  ab 69 #[b.at,.int .i64 0,.bool l,str s,lv] H R:=by
 refine pD.vc _ _ _ _ _ _ _ ?_;rw [cB];refine aO ?_;refine tE (kind:=0) (by decide) ik (o.sl (v:=lv) (af7 _ hl)) hlen hg fun H1 kr=>?_;rw [db];intro _;show ao (.bool false) _ _;rw [aj,bR,cR (by decide) (by decide),eB];refine⟨by decide,?_⟩;have o1:=o.more kr;refine⟨fun hd H' =>hd= .int .u64 ((0+ (if l then 1 else 0):Nat):Int)∧H1=H',?_,?_⟩
 ·rintro _ _ _ ⟨rfl,rfl⟩
  refine nV (n:=0+ (if l then 1 else 0)) (k:=3) (by split<;>omega) (by decide) (by omega) o1 fun H3 Rf o=>?_;rw [bc,decide_eq_true rfl,aD,TM] at*;have hl3: (B++ [l,false,false]).length=B.length+3:=by rw [af9];rfl
  refine l6 (tw o (by repeat(first|exact af8|apply af7))) (by omega) fun H4 P5 w c4=>?_;have o:=l7 o w c4 aV.here (by repeat(first|exact af8|apply af7));have Dq:iL (B++ [l,false,false])= (B++ [l,false,false])++Dr (B.length+3):=by unfold iL Dr;rw [hl3]
  have y5:=pK (B++ [l,false,false]);have XI:= (tI (B.length+3)).1;have hlp: (iL (B++ [l,false,false])).length=B.length+3+ (Dr (B.length+3)).length:=by rw [Dq,af9];omega
  refine aJ ?_;refine b7 ?_;rw [cR (by omega) (by omega)];refine bJ (n:=s.length) (k:=2) (by omega) (by decide) (by decide) fun H5 uP=>?_;refine aJ ?_;rw [aZ,show (65535:Int) - (s.length:Int)= ((65535 - s.length:Nat):Int) by omega,ba (by omega) (by omega)];refine b7 ?_;rw [cR (by omega) (by omega)];refine bJ (n:=65535 - s.length) (k:=2) (by omega) (by decide) (by decide) fun H6 vS=>?_;refine aP (by rw [ay,ay];omega) ?_;refine aP (by rw [af9,ay,ay];omega) ?_;have o:= (o.more uP).more vS;refine LJ (tw o (by repeat(first|exact af8|apply af7))) (by simp only [af9,ay,hlp];omega) fun H7 dv7 w c7=>?_;have o:=l7 o w c7 aV.here (by repeat(first|exact af8|apply af7));rw [TN y5.1,Dq,dG,dG,pU,pU] at o;refine h H7 dv7 ?_;unfold F1;simp only [agc,ahd,agn] at o ⊢;exact o
 ·rw [show IntKind.u64.wrap (0*2 ^ (min (1:Int).toNat IntKind.u64.bits))=0 from rfl]
  cases l
  ·rw [aj];exact⟨rfl,rfl⟩
  ·rw [aD,cd];exact⟨rfl,rfl⟩
inductive r4 (n:Nat) (l:Bool) (s:List UInt8) (G:List Tok):Nat→List Bool→Prop
 |stored:r4 n l s G 0 (F1 l (Dr (n+3)) s)
 |fixed:r4 n l s G 1 (l::true::false::eO gw mg G)
 |dyn {x y z:List Int} {E:List Ex} {c:Nat}:LU G x y z E c→r4 n l s G 2 (l::false::true:: (pH x y z E c++eO x y G))
theorem r4.one {n k:Nat} {l:Bool} {s:List UInt8} {G:List Tok} {X Y:List Bool} (h:r4 n l s G k X) (g:r4 n l s G k Y):X=Y:=by
 cases h with
 |stored=>cases g;rfl
 |fixed=>cases g;rfl
 |dyn h=>cases g with
  |dyn g=>obtain⟨rfl,rfl,rfl,rfl,rfl⟩:=h.one g;rfl
theorem BS {G:List Tok} {lv dv:Value} {s W V:List UInt8} {kind:Nat} {l:Bool} (hk:kind<3) (hG:Reads H0 ⟨0,0,none⟩ ff) (ik:s.length≤65535) (hl:It.sl lv 3 (cP G)∈L) (hlen:G.length≤65535) (jh:B.length≤400000000)
  (hV0:kind=0→V=W++s) (hg: ∀t∈G,eH t=true) (hV:kind≠0→nT G W V)
  (o:ar H0 H (.aA (ka b dv B)::L))
  (h: ∀H' iK X,r4 B.length l s G kind X→TK B.length l X W V→X.length≤21000+50*G.length+8*s.length→ar H0 H' (.aA (ka b iK (B++X))::L)→R (.int .i64 0) H'):
  ab 69 #[b.at,.int .i64 (kind:Int),.bool l,str s,lv] H R:=by
 match kind,hk with
 |0,_=>
  refine Ds ik hl hlen hg jh o fun H' iK o=>h H' iK _ .stored ?_ ?_ o
  ·rw [hV0 rfl];exact IZ (by omega) (tI _).1 (tI _).2
  ·have:= (tI (B.length+3)).1
   unfold F1;simp only [agi,af9,aR,bA];omega
 |1,_=>
  refine LY ik hl hlen hg jh o fun H' iK o=>h H' iK _ .fixed (Rh (fun t ht=>F2 (hg t ht)) (tH (by decide)) (hV (by decide))) ?_ o;have:=BR CX CY hg;simp only [agi];omega
 |2,_=>
  refine BQ hG ik hl hlen hg jh o fun H' iK x y z E c d dx tB hx hy P4 o=>h H' iK _ (.dyn dx) (Ri d hx hy P4 tB (hV (by decide))) ?_ o;have h1:=BR hx hy hg;have h2:=zq d;simp only [agi,af9];omega
end
section
set_option maxRecDepth 100000
def dD (T:List UInt8) (i:Nat):Nat:= ((T.getD i 0).toNat*1024 ^^^ (T.getD (i+1) 0).toNat*32 ^^^ (T.getD (i+2) 0).toNat) %32768
def ke (T:List UInt8) (k i:Nat):Nat→Nat
 |0=>0
 |m+1=>if T.getD k 0=T.getD i 0 then ke T (k+1) (i+1) m+1 else 0
theorem F3 (T:List UInt8): ∀ (m k i:Nat),ke T k i m≤m
 |0,_,_=>aga _
 |m+1,k,i=>by
  unfold ke
  split
  ·have:=F3 T m (k+1) (i+1);omega
  ·omega
theorem zt (T:List UInt8): ∀ (m k i p:Nat),p<ke T k i m→T.getD (k+p) 0=T.getD (i+p) 0
 |0,k,i,p,h=>by unfold ke at h;omega
 |m+1,k,i,p,h=>by
  unfold ke at h
  split at h
  ·rename_i he
   cases p with
   |zero=>exact he
   |succ p=>
    have:=zt T m (k+1) (i+1) p (by omega);rw [show k+ (p+1)=k+1+p by omega,show i+ (p+1)=i+1+p by omega];exact this
  ·omega
theorem F4 (T:List UInt8): ∀ (m k i:Nat),ke T k i m<m→T.getD (k+ke T k i m) 0≠T.getD (i+ke T k i m) 0
 |0,k,i,h=>by unfold ke at h;omega
 |m+1,k,i,h=>by
  unfold ke at h ⊢
  split at h
  ·rename_i he
   rw [if_pos he];have:=F4 T m (k+1) (i+1) (by omega);rw [show k+ (ke T (k+1) (i+1) m+1)=k+1+ke T (k+1) (i+1) m by omega,show i+ (ke T (k+1) (i+1) m+1)=i+1+ke T (k+1) (i+1) m by omega];exact this
  ·rename_i he
   rw [if_neg he];exact he
def qP (T:List UInt8) (k i:Nat):Nat:=ke T k i (min 258 (T.length - i))
theorem xt (T:List UInt8) (k i:Nat):qP T k i≤258∧qP T k i≤T.length - i:=by
 have:=F3 T (min 258 (T.length - i)) k i;unfold qP;omega
def dt (T:List UInt8):Nat→Nat→Nat
 |0,_=>0
 |e+1,h=>if e+3≤T.length∧dD T e=h then e+1 else dt T e h
theorem lu (T:List UInt8) (h:Nat): ∀e,dt T e h≤e
 |0=>aga _
 |e+1=>by
  unfold dt
  split
  ·omega
  ·have:=lu T h e;omega
theorem zu (T:List UInt8) (h:Nat): ∀e,0<dt T e h→dt T e h - 1+3≤T.length∧dD T (dt T e h - 1)=h
 |0,h0=>by unfold dt at h0;omega
 |e+1,h0=>by
  unfold dt at h0 ⊢
  split
  ·rename_i hc;exact hc
  ·rename_i hc
   rw [if_neg hc] at h0;exact zu T h e h0
def ku (T:List UInt8) (i k dR:Nat):Nat:=if dR<qP T (k - 1) i then qP T (k - 1) i else dR
def pV (T:List UInt8) (i k dR gU:Nat):Nat:=if dR<qP T (k - 1) i then i - (k - 1) else gU
def lx (T:List UInt8) (depth i:Nat):Nat→Nat→Nat→Nat→Nat→Nat × Nat
 |0,_,_,dR,gU=> (dR,gU)
 |c+1,n,k,dR,gU=>if 0<k∧n<depth∧i - (k - 1)≤32768 then
   (if ku T i k dR=258 then (ku T i k dR,pV T i k dR gU)
   else lx T depth i c (n+1) (dt T (k - 1) (dD T (k - 1))) (ku T i k dR) (pV T i k dR gU))
  else (dR,gU)
theorem F5 {T:List UInt8} {depth i c n k dR gU:Nat} (h:0<k∧n<depth∧i - (k - 1)≤32768) (h2:ku T i k dR≠258):lx T depth i (c+1) n k dR gU=lx T depth i c (n+1) (dt T (k - 1) (dD T (k - 1))) (ku T i k dR) (pV T i k dR gU):=by
 show (if 0<k∧n<depth∧i - (k - 1)≤32768 then _ else _)=_;rw [if_pos h,if_neg h2]
theorem zx {T:List UInt8} {depth i c n k dR gU:Nat} (h:0<k∧n<depth∧i - (k - 1)≤32768) (h2:ku T i k dR=258):lx T depth i (c+1) n k dR gU= (ku T i k dR,pV T i k dR gU):=by
 show (if 0<k∧n<depth∧i - (k - 1)≤32768 then _ else _)=_;rw [if_pos h,if_pos h2]
theorem zy {T:List UInt8} {depth i c n k dR gU:Nat} (h: ¬ (0<k∧n<depth∧i - (k - 1)≤32768)):lx T depth i (c+1) n k dR gU= (dR,gU):=by
 show (if 0<k∧n<depth∧i - (k - 1)≤32768 then _ else _)=_;rw [if_neg h]
def c_ (T:List UInt8) (depth i:Nat):Nat × Nat:=if T.length<i+3 then (0,0) else if (lx T depth i (i+1) 0 (dt T i (dD T i)) 0 0).1<3 then (0,0) else lx T depth i (i+1) 0 (dt T i (dD T i)) 0 0
def Is (T:List UInt8) (i n d:Nat):Prop:=1≤d∧d≤i∧d≤32768∧n=qP T (i - d) i
theorem F6 {T:List UInt8} {depth i:Nat}: ∀c n k dR gU,k≤i→(dR=0∨Is T i dR gU)→(lx T depth i c n k dR gU).1=0∨Is T i (lx T depth i c n k dR gU).1 (lx T depth i c n k dR gU).2
 |0,n,k,dR,gU,hk,h=>h
 |c+1,n,k,dR,gU,hk,h=>by
  by_cases hc:0<k∧n<depth∧i - (k - 1)≤32768
  ·have Em:ku T i k dR=0∨Is T i (ku T i k dR) (pV T i k dR gU):=by
    unfold ku pV
    by_cases hb:dR<qP T (k - 1) i
    ·rw [if_pos hb,if_pos hb]
     right
     refine⟨by omega,by omega,hc.2.2,?_⟩;rw [show i - (i - (k - 1))=k - 1 by omega]
    ·rw [if_neg hb,if_neg hb];exact h
   by_cases Rj:ku T i k dR=258
   ·rw [zx hc Rj];exact Em
   ·rw [F5 hc Rj]
    exact F6 c _ _ _ _ (by have:=lu T (dD T (k - 1)) (k - 1);omega) Em
  ·rw [zy hc];exact h
theorem F7 {T:List UInt8} {depth i:Nat} (h: (c_ T depth i).1≠0):3≤(c_ T depth i).1∧Is T i (c_ T depth i).1 (c_ T depth i).2:=by
 unfold c_ at h ⊢
 split
 ·rename_i hc;rw [if_pos hc] at h;exact absurd rfl h
 ·rename_i hc
  rw [if_neg hc] at h
  split
  ·rename_i h3;rw [if_pos h3] at h;exact absurd rfl h
  ·rename_i h3
   refine⟨by omega,?_⟩;rcases F6 (T:=T) (depth:=depth) (i:=i) (i+1) 0 (dt T i (dD T i)) 0 0 (lu T _ i) (.inl rfl) with h0|h0
   ·omega
   ·exact h0
end
section
set_option maxRecDepth 100000
variable {H H0:ai} {R:Value→ai→Prop} {v:Value} {L:List It} {T:List UInt8} {fb at_ dp e:Nat}
theorem Ka {a b:Nat} (ha:a<4611686018427387904) (hb:b<4611686018427387904):bitsOf .xor .i64 (a:Int) (b:Int)= ((a ^^^ b:Nat):Int):=by
 have cF:a ^^^ b<2 ^ 62:=ahK (by simpa using ha) (by simpa using hb);have e: ((BitVec.ofInt 64 (a:Int)) ^^^ (BitVec.ofInt 64 (b:Int))).toNat=a ^^^ b:=by
  rw [ai8,agY,agY,agZ,agZ,agp (by omega),agp (by omega)]
 show IntKind.i64.wrap ((((BitVec.ofInt 64 (a:Int)) ^^^ (BitVec.ofInt 64 (b:Int))).toNat:Nat):Int)=_;rw [e,ba (by omega) (by omega)]
abbrev LZ (b:Nat):Value:= .pointer (some ⟨b,0,none⟩)
def r7 (l:List Nat):List Value:=l.map fun n:Nat=> .int .i64 (n:Int)
theorem F8 (l:List Nat): (r7 l).length=l.length:=by simp [r7]
theorem OQ {l:List Nat} {i:Nat} (h:i<l.length): (r7 l)[i]? =some (.int .i64 (l.getD i 0:Int)):=by
 unfold r7;rw [agu,agb h,agd,agb h];rfl
theorem OR (l:List Nat) (i n:Nat): (r7 l).set i (.int .i64 (n:Int))=r7 (l.set i n):=by unfold r7;rw [List.map_set]
def AU (r:Nat) (m:Int→Option Value):jl where
 cN k:=k=r
 holds H:=cZ (fq .i64) H r m
 frame:=fun h hf=>h.sI (hf r rfl)
 lt:=fun h hf=>by subst hf;exact h.lt
def AV (T:List UInt8) (e:Nat):Int→Option Value:=fun k=>if 0≤k∧0<dt T e k.toNat then some (.int .i64 (dt T e k.toNat:Int)) else none
theorem Kc (T:List UInt8) (e h:Nat): (AV T e (h:Int)).getD (.int .i64 0)= .int .i64 (dt T e h:Int):=by
 unfold AV;rw [af_]
 by_cases hc:0<dt T e h
 ·rw [if_pos ⟨by omega,hc⟩];rfl
 ·rw [if_neg (fun g=>hc g.2),show dt T e h=0 by omega];rfl
theorem OS (T:List UInt8):AV T 0=fun _=>none:=by
 funext k
 unfold AV dt;rw [if_neg (by omega)]
theorem zz {T:List UInt8} {e:Nat} (h:e+3≤T.length) (x:Nat):dt T (e+1) x=if x=dD T e then e+1 else dt T e x:=by
 show (if e+3≤T.length∧dD T e=x then e+1 else dt T e x)=_
 by_cases hx:x=dD T e
 ·rw [if_pos ⟨h,hx.symm⟩,if_pos hx]
 ·rw [if_neg (fun g=>hx g.2.symm),if_neg hx]
theorem L0 {T:List UInt8} {e:Nat} (h: ¬e+3≤T.length) (x:Nat):dt T (e+1) x=dt T e x:=by
 show (if e+3≤T.length∧dD T e=x then e+1 else dt T e x)=_;rw [if_neg (fun g=>h g.1)]
theorem OT {T:List UInt8} {e:Nat} (h:e+3≤T.length):rr (fq .i64) (AV T e) (dD T e:Int) (some (.int .i64 ((e+1:Nat):Int)))=AV T (e+1):=by
 funext k
 by_cases hk:k= (dD T e:Int)
 ·subst hk
  rw [kJ];unfold AV;rw [af_,zz h,if_pos rfl,if_pos ⟨by omega,by omega⟩]
 ·rw [jP _ hk]
  unfold AV;rw [zz h]
  by_cases h0:0≤k
  ·rw [if_neg (show ¬k.toNat=dD T e by omega)]
  ·rw [if_neg (fun g=>h0 g.1),if_neg (fun g=>h0 g.1)]
theorem Rk {T:List UInt8} {e:Nat} (h: ¬e+3≤T.length):AV T (e+1)=AV T e:=by
 funext k
 unfold AV;rw [L0 h]
def oO (T:List UInt8) (e:Nat):List Nat:= (List.range T.length).map fun j=>if j<e∧j+3≤T.length then dt T j (dD T j) else 0
theorem tJ (T:List UInt8) (e:Nat): (oO T e).length=T.length:=by simp [oO]
theorem OU {T:List UInt8} {e j:Nat} (h:j<e) (h2:j+3≤T.length): (oO T e).getD j 0=dt T j (dD T j):=by
 unfold oO;rw [agd,agu,aho (by omega)];show (if j<e∧j+3≤T.length then dt T j (dD T j) else 0)=_;rw [if_pos ⟨h,h2⟩]
theorem L1 {T:List UInt8} {e:Nat} (h:e+3≤T.length): (oO T e).set e (dt T e (dD T e))=oO T (e+1):=by
 apply agX;intro i;rw [ajF,tJ];unfold oO
 by_cases hi:e=i
 ·subst hi
  rw [if_pos rfl,if_pos (by omega),agu,aho (by omega)];show _=some (if e<e+1∧e+3≤T.length then dt T e (dD T e) else 0);rw [if_pos ⟨by omega,h⟩]
 ·rw [if_neg hi]
  by_cases hl:i<T.length
  ·rw [agu,agu,aho hl]
   show some (if i<e∧i+3≤T.length then dt T i (dD T i) else 0)=some (if i<e+1∧i+3≤T.length then dt T i (dD T i) else 0);have K_: (i<e∧i+3≤T.length)↔(i<e+1∧i+3≤T.length):=by omega
   simp only [K_]
  ·rw [agq (by simp;omega),agq (by simp;omega)]
theorem OV {T:List UInt8} {e:Nat} (h: ¬e+3≤T.length):oO T (e+1)=oO T e:=by
 unfold oO;refine ahs fun i _=>?_;have K_: (i<e+1∧i+3≤T.length)↔(i<e∧i+3≤T.length):=by omega
 simp only [K_]
abbrev TO (fb:Nat) (T:List UInt8) (at_ r:Nat) (pv:Value) (dp:Nat):It:= .box fb [str T,.int .i64 (at_:Int),.map (some r),pv,.int .i64 (dp:Int)] 406
def FS (H0 H:ai) (fb:Nat) (T:List UInt8) (at_ dp e:Nat) (L:List It):Prop:= ∃r pv,ar H0 H (TO fb T at_ r pv dp:: .aA (AU r (AV T e)):: .sl pv 1 (r7 (oO T e))::L)
theorem FS.ext (f:FS H0 H fb T at_ dp e L):Ext H0 H:=by obtain⟨_,_,o⟩:=f;exact o.ext
theorem FS.more {H' :ai} (f:FS H0 H fb T at_ dp e L) (hx:Ext H H'):FS H0 H' fb T at_ dp e L:=by
 obtain⟨r,pv,o⟩:=f;exact⟨r,pv,o.more hx⟩
theorem zA {i r:Nat} {pv:Value} (o:ar H0 H L) (dz:TO fb T at_ r pv dp∈L) (hi:i+3≤T.length) (hl:T.length≤1000000) (h:R (.int .i64 (dD T i:Int)) H):ab 322 #[LZ fb,.int .i64 (i:Int)] H R:=by
 refine s9.vc _ _ _ _ ?_;have h0:= (T.getD i 0).toNat_lt;have h1:= (T.getD (i+1) 0).toNat_lt;have h2:= (T.getD (i+2) 0).toNat_lt;rw [au,ae,al];refine o.aw (f:=0+0) dz rfl ?_;rw [cf];refine⟨by omega,by rw [bu];omega,?_⟩;rw [bu,af_,bR,ba (n:= (((T.getD i 0).toNat:Nat):Int)) (by omega) (by omega),eB];refine⟨by decide,?_⟩;rw [show (((T.getD i 0).toNat:Nat):Int)*2 ^ (min (Int.toNat 10) IntKind.i64.bits)= (((T.getD i 0).toNat*1024:Nat):Int) from by
  rw [show min (Int.toNat 10) IntKind.i64.bits=10 from rfl];omega,ba (by omega) (by omega),az,show (i:Int)+1= ((i+1:Nat):Int) by omega,ba (by omega) (by omega),cf]
 refine⟨by omega,by rw [bu];omega,?_⟩;rw [bu,af_,bR,ba (n:= (((T.getD (i+1) 0).toNat:Nat):Int)) (by omega) (by omega),eB];refine⟨by decide,?_⟩;rw [show (((T.getD (i+1) 0).toNat:Nat):Int)*2 ^ (min (Int.toNat 5) IntKind.i64.bits)= (((T.getD (i+1) 0).toNat*32:Nat):Int) from by
  rw [show min (Int.toNat 5) IntKind.i64.bits=5 from rfl];omega,ba (by omega) (by omega),cd,Ka (by omega) (by omega),az,show (i:Int)+2= ((i+2:Nat):Int) by omega,ba (by omega) (by omega),cf]
 refine⟨by omega,by rw [bu];omega,?_⟩;rw [bu,af_,bR,ba (n:= (((T.getD (i+2) 0).toNat:Nat):Int)) (by omega) (by omega),cd];have hx: (T.getD i 0).toNat*1024 ^^^ (T.getD (i+1) 0).toNat*32<2 ^ 20:=ahK (by omega) (by omega);rw [Ka (by omega) (by omega),cd,nx (k:=15) (m:=32767) (by decide) rfl];exact h
theorem pW (f:FS H0 H fb T at_ dp e L) (hl:T.length≤1000000) (he:e≤T.length) (h: ∀H',FS H0 H' fb T at_ dp (e+1) L→R (.tuple #[]) H'):ab 319 #[LZ fb,.int .i64 (e:Int)] H R:=by
 obtain⟨r,pv,o⟩:=f;refine rK.vc _ _ _ _ ?_;rw [az,ba (n:= (e:Int)+3) (by omega) (by omega),au,ae,al];refine o.aw (b:=fb) (f:=0+0) (by repeat(first|exact af8|apply af7)) rfl ?_;refine aJ ?_;rw [a8];refine av (fun hc=>?_) (fun hc=>?_)
 ·have df: ¬e+3≤T.length:=by omega
  exact h H ⟨r,pv,by rw [Rk df,OV df];exact o⟩
 ·have Wk:e+3≤T.length:=by omega
  refine zA (fb:=fb) (r:=r) (pv:=pv) (at_:=at_) (dp:=dp) o (by repeat(first|exact af8|apply af7)) Wk hl ?_;rw [au,ae,al];refine o.aw (b:=fb) (f:=0+3) (by repeat(first|exact af8|apply af7)) rfl ?_;rw [au,ae,al];refine o.aw (b:=fb) (f:=0+2) (by repeat(first|exact af8|apply af7)) rfl ?_;refine cZ.lookup (κ:=fq .i64) (o.aA (T:=AU r (AV T e)) (by repeat(first|exact af8|apply af7))) (k:= (dD T e:Int)) ?_;rw [cond_false,Kc];have y5: (r7 (oO T e)).length=T.length*1:=by rw [F8,tJ,agh]
  refine(o.sl (v:=pv) (by repeat(first|exact af8|apply af7))).at_ y5 (by decide) (by omega) (by omega) fun p hp=>?_;refine o.store hp (by repeat(first|exact af8|apply af7)) (by rw [y5];omega) rfl (by repeat(first|exact aV.here|apply aV.there)) fun H1 o _=>?_;rw [af_,agh,OR,L1 Wk] at o;rw [au,ae,al];refine o.aw (b:=fb) (f:=0+2) (by repeat(first|exact af8|apply af7)) rfl ?_;rw [az,show (e:Int)+1= ((e+1:Nat):Int) by omega,ba (by omega) (by omega)];refine cZ.set (κ:=fq .i64) (o.aA (T:=AU r (AV T e)) (by repeat(first|exact af8|apply af7))) (k:= (dD T e:Int)) fun H2 hm hs df=>?_;rw [OT Wk] at hm;exact h H2 ⟨r,pv,o.eX (i:= .aA (AU r (AV T e))) (i' := .aA (AU r (AV T (e+1)))) (by repeat(first|exact aV.here|apply aV.there)) (by omega) (fun k _ hf=>df k hf) hm (fun k hk=> .inl hk)⟩
theorem L5 {k i r:Nat} {pv:Value} (o:ar H0 H L) (dz:TO fb T at_ r pv dp∈L) (hk:k≤i) (hi:i≤T.length) (hl:T.length≤1000000) (h:R (.int .i64 (qP T k i:Int)) H):ab 323 #[LZ fb,.int .i64 (k:Int),.int .i64 (i:Int)] H R:=by
 refine qK.vc _ _ _ _ _ ?_;rw [au,ae,al];refine o.aw (f:=0+0) dz rfl ?_;refine aJ ?_;rw [aZ,show (T.length:Int) - (i:Int)= ((T.length - i:Nat):Int) by omega,ba (by omega) (by omega),iV,show min (258:Int) ((T.length - i:Nat):Int)= ((min 258 (T.length - i):Nat):Int) by omega];refine⟨fun n H' => ∃q:Nat,n= .int .i64 q∧q≤qP T k i∧H=H',fun n _=>match n with| .int _ x=>1000 - x.toNat|_=>0,⟨0,rfl,by omega,rfl⟩,?_⟩;rintro _ _ _ ⟨q,rfl,hq,rfl⟩;have hle:=xt T k i;rw [aN];refine dM (d:=decide (T.getD (k+q) 0=T.getD (i+q) 0)) (fun hc=>?_) ?_
 ·rw [decide_eq_true_eq] at hc
  rw [au,ae,al];refine o.aw (f:=0+0) dz rfl ?_;rw [az,show (k:Int)+ (q:Int)= ((k+q:Nat):Int) by omega,ba (by omega) (by omega),cf];refine⟨by omega,by rw [bu];omega,?_⟩;rw [bu,af_,au,ae,al];refine o.aw (f:=0+0) dz rfl ?_;rw [az,show (i:Int)+ (q:Int)= ((i+q:Nat):Int) by omega,ba (by omega) (by omega),cf];refine⟨by omega,by rw [bu];omega,?_⟩;rw [bu,af_,bc];refine⟨?_,rfl⟩
  congr 1
  rw [decide_eq_decide]
  constructor
  ·intro g
   exact UInt8.toNat_inj.1 (by omega)
  ·intro g;rw [g]
 intro _;refine cy (fun hc=>?_) (fun hc=>?_)
 ·rw [agk,decide_eq_true_eq,decide_eq_true_eq] at hc
  have hqm:q<min 258 (T.length - i):=by omega
  rw [az,ba (n:= (q:Int)+1) (by omega) (by omega)];refine⟨⟨q+1,rfl,?_,rfl⟩,by show 1000 - ((q:Int)+1).toNat<1000 - (q:Int).toNat;omega⟩
  by_cases cF:q<qP T k i
  ·omega
  ·have J9:qP T k i=q:=by omega
   have:=F4 T (min 258 (T.length - i)) k i (by show qP T k i<_;omega);rw [show ke T k i (min 258 (T.length - i))=q from J9] at this;exact absurd hc.2 this
 ·have J9:q=qP T k i:=by
   by_cases cF:q<qP T k i
   ·have:=zt T (min 258 (T.length - i)) k i q cF
    rw [this,decide_eq_true rfl,Bool.and_true,decide_eq_false_iff_not] at hc;omega
   ·omega
  rw [J9];exact h
theorem q9 (f:FS H0 H fb T at_ dp e L) (hl:T.length≤1000000) (he:e≤T.length) (h:R (.tuple #[.int .i64 ((c_ T dp e).1:Int),.int .i64 ((c_ T dp e).2:Int)]) H):ab 320 #[LZ fb,.int .i64 (e:Int)] H R:=by
 obtain⟨r,pv,o⟩:=f;refine pC.vc _ _ _ _ ?_;rw [az,ba (n:= (e:Int)+3) (by omega) (by omega),au,ae,al];refine o.aw (b:=fb) (f:=0+0) (by repeat(first|exact af8|apply af7)) rfl ?_;refine aJ ?_;rw [a8];refine av (fun hc=>?_) (fun hc=>?_)
 ·unfold c_ at h
  rw [if_pos (by omega)] at h;exact h
 have Wk:e+3≤T.length:=by omega
 have OW:c_ T dp e=if (lx T dp e (e+1) 0 (dt T e (dD T e)) 0 0).1<3 then (0,0) else lx T dp e (e+1) 0 (dt T e (dD T e)) 0 0:=by
  unfold c_;rw [if_neg (by omega)]
 rw [OW] at h;rw [au,ae,al];refine o.aw (b:=fb) (f:=0+2) (by repeat(first|exact af8|apply af7)) rfl ?_;refine zA (fb:=fb) (r:=r) (pv:=pv) (at_:=at_) (dp:=dp) o (by repeat(first|exact af8|apply af7)) Wk hl ?_;refine⟨o.aw (b:=fb) (f:=0+2) (by repeat(first|exact af8|apply af7)) rfl rfl,?_⟩;refine cZ.lookup (κ:=fq .i64) (o.aA (T:=AU r (AV T e)) (by repeat(first|exact af8|apply af7))) (k:= (dD T e:Int)) ?_;rw [Kc];have y5: (r7 (oO T e)).length=T.length*1:=by rw [F8,tJ,agh]
 generalize hW:lx T dp e (e+1) 0 (dt T e (dD T e)) 0 0=W at*;refine⟨fun b d H' =>b= .int .i64 (W.1:Int)∧d= .int .i64 (W.2:Int)∧H=H',?_,?_⟩
 ·rintro _ _ _ _ ⟨rfl,rfl,rfl⟩
  rw [aN];refine av (fun hc=>?_) (fun hc=>?_)
  ·rw [if_pos (by omega)] at h;exact h
  ·rw [if_neg (by omega)] at h;exact h
 refine⟨fun b d k n H' => ∃ (dR gU kk nn c:Nat),b= .int .i64 (dR:Int)∧d= .int .i64 (gU:Int)∧k= .int .i64 (kk:Int)∧n= .int .i64 (nn:Int)∧kk≤c∧kk≤e∧(0<kk→kk - 1+3≤T.length)∧nn+kk≤e∧dR≤258∧gU≤e∧lx T dp e c nn kk dR gU=W∧H=H',fun _ _ k _ _=>match k with| .int _ x=>x.toNat|_=>0,
  ⟨0,0,dt T e (dD T e),0,e+1,rfl,rfl,rfl,rfl,by have:=lu T (dD T e) e;omega,lu _ _ _,fun g=> (zu T _ _ g).1,by have:=lu T (dD T e) e;omega,by omega,by omega,hW,rfl⟩,?_⟩
 rintro _ _ _ _ _ _ ⟨dR,gU,k,n,c,rfl,rfl,rfl,rfl,hkc,hke,Si,hnk,hb,hd,hw,rfl⟩;rw [a8];refine dM (d:=decide ((n:Int)< (dp:Int))) (fun _=>?_) ?_
 ·rw [au,ae,al]
  refine o.aw (b:=fb) (f:=0+4) (by repeat(first|exact af8|apply af7)) rfl ?_;rw [aN];exact⟨rfl,rfl⟩
 intro _;refine dM (d:=decide ((e:Int) - ((k:Int) - 1)≤32768)) (fun _=>?_) ?_
 ·rw [aZ,ba (by omega) (by omega),aZ,ba (by omega) (by omega),kp]
  exact⟨rfl,rfl⟩
 intro _;refine cy (fun hc=>?_) (fun hc=>?_)
 ·rw [agk,agk,decide_eq_true_eq,decide_eq_true_eq,decide_eq_true_eq] at hc
  have PS:0<k:=by omega
  obtain⟨c,rfl⟩: ∃c',c=c' +1:= ⟨c - 1,by omega⟩;have HY:0<k∧n<dp∧e - (k - 1)≤32768:= ⟨PS,by omega,by omega⟩;have hlen:=xt T (k - 1) e;refine⟨fun b d H' =>b= .int .i64 (ku T e k dR:Int)∧d= .int .i64 (pV T e k dR gU:Int)∧H=H',?_,?_⟩
  ·rintro _ _ _ _ ⟨rfl,rfl,rfl⟩
   rw [bc];refine av (fun Rj=>?_) (fun Rj=>?_)
   ·rw [zx HY (by omega)] at hw
    rw [←hw];exact⟨rfl,rfl,rfl⟩
   ·rw [F5 HY (by omega)] at hw
    rw [au,ae,al];refine o.aw (b:=fb) (f:=0+3) (by repeat(first|exact af8|apply af7)) rfl ?_;rw [aZ,show (k:Int) - 1= ((k - 1:Nat):Int) by omega,ba (by omega) (by omega)];have Si:=Si PS;refine(o.sl (v:=pv) (by repeat(first|exact af8|apply af7))).at_ y5 (by decide) (by omega) (by omega) fun p hp=>?_;refine hp.load (o.sl (v:=pv) (by repeat(first|exact af8|apply af7))) (by rw [af_,agh];exact OQ (by rw [tJ];omega)) ?_;rw [OU (by omega) Si,az,ba (n:= (n:Int)+1) (by omega) (by omega)];have Uz:=lu T (dD T (k - 1)) (k - 1);refine⟨⟨ku T e k dR,pV T e k dR gU,dt T (k - 1) (dD T (k - 1)),n+1,c,rfl,rfl,rfl,rfl,by omega,by omega,fun g=> (zu T _ _ g).1,by omega,?_,?_,hw,rfl⟩,by show ((dt T (k - 1) (dD T (k - 1)):Nat):Int).toNat< (k:Int).toNat;omega⟩
    ·unfold ku;split<;>omega
    ·unfold pV;split<;>omega
  ·rw [aZ,show (k:Int) - 1= ((k - 1:Nat):Int) by omega,ba (by omega) (by omega)]
   refine L5 (fb:=fb) (r:=r) (pv:=pv) (at_:=at_) (dp:=dp) o (by repeat(first|exact af8|apply af7)) (by omega) he hl ?_;rw [a8];refine av (fun cF=>?_) (fun cF=>?_)
   ·rw [aZ,show (k:Int) - 1= ((k - 1:Nat):Int) by omega,ba (by omega) (by omega),aZ,show (e:Int) - ((k - 1:Nat):Int)= ((e - (k - 1):Nat):Int) by omega,ba (by omega) (by omega)]
    unfold ku pV;rw [if_pos (by omega),if_pos (by omega)];exact⟨rfl,rfl,rfl⟩
   ·unfold ku pV
    rw [if_neg (by omega),if_neg (by omega)];exact⟨rfl,rfl,rfl⟩
 ·have Wl:lx T dp e c n k dR gU= (dR,gU):=by
   cases c with
   |zero=>rfl
   |succ c=>
    refine zy fun g=>?_;rw [decide_eq_true (by omega),decide_eq_true (by omega),decide_eq_true (by omega)] at hc
    cases hc
  rw [Wl] at hw;rw [←hw];exact⟨rfl,rfl,rfl⟩
theorem I0 {A s:List UInt8} {d:Nat} (o:ar H0 H L) (hl:A.length+s.length≤900000) (hd:d≤1073741824)
  (h: ∀H' fb,FS H0 H' fb (A.drop (A.length - 32768)++s) (A.drop (A.length - 32768)).length d (A.drop (A.length - 32768)).length L→R (LZ fb) H'):ab 315 #[str A,str s,.int .i64 (d:Int)] H R:=by
 refine wX.vc _ _ _ _ _ ?_;refine aJ ?_;rw [aZ,ba (n:= (A.length:Int) - 32768) (by omega) (by omega),Hz,show max ((A.length:Int) - 32768) 0= ((A.length - 32768:Nat):Int) by omega];refine bg (lo:=A.length - 32768) (hi:=A.length) (.inl rfl) (.inr ⟨rfl,rfl⟩) (by omega) (by omega) ?_;rw [agx (by rw [agl];exact aga _)];have hBl: (A.drop (A.length - 32768)).length≤A.length:=by rw [agl];omega
 generalize A.drop (A.length - 32768)=B at*;refine aP (by omega) ?_;refine aJ ?_;have R_: (B++s).length≤1000000:=by rw [af9];omega
 have hBT:B.length≤(B++s).length:=by rw [af9];omega
 generalize B++s=T at*;refine mI (fq .i64) fun H1 hm hx kg=>?_;have o:=o.add hx (i:= .aA (AU H.size (AV T 0))) (by rw [OS];exact hm) (by intro k hk;obtain rfl:k=H.size:=hk;exact aga _);refine aM rfl (by decide) ?_;refine aM rfl (by simp) ?_;refine aM rfl (by simp) ?_;refine aM rfl (by simp) ?_;rw [bz];refine o.box fun fb H2 o _=>?_
 change ar H0 H2 (TO fb T B.length H.size (.slice none 0 0) d::_) at o
 rw [au,ae,al];refine o.aw (b:=fb) (f:=0+0) (by repeat(first|exact af8|apply af7)) rfl ?_;refine aJ ?_;refine o.qV (by omega) (by omega) (by omega) fun pv H3 o=>?_;rw [af_] at o;rw [au,ae,al];refine o.bF (b:=fb) (f:=0+3) (by repeat(first|exact af8|apply af7)) (by simp) (o.sl (v:=pv) (by repeat(first|exact af8|apply af7))).one (by repeat(first|exact aV.here|apply aV.there)) fun H4 o _=>?_;refine aJ ?_;have VL:List.replicate T.length (Value.int .i64 0)=r7 (oO T 0):=by
  unfold r7 oO;rw [ah5];apply agX;intro i;rw [aie,agu]
  by_cases hi:i<T.length
  ·rw [if_pos hi,aho hi]
   show _=some (Value.int .i64 (((if i<0∧i+3≤T.length then dt T i (dD T i) else 0):Nat):Int));rw [if_neg (by omega)];rfl
  ·rw [if_neg hi,agq (by rw [ajz];omega)];rfl
 rw [VL] at o;have f:FS H0 H4 fb T B.length d 0 L:= ⟨H.size,pv,o.eR (by repeat(first|exact bd.refl|exact bw.here|apply bd.cons|apply bw.there))⟩;clear o;refine⟨fun i H' => ∃j:Nat,i= .int .i64 j∧j≤B.length∧FS H0 H' fb T B.length d j L,fun i _=>match i with| .int _ x=>B.length - x.toNat|_=>0,⟨0,rfl,by omega,f⟩,?_⟩;clear f;rintro _ _ H5 ⟨j,rfl,hj,f⟩;rw [aN];refine av (fun hc=>?_) (fun hc=>?_)
 ·refine pW f R_ (by omega) fun H6 f=>?_
  rw [az,ba (n:= (j:Int)+1) (by omega) (by omega)];exact⟨⟨j+1,rfl,by omega,f⟩,by show B.length - ((j:Int)+1).toNat<B.length - (j:Int).toNat;omega⟩
 ·have hjB:j=B.length:=by omega
  subst hjB;exact h H5 fb f
end
section
set_option maxRecDepth 100000
variable {T:List UInt8}
abbrev iN (x:UInt8):Tok:= ⟨x,0,0⟩
abbrev zB (n d:Nat):Tok:= ⟨0,(n:Int),(d:Int)⟩
def takeN (T:List UInt8) (dp:Nat) (lazy:Bool) (i:Nat):Nat:=if 0< (c_ T dp i).1∧lazy=true∧(c_ T dp i).1<258∧(c_ T dp i).1< (c_ T dp (i+1)).1 then 0 else (c_ T dp i).1
theorem OX (T:List UInt8) (dp:Nat) (lazy:Bool) (i:Nat):takeN T dp lazy i=0∨takeN T dp lazy i= (c_ T dp i).1:=by
 unfold takeN
 by_cases h:0< (c_ T dp i).1∧lazy=true∧(c_ T dp i).1<258∧(c_ T dp i).1< (c_ T dp (i+1)).1
 ·rw [if_pos h];exact .inl rfl
 ·rw [if_neg h];exact .inr rfl
def iH (T:List UInt8) (dp:Nat) (lazy:Bool):Nat→Nat→List Tok
 |0,_=> []
 |c+1,i=>if i<T.length then (if takeN T dp lazy i=0 then iN (T.getD i 0)::iH T dp lazy c (i+1) else zB (takeN T dp lazy i) (c_ T dp i).2::iH T dp lazy c (i+takeN T dp lazy i)) else []
theorem fO {dp:Nat} {lazy:Bool} {c i:Nat} (h:T.length≤i):iH T dp lazy c i= []:=by
 cases c with
 |zero=>rfl
 |succ c=>
  show (if i<T.length then _ else [])= [];rw [if_neg (by omega)]
theorem kP {dp:Nat} {lazy:Bool} {c i:Nat} (h:i<T.length) (h0:takeN T dp lazy i=0):iH T dp lazy (c+1) i=iN (T.getD i 0)::iH T dp lazy c (i+1):=by
 show (if i<T.length then _ else [])=_;rw [if_pos h,if_pos h0]
theorem kQ {dp:Nat} {lazy:Bool} {c i:Nat} (h:i<T.length) (h0:takeN T dp lazy i≠0):iH T dp lazy (c+1) i=zB (takeN T dp lazy i) (c_ T dp i).2::iH T dp lazy c (i+takeN T dp lazy i):=by
 show (if i<T.length then _ else [])=_;rw [if_pos h,if_neg h0]
theorem xu {dp:Nat} {lazy:Bool} {i:Nat} (h:takeN T dp lazy i≠0):takeN T dp lazy i= (c_ T dp i).1∧3≤takeN T dp lazy i∧takeN T dp lazy i≤258∧i+takeN T dp lazy i≤T.length∧1≤(c_ T dp i).2∧(c_ T dp i).2≤i∧(c_ T dp i).2≤32768∧∀p,p<takeN T dp lazy i→T.getD (i - (c_ T dp i).2+p) 0=T.getD (i+p) 0:=by
 have e:takeN T dp lazy i= (c_ T dp i).1:=by
  rcases OX T dp lazy i with g|g
  ·exact absurd g h
  ·exact g
 obtain⟨g3,g1,g2,g4,g5⟩:=F7 (T:=T) (depth:=dp) (i:=i) (by omega);have hle:=xt T (i - (c_ T dp i).2) i;refine⟨e,by omega,by omega,by omega,g1,g2,g4,fun p hp=>?_⟩;refine zt T (min 258 (T.length - i)) _ _ p ?_;show p<qP T (i - (c_ T dp i).2) i;omega
theorem jL {dp:Nat} {lazy:Bool}: ∀ (c c' i:Nat),T.length - i≤c→T.length - i≤c' →iH T dp lazy c i=iH T dp lazy c' i
 |0,c',i,h1,h2=>by rw [fO (by omega),fO (by omega)]
 |c+1,0,i,h1,h2=>by rw [fO (by omega),fO (by omega)]
 |c+1,c' +1,i,h1,h2=>by
  by_cases hi:i<T.length
  ·by_cases h0:takeN T dp lazy i=0
   ·rw [kP hi h0,kP hi h0,jL c c' (i+1) (by omega) (by omega)]
   ·rw [kQ hi h0,kQ hi h0,jL c c' (i+takeN T dp lazy i) (by omega) (by omega)]
  ·rw [fO (by omega),fO (by omega)]
theorem zC (x:UInt8):eH (iN x)=true:=rfl
theorem F9 {n d:Nat} (h1:3≤n) (h2:n≤258) (h3:1≤d) (h4:d≤32768):eH (zB n d)=true:=by
 unfold eH;show (if (n:Int)=0 then _ else decide ((((0:UInt8).toNat:Nat):Int)=0∧3≤(n:Int)∧(n:Int)≤258∧1≤(d:Int)∧(d:Int)≤32768))=true;rw [if_neg (by omega),decide_eq_true_eq];exact⟨rfl,by omega,by omega,by omega,by omega⟩
theorem r8 {i:Nat} (h:i<T.length):T.take i++ [T.getD i 0]=T.take (i+1):=by
 rw [agz,agd,agb h];rfl
theorem zD: ∀ (n i d:Nat),1≤d→d≤i→i+n≤T.length→(∀p,p<n→T.getD (i - d+p) 0=T.getD (i+p) 0)→cU n (T.take i) d=T.take (i+n)
 |0,i,d,_,_,_,_=>rfl
 |n+1,i,d,h1,h2,h3,h4=>by
  have h0:=h4 0 (by omega);have hl: (T.take i).length=i:=by rw [age];omega
  have hg: (T.take i).getD ((T.take i).length - d) 0=T.getD i 0:=by
   rw [hl,agd,agV,if_pos (by omega),←agd];exact h0
  rw [cU,hg,r8 (by omega),zD n (i+1) d h1 (by omega) (by omega) (fun p hp=>by
   have:=h4 (p+1) (by omega);rw [show i+1 - d+p=i - d+ (p+1) by omega,show i+1+p=i+ (p+1) by omega];exact this)]
  rw [show i+1+n=i+ (n+1) by omega]
theorem zE {x:UInt8} {r:List Tok} {b:List UInt8}:eu (iN x::r) b=eu r (b++ [x]):=by
 rw [eu,if_pos ⟨zC x,by show (0:Int)≤_;omega⟩,if_pos (show (iN x).n=0 from rfl)]
 rfl
theorem I1 {n d:Nat} {r:List Tok} {b:List UInt8} (h1:3≤n) (h2:n≤258) (h3:1≤d) (h4:d≤32768) (h5:d≤b.length):eu (zB n d::r) b=eu r (cU n b d):=by
 rw [eu,if_pos ⟨F9 h1 h2 h3 h4,by show (d:Int)≤_;omega⟩,if_neg (show ¬ ((n:Int)=0) by omega)]
 rfl
theorem pX {dp:Nat} {lazy:Bool}: ∀ (c i:Nat),i≤T.length→T.length - i≤c→eu (iH T dp lazy c i) (T.take i)=some T
 |0,i,hi,hc=>by
  show some (T.take i)=some T;rw [agx (by omega)]
 |c+1,i,hi,hc=>by
  by_cases hl:i<T.length
  ·by_cases h0:takeN T dp lazy i=0
   ·rw [kP hl h0,zE,r8 hl]
    exact pX c (i+1) (by omega) (by omega)
   ·obtain⟨_,h1,h2,h3,h4,h5,h6,h7⟩:=xu h0
    rw [kQ hl h0,I1 h1 h2 h4 h6 (by rw [age];omega),zD _ _ _ h4 h5 h3 h7];exact pX c _ h3 (by omega)
  ·rw [fO (by omega),agx (by omega)];rfl
theorem pY {dp:Nat} {lazy:Bool}: ∀ (c i:Nat),T.length - i≤c→(iH T dp lazy c i).length≤T.length - i
 |0,i,hc=>agK _
 |c+1,i,hc=>by
  by_cases hl:i<T.length
  ·by_cases h0:takeN T dp lazy i=0
   ·have:=pY (dp:=dp) (lazy:=lazy) c (i+1) (by omega)
    rw [kP hl h0,agi];omega
   ·obtain⟨_,h1,h2,h3,h4,h5,h6,h7⟩:=xu h0
    have:=pY (dp:=dp) (lazy:=lazy) c (i+takeN T dp lazy i) (by omega);rw [kQ hl h0,agi];omega
  ·rw [fO (by omega)];exact agK _
theorem r9 {dp:Nat} {lazy:Bool}: ∀ (c i:Nat),∀t∈iH T dp lazy c i,eH t=true∧t.d≤32768
 |0,i,t,ht=>by cases ht
 |c+1,i,t,ht=>by
  by_cases hl:i<T.length
  ·by_cases h0:takeN T dp lazy i=0
   ·rw [kP hl h0] at ht
    rcases ago.1 ht with rfl|ht
    ·exact⟨zC _,by show (0:Int)≤32768;decide⟩
    ·exact r9 c _ t ht
   ·obtain⟨_,h1,h2,h3,h4,h5,h6,h7⟩:=xu h0
    rw [kQ hl h0] at ht;rcases ago.1 ht with rfl|ht
    ·exact⟨F9 h1 h2 h4 h6,by show ((c_ T dp i).2:Int)≤32768;omega⟩
    ·exact r9 c _ t ht
  ·rw [fO (by omega)] at ht;cases ht
theorem wj: ∀ (n:Nat) (p b:List UInt8) (d:Nat),1≤d→d≤b.length→cU n (p++b) d=p++cU n b d
 |0,p,b,d,_,_=>rfl
 |n+1,p,b,d,h1,h2=>by
  have hg: (p++b).getD ((p++b).length - d) 0=b.getD (b.length - d) 0:=by
   rw [agd,agd,af9,agQ (by omega)]
   congr 2
   omega
  rw [cU,hg,agc,wj n p _ d h1 (by rw [af9];omega),cU]
theorem mi: ∀ (l:List Tok) (p b x:List UInt8),eu l b=some x→eu l (p++b)=some (p++x)
 | [],p,b,x,h=>by
  unfold eu at h ⊢
  cases h;rfl
 |t::r,p,b,x,h=>by
  unfold eu at h ⊢
  by_cases hc:eH t=true∧t.d≤(b.length:Int)
  ·rw [if_pos hc] at h
   rw [if_pos ⟨hc.1,by rw [af9];omega⟩]
   by_cases h0:t.n=0
   ·rw [if_pos h0] at h ⊢
    rw [h0] at h ⊢;have h:eu r (b++ [t.b])=some x:=h;show eu r (p++b++ [t.b])=some (p++x);rw [agc];exact mi r p _ x h
   ·rw [if_neg h0] at h ⊢
    have hg:=iE hc.1;rw [wj _ _ _ _ (by omega) (by omega)];exact mi r p _ x h
  ·rw [if_neg hc] at h;cases h
end
section
set_option maxRecDepth 100000
variable {H H0:ai} {R:Value→ai→Prop} {v:Value} {L:List It} {T:List UInt8} {fb at_ dp e:Nat}
theorem ZB (sz:Nat) (hz:0<sz) (o:ar H0 H L):ar H0 H (.sl (.slice none 0 0) sz []::L):=
 o.add (Ext.refl _) (i:= .sl (.slice none 0 0) sz []) ⟨hz,.inl ⟨rfl,rfl⟩⟩ (by intro k hk;exact absurd hk (by simp [It.cN,aS]))
theorem zF (l:List Tok) (t:Tok):cP (l++ [t])=cP l++t.cells:=by simp [cP]
theorem Dt {lazy:Bool} (f:FS H0 H fb T at_ dp at_ L) (hl:T.length≤1000000) (ha:at_≤T.length) (h: ∀H' y L',ar H0 H' (.sl y 3 (cP (iH T dp lazy T.length at_))::L')→R y H'):ab 316 #[LZ fb,.bool lazy] H R:=by
 refine qJ.vc _ _ _ _ ?_;obtain⟨r,pv,o⟩:=f;rw [au,ae,al];refine o.aw (b:=fb) (f:=0+1) (by repeat(first|exact af8|apply af7)) rfl ?_;have o:=ZB 3 (by decide) o;have f:FS H0 H fb T at_ dp at_ (.sl (.slice none 0 0) 3 (cP [])::L):= ⟨r,pv,o.eR (by repeat(first|exact bd.refl|exact bw.here|apply bd.cons|apply bw.there))⟩;refine⟨fun out i H' => ∃ (k:Nat) (pre:List Tok) (L' :List It),i= .int .i64 (k:Int)∧at_≤k∧k≤T.length∧FS H0 H' fb T at_ dp k (.sl out 3 (cP pre)::L')∧pre++iH T dp lazy T.length k=iH T dp lazy T.length at_∧pre.length≤k,fun _ i _=>match i with| .int _ x=>T.length - x.toNat|_=>0,⟨at_,[],L,rfl,aga _,ha,f,rfl,by simp⟩,?_⟩;clear f o;rintro _ out _ H1 ⟨k,pre,L',rfl,hak,Si,f,zG,y5⟩;obtain⟨r,pv,o⟩:=f;rw [au,ae,al];refine o.aw (b:=fb) (f:=0+0) (by repeat(first|exact af8|apply af7)) rfl ?_;refine aJ ?_;rw [aN];refine av (fun hc=>?_) (fun hc=>?_)
 ·have fG:k<T.length:=by omega
  have f:FS H0 H1 fb T at_ dp k (.sl out 3 (cP pre)::L'):= ⟨r,pv,o⟩;have hL:=xt T (k - (c_ T dp k).2) k;refine q9 f hl Si ?_;refine ag rfl ?_;refine ag rfl ?_;have abt: (c_ T dp k).1≤258:=by
   by_cases h0: (c_ T dp k).1=0
   ·omega
   ·obtain⟨_,_,_,_,g⟩:=F7 h0;omega
  refine pW f hl Si fun H2 f=>?_;have Wm: (cP pre).length=pre.length*3:=gL pre;refine⟨fun n H' =>n= .int .i64 (takeN T dp lazy k:Int)∧FS H0 H' fb T at_ dp (k+1) (.sl out 3 (cP pre)::L'),?_,?_⟩
  ·clear f o
   rintro _ _ H3 ⟨rfl,f⟩;obtain⟨r,pv,o⟩:=f;rw [bc];refine av (fun h0=>?_) (fun h0=>?_)
   ·have h0:takeN T dp lazy k=0:=by omega
    have ZC:iH T dp lazy T.length k=iN (T.getD k 0)::iH T dp lazy T.length (k+1):=by
     rw [jL T.length ((T.length - 1)+1) k (by omega) (by omega),kP fG h0,jL (T.length - 1) T.length (k+1) (by omega) (by omega)]
    rw [au,ae,al];refine o.aw (b:=fb) (f:=0+0) (by repeat(first|exact af8|apply af7)) rfl ?_;rw [cf];refine⟨by omega,by rw [bu];omega,?_⟩;rw [bu,af_];refine aM rfl (by decide) ?_;rw [bz];refine o.dj (sz:=3) (by decide) rfl rfl fun y H4 o=>?_;have o:ar H0 H4 (.sl y 3 (iN (T.getD k 0)).cells::TO fb T at_ r pv dp:: .aA (AU r (AV T (k+1))):: .sl pv 1 (r7 (oO T (k+1))):: .sl out 3 (cP pre)::L'):=o;refine o.append (v:=out) (n:=pre.length) (m:=1) (by repeat(first|exact bw.here|apply bw.there)) rfl (o.sl (v:=y) (by repeat(first|exact af8|apply af7))) Wm rfl rfl (by omega) fun y2 H5 o=>?_;rw [←zF] at o;rw [az,ba (n:= (k:Int)+1) (by omega) (by omega)];refine⟨⟨k+1,pre++ [iN (T.getD k 0)],_,rfl,by omega,by omega,⟨r,pv,o.eR (by repeat(first|exact bd.refl|exact bw.here|apply bd.cons|apply bw.there))⟩,?_,by rw [af9];show pre.length+1≤_;omega⟩,by show T.length - ((k:Int)+1).toNat<T.length - (k:Int).toNat;omega⟩;rw [←zG,ZC,agc];rfl
   ·have h0:takeN T dp lazy k≠0:=by omega
    obtain⟨t1,t2,t3,t4,t5,t6,t7,t8⟩:=xu h0;have ZC:iH T dp lazy T.length k=zB (takeN T dp lazy k) (c_ T dp k).2::iH T dp lazy T.length (k+takeN T dp lazy k):=by
     rw [jL T.length ((T.length - 1)+1) k (by omega) (by omega),kQ fG h0,jL (T.length - 1) T.length _ (by omega) (by omega)]
    refine aM rfl (by decide) ?_;refine aM rfl (by simp) ?_;rw [bz];refine o.dj (sz:=3) (by decide) rfl rfl fun y H4 o=>?_;have o:ar H0 H4 (.sl y 3 (zB (takeN T dp lazy k) (c_ T dp k).2).cells::TO fb T at_ r pv dp:: .aA (AU r (AV T (k+1))):: .sl pv 1 (r7 (oO T (k+1))):: .sl out 3 (cP pre)::L'):=o;refine o.append (v:=out) (n:=pre.length) (m:=1) (by repeat(first|exact bw.here|apply bw.there)) rfl (o.sl (v:=y) (by repeat(first|exact af8|apply af7))) Wm rfl rfl (by omega) fun y2 H5 o=>?_;rw [←zF] at o;generalize hN:takeN T dp lazy k=N at*;rw [aZ,show (N:Int) - 1= ((N - 1:Nat):Int) by omega,ba (by omega) (by omega)];have f:FS H0 H5 fb T at_ dp (k+1+0) (.sl y2 3 (cP (pre++ [zB N (c_ T dp k).2])):: .sl y 3 (zB N (c_ T dp k).2).cells::L'):= ⟨r,pv,o.eR (by repeat(first|exact bd.refl|exact bw.here|apply bd.cons|apply bw.there))⟩;refine⟨fun i x H' => ∃j:Nat,i= .int .i64 ((k+j:Nat):Int)∧x= .int .i64 (j:Int)∧j≤N - 1∧FS H0 H' fb T at_ dp (k+1+j) (.sl y2 3 (cP (pre++ [zB N (c_ T dp k).2])):: .sl y 3 (zB N (c_ T dp k).2).cells::L'),fun _ x _=>match x with| .int _ x=>N - x.toNat|_=>0,⟨0,rfl,rfl,by omega,f⟩,?_⟩;clear f o;rintro _ _ _ H6 ⟨j,rfl,rfl,hj,f⟩;rw [aN];refine av (fun f_=>?_) (fun f_=>?_)
    ·rw [az,show ((k+j:Nat):Int)+1= ((k+1+j:Nat):Int) by omega,ba (by omega) (by omega)]
     refine pW f hl (by omega) fun H7 f=>?_;rw [az,ba (n:= (j:Int)+1) (by omega) (by omega)];exact⟨⟨j+1,by rw [show k+ (j+1)=k+1+j by omega],rfl,by omega,f⟩,by show N - ((j:Int)+1).toNat<N - (j:Int).toNat;omega⟩
    ·have hjN:j=N - 1:=by omega
     rw [az,show ((k+j:Nat):Int)+1= ((k+N:Nat):Int) by omega,ba (by omega) (by omega)];rw [show k+1+j=k+N by omega] at f;refine⟨⟨k+N,pre++ [zB N (c_ T dp k).2],_,rfl,by omega,by omega,f,?_,by rw [af9];show pre.length+1≤_;omega⟩,by show T.length - ((k+N:Nat):Int).toNat<T.length - (k:Int).toNat;omega⟩;rw [←zG,ZC,agc];rfl
  ·rw [a8]
   refine dM (d:=lazy) (fun _=> ⟨rfl,rfl⟩) ?_;intro _;refine dM (d:=decide (((c_ T dp k).1:Int)<258)) (fun _=>by rw [aN];exact⟨rfl,rfl⟩) ?_;intro _;refine cy (fun f_=>?_) (fun f_=>?_)
   ·rw [agk,agk,decide_eq_true_eq,decide_eq_true_eq] at f_
    rw [az,show (k:Int)+1= ((k+1:Nat):Int) by omega,ba (by omega) (by omega)];refine q9 f hl (by omega) ?_;refine ag rfl ?_;refine ag rfl ?_;rw [a8];refine av (fun Ar=>?_) (fun Ar=>?_)
    ·refine⟨?_,f⟩
     unfold takeN;rw [if_pos ⟨by omega,f_.1.2,by omega,by omega⟩];rfl
    ·refine⟨?_,f⟩
     unfold takeN;rw [if_neg (by omega)]
   ·refine⟨?_,f⟩
    unfold takeN;rw [if_neg];rintro⟨g1,g2,g3,_⟩;rw [decide_eq_true (by omega),g2,decide_eq_true (by omega)] at f_
    cases f_
 ·have fG:k=T.length:=by omega
  rw [fG,fO (aga _),agy] at zG;rw [←zG] at h;have o:ar H0 H1 (.sl out 3 (cP pre)::TO fb T at_ r pv dp:: .aA (AU r (AV T k)):: .sl pv 1 (r7 (oO T k))::L'):=o.eR (by repeat(first|exact bd.refl|exact bw.here|apply bd.cons|apply bw.there));exact h H1 out _ o
abbrev ow (A:List UInt8):List UInt8:=A.drop (A.length - 32768)
def nW (l:Nat):Nat:= [0,4,8,16,16,32,64,128,512,1073741824].getD l 0
def eT:List Value:= [0,4,8,16,16,32,64,128,512,1073741824].map fun n:Nat=> .int .i64 (n:Int)
theorem L6 (l:Nat):nW l≤1073741824:=by
 unfold nW
 match l with
 |0|1|2|3|4|5|6|7|8|9=>decide
 |l+10=>exact agK _
theorem wk {l:Nat} (h:l<10):eT[l]? =some (.int .i64 (nW l:Int)):=by
 match l,h with
 |0,_|1,_|2,_|3,_|4,_|5,_|6,_|7,_|8,_|9,_=>rfl
def zH (A s:List UInt8) (l:Nat):List Tok:=if l=0 then s.map iN else iH (ow A++s) (nW l) (decide (4≤l)) (ow A++s).length (ow A).length
theorem zI: ∀ (l:List Tok) (i:Nat) (x:UInt8),i<l.length→(cP l).set (i*3) (bX x)=cP (l.set i ⟨x,(l.getD i ⟨0,0,0⟩).n,(l.getD i ⟨0,0,0⟩).d⟩)
 |t::l,0,x,_=>by
  rw [aiI,ahx,List.getD_cons_zero]
  rfl
 |t::l,i+1,x,h=>by
  rw [ahp,List.getD_cons_succ];show (t.cells++cP l).set ((i+1)*3) (bX x)=t.cells++cP (l.set i _);rw [←zI l i x (by simpa using h),show (i+1)*3=t.cells.length+i*3 by show (i+1)*3=3+i*3;omega,ai6 _ _ (by omega),aiF]
theorem OY (n:Nat):eJ [.int .u8 0,.int .i64 0,.int .i64 0] n=cP (List.replicate n (iN 0)):=by
 induction n with
 |zero=>rfl
 |succ n ih=>
  show [.int .u8 0,.int .i64 0,.int .i64 0]++eJ [.int .u8 0,.int .i64 0,.int .i64 0] n= (iN 0).cells++cP (List.replicate n (iN 0));rw [ih];rfl
theorem Du {A s:List UInt8} {l:Nat} (hG:Reads H ⟨5,0,none⟩ eT) (hl:l≤9) (hlen:A.length+s.length≤900000) (h: ∀H' y L',ar H H' (.sl y 3 (cP (zH A s l))::L')→R (.tuple #[y,.int .i64 0]) H'):ab 305 #[str A,str s,.int .i64 (l:Int)] H R:=by
 refine CO.vc _ _ _ _ _ ?_;rw [aN,decide_eq_false (by omega)];refine aO ?_;rw [a8,decide_eq_false (by omega)];intro _;rw [aj,bc];unfold zH at h;refine av (fun h0=>?_) (fun h0=>?_)
 ·rw [if_pos (by omega)] at h
  refine aJ ?_;refine(ar.start (H:=H)).make (by decide) (by omega) (by omega) (by omega) fun y H1 o=>?_;have o:ar H H1 [.sl y 3 (eJ [.int .u8 0,.int .i64 0,.int .i64 0] s.length)]:=by rw [af_] at o;exact o
  rw [OY] at o;refine(o.sl (v:=y) (by repeat(first|exact af8|apply af7))).len (n:=s.length) (by rw [gL,agF]) (by decide) ?_;refine⟨fun i H' => ∃k:Nat,i= .int .i64 (k:Int)∧k≤s.length∧ar H H' [.sl y 3 (cP ((s.take k).map iN++List.replicate (s.length - k) (iN 0)))],fun i _=>match i with| .int _ x=>s.length - x.toNat|_=>0,⟨0,rfl,by omega,by simpa using o⟩,?_⟩;clear o;rintro _ _ H2 ⟨k,rfl,hk,o⟩;rw [aN];refine av (fun hc=>?_) (fun hc=>?_)
  ·have Kr:k<s.length:=by omega
   rw [cf];refine⟨by omega,by rw [bu];omega,?_⟩;rw [bu,af_];have xn: ((s.take k).map iN++List.replicate (s.length - k) (iN 0)).length=s.length:=by rw [af9,agw,age,agF];omega
   refine(o.sl (v:=y) (by repeat(first|exact af8|apply af7))).at_ (n:=s.length) (by rw [gL,xn]) (by decide) (by omega) (by omega) fun p hp=>?_;rw [af_] at hp;refine hp.field (f:=0) fun q hq=>?_;refine o.store hq (by repeat(first|exact af8|apply af7)) (by rw [gL,xn];omega) rfl (by repeat(first|exact aV.here|apply aV.there)) fun H3 o _=>?_;have e: ((s.take k).map iN++List.replicate (s.length - k) (iN 0)).set k (iN (s.getD k 0))= (s.take (k+1)).map iN++List.replicate (s.length - (k+1)) (iN 0):=by
    obtain⟨m,hm⟩: ∃m,s.length - k=m+1:= ⟨s.length - k - 1,by omega⟩;rw [hm,show s.length - (k+1)=m by omega,ai6 _ _ (by rw [agw,age];omega),agw,age,show k - min k s.length=0 by omega,List.replicate_succ,ahx,←r8 Kr,agU,agc]
    rfl
   have Uo: ((s.take k).map iN++List.replicate (s.length - k) (iN 0)).getD k ⟨0,0,0⟩=iN 0:=by
    rw [agd,agQ (by rw [agw,age];omega),aie,if_pos (by rw [agw,age];omega)];rfl
   rw [agL] at o;have o:ar H H3 [.sl y 3 ((cP ((s.take k).map iN++List.replicate (s.length - k) (iN 0))).set (k*3) (bX (s.getD k 0)))]:=o;rw [zI _ _ _ (by omega),Uo] at o;have o:ar H H3 [.sl y 3 (cP (((s.take k).map iN++List.replicate (s.length - k) (iN 0)).set k (iN (s.getD k 0))))]:=o;rw [e] at o;rw [az,ba (n:= (k:Int)+1) (by omega) (by omega)];exact⟨⟨k+1,rfl,by omega,o⟩,by show s.length - ((k:Int)+1).toNat<s.length - (k:Int).toNat;omega⟩
  ·have Kr:k=s.length:=by omega
   rw [Kr,agr,ahB,List.replicate_zero,agy] at o;exact h H2 y [] o
 ·rw [if_neg (by omega)] at h
  rw [gG];refine⟨by omega,by omega,?_⟩;rw [af_,agh];refine hG.loadAt (wk (by omega)) ?_;refine I0 (ar.start (H:=H)) hlen (L6 l) fun H1 fb f=>?_;have hT: (ow A++s).length≤1000000:=by rw [af9,agl];omega
  rw [dP,show (decide ((4:Int)≤(l:Int)))=decide (4≤l) from by rw [decide_eq_decide];omega];exact Dt f hT (by rw [af9];omega) fun H2 y L' o=>h H2 y L' o
end
section
set_option maxRecDepth 100000
theorem BT: ∀ (s b:List UInt8),eu (s.map iN) b=some (b++s)
 | [],b=>by rw [agy];rfl
 |x::s,b=>by
  rw [aha,zE,BT s,agc];rfl
theorem I2 (A s:List UInt8) (l:Nat):eu (zH A s l) A=some (A++s):=by
 unfold zH
 by_cases h0:l=0
 ·rw [if_pos h0];exact BT s A
 ·rw [if_neg h0]
  have h:=pX (T:=ow A++s) (dp:=nW l) (lazy:=decide (4≤l)) (ow A++s).length (ow A).length (by rw [af9];omega) (by omega);rw [List.take_left] at h;have h2:=mi _ (A.take (A.length - 32768)) _ _ h;rw [show A.take (A.length - 32768)++ow A=A from agE _ _,←agc,show A.take (A.length - 32768)++ow A=A from agE _ _] at h2;exact h2
theorem I3 (A s:List UInt8) (l:Nat): (zH A s l).length≤s.length:=by
 unfold zH
 by_cases h0:l=0
 ·rw [if_pos h0,agw];exact aga _
 ·rw [if_neg h0]
  have:=pY (T:=ow A++s) (dp:=nW l) (lazy:=decide (4≤l)) (ow A++s).length (ow A).length (by omega);rw [af9] at this ⊢;omega
theorem L7 (A s:List UInt8) (l:Nat): ∀t∈zH A s l,eH t=true∧t.d≤32768:=by
 intro t ht;unfold zH at ht
 by_cases h0:l=0
 ·rw [if_pos h0] at ht
  obtain⟨x,_,rfl⟩:=agP.1 ht;exact⟨zC x,by show (0:Int)≤32768;decide⟩
 ·rw [if_neg h0] at ht
  exact r9 _ _ t ht
end
end Go.Proofs.YtpcgccdmmoggmaaGreatDoor

/- Part 6 of the proof of RowTopArchives: what it is built on, in the order of its needs. -/
import Derived.Test.YtpcgccdmmoggmaaGreatDoorPkE
set_option linter.unusedSimpArgs false
set_option linter.unusedVariables false
set_option maxRecDepth 100000
namespace Go.Proofs.YtpcgccdmmoggmaaGreatDoor
open Go Go.Vc Go.Proofs
section
variable {H H0 H' :ag} {R:Value→ag→Prop} {v:Value} {L:List It} {zs:List Int}
theorem Cw {g:Nat} (hm:lV g Tryz.C=true) (hs:Sl H v 1 (aP zs)) (hlen:zs.length≤1000) (hg: ∀z∈zs,∀ (H:ag) (R:Value→ag→Prop),R (.bool false) H→ab g #[.int .i64 z] H R) (h:R (.bool false) H):
  ab 203 #[v,.func (.func g) #[] #[]] H R:=by
 have dg: (aP zs).length=zs.length*1:=by rw [aV];omega
 refine eK.vc _ _ _ _ ?_;refine fo.vc _ _ _ _ ?_;refine hs.df dg ?_;refine⟨fun i H' => ∃k:Nat,i= .int .i64 k∧k≤zs.length∧H=H',fun i _=>match i with| .int _ x=> (zs.length - x).toNat|_=>0,⟨0,rfl,by omega,rfl⟩,?_⟩;rintro _ _ _ ⟨k,rfl,hk,rfl⟩;rw [aO];refine av (fun hc=>?_) (fun hc=>?_)
 ·have e_:k<zs.length:=by omega
  refine hs.gG dg fun p hp=>?_;refine hp.load hs (w:= .int .i64 zs[k]) (by rw [aiY,ai5,cm e_]) ?_;refine rZ hm ?_;refine hg _ (ai9 e_) _ _ ?_;rw [ak,ay,aJ];exact⟨⟨k+1,rfl,by omega,rfl⟩,by show (_:Int).toNat< (_:Int).toNat;omega⟩
 ·show jz _ _ _
  rw [dH,qO];exact h
theorem Nt {z:Int} (h0:0≤z) (h1:z≤15) (h:R (.bool false) H):ab 216 #[.int .i64 z] H R:=by
 refine Ci.vc _ _ _ ?_;rw [aO,ei];refine aM ?_;rw [bc,ei];intro _;exact h
def kg (E:List Ex):List Value:=E.flatMap FJ
theorem mS: ∀E:List Ex,(kg E).length=E.length*3
 | []=>rfl
 |e::E=>by unfold kg;rw [akx,aiV];show 3+ (kg E).length=_;rw [mS E,ai6];omega
theorem Dt (E:List Ex) (e:Ex):kg (E++ [e])=kg E++FJ e:=by unfold kg;rw [alX];simp
theorem Hk {z:Int} {m:Nat}: ∀k,m+k≤zs.length→(∀j,j<k→zs.getD (m+j) 0=z)→zs.take (m+k)=zs.take m++List.replicate k z
 |0,h,hj=>by simp
 |k+1,h,hj=>by
  have h1:=hj k (by omega);rw [ai3,ai1 (by omega),aj9] at h1;rw [show m+ (k+1)= (m+k)+1 by omega,ajr,ai1 (by omega),Hk k (by omega) (fun j R4=>hj j (by omega)),h1,ald,ai0];rfl
theorem Nu {i n r:Nat} {E:List Ex} (hz: ∀z∈zs,0≤z∧z≤15) (fH:i+n≤zs.length) (eB: ∀j,j<n→zs.getD (i+j) 0=zs.getD i 0) (h1:1≤r) (hr:r≤n) (ZE:zs.getD i 0≠0→r<n)
  (hT:Told [] E (zs.take (i+n - r))):
  (∀x k,kP (zs.getD i 0) r= (x,k,true)→1≤k∧k≤r∧Told [] (E++ [x]) (zs.take (i+n - (r - k))))∧Told [] (E++ [((zs.getD i 0).toNat,0,0)]) (zs.take (i+n - (r - 1))):=by
 have hi:i<zs.length:=by omega
 have YD:=hz _ (ai9 hi);have gi:zs.getD i 0=zs[i]:=by rw [ai3,ai1 hi];rfl
 rw [←gi] at YD;have lR: ∀k,k≤r→zs.take (i+n - (r - k))=zs.take (i+n - r)++List.replicate k (zs.getD i 0):=fun k hk=>by
  rw [show i+n - (r - k)= (i+n - r)+k by omega];refine Hk k (by omega) fun j hj=>?_;rw [show i+n - r+j=i+ (n - r+j) by omega];exact eB _ (by omega)
 constructor
 ·intro x k hx
  unfold kP at hx
  split at hx
  ·rename_i hc
   cases hx
   refine⟨by omega,by omega,?_⟩;have hv:G6 (zs.take (i+n - r)) (18,7,min r 138 - 11):= .inr (.inr (.inr ⟨rfl,rfl,by show min r 138 - 11<128;omega⟩));have:=hT.snoc hv;rw [lR _ (by omega),hc.1];have e:wP (zs.take (i+n - r)) (18,7,min r 138 - 11)=zs.take (i+n - r)++List.replicate (11+ (min r 138 - 11)) 0:=rfl;rw [e,show 11+ (min r 138 - 11)=min r 138 by omega] at this;exact this
  split at hx
  ·rename_i XL hc
   cases hx
   refine⟨by omega,by omega,?_⟩;have hv:G6 (zs.take (i+n - r)) (17,3,r - 3):= .inr (.inr (.inl ⟨rfl,rfl,by show r - 3<8;omega⟩));have:=hT.snoc hv;rw [lR _ (by omega),hc.1];have e:wP (zs.take (i+n - r)) (17,3,r - 3)=zs.take (i+n - r)++List.replicate (3+ (r - 3)) 0:=rfl;rw [e,show 3+ (r - 3)=r by omega] at this;exact this
  split at hx
  ·rename_i XL rN hc
   cases hx
   refine⟨by omega,by omega,?_⟩;have hrn:=ZE hc.1;have hlen: (zs.take (i+n - r)).length=i+n - r:=by rw [ai2];omega
   have hv:G6 (zs.take (i+n - r)) (16,2,min r 6 - 3):= .inr (.inl ⟨rfl,fun e=>by rw [e] at hlen;simp at hlen;omega,rfl,by show min r 6 - 3<4;omega⟩);have:=hT.snoc hv;rw [lR _ (by omega)];have A2: (zs.take (i+n - r)).getD ((zs.take (i+n - r)).length - 1) 0=zs.getD i 0:=by
    rw [hlen,ai3,alA (by omega),←ai3,show i+n - r - 1=i+ (n - r - 1) by omega];exact eB _ (by omega)
   have e:wP (zs.take (i+n - r)) (16,2,min r 6 - 3)=zs.take (i+n - r)++List.replicate (3+ (min r 6 - 3)) ((zs.take (i+n - r)).getD ((zs.take (i+n - r)).length - 1) 0):=rfl;rw [e,A2,show 3+ (min r 6 - 3)=min r 6 by omega] at this;exact this
  ·cases hx
 ·have hv:G6 (zs.take (i+n - r)) ((zs.getD i 0).toNat,0,0):= .inl ⟨by show (zs.getD i 0).toNat<16;omega,rfl,rfl⟩
  have:=hT.snoc hv;rw [lR 1 h1];have e:wP (zs.take (i+n - r)) ((zs.getD i 0).toNat,0,0)=zs.take (i+n - r)++List.replicate 1 (zs.getD i 0):=by
   unfold wP G5
   dsimp only
   rw [if_neg (by omega),if_neg (by omega),if_neg (by omega),show (((zs.getD i 0).toNat:Nat):Int)=zs.getD i 0 by omega]
  rw [e] at this;exact this
theorem Kn {i:Nat} {E:List Ex} (hz: ∀z∈zs,0≤z∧z≤15) (hi:i<zs.length) (hT:Told [] E (zs.take i)):Told [] (E++ [((zs.getD i 0).toNat,0,0)]) (zs.take (i+1)):=by
 have YD:=hz _ (ai9 hi);have gi:zs.getD i 0=zs[i]:=by rw [ai3,ai1 hi];rfl
 have hv:G6 (zs.take i) ((zs.getD i 0).toNat,0,0):= .inl ⟨by show (zs.getD i 0).toNat<16;omega,rfl,rfl⟩;have:=hT.snoc hv;have e:wP (zs.take i) ((zs.getD i 0).toNat,0,0)=zs.take (i+1):=by
  unfold wP G5
  dsimp only
  rw [if_neg (by omega),if_neg (by omega),if_neg (by omega),show (((zs.getD i 0).toNat:Nat):Int)=zs.getD i 0 by omega,ajr,ai1 hi,gi];rfl
 rw [e] at this;exact this
inductive rj {α:Type} (S:α→α→Prop) (a:α):α→Prop
 |refl:rj S a a
 |step {b c:α}:rj S a b→S b c→rj S a c
theorem rj.head {α:Type} {S:α→α→Prop} {a b:α} (h:rj S a b):a=b∨∃c,S a c∧rj S c b:=by
 induction h with
 |refl=>exact .inl rfl
 |step _ hs ih=>
  rcases ih with rfl| ⟨c,h1,h2⟩
  ·exact .inr ⟨_,hs,.refl⟩
  ·exact .inr ⟨c,h1,.step h2 hs⟩
theorem rj.one {α:Type} {S:α→α→Prop} (det: ∀s a b,S s a→S s b→a=b) {s a b:α} (h:rj S s a) (k:rj S s b) (ha: ∀c,¬S a c) (hb: ∀c,¬S b c):a=b:=by
 have key: ∀ {x:α},rj S s x→rj S x b∨rj S b x:=fun hx=>by
  induction hx with
  |refl=>exact .inl k
  |step _ hs ih=>
   rcases ih with ih|ih
   ·rcases ih.head with rfl| ⟨c,h1,h2⟩
    ·exact .inr (.step .refl hs)
    ·rw [det _ _ _ hs h1];exact .inl h2
   ·exact .inr (.step ih hs)
 rcases key h with h1|h1
 ·rcases h1.head with e| ⟨c,h2,_⟩
  ·exact e
  ·exact absurd h2 (ha c)
 ·rcases h1.head with e| ⟨c,h2,_⟩
  ·exact e.symm
  ·exact absurd h2 (hb c)
def Nv (zs:List Int) (i n:Nat):Prop:=1≤n∧i+n≤zs.length∧(∀j,j<n→zs.getD (i+j) 0=zs.getD i 0)∧(i+n<zs.length→zs.getD (i+n) 0≠zs.getD i 0)
theorem Nv.one {i n m:Nat} (h:Nv zs i n) (k:Nv zs i m):n=m:=by
 rcases alV n m with g|g|g
 ·exact absurd (k.2.2.1 n g) (h.2.2.2 (by have:=k.2.1;omega))
 ·exact g
 ·exact absurd (h.2.2.1 m g) (k.2.2.2 (by have:=h.2.1;omega))
inductive nC (zs:List Int):Nat × Nat × Int × List Ex→Nat × Nat × Int × List Ex→Prop
 |some_ {i n:Nat} {v:Int} {E:List Ex}:Nv zs i n→zs.getD i 0≠0→nC zs (i,0,v,E) (i+n,n - 1,zs.getD i 0,E++ [((zs.getD i 0).toNat,0,0)])
 |none_ {i n:Nat} {v:Int} {E:List Ex}:Nv zs i n→zs.getD i 0=0→nC zs (i,0,v,E) (i+n,n,zs.getD i 0,E)
 |many {i r k:Nat} {v:Int} {E:List Ex} {x:Ex}:0<r→kP v r= (x,k,true)→nC zs (i,r,v,E) (i,r - k,v,E++ [x])
 |each {i r k:Nat} {v:Int} {E:List Ex} {x:Ex}:0<r→kP v r= (x,k,false)→nC zs (i,r,v,E) (i,r - 1,v,E++ [(v.toNat,0,0)])
theorem nC.det: ∀s a b,nC zs s a→nC zs s b→a=b:=by
 intro s a b h k
 cases h<;>cases k
 case some_.some_ n h1 h2 m k1 k2=>rw [h1.one k1]
 case some_.none_ n h1 h2 m k1 k2=>exact absurd k2 h2
 case none_.some_ n h1 h2 m k1 k2=>exact absurd h2 k2
 case none_.none_ n h1 h2 m k1 k2=>rw [h1.one k1]
 case many.many h1 h2 _ _ k1 k2=>rw [h2] at k2;cases k2;rfl
 case many.each h1 h2 _ _ k1 k2=>rw [h2] at k2;cases k2
 case each.many h1 h2 _ _ k1 k2=>rw [h2] at k2;cases k2
 case each.each h1 h2 _ _ k1 k2=>rfl
 all_goals (rename_i a1 _ _ _ _ _ _;omega)
def LK (zs:List Int) (E:List Ex):Prop:= ∃v,rj (nC zs) (0,0,0,[]) (zs.length,0,v,E)
theorem Nw {E F:List Ex} (h:LK zs E) (k:LK zs F):E=F:=by
 obtain⟨v,h⟩:=h;obtain⟨w,k⟩:=k;have qH: ∀v E,∀c,¬nC zs (zs.length,0,v,E) c:=fun v E c hc=>by
  cases hc
  case some_ n h1 _=>have:=h1.1;have:=h1.2.1;omega
  case none_ n h1 _=>have:=h1.1;have:=h1.2.1;omega
  case many h1 _=>omega
  case each h1 _=>omega
 have:=rj.one nC.det h k (qH v E) (qH w F);simp only [aj8] at this;exact this.2.2.2
theorem Nx (hs:Sl H v 1 (aP zs)) (hlen:zs.length≤400) (hz: ∀z∈zs,0≤z∧z≤15) (h: ∀y E H',Told [] E zs→LK zs E→au H H' [.sl y 3 (kg E)]→R y H'):ab 170 #[v] H R:=by
 have dg: (aP zs).length=zs.length*1:=by rw [aV];omega
 refine Jv.vc _ _ _ ?_;refine Cw (by kernel_rfl) hs (by omega) (fun z hzm H R hR=>Nt (hz z hzm).1 (hz z hzm).2 hR) ?_;rw [ak];refine⟨fun y i H' => ∃ (k:Nat) (E:List Ex) (u:Int),i= .int .i64 k∧k≤zs.length∧Told [] E (zs.take k)∧rj (nC zs) (0,0,0,[]) (k,0,u,E)∧au H H' [.sl y 3 (kg E)],fun _ i _=>match i with| .int _ x=> (zs.length - x).toNat|_=>0,⟨0,[],0,rfl,by omega,rfl,.refl,?_⟩,?_⟩
 ·exact au.start.add (Ext.refl _) ⟨by decide,.inl ⟨rfl,rfl⟩⟩ (by intro k hk;exact absurd hk (by simp [It.dF,aY]))
 rintro _ y _ H1 ⟨i,E,u,rfl,hk,hT,Tn,o⟩;refine hs.df dg ?_;rw [aO];refine av (fun hc=>?_) (fun hc=>?_)
 ·have hi:i<zs.length:=by omega
  have gi:zs.getD i 0=zs[i]:=by rw [ai3,ai1 hi];rfl
  have YD:=hz _ (ai9 hi);have ja:=hs.ext o.ext;refine ja.gG dg fun p hp=>?_;rw [aiY,ai5] at hp;refine hp.load ja (w:= .int .i64 zs[i]) (cm hi) ?_;refine Qo ja (by omega) hi fun n Ct fH eB JD=>?_;refine⟨hp.load ja (w:= .int .i64 zs[i]) (cm hi) rfl,?_⟩;rw [ay,aJ];have Up: ∀ {E:List Ex} {m:Nat},Told [] E (zs.take m)→E.length≤400:=fun hT=>by
   have:=hT.len;rw [ai2] at this
   simp at this;omega
  have hRN:Nv zs i n:= ⟨Ct,fH,eB,JD⟩;refine⟨fun y n' H' => ∃ (r:Nat) (E:List Ex),n' = .int .i64 r∧r≤n∧(zs.getD i 0≠0→r<n)∧Told [] E (zs.take (i+n - r))∧rj (nC zs) (0,0,0,[]) (i+n,r,zs.getD i 0,E)∧au H H' [.sl y 3 (kg E)],?_,?_⟩
  ·rintro _ y2 _ H2 ⟨r0,E0,rfl,OB,abv,hT0,YE,o0⟩
   refine⟨fun y n' H' => ∃ (r:Nat) (E:List Ex),n' = .int .i64 r∧r≤n∧(zs.getD i 0≠0→r<n)∧Told [] E (zs.take (i+n - r))∧rj (nC zs) (0,0,0,[]) (i+n,r,zs.getD i 0,E)∧au H H' [.sl y 3 (kg E)],fun _ n' _=>match n' with| .int _ x=>x.toNat|_=>0,⟨r0,E0,rfl,OB,abv,hT0,YE,o0⟩,?_⟩;rintro _ y3 _ H3 ⟨r,E,rfl,hr,ZE,hT,Zy,o⟩;rw [bc];refine av (fun gE=>?_) (fun gE=>?_)
   ·have c_:=Nu hz fH eB (by omega) hr ZE hT
    refine Km (by omega) fun H4 mP=>?_;rw [gi] at c_;obtain⟨x,k,ok,Yr⟩: ∃x k ok,kP zs[i] r= (x,k,ok):= ⟨_,_,_,rfl⟩;rw [Yr] at c_ ⊢;refine ai (vs:= [YC x,.int .i64 (k:Nat),.bool ok]) rfl ?_;refine ai (vs:= [YC x,.int .i64 (k:Nat),.bool ok]) rfl ?_;refine ai (vs:= [YC x,.int .i64 (k:Nat),.bool ok]) rfl ?_;have o4:=o.more mP;refine o4.box fun b H5 o5 _=>?_;refine o5.cz (vs:=FJ x) fun H6 o6 _=>?_;refine⟨fun k9 H' => ∃ (x' :Ex) (k' :Nat),k9= .int .i64 k' ∧1≤k' ∧k' ≤r∧Told [] (E++ [x']) (zs.take (i+n - (r - k')))∧nC zs (i+n,r,zs.getD i 0,E) (i+n,r - k',zs.getD i 0,E++ [x'])∧au H H' (.box b (FJ x') 237:: .sl y3 3 (kg E):: []),?_,?_⟩
    ·rintro _ _ H7 ⟨x',k',rfl,mB,SA,hT7,hp7,o7⟩
     refine o7.bh ?_;refine o7.cy (sz:=3) (x:=YC x') (by decide) rfl rfl fun z H8 o8=>?_;refine o8.append (sz:=3) (v:=y3) (x:=z) (n:=E.length) (m:=1) (by repeat(first|exact dD.here|apply dD.there)) rfl (o8.cf) (mS E) rfl rfl (by have:=Up hT;omega) fun y4 H9 o9=>?_;rw [bq,aJ];refine⟨⟨r - k',E++ [x'],by rw [show ((r - k' :Nat):Int)= (r:Int) - k' by omega],by omega,fun _=>by omega,hT7,Zy.step hp7,?_⟩,by show (_:Int).toNat< (_:Int).toNat;omega⟩;rw [Dt];exact o9.h_
    ·cases ok
     ·rw [dq]
      show aq (.bool true) _ _;rw [aL];refine aR rfl (by decide) ?_;rw [br];refine o6.cz (vs:= [.int .i64 zs[i],.int .i64 0,.int .u64 0]) fun H7 o7 _=>?_;have e:FJ ((zs[i]).toNat,0,0)= [.int .i64 zs[i],.int .i64 0,.int .u64 0]:=by
       unfold FJ;rw [ajX YD.1];rfl
      exact⟨((zs[i]).toNat,0,0),1,rfl,aiZ _,by omega,c_.2,by rw [gi];exact .each (by omega) Yr,by rw [e];exact o7⟩
     ·rw [dq]
      show aq (.bool false) _ _;rw [ak];obtain⟨h1,h2,h3⟩:=c_.1 x k rfl;exact⟨x,k,rfl,h1,h2,h3,by rw [gi];exact .many (by omega) Yr,o6⟩
   ·have OB:r=0:=by omega
    subst OB;exact⟨⟨i+n,E,zs.getD i 0,by rw [show ((i+n:Nat):Int)= (i:Int)+n by omega],by omega,hT,Zy,o⟩,by show (_:Int).toNat< (_:Int).toNat;omega⟩
  ·rw [fx]
   refine cN (fun hb=>?_) (fun hb=>?_)
   ·refine aR rfl (by decide) ?_
    rw [br];refine o.cy (sz:=3) (by decide) rfl rfl fun z H2 o2=>?_;refine o2.append (sz:=3) (v:=y) (x:=z) (n:=E.length) (m:=1) (by repeat(first|exact dD.here|apply dD.there)) rfl (o2.cf) (mS E) rfl rfl (by have:=Up hT;omega) fun y4 H3 o3=>?_;rw [bq,aJ];refine⟨n - 1,E++ [((zs.getD i 0).toNat,0,0)],by rw [show ((n - 1:Nat):Int)= (n:Int) - 1 by omega],by omega,fun _=>by omega,?_,.step Tn (.some_ hRN (by rw [gi];simpa using hb)),?_⟩
    ·rw [show i+n - (n - 1)=i+1 by omega];exact Kn hz hi hT
    ·rw [Dt]
     have e:FJ ((zs.getD i 0).toNat,0,0)= [.int .i64 zs[i],.int .i64 0,.int .u64 0]:=by
      unfold FJ;rw [gi,ajX YD.1];rfl
     rw [e];exact o3.h_
   ·have D5:zs[i]=0:=by simpa using hb
    exact⟨n,E,rfl,aiZ _,fun h0=>absurd (gi.trans D5) h0,by rw [show i+n - n=i by omega];exact hT,.step Tn (.none_ hRN (gi.trans D5)),o⟩
 ·have hkz:i=zs.length:=by omega
  rw [hkz,ajc] at hT;rw [hkz] at Tn;exact h _ _ _ hT ⟨u,Tn⟩ o
end
section
variable {H H0 H' :ag} {R:Value→ag→Prop} {v:Value} {L:List It} {zs:List Int}
theorem Du {least:Nat} (hs:Sl H v 1 (aP zs)) (hlen:zs.length≤1000) (hl:least≤zs.length) (h1:1≤least)
  (h: ∀n:Nat,least≤n→n≤zs.length→(∀j,n≤j→zs.getD j 0=0)→(least<n→zs.getD (n - 1) 0≠0)→R (.int .i64 (n:Int)) H):ab 169 #[v,.int .i64 (least:Int)] H R:=by
 have dg: (aP zs).length=zs.length*1:=by rw [aV];omega
 refine Ju.vc _ _ _ _ ?_;refine hs.df dg ?_;refine⟨fun n H' => ∃k:Nat,n= .int .i64 k∧least≤k∧k≤zs.length∧(∀j,k≤j→zs.getD j 0=0)∧H=H',fun n _=>match n with| .int _ x=>x.toNat|_=>0,
  ⟨zs.length,rfl,hl,aiZ _,fun j hj=>by rw [ai3,ajm hj];rfl,rfl⟩,?_⟩
 rintro _ _ _ ⟨k,rfl,mB,CR,hz,rfl⟩;rw [bc]
 by_cases hc:least<k
 ·rw [nR]
  refine bs ?_;rw [bq,aJ];have e_:k - 1<zs.length:=by omega
  refine hs.gG dg fun p hp=>?_;refine hp.load hs (w:= .int .i64 zs[k - 1]) (by rw [show ((k:Int) - 1).toNat=k - 1 by omega,ai5,cm e_]) ?_;rw [aZ];intro _;refine av (fun he=>?_) (fun he=>?_)
  ·rw [bq,aJ]
   refine⟨⟨k - 1,by rw [show ((k - 1:Nat):Int)= (k:Int) - 1 by omega],by omega,by omega,fun j hj=>?_,rfl⟩,by show (_:Int).toNat< (_:Int).toNat;omega⟩
   by_cases e:j=k - 1
   ·subst e;rw [ai3,ai1 e_];exact he
   ·exact hz j (by omega)
  ·exact h k mB CR hz fun _=>by rw [ai3,ai1 e_];exact he
 ·rw [ei,dO]
  intro _;rw [ak];exact h k mB CR hz fun g=>absurd g hc
def Dv (l:List Int) (least n:Nat):Prop:=least≤n∧n≤l.length∧(∀j,n≤j→l.getD j 0=0)∧(least<n→l.getD (n - 1) 0≠0)
theorem Dw {l:List Int} {least n m:Nat} (h:Dv l least n) (k:Dv l least m):n=m:=by
 obtain⟨h1,h2,h3,h4⟩:=h;obtain⟨k1,k2,k3,k4⟩:=k;rcases alV n m with g|g|g
 ·exact absurd (h3 (m - 1) (by omega)) (k4 (by omega))
 ·exact g
 ·exact absurd (k3 (n - 1) (by omega)) (h4 (by omega))
theorem A6: ∀ (l:List Nat) (f:Nat),f<l.length→l.getD f 0=0→shareL (l.set f 1) 15=shareL l 15+16384
 | [],f,h,_=>by simp at h
 |a::l,0,h,h0=>by
  simp at h0;subst h0
  unfold shareL;simp;omega
 |a::l,f+1,h,h0=>by
  have:=A6 l f (by simpa using h) (by simpa using h0);unfold shareL at this ⊢;simp only [ajS,aj3,akX];omega
def sd (zs:List Int) (m:Nat) (ys:List Int):Prop:= ∃ls,ri zs m ls∧((qk (natL ls)≠1∧ys=ls)∨(qk (natL ls)=1∧∃f,f<ls.length∧ls.getD f 0=0∧(∀j,j<f→ls.getD j 0≠0)∧ys=ls.set f 1))
theorem xY {m:Nat} {a b:List Int} (h:sd zs m a) (k:sd zs m b):a=b:=by
 obtain⟨l,hl,h⟩:=h;obtain⟨l',B5,k⟩:=k;obtain rfl:=A5 hl B5;rcases h with ⟨h1,rfl⟩ | ⟨h1,f,f1,f2,f3,rfl⟩<;>rcases k with ⟨k1,rfl⟩ | ⟨k1,g,g1,g2,g3,rfl⟩
 ·rfl
 ·exact absurd k1 h1
 ·exact absurd h1 k1
 ·rcases alV f g with e|rfl|e
  ·exact absurd f2 (g3 f e)
  ·rfl
  ·exact absurd g2 (f3 g e)
structure Uq (zs:List Int) (m:Nat) (ys:List Int):Prop where
 len:ys.length=zs.length
 rng: ∀s,0≤ys.getD s 0∧ys.getD s 0≤m
 has: ∀s,0<zs.getD s 0→1≤ys.getD s 0
 share:shareL (natL ys) 15=32768
 ex:sd zs m ys
theorem iQ (ys:List Int) (s:Nat): (natL ys).getD s 0= (ys.getD s 0).toNat:=by
 unfold natL;rw [ai3,aji,ai3]
 cases ys[s]? <;>rfl
theorem Qp (ys:List Int) (f:Nat) (z:Int):natL (ys.set f z)= (natL ys).set f z.toNat:=by unfold natL;rw [List.map_set]
theorem Qq (l:List Nat) (k:Nat) (h:k<l.length):qk (l.take (k+1))=qk (l.take k)+if l.getD k 0=0 then 0 else 1:=by
 rw [ajr,ai1 h,tB,ai3,ai1 h]
 congr 1
 unfold qk
 by_cases e:l[k]=0<;>simp [e]
theorem xZ {m:Nat} (hs:Sl H v 1 (aP zs)) (hlen:zs.length≤288) (Xb:2≤zs.length) (kp:xV zs=true) (h1:1≤m) (h2:m≤15) (hn: (ic zs zs.length).length≤2 ^ m) (Ct:1≤(ic zs zs.length).length)
  (h: ∀y ys H',Uq zs m ys→au H H' [.sl y 1 (aP ys)]→R y H'):ab 167 #[v,.int .i64 (m:Int)] H R:=by
 refine El.vc _ _ _ _ ?_;refine vi hs hlen kp h1 h2 hn fun y ls H1 Xn o=>?_;obtain⟨f1,f2,f3,f4,f5⟩:=pZ Xn h1 h2 hn;refine ai (vs:= [y,.int .i64 0]) rfl ?_;refine ai (vs:= [y,.int .i64 0]) rfl ?_;have hy:=o.cf (v:=y);have Cf: (aP ls).length=ls.length*1:=by rw [aV];omega
 have Qr: ∀s,0≤ls.getD s 0∧ls.getD s 0≤m:=fun s=>by
  by_cases iJ:s<zs.length
  ·have:=f2 s iJ
   split at this<;>omega
  ·rw [ai3,ajm (by omega)];simp
 have YF: ∀s,0<zs.getD s 0→1≤ls.getD s 0:=fun s h0=>by
  by_cases iJ:s<zs.length
  ·have:=f2 s iJ
   rw [if_pos h0] at this;exact this.1
  ·rw [ai3,ajm (by omega)] at h0;simp at h0
 have IP: (natL ls).length=ls.length:=eY ls;refine hy.df Cf ?_;refine⟨fun a f i H' => ∃ (k:Nat) (fi:Int),i= .int .i64 k∧a= .int .i64 ((qk ((natL ls).take k):Nat):Int)∧f= .int .i64 fi∧k≤ls.length∧((fi= -1∧qk ((natL ls).take k)=k∧∀j,j<k→ls.getD j 0≠0)∨(0≤fi∧fi<ls.length∧ls.getD fi.toNat 0=0∧∀j,j<fi.toNat→ls.getD j 0≠0))∧qk ((natL ls).take k)≤k∧H1=H',
  fun _ _ i _=>match i with| .int _ x=> (ls.length - x).toNat|_=>0,⟨0,-1,rfl,rfl,rfl,by omega,.inl ⟨rfl,rfl,fun j hj=>by omega⟩,aiZ _,rfl⟩,?_⟩
 rintro _ _ _ _ _ ⟨k,fi,rfl,rfl,rfl,hk,hf,ZX,rfl⟩;rw [aO];refine av (fun hc=>?_) (fun hc=>?_)
 ·have e_:k<ls.length:=by omega
  have gk:ls.getD k 0=ls[k]:=by rw [ai3,ai1 e_];rfl
  have Jk:=Qq (natL ls) k (by omega);rw [iQ,gk] at Jk;refine hy.gG Cf fun p hp=>?_;refine hp.load hy (w:= .int .i64 ls[k]) (by rw [aiY,ai5,cm e_]) ?_;have hrk:=Qr k;rw [gk] at hrk;rw [bc];refine av (fun VE=>?_) (fun VE=>?_)
  ·rw [if_neg (by omega)] at Jk
   rw [ay,aJ,ay,aJ];refine⟨⟨k+1,fi,rfl,by rw [Jk];rfl,rfl,by omega,?_,by omega,rfl⟩,by show (_:Int).toNat< (_:Int).toNat;omega⟩;rcases hf with ⟨hf,hq,zg⟩ |hf
   ·refine .inl ⟨hf,by omega,fun j hj=>?_⟩
    by_cases e:j=k
    ·subst e;rw [gk];omega
    ·exact zg j (by omega)
   ·exact .inr hf
  ·have D5:ls[k]=0:=by omega
   rw [if_pos (by omega)] at Jk
   replace Jk:qk ((natL ls).take (k+1))=qk ((natL ls).take k):=Jk
   rw [aO];refine av (fun hf0=>?_) (fun hf0=>?_)
   ·rw [ay,aJ]
    have iT: ∀j,j<k→ls.getD j 0≠0:=by
     rcases hf with ⟨_,_,hq⟩ |hf
     ·exact hq
     ·omega
    exact⟨⟨k+1,(k:Int),rfl,by rw [Jk],rfl,by omega,.inr ⟨by omega,by omega,by rw [aiY,gk];exact D5,by rw [aiY];exact iT⟩,by omega,rfl⟩,by show (_:Int).toNat< (_:Int).toNat;omega⟩
   ·rw [ay,aJ]
    have hf2:0≤fi∧fi<ls.length∧ls.getD fi.toNat 0=0∧∀j,j<fi.toNat→ls.getD j 0≠0:=by
     rcases hf with ⟨hf,_⟩ |hf
     ·omega
     ·exact hf
    exact⟨⟨k+1,fi,rfl,by rw [Jk],rfl,by omega,.inr hf2,by omega,rfl⟩,by show (_:Int).toNat< (_:Int).toNat;omega⟩
 ·have eF:k=ls.length:=by omega
  rw [eF,ajf (by omega)] at hf ⊢;rw [f5] at hf ⊢;rw [aZ];refine av (fun he=>?_) (fun he=>?_)
  ·have ja: (ic zs zs.length).length=1:=by omega
   rcases hf with ⟨_,hf,_⟩ | ⟨g1,g2,g3,g4⟩
   ·omega
   obtain⟨fn,rfl⟩: ∃n:Nat,fi=n:= ⟨fi.toNat,by omega⟩;rw [aiY] at g3 g4;refine hy.gG Cf fun p hp=>?_;rw [aiY,ai5] at hp;refine o.store hp (by repeat(first|exact aiX|apply aiW)) (by rw [aV];omega) rfl (by repeat(first|exact cx.here|apply cx.there)) fun H2 o2 _=>?_;rw [jP] at o2;have Eg: ∀s,(ls.set fn 1).getD s 0=if s=fn then 1 else ls.getD s 0:=fun s=>by
    rw [ai3,amI]
    by_cases e:fn=s
    ·subst e;rw [if_pos rfl,if_pos (by omega),if_pos rfl];rfl
    ·rw [if_neg e,if_neg (fun h=>e h.symm),ai3]
   refine h y (ls.set fn 1) H2 ⟨by rw [aj1];exact f1,fun s=>?_,fun s h0=>?_,?_,ls,Xn,.inr ⟨by omega,fn,by omega,g3,g4,rfl⟩⟩ o2
   ·rw [Eg s];have:=Qr s;split<;>omega
   ·rw [Eg s];have:=YF s h0;split<;>omega
   ·rw [Qp,show (1:Int).toNat=1 from rfl,A6 _ _ (by omega) (by rw [iQ,g3];rfl),(f4 (by omega)).1,ja]
  ·have lL:2≤(ic zs zs.length).length:=by omega
   exact h y ls H1 ⟨f1,Qr,YF,f3 lL,ls,Xn,.inl ⟨by omega,rfl⟩⟩ o
end
section
variable {H:ag} {R:Value→ag→Prop}
structure Wr (H:ag) (b o:Nat) (dv:Value) (B:List Bool):Prop where
 sub: ∃ (D:List UInt8) (acc n:Nat),lJ H b o [dv,u64 acc,i64 n]∧jJ H dv 1 (D.map bu)∧B=toBits D++a_ acc n∧acc<2 ^ n∧n<8
 ne:aY dv≠some b
 xH:B.length≤70368744177664
theorem ES {H:ag} {v:Value} {sz:Nat} {l:List Value} (h:jJ H v sz l):aS v=true:=by
 rcases h with ⟨rfl,_⟩ | ⟨_,_,_,_,rfl,_⟩<;>rfl
theorem Wr.ext {H' :ag} {b o:Nat} {dv:Value} {B:List Bool} (h:Wr H b o dv B) (hx:Ext H H'):Wr H' b o dv B:=by
 obtain⟨⟨D,acc,n,h1,h2,h3⟩,h4,h5⟩:=h;exact⟨⟨D,acc,n,h1.ext hx,h2.ext hx,h3⟩,h4,h5⟩
theorem Wr.lt {b o:Nat} {dv:Value} {B:List Bool} (h:Wr H b o dv B):b<H.size:=by
 obtain⟨⟨D,acc,n,h1,h2,h3⟩,h4⟩:=h;exact h1.lt
theorem Wr.new {b o:Nat} (h:lJ H b o [.slice none 0 0,.int .u64 0,.int .i64 0]):Wr H b o (.slice none 0 0) []:= ⟨⟨[],0,0,h,.inl ⟨rfl,rfl⟩,rfl,by decide,by decide⟩,by simp [aY],by simp⟩
theorem Wr.ym {H' :ag} {b o:Nat} {dv:Value} {B:List Bool} {b' o' n' :Nat} {F F' :Nat→Prop} (h:Wr H b o dv B) (c:kH b' o' n' F F' H H') (h1:b≠b') (h2: ¬F b) (h3:aY dv≠some b') (h4: ∀k,aY dv=some k→¬F k):Wr H' b o dv B:=by
 obtain⟨⟨D,acc,n,g1,g2,g3⟩,g4,g5⟩:=h;exact⟨⟨D,acc,n,g1.same (c.ne b g1.lt h1 h2),c.own g2 h3 h4,g3⟩,g4,g5⟩
variable {b o:Nat} {dv:Value} {B:List Bool}
theorem Ny (n:Nat):a_ 0 n=List.replicate n false:=by
 apply aj4;intro i
 by_cases h:i<n
 ·rw [Mx h,akU,if_pos h];simp
 ·rw [ajm (by rw [aX];omega),ajm (by simp;omega)]
theorem LM {b o n:Nat} {v v' :Value} {H H' :ag} (hb:b<H.size) (hv:aY v≠some b) (hi: ∀i,i<H.size→aY v≠some i→H'[i]? =H[i]?) (hs:H.size≤H'.size) (hk: ∀k,aY v' =some k→aY v=some k∨H.size≤k):kH b o n (mX v) (mX v') H H' :=
 ⟨hs,fun i h1 _ h3=>hi i h1 h3,fun cs t fr hc=> ⟨cs,(hi b hb hv).trans hc,rfl,fun _ _=>rfl⟩,fun k h=>hk k h⟩
theorem Hl {D:List UInt8} {acc n:Nat} (hs:lJ H b o [dv,u64 acc,i64 n]) (ho:jJ H dv 1 (D.map bu)) (ha:acc<2 ^ n) (hn:n<64) (cQ:aY dv≠some b) (eU:8*D.length+n≤70368744177664)
  (h: ∀H' jV,Wr H' b o jV (toBits D++a_ acc n)→kH b o 3 (mX dv) (mX jV) H H' →R (.tuple #[]) H'):ab 161 #[at_ b o] H R:=by
 have ZI:=hs.lt;refine uE.vc _ _ _ ?_;refine⟨fun H' => ∃ (D' :List UInt8) (gj n' :Nat) (jV :Value),lJ H' b o [jV,u64 gj,i64 n']∧jJ H' jV 1 (D'.map bu)∧gj <2 ^ n' ∧n' <64∧aY jV ≠some b∧toBits D' ++a_ gj n' =toBits D++a_ acc n∧kH b o 3 (mX dv) (mX jV) H H',
  fun H' =>match cellAt H' ⟨b,o+2,none⟩ with|some (.int _ q)=>q.toNat|_=>0,⟨D,acc,n,dv,hs,ho,ha,hn,cQ,rfl,kH.refl⟩,?_⟩
 rintro _ H1 ⟨D',gj,n',jV,ja,ho1,nQ,Ct,To,IK,c1⟩;have hlen:=congrArg List.length IK;rw [aiV,aiV,aX,aX,bj,bj] at hlen;simp only [ne_eq,aD,ae,ax,ajq,bo (ja.cell (k:=1) rfl),cP,bo (ja.cell0 rfl),bo (ja.cell (k:=2) rfl),dH];refine av (fun hc=>?_) (fun hc=>?_)
 ·rw [uB]
  refine Af rfl rfl fun y H2 sy e2 _=>?_;have lL:=ja.ext e2;simp only [bo (lL.cell0 rfl),true_and];have O7:=ho1.ext e2;refine O7.append (n:=D'.length) (m:=1) (by decide) rfl (sy.jc (n:=1) rfl (by decide)) sy.cellsOf (by simp) rfl rfl (by omega) fun v3 H3 o3 i3 s3 k3=>?_;have IM:lJ H3 b o [jV,u64 gj,i64 n']:=lL.same (i3 b lL.lt To);have c3:kH b o 3 (mX jV) (mX v3) H1 H3:=by
   have:=e2.size;refine LM ja.lt To (fun i h1 h2=>by rw [i3 i (by omega) h2,e2.get i h1]) (by omega) (fun k hk=>?_);rcases k3 with h' |h'
   ·exact .inl (h' ▸ hk)
   ·right;rw [h',ai8] at hk;omega
  have Un:aY v3≠some b:=fun e=>by
   rcases c3.new b e with h' |h'
   ·exact To h'
   ·have:=ja.lt;omega
  refine jM (F:=none_) (n:=3) IM rfl (by simp) (ES o3) fun H4 s4 MX c4=>?_;simp only [bo (MX.cell (k:=1) rfl),lI,Int.reduceLE,true_and];rw [ka (n:=gj) (m:=min (Int.toNat 8) IntKind.u64.bits) (j:=8) rfl];refine gN (F:=none_) (k:=1) (n:=3) MX rfl (by simp) rfl fun H5 s5 ZY c5=>?_;simp only [bo (ZY.cell (k:=2) rfl),bq];rw [ff (n:= (n' :Int) - 8) (by omega) (by omega),show (n' :Int) - 8= ((n' - 8:Nat):Int) by omega];refine gN (F:=none_) (k:=2) (n:=3) ZY rfl (by simp) rfl fun H6 s6 hs6 c6=>?_;have c36:= (c4.trans c5).trans c6;have o6:jJ H6 v3 1 ((D' ++ [UInt8.ofNat (gj %256)]).map bu):=by
   rw [ajy];exact c36.own o3 Un (fun _ _ h=>h)
  refine⟨⟨D' ++ [UInt8.ofNat (gj %256)],gj /2 ^ 8,n' - 8,v3,hs6,o6,EG nQ (by omega),by omega,Un,?_,c1.trans (c3.trans c36.any)⟩,?_⟩
  ·rw [←IK,cG,ai0,sJ (n:=n') (by omega)]
  ·rw [hs6.cell (k:=2) rfl,ja.cell (k:=2) rfl]
   show ((n' - 8:Nat):Int).toNat< (n' :Int).toNat;omega
 ·exact h H1 jV ⟨⟨D',gj,n',ja,ho1,IK.symm,nQ,by omega⟩,To,by rw [aiV,aX,bj];omega⟩ c1
theorem Nz {v n:Int} (sj: ¬ (1≤n∧n≤32)) (h:R (.tuple #[]) H):ab 116 #[at_ b o,.int .u64 v,.int .i64 n] H R:=by
 refine nq.vc _ _ _ _ _ ?_;simp only [aO,bc,aD,ae,ax,fB,bq,cu,fC,gr,alk,kE]
 intros
 rw [nR,aL];exact h
theorem x6 {v k:Nat} (hv:v<18446744073709551616) (Ug:1≤k) (hk:k≤32) (hw:Wr H b o dv B) (eU:B.length+32≤70368744177664)
  (h: ∀H' jV,Wr H' b o jV (B++a_ v k)→kH b o 3 (mX dv) (mX jV) H H' →R (.tuple #[]) H'):ab 116 #[at_ b o,u64 v,i64 k] H R:=by
 obtain⟨⟨D,acc,n,hs,ho,rfl,ha,hn⟩,cQ,hb⟩:=hw;rw [aiV,aX,bj] at eU;refine nq.vc _ _ _ _ _ ?_;simp only [aO,bc,aD,ae,ax,fB,bq,cu,fC,gr,alk,kE]
 intros
 rw [ei,ak];simp only [bo (hs.cell (k:=2) rfl),fB,bo (hs.cell (k:=1) rfl),cu];refine⟨by omega,?_⟩;rw [Am hv hk];refine⟨by omega,?_⟩;have D8: (2:Nat) ^ k≤2 ^ 32:=ajk (by decide) hk;have hpn: (2:Nat) ^ n≤2 ^ 7:=ajk (by decide) (by omega);have hm:=akn v (ak8 k);have adw:v%2 ^ k*2 ^ n≤2 ^ 32*2 ^ 7:=amz (by omega) hpn;rw [Lt (by omega) (by omega),wg (by omega) (by omega),uA ha];refine gN (F:=none_) (k:=1) (n:=3) hs rfl (by simp) rfl fun H1 s1 ja c1=>?_;simp only [bo (ja.cell (k:=2) rfl),ay];rw [ff (n:= (n:Int)+ (k:Int)) (by omega) (by omega),show (n:Int)+ (k:Int)= ((n+k:Nat):Int) by omega];refine gN (F:=none_) (k:=2) (n:=3) ja rfl (by simp) rfl fun H2 s2 lL c2=>?_;have c12:=c1.trans c2;have O7:=c12.own ho cQ (fun _ _ h=>h);have cL:acc+v%2 ^ k*2 ^ n<2 ^ (n+k):=by
  rw [alc];have h1:v%2 ^ k*2 ^ n≤(2 ^ k - 1)*2 ^ n:=akl _ (by omega);rw [Nat.sub_mul,Nat.one_mul,ajQ (2 ^ k)] at h1;have h2:2 ^ n≤2 ^ n*2 ^ k:=amn _ (ak8 k);omega
 refine Hl lL O7 cL (by omega) cQ (by omega) fun H3 jV Xo c3=>?_;refine h H3 jV ?_ ((c12.any).trans c3);rw [Al ha,mc,←ai0] at Xo;exact Xo
def kr (B:List Bool):List Bool:=B++List.replicate ((8 - B.length%8) %8) false
theorem vj (B:List Bool): (kr B).length%8=0∧(kr B).length≤B.length+7∧B.length≤(kr B).length:=by
 unfold kr;rw [aiV,ajB];omega
theorem nD (hw:Wr H b o dv B) (eU:B.length+32≤70368744177664) (h: ∀H' jV,Wr H' b o jV (kr B)→kH b o 3 (mX dv) (mX jV) H H' →R (.tuple #[]) H'):ab 70 #[at_ b o] H R:=by
 have nP :=hw;obtain⟨⟨D,acc,n,hs,ho,he,ha,hn⟩,cQ,hb⟩:=hw;have hl:B.length=8*D.length+n:=by rw [he,aiV,aX,bj]
 refine uC.vc _ _ _ ?_;simp only [aD,ae,ax,bo (hs.cell (k:=2) rfl),bc,v8,fF,Bool.true_and,bq];refine fun _=>av (fun hc=>?_) (fun hc=>?_)
 ·rw [ff (n:=8 - (n:Int)) (by omega) (by omega),show 8 - (n:Int)= ((8 - n:Nat):Int) by omega]
  refine x6 (v:=0) (by decide) (by omega) (by omega) nP eU fun H1 LN Hg c1=>?_;refine h H1 LN ?_ c1;rw [Ny] at Hg;unfold kr;rw [show (8 - B.length%8) %8=8 - n by omega];exact Hg
 ·refine h H dv ?_ kH.refl
  unfold kr;rw [show (8 - B.length%8) %8=0 by omega,amJ,ajl];exact nP
theorem NA {s:List UInt8} (hw:Wr H b o dv B) (eU:B.length+8*s.length+32≤70368744177664) (h: ∀H' jV,Wr H' b o jV (kr B++toBits s)→kH b o 3 (mX dv) (mX jV) H H' →R (.tuple #[]) H'):ab 117 #[at_ b o,str s] H R:=by
 have ZI:=hw.lt;refine yq.vc _ _ _ _ ?_;simp only [aD,ae,ax,ajq,v8,aL];refine nD hw (by omega) fun H1 LN Hg c1=>?_;have hp:=vj B;obtain⟨⟨D,acc,n,hs,ho,he,ha,hn⟩,cQ,hb⟩:=Hg;have hl: (kr B).length=8*D.length+n:=by rw [he,aiV,aX,bj]
 have Ad:n=0:=by omega
 subst Ad;simp only [bo (hs.cell0 rfl)];refine ho.append (n:=D.length) (m:=s.length) (new:=s.map bu) (by decide) rfl rfl rfl (by simp) (by simp) (by
  rw [akv];intro x hx;obtain⟨y,_,rfl⟩:=ajw.1 hx;rfl) (by omega) fun v2 H2 o2 i2 s2 k2=>?_
 have lL:lJ H2 b o [LN,u64 acc,i64 0]:=hs.same (i2 b hs.lt cQ);have c2:kH b o 3 (mX LN) (mX v2) H1 H2:=LM hs.lt cQ i2 s2 (fun k hk=>by
  rcases k2 with h' |h'
  ·exact .inl (h' ▸ hk)
  ·right;rw [h',ai8] at hk;omega)
 have B6:aY v2≠some b:=fun e=>by
  rcases c2.new b e with h' |h'
  ·exact cQ h'
  ·have:=hs.lt;omega
 refine jM (F:=none_) (n:=3) lL rfl (by simp) (ES o2) fun H3 s3 IM c3=>?_;refine h H3 v2 ⟨⟨D++s,acc,0,IM,?_,?_,ha,by omega⟩,B6,?_⟩ (c1.trans (c2.trans c3.any))
 ·rw [ajy];exact c3.own o2 B6 (fun _ _ h=>h)
 ·rw [he,pC,ajl,ajl,cG]
 ·rw [aiV,bj];omega
theorem NB (hw:Wr H b o dv B) (h:R (i64 B.length) H):ab 321 #[at_ b o] H R:=by
 obtain⟨⟨D,acc,n,hs,ho,he,ha,hn⟩,cQ,hb⟩:=hw;have hl:B.length=8*D.length+n:=by rw [he,aiV,aX,bj]
 refine yu.vc _ _ _ ?_;simp only [aD,ae,ax,bo (hs.cell (k:=2) rfl),ajq,bo (hs.cell0 rfl),fC,ak];refine(ho.sl (by decide)).len (n:=D.length) (by simp) (by decide) ?_;simp only [gw,ay];rw [ff (n:=8* (D.length:Int)) (by omega) (by omega),aJ,show 8* (D.length:Int)+ (n:Int)= (B.length:Int) by omega];exact h
theorem rk (hw:Wr H b o dv B) (h: ∀H' jV,Wr H' b o jV (B.drop (8* (B.length/8)))→kH b o 3 (mX dv) (mX jV) H H' →R (str (bm B)) H'):ab 72 #[at_ b o] H R:=by
 obtain⟨⟨D,acc,n,hs,ho,he,ha,hn⟩,cQ,hb⟩:=hw;have hl:B.length=8*D.length+n:=by rw [he,aiV,aX,bj]
 refine uD.vc _ _ _ ?_;simp only [aD,ae,ax,ajq,bo (hs.cell0 rfl),fC,ak];refine Sl.str (ho.sl (by decide)) ?_;refine ho.aaI fun v1 o1 k1=>?_;have qL:aY v1≠some b:=by rw [k1];exact cQ
 refine jM (F:=none_) (n:=3) hs rfl (by simp) (ES o1) fun H1 s1 ja c1=>?_;have h:=h H1 v1 ⟨⟨[],acc,n,ja,c1.own o1 qL (fun _ _ h=>h),?_,ha,hn⟩,qL,by rw [ai4];omega⟩ (c1.any.UN (fun _ h=>h) (fun k hk=> .inl (by
  have iU :aY v1=some k:=hk;rw [k1] at iU;exact iU)))
 ·rw [he,mI D _ (by rw [aX];omega)] at h
  exact h
 ·rw [hl,show (8*D.length+n) /8=D.length by omega,he,←bj D,ajR (aiZ _),aky (aiZ _)]
  rfl
end
section
variable {H:ag} {B:List Bool}
theorem Dx (B:List Bool): ∃r,kr B=B++r∧r.length<8:= ⟨_,rfl,by simp;omega⟩
end
section
variable {H H0 H' :ag} {B:List Bool} {L:List It}
structure WP where
 b:Nat
 pre:List Value
 post:List Value
 t:TypeId
abbrev WP.at (w:WP):Value:=at_ w.b w.pre.length
abbrev wp (b:Nat) (t:TypeId):WP:= ⟨b,[],[],t⟩
abbrev WP.cells (w:WP) (dv:Value) (acc n:Nat):List Value:=w.pre++ [dv,u64 acc,i64 n]++w.post
def lD (w:WP) (dv:Value) (B:List Bool):eX where
 dF k:=k=w.b∨aY dv=some k
 holds H:= ∃ (D:List UInt8) (acc n:Nat),H[w.b]? =some (.cells (w.cells dv acc n).toArray w.t (0,0))∧jJ H dv 1 (D.map bu)∧B=toBits D++a_ acc n∧acc<2 ^ n∧n<8∧aY dv≠some w.b∧B.length≤70368744177664
 frame:=fun h hf=>by
  obtain⟨D,acc,n,g1,g2,g3⟩:=h;have hi:It.holds _ (.sl dv 1 (D.map bu)):= ⟨by decide,g2⟩;exact⟨D,acc,n,(hf _ (.inl rfl)).trans g1,(It.frame hi fun k hk=>hf k (.inr hk)).2,g3⟩
 lt:=fun h hf=>by
  obtain⟨D,acc,n,g1,g2,g3⟩:=h;rcases hf with rfl|hf
  ·exact bz g1
  ·exact g2.lt hf
theorem vk {w:WP} {dv:Value} (o:au H0 H L) (h:It.aE (lD w dv B)∈L):Wr H w.b w.pre.length dv B:=by
 obtain⟨D,acc,n,g1,g2,g3,g4,g5,g6,g7⟩:=o.aE h;exact⟨⟨D,acc,n,⟨w.pre,w.post,w.t,rfl,g1⟩,g2,g3,g4,g5⟩,g6,g7⟩
theorem nE {L' :List It} {w:WP} {dv jV :Value} {B' :List Bool} (o:au H0 H L) (g:Wr H' w.b w.pre.length jV B') (c:kH w.b w.pre.length 3 (mX dv) (mX jV) H H') (hr:cx (.aE (lD w dv B)) (.aE (lD w jV B')) L L') (fH:It.aE (lD w dv B)∈L):au H0 H' L' :=by
 refine o.jC hr c.size (fun k hk hf=>c.ne k hk (fun h=>hf (.inl h)) (fun h=>hf (.inr h))) ?_ (fun k hk=>by
  rcases hk with hk|hk
  ·exact .inl (.inl hk)
  ·rcases c.new k hk with h|h
   ·exact .inl (.inr h)
   ·exact .inr h)
 obtain⟨D,acc,n,g1,-⟩:=o.aE fH;obtain⟨⟨D',gj,n',s,k2,k3,k4,k5⟩,k6,k7⟩:=g;have e0: (0:Nat)+w.pre.length=w.pre.length:=ajb _;have sw:= (lJ.all g1).whole (y' := [jV,u64 gj,i64 n']) (F:=mX dv) (F' :=mX jV) (by rw [e0];exact c) (by rw [e0];exact s) rfl;exact⟨D',gj,n',lJ.Vj (n:= (w.cells dv acc n).length) g1 (c.wide (ajj _) (by simp)) sw (by simp),k2,k3,k4,k5,k6,k7⟩
theorem Qs {b:Nat} {t:TypeId} (o:au H0 H (.box b [.slice none 0 0,.int .u64 0,.int .i64 0] t::L)):au H0 H (.aE (lD (wp b t) (.slice none 0 0) [])::L):=by
 have hb:=o.lk (b:=b) aiX;refine o.jC cx.here (aiZ _) (fun _ _ _=>rfl) ⟨[],0,0,hb,.inl ⟨rfl,rfl⟩,rfl,by decide,by decide,by simp [aY],by simp⟩ (fun k hk=>by
  rcases hk with rfl|hk
  ·exact .inl rfl
  ·simp [aY] at hk)
theorem Tp {b:Nat} {pre post:List Value} {t:TypeId} (o:au H0 H (.box b (pre++ [.slice none 0 0,.int .u64 0,.int .i64 0]++post) t::L)):au H0 H (.aE (lD ⟨b,pre,post,t⟩ (.slice none 0 0) [])::L):=by
 have hb:=o.lk (b:=b) aiX;refine o.jC cx.here (aiZ _) (fun _ _ _=>rfl) ⟨[],0,0,hb,.inl ⟨rfl,rfl⟩,rfl,by decide,by decide,by simp [aY],by simp⟩ (fun k hk=>by
  rcases hk with rfl|hk
  ·exact .inl rfl
  ·simp [aY] at hk)
variable {w:WP} {dv:Value}
theorem kY {j:Nat} {x:Value} {K:Value→Prop} (o:au H0 H L) (fH:It.aE (lD w dv B)∈L) (hx:w.pre[j]? =some x) (hk:K x):ao H (at_ w.b j) K:=by
 obtain⟨D,acc,n,g1,-⟩:=o.aE fH;have hj:= (ajD.1 hx).1;rw [bo (v:=x)]
 ·exact hk
 ·rw [dP g1,ajC]
  show (w.pre++ [dv,u64 acc,i64 n]++w.post)[j]? =some x;rw [ai0,ajL hj,hx]
theorem Qt {j k:Nat} {x:Value} {K:Value→Prop} (o:au H0 H L) (fH:It.aE (lD w dv B)∈L) (e:k=w.pre.length+3+j) (hx:w.post[j]? =some x) (hk:K x):ao H (at_ w.b k) K:=by
 obtain⟨D,acc,n,g1,-⟩:=o.aE fH;rw [bo (v:=x)]
 ·exact hk
 ·rw [dP g1,ajC]
  show (w.pre++ [dv,u64 acc,i64 n]++w.post)[k]? =some x;rw [ajP (by simp;omega),e]
  simpa using hx
theorem A7 {j:Nat} {x:Value} {L' :List It} {K:Value→ag→Prop} (o:au H0 H L) (fH:It.aE (lD w dv B)∈L) (hj:j<w.pre.length) (hx:aS x=true)
  (mH:cx (.aE (lD w dv B)) (.aE (lD ⟨w.b,w.pre.set j x,w.post,w.t⟩ dv B)) L L') (hk: ∀H',au H0 H' L' →K undef H'):aI H (at_ w.b j) x K:=by
 obtain⟨D,acc,n,g1,g2,g3,g4,g5,g6,g7⟩:=o.aE fH;refine iM g1 (by simp;omega) hx fun H' hs u=>hk H' (o.jC mH u.size (fun k hk cQ=>u.ne k hk (fun e=>cQ (.inl e))) ⟨D,acc,n,?_,?_,g3,g4,g5,g6,g7⟩ (fun k hk=> .inl hk))
 ·rw [u.at_,alr]
  congr 3
  show (w.pre++ [dv,u64 acc,i64 n]++w.post).set j x=w.pre.set j x++ [dv,u64 acc,i64 n]++w.post;rw [ai0,al4 _ _ hj,←ai0]
 ·have hi:It.holds H (.sl dv 1 (D.map bu)):= ⟨by decide,g2⟩
  refine(It.frame hi fun k hk=>u.ne k (g2.lt hk) fun e=>?_).2;subst e;exact g6 hk
theorem NC {j k:Nat} {x:Value} {L' :List It} {K:Value→ag→Prop} (o:au H0 H L) (fH:It.aE (lD w dv B)∈L) (e:k=w.pre.length+3+j) (hj:j<w.post.length) (hx:aS x=true)
  (mH:cx (.aE (lD w dv B)) (.aE (lD ⟨w.b,w.pre,w.post.set j x,w.t⟩ dv B)) L L') (hk: ∀H',au H0 H' L' →K undef H'):aI H (at_ w.b k) x K:=by
 obtain⟨D,acc,n,g1,g2,g3,g4,g5,g6,g7⟩:=o.aE fH;refine iM g1 (by simp;omega) hx fun H' hs u=>hk H' (o.jC mH u.size (fun k hk cQ=>u.ne k hk (fun e=>cQ (.inl e))) ⟨D,acc,n,?_,?_,g3,g4,g5,g6,g7⟩ (fun k hk=> .inl hk))
 ·rw [u.at_,alr]
  congr 3
  show (w.pre++ [dv,u64 acc,i64 n]++w.post).set k x=w.pre++ [dv,u64 acc,i64 n]++w.post.set j x;rw [alK _ _ (by simp;omega),e]
  congr 2
  simp
 ·have hi:It.holds H (.sl dv 1 (D.map bu)):= ⟨by decide,g2⟩
  refine(It.frame hi fun k hk=>u.ne k (g2.lt hk) fun e=>?_).2;subst e;exact g6 hk
end
section
variable {H H0 H' :ag} {R:Value→ag→Prop} {v:Value} {L:List It} {zs:List Int} {b:WP} {B:List Bool}
theorem p7 {n:Nat} {k:Nat} {dv:Value} (hv:n<18446744073709551616) (hk:k≤32) (eU:B.length≤1000000000) (o:au H0 H (.aE (lD b dv B)::L)) (h: ∀H' jV,au H0 H' (.aE (lD b jV (B++a_ n k))::L)→R (.tuple #[]) H'):ab 116 #[b.at,.int .u64 (n:Int),.int .i64 (k:Int)] H R:=by
 by_cases h0:1≤k
 ·exact x6 hv h0 hk (vk o (by repeat(first|exact aiX|apply aiW))) (by omega) fun H1 LN w c=>h H1 LN (nE o w c cx.here (by repeat(first|exact aiX|apply aiW)))
 ·have:k=0:=by omega
  subst this;exact Nz (by omega) (h H dv (by rw [pC,ajl];exact o))
theorem lE {s:Nat} {p dv:Value} (hc:fX L zs p) (hw:pX zs s) (eU:B.length≤1000000000) (o:au H0 H (.aE (lD b dv B)::L)) (h: ∀H' jV,au H0 H' (.aE (lD b jV (B++cT (natL zs) s))::L)→R (.tuple #[]) H'):
  ab 163 #[p,b.at,.int .i64 (s:Int)] H R:=by
 obtain⟨hz,cb,lv,wv,sv,rfl,hm⟩:=hc;have hle:=xF hz.1;refine wB.vc _ _ _ _ _ ?_;refine MM o (lv:=lv) (wv:=wv) (sv:=sv) (aiW _ (hm (.box cb (cn lv wv (cI (natL zs)) sv) 285) aiX)) (aiW _ (hm (.sl wv 2 (mL (natL zs))) (by simp [pI]))) hz.1.1 ?_;refine ai rfl ?_;refine ai rfl ?_;have hs:s< (natL zs).length:=by rw [eY];exact hw.1
 rw [PM hs];have OA:=l4 hle s;have dM:=uZ hz.2 hle hs hw.2;have hrv:eE (fj (natL zs) s) ((natL zs).getD s 0)<2 ^ 15:=ajN (nr _ _) (ajk (by decide) OA);refine p7 (by omega) (by omega) eU o fun H1 LN o1=>?_;exact h H1 LN o1
theorem Hm {sz:Nat} {k k' :IntKind} {i:Int} {K:Value→Prop}:aK sz v (.int k i) K=aK sz v (.int k' i) K:=by
 cases v<;>try rfl
 rename_i a n c
 cases a<;>rfl
def Qu (cs:List Int) (a:Nat):List Int:=cs.set a (cs.getD a 0+1)
theorem zh {cs:List Int} {a:Nat} (h:a<cs.length):cs.set a (cs[a]+1)=Qu cs a:=by
 unfold Qu;rw [ai3,ai1 h];rfl
def Ko (G:List Tok):List Int:=G.foldl (fun cs t=>Qu cs (if t.n=0 then t.b.toNat else (jn t.n).toNat)) ((List.replicate 286 0).set 256 1)
def Kp (G:List Tok):List Int:=G.foldl (fun ds t=>if t.n=0 then ds else Qu ds (jD t.d).toNat) (List.replicate 30 0)
structure Ur (G:List Tok) (cs ds:List Int):Prop where
 cl:cs.length=286
 dl:ds.length=30
 cr: ∀z∈cs,0≤z∧z≤(G.length:Int)+1
 dr: ∀z∈ds,0≤z∧z≤(G.length:Int)+1
 ce:1≤cs.getD 256 0
 ct: ∀t∈G,if t.n=0 then 1≤cs.getD t.b.toNat 0 else 1≤cs.getD (jn t.n).toNat 0∧1≤ds.getD (jD t.d).toNat 0
 ex:cs=Ko G∧ds=Kp G
theorem vl {cs:List Int} {a:Nat} (ha:a<cs.length) (s:Nat): (cs.set a (cs[a]+1)).getD s 0=if s=a then cs[a]+1 else cs.getD s 0:=by
 rw [ai3,amI]
 by_cases e:a=s
 ·subst e;rw [if_pos rfl,if_pos ha,if_pos rfl];rfl
 ·rw [if_neg e,if_neg (fun h=>e h.symm),ai3]
theorem inc_le {cs:List Int} {a:Nat} (ha:a<cs.length) (s:Nat):cs.getD s 0≤(cs.set a (cs[a]+1)).getD s 0:=by
 rw [vl ha]
 split
 ·rename_i e;subst e;rw [ai3,ai1 ha];show cs[s]≤_;omega
 ·exact alp _
theorem zi {cs:List Int} {a:Nat} {N:Int} (ha:a<cs.length) (h: ∀z∈cs,0≤z∧z≤N): ∀z∈cs.set a (cs[a]+1),0≤z∧z≤N+1:=fun z hz=>by
 rcases amW hz with hz|rfl
 ·have:=h z hz;omega
 ·have:=h _ (ai9 ha);omega
theorem VN {cs:List Int} {N:Int} (h: ∀z∈cs,0≤z∧z≤N): ∀z∈cs,0≤z∧z≤N+1:=fun z hz=>by have:=h z hz;omega
theorem vm {y:Value} {cs:List Int} {a:Nat} {N:Int} {M:List It} {kd:IntKind} {K:Value→ag→Prop} (o:au H0 H L) (fH:It.sl y 1 (aP cs)∈L) (ha:a<cs.length) (hr: ∀z∈cs,0≤z∧z≤N) (hN:N≤1000000)
  (mH:cx (.sl y 1 (aP cs)) (.sl y 1 (aP (cs.set a (cs[a]+1)))) L M) (hk: ∀H',au H0 H' M→K undef H'):
  aK 1 y (.int kd (a:Int)) fun Yl=>ao H Yl fun Xd=>aB Xd (.int .i64 1) fun x26=>aK 1 y (.int kd (a:Int)) fun Ui=>aI H Ui x26 K:=by
 have Cf: (aP cs).length=cs.length*1:=by rw [aV];omega
 have hy:=o.sl fH;have hra:=hr _ (ai9 ha);rw [Hm (k' := .i64)];refine hy.gG Cf fun p hp=>?_;refine hp.load hy (w:= .int .i64 cs[a]) (by rw [aiY,ai5,cm ha]) ?_;rw [ay,aJ,Hm (k' := .i64)];refine hy.gG Cf fun p hp=>?_;rw [aiY,ai5] at hp;exact o.store hp fH (by rw [aV];exact ha) rfl (by rw [jP];exact mH) fun H' o' _=>hk H' o'
theorem A8 {vs:List Value} {x:Value} {i:Nat} {K:Value→Prop} (hv:vs[i]? =some x) (h:K x):pg i (.agg vs.toArray) K:=by rw [Mr,hv];exact h
theorem Qv {n:Int} (h0:3≤n) (h1:n≤258): ∃s:Nat,jn n=s∧257≤s∧s≤285:=by
 have:=pN h0 h1;exact⟨(jn n).toNat,by omega,by omega,by omega⟩
theorem Qw {n:Int} (h0:1≤n) (h1:n≤32768): ∃s:Nat,jD n=s∧s≤29:=by
 have:=pO h0 h1;exact⟨(jD n).toNat,by omega,by omega⟩
theorem Hn {G:List Tok} (hs:Sl H v 3 (dw G)) (hlen:G.length≤65535) (hg: ∀t∈G,fL t=true) (h: ∀y z cs ds H',Ur G cs ds→au H H' [.sl y 1 (aP cs),.sl z 1 (aP ds)]→R (.tuple #[y,z]) H'):ab 166 #[v] H R:=by
 have dg:=iX G;refine Ek.vc _ _ _ ?_;refine⟨fun y z H' =>au H H' [.sl y 1 (aP (List.replicate 286 0)),.sl z 1 (aP (List.replicate 30 0))],?_,?_,?_⟩
 ·intro _ y z H1 o
  refine(o.cf (v:=y)).at_ (n:=286) (by rw [aV,ajB]) (by decide) (by decide) (by decide) fun p hp=>?_;refine o.store (j:=256) hp (by repeat(first|exact aiX|apply aiW)) (by rw [aV,ajB];decide) rfl (by repeat(first|exact cx.here|apply cx.there)) fun H2 o2 _=>?_;rw [jP] at o2;refine hs.df dg ?_;refine⟨fun i H' => ∃ (k:Nat) (cs ds:List Int),i= .int .i64 k∧k≤G.length∧Ur (G.take k) cs ds∧au H H' [.sl y 1 (aP cs),.sl z 1 (aP ds)],fun i _=>match i with| .int _ x=> (G.length - x).toNat|_=>0,
   ⟨0,(List.replicate 286 0).set 256 1,List.replicate 30 0,rfl,by omega,⟨by rw [aj1,ajB],ajB,?_,?_,?_,fun t ht=>by simp at ht,rfl,rfl⟩,o2⟩,?_⟩
  ·intro q hq
   rcases amW hq with hq|rfl
   ·rw [amK hq,akD];decide
   ·rw [akD];decide
  ·intro q hq;rw [amK hq,akD];decide
  ·rw [ai3,akG (by rw [ajB];decide)];decide
  rintro _ _ H3 ⟨k,cs,ds,rfl,hk,c,o⟩;rw [aO];refine av (fun hc=>?_) (fun hc=>?_)
  ·have e_:k<G.length:=by omega
   have ft:=u0 G k _ (ai1 e_);have lR:G.take (k+1)=G.take k++ [G[k]]:=by rw [ajr,ai1 e_];rfl
   have Us:=hg _ (ai9 e_);have eF: (G.take k).length=k:=by rw [ai2];omega
   generalize G[k]=t at ft lR Us;have ja:=hs.ext o.ext;refine ja.gG dg fun p hp=>?_;rw [aiY] at hp;refine hp.fZ ja (ws:=t.cells) ft rfl ?_;refine o.box fun tb H4 o4 _=>?_;refine o4.cz (vs:=t.cells) fun H5 o5 _=>?_;rw [ae,ax];refine o5.aw (b:=tb) (f:=0+1) (w:= .int .i64 t.n) ?_;rw [aZ];have dM:=c.cl;have Dy:=c.dl;have cr:=c.cr;have dr:=c.dr;rw [eF] at cr dr;refine av (fun h0=>?_) (fun h0=>?_)
   ·have hx:=t.b.toNat_lt
    rw [ae,ax];refine o5.aw (b:=tb) (f:=0+0) (w:=bu t.b) ?_;refine vm (a:=t.b.toNat) (kd:= .u8) o5 (by repeat(first|exact aiX|apply aiW)) (by omega) cr (by omega) (by repeat(first|exact cx.here|apply cx.there)) fun H6 o6=>?_;rw [ay,aJ];refine⟨⟨k+1,cs.set t.b.toNat (cs[t.b.toNat]'(by omega)+1),ds,rfl,by omega,⟨by rw [aj1];exact dM,Dy,?_,?_,?_,?_,by rw [lR,zh (by omega),Ko,Kp,alW,alW];simp only [ak1,List.foldl_nil,if_pos h0];rw [←Ko,←Kp,←c.ex.1,←c.ex.2];exact⟨rfl,rfl⟩⟩,o6.h_⟩,by show (_:Int).toNat< (_:Int).toNat;omega⟩
    ·rw [lR,aiV,eF];exact zi (by omega) cr
    ·rw [lR,aiV,eF];exact VN dr
    ·have:=inc_le (cs:=cs) (a:=t.b.toNat) (by omega) 256;have:=c.ce;omega
    ·intro u hu
     rw [lR] at hu;rcases ajo.1 hu with hu|hu
     ·have:=c.ct u hu
      split at this
      ·rename_i e;rw [if_pos e];have:=inc_le (cs:=cs) (a:=t.b.toNat) (by omega) u.b.toNat;omega
      ·rename_i e;rw [if_neg e];have h5:=inc_le (cs:=cs) (a:=t.b.toNat) (by omega) (jn u.n).toNat;exact⟨by omega,this.2⟩
     ·rw [ajE.1 hu,if_pos h0,vl (by omega),if_pos rfl]
      have:=cr _ (ai9 (show t.b.toNat<cs.length by omega));omega
   ·rcases jQ Us with ⟨h,_⟩ | ⟨h1,h2,h3,h4⟩
    ·exact absurd h h0
    obtain⟨s,es,s1,s2⟩:=Qv h1 h2;obtain⟨d,ed,d1⟩:=Qw h3 h4;rw [ae,ax];refine o5.aw (b:=tb) (f:=0+1) (w:= .int .i64 t.n) ?_;refine xL fun H6 pc=>?_;unfold MY;rw [if_neg (by omega),es];unfold S3;refine A8 rfl ?_;refine vm (a:=s) (kd:= .i64) (o5.more pc) (by repeat(first|exact aiX|apply aiW)) (by omega) cr (by omega) (by repeat(first|exact cx.here|apply cx.there)) fun H7 o7=>?_;rw [ae,ax];refine o7.aw (b:=tb) (f:=0+2) (w:= .int .i64 t.d) ?_;refine Di fun H8 B9=>?_;unfold Dh;rw [if_neg (by omega),ed];unfold S3;refine A8 rfl ?_;refine vm (a:=d) (kd:= .i64) (o7.more B9) (by repeat(first|exact aiX|apply aiW)) (by omega) dr (by omega) (by repeat(first|exact cx.here|apply cx.there)) fun H9 o9=>?_;rw [ay,aJ];refine⟨⟨k+1,cs.set s (cs[s]'(by omega)+1),ds.set d (ds[d]'(by omega)+1),rfl,by omega,⟨by rw [aj1];exact dM,by rw [aj1];exact Dy,?_,?_,?_,?_,by rw [lR,zh (by omega),zh (by omega),Ko,Kp,alW,alW];simp only [ak1,List.foldl_nil,if_neg h0,es,ed,aiY];rw [←Ko,←Kp,←c.ex.1,←c.ex.2];exact⟨rfl,rfl⟩⟩,o9.h_⟩,by show (_:Int).toNat< (_:Int).toNat;omega⟩
    ·rw [lR,aiV,eF];exact zi (by omega) cr
    ·rw [lR,aiV,eF];exact zi (by omega) dr
    ·have:=inc_le (cs:=cs) (a:=s) (by omega) 256;have:=c.ce;omega
    ·intro u hu
     rw [lR] at hu;rcases ajo.1 hu with hu|hu
     ·have:=c.ct u hu
      split at this
      ·rename_i e;rw [if_pos e];have:=inc_le (cs:=cs) (a:=s) (by omega) u.b.toNat;omega
      ·rename_i e;rw [if_neg e];have h5:=inc_le (cs:=cs) (a:=s) (by omega) (jn u.n).toNat;have h6:=inc_le (cs:=ds) (a:=d) (by omega) (jD u.d).toNat;exact⟨by omega,by omega⟩
     ·rw [ajE.1 hu,if_neg h0,es,ed,aiY,aiY,vl (by omega),if_pos rfl,vl (by omega),if_pos rfl]
      have:=cr _ (ai9 (show s<cs.length by omega));have:=dr _ (ai9 (show d<ds.length by omega));omega
  ·have hkG:k=G.length:=by omega
   rw [hkG,ajc] at c;exact h _ _ _ _ _ c o
 ·refine(au.start (H:=H)).qh (by decide) (by decide) (by decide) fun y H1 o1=>?_
  refine o1.qh (by decide) (by decide) (by decide) fun z H2 o2=>?_;rw [kK,kK] at o2;exact o2.h_
 ·refine(au.start (H:=H)).qh (by decide) (by decide) (by decide) fun z H1 o1=>?_
  refine o1.qh (by decide) (by decide) (by decide) fun y H2 o2=>?_;rw [kK,kK] at o2;exact o2.h_
end
section
variable {H H0 H' :ag} {R:Value→ag→Prop} {v:Value} {L:List It} {zs:List Int} {b:WP} {B:List Bool}
theorem Ho (k:Nat): ((2 ^ k:Nat):Int)=2 ^ k:=by push_cast;rfl
theorem LO {n:Int} (h0:3≤n) (h1:n≤258): ∃s e x:Nat,jn n=s∧MY n= .agg ([.int .i64 (s:Int),.int .i64 (e:Int),.int .u64 (x:Int)]:List Value).toArray∧LD n=a_ x e∧e≤5∧x<2 ^ e:=by
 obtain⟨f1,f2,f3,f4,f5,f6⟩:=pN h0 h1;obtain⟨s,hs⟩: ∃s:Nat,jn n=s:= ⟨(jn n).toNat,by omega⟩;rw [hs] at f1 f2 f3 f4 f5 f6;rw [←Ho] at f4;have l0:0≤(lenOf (s:Int)).1:=by
  have:=LG ⟨s - 257,by omega⟩
  dsimp only at this
  rwa [show (257:Int)+ ((s - 257:Nat):Int)= (s:Int) by omega] at this
 refine⟨s,(lenOf (s:Int)).2.toNat,(n - (lenOf (s:Int)).1).toNat,hs,?_,by unfold LD;rw [hs],by omega,by omega⟩;unfold MY S3;rw [if_neg (by omega),hs,aJ,cF (by omega) (by omega),show (((lenOf (s:Int)).2.toNat:Nat):Int)= (lenOf (s:Int)).2 by omega,show (((n - (lenOf (s:Int)).1).toNat:Nat):Int)=n - (lenOf (s:Int)).1 by omega]
theorem LP {n:Int} (h0:1≤n) (h1:n≤32768): ∃s e x:Nat,jD n=s∧Dh n= .agg ([.int .i64 (s:Int),.int .i64 (e:Int),.int .u64 (x:Int)]:List Value).toArray∧LF n=a_ x e∧e≤13∧x<2 ^ e:=by
 obtain⟨f1,f2,f3,f4,f5,f6⟩:=pO h0 h1;obtain⟨s,hs⟩: ∃s:Nat,jD n=s:= ⟨(jD n).toNat,by omega⟩;rw [hs] at f1 f2 f3 f4 f5 f6;rw [←Ho] at f4;have l0:0≤(bn (s:Int)).1:=G4 ⟨s,by omega⟩;refine⟨s,(bn (s:Int)).2.toNat,(n - (bn (s:Int)).1).toNat,hs,?_,by unfold LF;rw [hs],by omega,by omega⟩;unfold Dh S3;rw [if_neg (by omega),hs,aJ,cF (by omega) (by omega),show (((bn (s:Int)).2.toNat:Nat):Int)= (bn (s:Int)).2 by omega,show (((n - (bn (s:Int)).1).toNat:Nat):Int)=n - (bn (s:Int)).1 by omega]
theorem iR {zs:List Int} (hz:qz zs) (s:Nat): (cT (natL zs) s).length≤15:=by rw [oH];exact l4 (xF hz.1) s
theorem _root_.Go.Vc.au.tl {i:It} (o:au H0 H (i::L)):au H0 H L:=o.pick (List.Sublist.cons _ (ako _))
theorem x9 {G:List Tok} {lv dv ps pd:Value} {rest:List Value} {cb:Nat} {ct:TypeId} {sy di:List Int} (hl:It.sl lv 3 (dw G)∈L) (yL:It.box cb (ps::pd::rest) ct∈L) (yI:fX L sy ps) (CV:fX L di pd) (he:pX sy 256)
  (hG: ∀t∈G,fL t=true∧ve sy di t) (hlen:G.length≤65535) (eU:B.length≤500000000) (o:au H0 H (.aE (lD b dv B)::L)) (h: ∀H' jV,au H0 H' (.aE (lD b jV (B++gh sy di G))::L)→R (.tuple #[]) H'):
  ab 120 #[.pointer (some ⟨cb,0,none⟩),b.at,lv] H R:=by
 have dg:=iX G;refine tc.vc _ _ _ _ _ ?_;refine(o.sl (v:=lv) (aiW _ hl)).df dg ?_;refine⟨fun i H' => ∃ (k:Nat) (jV :Value),i= .int .i64 k∧k≤G.length∧((G.take k).flatMap (qv sy di)).length≤50*k∧au H0 H' (.aE (lD b jV (B++ (G.take k).flatMap (qv sy di)))::L),fun i _=>match i with| .int _ x=> (G.length - x).toNat|_=>0,⟨0,dv,rfl,by omega,by simp,by simpa using o⟩,?_⟩;rintro _ _ H1 ⟨k,LN,rfl,hk,yV,o⟩;rw [aO];refine av (fun hc=>?_) (fun hc=>?_)
 ·have e_:k<G.length:=by omega
  have ft:=u0 G k _ (ai1 e_);have lR: (G.take (k+1)).flatMap (qv sy di)= (G.take k).flatMap (qv sy di)++qv sy di G[k]:=by rw [ajr,ai1 e_,alX];simp
  obtain⟨Us,Ut⟩:=hG _ (ai9 e_);have iJ:=o.sl (v:=lv) (aiW _ hl);generalize G[k]=t at ft lR Us Ut;generalize (G.take k).flatMap (qv sy di)=X at o yV lR;refine iJ.gG dg fun p hp=>?_;rw [aiY] at hp;refine hp.fZ iJ (ws:=t.cells) ft rfl ?_;refine o.box fun tb H4 o _=>?_;refine o.cz (vs:=t.cells) fun H5 o _=>?_;rw [ae,ax];refine o.aw (b:=tb) (f:=0+1) (w:= .int .i64 t.n) ?_;rw [aZ];unfold ve at Ut;refine av (fun h0=>?_) (fun h0=>?_)
  ·rw [if_pos h0] at Ut
   have hx:=t.b.toNat_lt;have YG:qv sy di t=cT (natL sy) t.b.toNat:=by unfold qv;rw [if_pos h0]
   have hw:=iR yI.1 t.b.toNat;rw [aD,ae,ax];refine o.dc (b:=cb) (f:=0+0) (cs:=ps::pd::rest) (t:=ct) (w:=ps) (by simp [yL]) rfl ?_;rw [ae,ax];refine o.aw (b:=tb) (f:=0+0) (w:=bu t.b) ?_;refine a8 ?_;rw [aJ];have o2:=o.tl;refine lE (s:=t.b.toNat) yI Ut (by rw [aiV];omega) o2 fun H6 Uu o6=>?_;rw [ay,aJ];exact⟨⟨k+1,Uu,rfl,by omega,by rw [lR,aiV,YG];omega,by rw [lR,YG,←ai0];exact o6⟩,by show (_:Int).toNat< (_:Int).toNat;omega⟩
  ·rw [if_neg h0] at Ut
   rcases jQ Us with ⟨h,_⟩ | ⟨h1,h2,h3,h4⟩
   ·exact absurd h h0
   obtain⟨s,e,x,es,el,eb,he5,nS⟩:=LO h1 h2;obtain⟨d,f,z,ed,edl,edb,YH,abz⟩:=LP h3 h4;rw [es,ed,aiY,aiY] at Ut;have YG:qv sy di t=cT (natL sy) s++ (a_ x e++ (cT (natL di) d++a_ z f)):=by unfold qv;rw [if_neg h0,es,ed,aiY,aiY,eb,edb]
   have Hg:=iR yI.1 s;have Lo:=iR CV.1 d;have gH:2 ^ e≤2 ^ 5:=ajk (by decide) he5;have um:2 ^ f≤2 ^ 13:=ajk (by decide) YH;refine⟨fun x8 y9 H' => ∃b8 b9:Nat,x8= .pointer (some ⟨b8,0,none⟩)∧y9= .pointer (some ⟨b9,0,none⟩)∧au H0 H' (.box b8 [.int .i64 (s:Int),.int .i64 (e:Int),.int .u64 (x:Int)] 237:: .box b9 [.int .i64 (d:Int),.int .i64 (f:Int),.int .u64 (z:Int)] 237:: .box tb t.cells 145:: .aE (lD b LN (B++X))::L),?_,?_⟩
   ·rintro _ _ _ H8 ⟨b8,b9,rfl,rfl,o⟩
    rw [aD,ae,ax];refine o.dc (b:=cb) (f:=0+0) (cs:=ps::pd::rest) (t:=ct) (w:=ps) (by simp [yL]) rfl ?_;rw [ae,ax];refine o.aw (b:=b8) (f:=0+0) (w:= .int .i64 (s:Int)) ?_;have o2:=o.Ah (L' := .aE (lD b LN (B++X)):: .box b8 [.int .i64 (s:Int),.int .i64 (e:Int),.int .u64 (x:Int)] 237:: .box b9 [.int .i64 (d:Int),.int .i64 (f:Int),.int .u64 (z:Int)] 237:: .box tb t.cells 145::L) (by repeat(first|exact fK.refl|exact dD.here|apply fK.cons|apply dD.there));refine lE (s:=s) yI.cons.cons.cons Ut.1 (by rw [aiV];omega) o2 fun H9 dv9 o=>?_;rw [ae,ax];refine o.aw (b:=b8) (f:=0+2) (w:= .int .u64 (x:Int)) ?_;rw [ae,ax];refine o.aw (b:=b8) (f:=0+1) (w:= .int .i64 (e:Int)) ?_;refine p7 (n:=x) (k:=e) (by omega) (by omega) (by simp only [aiV];omega) o fun B_ afZ o=>?_;rw [aD,ae,ax];refine o.dc (b:=cb) (f:=0+1) (cs:=ps::pd::rest) (t:=ct) (w:=pd) (by simp [yL]) rfl ?_;rw [ae,ax];refine o.aw (b:=b9) (f:=0+0) (w:= .int .i64 (d:Int)) ?_;refine lE (s:=d) CV.cons.cons.cons Ut.2 (by simp only [aiV,aX];omega) o fun OE af0 o=>?_;rw [ae,ax];refine o.aw (b:=b9) (f:=0+2) (w:= .int .u64 (z:Int)) ?_;rw [ae,ax];refine o.aw (b:=b9) (f:=0+1) (w:= .int .i64 (f:Int)) ?_;refine p7 (n:=z) (k:=f) (by omega) (by omega) (by simp only [aiV,aX];omega) o fun Uv abA o=>?_;rw [ay,aJ];refine⟨⟨k+1,abA,rfl,by omega,by rw [lR,aiV,YG];simp only [aiV,aX];omega,?_⟩,by show (_:Int).toNat< (_:Int).toNat;omega⟩;rw [lR,YG];simp only [ai0] at o ⊢;exact o.pick (List.Sublist.cons_cons _ (List.Sublist.cons _ (List.Sublist.cons _ (List.Sublist.cons _ (ako _)))))
   ·rw [ae,ax]
    refine o.aw (b:=tb) (f:=0+1) (w:= .int .i64 t.n) ?_;rw [ae,ax];refine o.aw (b:=tb) (f:=0+2) (w:= .int .i64 t.d) ?_
    repeat' (first
     |with_reducible refine And.intro ?_ ?_
     | (with_reducible refine xL fun Hx hx=>?_;rw [el];replace o:=o.more hx)
     | (with_reducible refine Di fun Hx hx=>?_;rw [edl];replace o:=o.more hx)
     |with_reducible refine o.box fun bb Hx o _=>?_
     |exact o.aw (b:=tb) rfl
     |with_reducible refine o.yY (vs:= [.int .i64 (s:Int),.int .i64 (e:Int),.int .u64 (x:Int)]) (by repeat(first|exact aiX|apply aiW)) rfl rfl rfl (by repeat(first|exact cx.here|apply cx.there)) fun Hx o _=>?_
     |with_reducible refine o.yY (vs:= [.int .i64 (d:Int),.int .i64 (f:Int),.int .u64 (z:Int)]) (by repeat(first|exact aiX|apply aiW)) rfl rfl rfl (by repeat(first|exact cx.here|apply cx.there)) fun Hx o _=>?_
     |exact⟨_,_,rfl,rfl,o.cY⟩)
 ·have hkG:k=G.length:=by omega
  rw [hkG,ajc] at o yV;rw [aD,ae,ax];refine o.dc (b:=cb) (f:=0+0) (cs:=ps::pd::rest) (t:=ct) (w:=ps) (by simp [yL]) rfl ?_;refine lE (s:=256) yI he (by rw [aiV];omega) o fun H6 Uu o6=>?_;refine h H6 Uu ?_;unfold gh;rw [←ai0];exact o6
end
section
variable {H H0 H' :ag} {R:Value→ag→Prop} {v:Value} {L:List It} {zs:List Int} {b:Nat} {B:List Bool}
def A9 (v:Value) (sz:Nat) (l:List Value):eX where
 dF k:=aY v=some k
 holds H:=Sl H v sz l∧l≠ []
 frame h hf:= ⟨h.1.frame hf,h.2⟩
 lt h hk:=h.1.lt h.2 hk
theorem _root_.Go.Vc.au.view {y:Value} {sz sz' :Nat} {l l0:List Value} (o:au H0 H (.sl y sz' l0::L)) (hs:Sl H v sz l) (hl:l≠ []) (hb: ∀k,aY v=some k→aY y=some k):au H0 H (.aE (A9 v sz l)::L):=
 o.jC (i:= .sl y sz' l0) (i' := .aE (A9 v sz l)) cx.here (aiZ _) (fun _ _ _=>rfl) ⟨hs,hl⟩ (fun k hk=> .inl (hb k hk))
theorem fX.VO {p:Value} (h:fX L zs p):aS p=true:=by obtain⟨_,_,_,_,_,rfl,_⟩:=h;rfl
theorem cx.app {i j:It} {L L' :List It} (h:cx i j L L'): ∀M:List It,cx i j (M++L) (M++L')
 | []=>h
 |m::M=>cx.there (cx.app h M)
theorem A_: ∀ (l:List Nat),(∀j,l.getD j 0=0)→shareL l 15=0
 | [],h=>rfl
 |a::l,h=>by
  have h0:=h 0
  simp at h0;subst h0
  have:=A_ l fun j=>by simpa using h (j+1)
  unfold shareL at this ⊢;rw [aj3,akX,this];rfl
theorem Ba {l:List Nat} {n:Nat} (h: ∀j,n≤j→l.getD j 0=0):shareL (l.take n) 15=shareL l 15:=by
 have e:shareL l 15=shareL (l.take n) 15+shareL (l.drop n) 15:=by
  conv=>lhs;rw [←ajp n l]
  unfold shareL;rw [ajy,List.sum_append]
 rw [e,A_ (l.drop n) (fun j=>by
  rw [ai3,ajW,←ai3];exact h _ (by omega))]
 rfl
theorem wS (zs:List Int) (n:Nat):natL (zs.take n)= (natL zs).take n:=by unfold natL;rw [al1]
theorem Bb {xs:List Int} {loose:Bool} (hz:okZ xs) (h:shareL (natL xs) 15=32768):ia xs loose=0:=by
 rw [tC hz,if_neg (by omega),if_neg (by omega)]
theorem ND {xs:List Int} (hz:okZ xs) (h:shareL (natL xs) 15≤32768) (hs:slackL (natL xs)=true):ia xs true=0:=by
 rw [tC hz,if_neg (by omega),if_neg (by rw [hs];simp)]
theorem Qx {l:List Nat} (hn:qk l≤1) (h1: ∀k∈l,k≤1):slackL l=true:=by
 have e:dh l 1=qk l:=by
  unfold dh qk;refine List.countP_congr fun k hk=>?_;have:=h1 k hk
  simp;omega
 unfold slackL;rw [e];have:qk l=0∨qk l=1:=by omega
 rcases this with h|h<;>simp [h]
theorem Told.sym: ∀ {es:List Ex} {out l:List Int},Told out es l→∀e∈es,e.1≤18
 | [],out,l,h,e,he=>by simp at he
 |u::es,out,l,h,e,he=>by
  rcases ajd.1 he with rfl|he
  ·rcases h.1 with h|h|h|h<;>omega
  ·exact h.2.sym e he
theorem kQ {xs:List Int} {n s:Nat} (h:s<n): (xs.take n).getD s 0=xs.getD s 0:=by
 rw [ai3,alA h,←ai3]
theorem Kq {xs:List Int} (hl:xs.length≤288) (h: ∀s,0≤xs.getD s 0∧xs.getD s 0≤15):okZ xs:= ⟨hl,fun z hz=>by
 obtain⟨i,hi,rfl⟩:=akK hz;have:=h i
 rwa [ai3,ai1 hi] at this⟩
theorem Qy {cs xs:List Int} {a:Nat} (hx:Uq cs 15 xs) (hl:cs.length=286) (hz: ∀j,a≤j→xs.getD j 0=0) (ha:a≤286):ia (xs.take a) false=0:=by
 have GO:=hx.len;refine Bb (Kq (by rw [ai2];omega) fun s=>?_) ?_
 ·by_cases h:s<a
  ·rw [kQ h];exact hx.rng s
  ·rw [ai3,ajm (by rw [ai2];omega)];simp
 ·rw [wS,Ba (fun j hj=>by rw [iQ,hz j hj];rfl),hx.share]
theorem NF {ds ys:List Int} {n:Nat} (hy:ri ds 15 ys) (hl:ds.length=30) (hz: ∀j,n≤j→ys.getD j 0=0) (hn:n≤30):ia (ys.take n) true=0:=by
 have iJ:=jR ds ds.length;obtain⟨f1,f2,f3,f4,f5⟩:=pZ hy (by decide) (by decide) (by rw [hl] at iJ;rw [hl];omega);have Qr: ∀s,0≤ys.getD s 0∧ys.getD s 0≤15:=fun s=>by
  by_cases hs:s<ds.length
  ·have:=f2 s hs
   split at this<;>omega
  ·rw [ai3,ajm (by omega)];simp
 have kp:okZ (ys.take n):=Kq (by rw [ai2];omega) fun s=>by
  by_cases h:s<n
  ·rw [kQ h];exact Qr s
  ·rw [ai3,ajm (by rw [ai2];omega)];simp
 have Ly:shareL (natL (ys.take n)) 15=shareL (natL ys) 15:=by rw [wS,Ba (fun j hj=>by rw [iQ,hz j hj];rfl)]
 by_cases h2:2≤(ic ds ds.length).length
 ·exact Bb kp (by rw [Ly,f3 h2])
 ·obtain⟨g1,g2⟩:=f4 (by omega)
  refine ND kp (by rw [Ly,g1];omega) (Qx ?_ fun k hk=>?_)
  ·have e:qk (natL ys)=qk ((natL ys).take n)+qk ((natL ys).drop n):=by rw [←tB,ajp]
   rw [wS];omega
  ·unfold natL at hk
   rw [ajw] at hk;obtain⟨z,hz,rfl⟩:=hk;obtain⟨i,hi,rfl⟩:=akK (aj6 hz);have:=g2 i (by omega);rw [ai3,ai1 hi] at this;show (ys[i]).toNat≤1;have h3:ys[i]≤1:=this;omega
end
section
variable {H H0:ag} {R:Value→ag→Prop} {v:Value} {zs:List Int} {ls:List Nat} {B:List Bool} {L:List It} {b:Nat} {post:List Value} {t:TypeId}
def fY:List Value:=bF.map fun n:Nat=>i64 n
abbrev NG (i:Nat):Nat:=bF.getD i 0
theorem rl {i:Nat} (h:i<19):fY[i]? =some (i64 (bF.getD i 0)):=by
 unfold fY;rw [aji,ai1 (by exact h),ai3,ai1 (by exact h)];rfl
theorem wT: ∀i:Fin 19,bF.getD i.val 0<19:=by decide
theorem Hp {c:Nat} (hG:Reads H0 ⟨4,0,none⟩ fY) (hc:c≤19) (o:au H0 H (mO b post t B::L))
  (kp: ∀l C H' M p,kz (bF.take c) (List.replicate 19 0) B= .ok l C→ia l false=0→fX M l p→au H0 H' (mO b post t C:: (M++L))→R (.tuple #[p,.int .i64 0]) H')
  (GJ: ∀l C H',kz (bF.take c) (List.replicate 19 0) B= .ok l C→ia l false≠0→au H0 H' (mO b post t C::L)→R (.tuple #[.pointer none,.int .i64 (ia l false)]) H')
  (l5: ∀e C H',kz (bF.take c) (List.replicate 19 0) B= .er e→e≠0→au H0 H' (mO b post t C::L)→R (.tuple #[.pointer none,.int .i64 e]) H'):ab 275 #[at_ b 0,i64 c] H R:=by
 generalize hT:kz (bF.take c) (List.replicate 19 0) B=T at*;refine Ao.vc _ _ _ _ ?_;refine o.qh (n:=19) (by decide) (by decide) (by decide) fun y H1 o=>?_;rw [show (19:Int).toNat=19 from rfl,kK] at o;rw [Gf,eD];refine⟨by omega,by omega,?_⟩;rw [aiY,ajO,if_neg (by decide),ax,qK];refine⟨fun u H' => ∃ (i:Nat) (l:List Int) (C:List Bool),u=i64 i∧i≤c∧l.length=19∧kz ((bF.take c).drop i) l C=T∧au H0 H' (mO b post t C:: .sl y 1 (aP l)::L),fun u _=>match u with| .int _ i=> (c - i).toNat|_=>0,⟨0,_,B,rfl,by omega,by simp,hT,o.swap⟩,?_⟩;rintro _ _ H2 ⟨i,l,C,rfl,hi,hl,hk,o⟩;rw [aO];refine av (fun rN=>?_) (fun rN=>?_)
 ·have YI:i<c:=by omega
  rw [mE];refine⟨by omega,by omega,?_⟩;have gY:= (hG.ext o.ext) i _ (rl (by omega));rw [ax,ajb] at gY;rw [ax,aiY,show 0+0+i*1=i by omega,bo gY];have cL:=wT ⟨i,by omega⟩
  dsimp only at cL
  have zO: (bF.take c).drop i=bF.getD i 0:: (bF.take c).drop (i+1):=by
   have h1:i< (bF.take c).length:=by rw [ai2];show i<min c 19;omega
   rw [ajJ h1,al6,ai3,ai1 (by show i<19;omega)];rfl
  rw [zO] at hk;unfold kz at hk;refine mi (n:=3) (by decide) o (fun x C1 H3 hx B9 o=>?_) (fun hx=>?_)
  ·refine ai rfl ?_
   refine ai rfl ?_;refine ep ?_;rw [ak];have nT: (aP l).length=19*1:=by rw [aV,hl]
   refine(o.cf (v:=y)).gG nT fun p hp=>?_;refine o.store hp (by repeat(first|exact aiX|apply aiW)) (by rw [nT];omega) rfl (by repeat(first|exact cx.here|apply cx.there)) fun H4 o _=>?_;rw [aiY,ai5,jP] at o;rw [ay,aJ];rw [hx] at hk;exact⟨⟨i+1,_,C1,rfl,by omega,by rw [aj1,hl],hk,o⟩,by show (_:Int).toNat< (_:Int).toNat;omega⟩
  ·refine ai rfl ?_
   refine ai rfl ?_;refine lx (by decide) ?_;rw [aL];rw [hx] at hk;exact l5 2 C H2 hk.symm (by decide) o.nw
 ·have YI:i=c:=by omega
  subst YI;rw [aky (by rw [ai2];omega)] at hk;refine ir (zs:=l) o (o.cf (v:=y)) (by omega) (fun H3 hw o=>?_) fun H3 M p hw hp o=>?_
  ·refine ai rfl ?_
   refine ai rfl ?_;exact GJ l C H3 hk.symm hw o.nw
  ·refine ai rfl ?_
   refine ai rfl ?_;refine kp l C H3 M p hk.symm hw hp ?_;exact(o.mid).pick (List.Sublist.cons_cons _ (akI (ako M) (aki _ L)))
theorem ET (hG:Reads H0 ⟨4,0,none⟩ fY) (o:au H0 H (mO b post t B::L))
  (kp: ∀p C H' M x y,qu B= .ok p C→fX M p.1 x→fX M p.2 y→au H0 H' (mO b post t C:: (M++L))→R (.tuple #[x,y,.int .i64 0]) H')
  (l5: ∀e C H' x y,qu B= .er e→e≠0→aS x=true→aS y=true→au H0 H' (mO b post t C::L)→R (.tuple #[x,y,.int .i64 e]) H'):ab 252 #[at_ b 0] H R:=by
 generalize hT:qu B=T at*;unfold qu at hT;refine qY.vc _ _ _ ?_;refine mi (n:=14) (by decide) o (fun x C1 H1 hx YJ o=>?_) (fun hx=>?_)
 rotate_left
 ·rw [hx] at hT
  refine ai rfl ?_;refine ai rfl ?_;refine lx (by decide) ?_;rw [aL];exact l5 2 B H _ _ hT.symm (by decide) rfl rfl o
 rw [hx] at hT
 dsimp only [Rs.bind] at hT
 refine ai rfl ?_;refine ai rfl ?_;refine ep ?_;rw [ak,cu,ze (k:=5) (m:=31) (by decide) rfl,show (2:Nat) ^ 5=32 from rfl,ay,show ((x%32:Nat):Int)+257= ((x%32+257:Nat):Int) by omega,aJ,lI];refine⟨by decide,?_⟩;rw [ka (m:=min (Int.toNat 5) IntKind.i64.bits) (j:=5) rfl,show (2:Nat) ^ 5=32 from rfl,cu,ze (k:=5) (m:=31) (by decide) rfl,show (2:Nat) ^ 5=32 from rfl,ay,show ((x/32%32:Nat):Int)+1= ((x/32%32+1:Nat):Int) by omega,aJ,lI];refine⟨by decide,?_⟩;rw [ka (m:=min (Int.toNat 10) IntKind.i64.bits) (j:=10) rfl,show (2:Nat) ^ 10=1024 from rfl,ay,show ((x/1024:Nat):Int)+4= ((x/1024+4:Nat):Int) by omega,aJ,bc];have ha:257≤x%32+257:=by omega
 have JO:x/1024+4≤19:=by omega
 have Uc:x%32+257≤288:=by omega
 have ZZ:x/32%32+1≤32:=by omega
 generalize x%32+257=a at*;generalize x/32%32+1=d at*;generalize x/1024+4=c at*;refine gu (d:=decide ((30:Int)< (d:Int))) (fun _=>?_) ?_
 ·rw [bc];exact⟨rfl,rfl⟩
 intro _;refine cN (fun hb=>?_) (fun hb=>?_)
 ·rw [akf,decide_eq_true_eq,decide_eq_true_eq] at hb
  rw [if_pos (by omega)] at hT;exact l5 20 C1 H1 _ _ hT.symm (by decide) rfl rfl o
 rw [aks,decide_eq_false_iff_not,decide_eq_false_iff_not] at hb;rw [if_neg (by omega)] at hT;have Oz:a≤286:=by omega
 have Yc:d≤30:=by omega
 refine Hp hG JO o (fun tl C2 H2 M p ht hw hp o=>?_) (fun tl C2 H2 ht hw o=>?_) (fun e C2 H2 ht he o=>?_)
 rotate_left
 ·rw [ht] at hT
  dsimp only [Rs.bind] at hT
  rw [if_pos hw] at hT;refine ai rfl ?_;refine ai rfl ?_;refine lx hw ?_;rw [aL];exact l5 _ C2 H2 _ _ hT.symm hw rfl rfl o
 ·rw [ht] at hT
  refine ai rfl ?_;refine ai rfl ?_;refine lx he ?_;rw [aL];exact l5 e C2 H2 _ _ hT.symm he rfl rfl o
 rw [ht] at hT
 dsimp only [Rs.bind] at hT
 rw [if_neg (fun g=>g hw)] at hT;refine ai rfl ?_;refine ai rfl ?_;refine ep ?_;rw [ak,ay,show (a:Int)+ (d:Int)= ((a+d:Nat):Int) by omega,aJ];refine Cu (n:=a+d) (by omega) hp.nH o (fun l C3 lv H3 hl nT o=>?_) (fun e C3 H3 hl he o=>?_)
 rotate_left
 ·rw [hl] at hT
  refine ai rfl ?_;refine ai rfl ?_;refine lx he ?_;rw [aL];exact l5 e C3 H3 _ _ hT.symm he rfl rfl (o.pick (List.Sublist.cons_cons _ (ak0 M L)))
 rw [hl] at hT
 dsimp only [Rs.bind] at hT
 refine ai rfl ?_;refine ai rfl ?_;refine ep ?_;rw [ak];have hlen: (aP l).length= (a+d)*1:=by rw [aV,nT];omega
 have hS:=o.cf (v:=lv);have oL:au H0 H3 (mO b post t C3::L):=o.pick (List.Sublist.cons_cons _ (List.Sublist.cons _ (ak0 M L)));refine hS.at_ (n:=a+d) hlen (by decide) (by decide) (by omega) fun p hp=>?_;refine hp.load hS (w:= .int .i64 (l.getD 256 0)) (pU (by rw [nT];show 256<a+d;omega)) ?_;rw [aZ];refine av (fun YB=>?_) (fun YB=>?_)
 ·rw [if_pos YB] at hT
  exact l5 12 C3 H3 _ _ hT.symm (by decide) rfl rfl oL
 rw [if_neg YB] at hT;refine hS.cut (by decide) (n:=a+d) (lo:=0) (hi:=a) hlen (by omega) (by omega) (fun v1 h1=>?_) (.inr ⟨rfl,rfl⟩) (.inl rfl);rw [ak7,ajt,ajO,ai5,kJ] at h1;refine ir (zs:=l.take a) o h1 (by rw [ai2];omega) (fun H4 Hg o=>?_) (fun H4 M1 p1 Hg gH o=>?_)
 ·rw [if_pos Hg] at hT
  refine ai rfl ?_;refine ai rfl ?_;refine lx Hg ?_;rw [aL];exact l5 _ C3 H4 _ _ hT.symm Hg rfl rfl (o.pick (List.Sublist.cons_cons _ (List.Sublist.cons _ (ak0 M L))))
 rw [if_neg (fun g=>g Hg)] at hT;refine ai rfl ?_;refine ai rfl ?_;refine ep ?_;rw [ak];have Xp:=o.sl (v:=lv) (akJ _ (by repeat(first|exact aiX|apply aiW)));refine Xp.cut (by decide) (n:=a+d) (lo:=a) (hi:=a+d) hlen (by omega) (by omega) (fun v2 h2=>?_) (.inl rfl) (.inr ⟨rfl,rfl⟩);rw [ai5,ai5,tq,ajf (by rw [aV,ai4];omega)] at h2;have o:= (o.mid).pick (List.Sublist.cons_cons (mO b post t C3) (akI (ako M1) (List.Sublist.cons _ (ak0 M L))));refine ir (zs:=l.drop a) o h2 (by rw [ai4];omega) (fun H5 Lo o=>?_) (fun H5 M2 p2 Lo um o=>?_)
 ·rw [if_pos Lo] at hT
  refine ai rfl ?_;refine ai rfl ?_;obtain⟨-,cb,_,_,_,rfl,-⟩:=gH;exact l5 _ C3 H5 _ _ hT.symm Lo rfl rfl (o.pick (List.Sublist.cons_cons _ (ak0 M1 L)))
 ·rw [if_neg (fun g=>g Lo)] at hT
  refine ai rfl ?_;refine ai rfl ?_;refine kp _ C3 H5 (M2++M1) p1 p2 hT.symm gH.app um.nH ?_;rw [ai0];exact o.mid
end
section
variable {H:ag} {R:Value→ag→Prop}
structure Ring (ring all:List UInt8):Prop where
 len:ring.length=min all.length 32768
 at_: ∀i,i<all.length→all.length≤i+32768→ring[i%32768]? =all[i]?
structure Win (H:ag) (b:Nat) (rv:Value) (all:List UInt8):Prop where
 lk:H[b]? =some (.cells #[rv,.int .i64 all.length] 252 (0,0))
 ring: ∃ring,jJ H rv 1 (ring.map bu)∧Ring ring all
 ne:aY rv≠some b
 size:all.length≤1099511627776
structure Step (b:Nat) (rv:Value) (H:ag) (OG :Value) (H' :ag):Prop where
 size:H.size≤H'.size
 same: ∀i,i<H.size→i≠b→aY rv≠some i→H'[i]? =H[i]?
 lk: ∀k,aY OG =some k→aY rv=some k∨H.size≤k
theorem Step.refl {b:Nat} {rv:Value}:Step b rv H rv H:= ⟨aiZ _,fun _ _ _ _=>rfl,fun _ h=> .inl h⟩
theorem Step.trans {b:Nat} {rv OG YK :Value} {H H' OR :ag} (h:Step b rv H OG H') (k:Step b OG H' YK OR):Step b rv H YK OR :=
 ⟨ajv h.size k.size,fun i hi hb hr=> (k.same i (ajN hi h.size) hb (fun e=>by
   rcases h.lk i e with h' |h'
   ·exact hr h'
   ·omega)).trans (h.same i hi hb hr),fun j hj=>by
  rcases k.lk j hj with h' |h'
  ·exact h.lk j h'
  ·right;have:=h.size;omega⟩
theorem Step.ext {A H H' :ag} {b:Nat} {rv OG :Value} (h:Step b rv H OG H') (hx:Ext A H) (hb:A.size≤b) (hr: ∀k,aY rv=some k→A.size≤k):Ext A H' ∧∀k,aY OG =some k→A.size≤k:=
 ⟨⟨ajv hx.size h.size,fun i hi=> (h.same i (ajN hi hx.size) (by omega) (fun e=>by have:=hr i e;omega)).trans (hx.get i hi)⟩,fun k hk=>by
  rcases h.lk k hk with h' |h'
  ·exact hr k h'
  ·have:=hx.size;omega⟩
theorem Win.ext {H H' :ag} {b:Nat} {rv:Value} {all:List UInt8} (h:Win H b rv all) (hx:Ext H H'):Win H' b rv all:=by
 obtain⟨ring,ho,hr⟩:=h.ring;exact⟨hx.lk h.lk,⟨ring,ho.ext hx,hr⟩,h.ne,h.size⟩
variable {b:Nat} {rv:Value} {all:List UInt8}
end
section
variable {H H0:ag} {R:Value→ag→Prop} {v:Value} {zs:List Int} {ls:List Nat} {B:List Bool} {L:List It} {b:Nat} {q:List Value} {t:TypeId} {all:List UInt8}
def jW (H0 H:ag) (b:Nat) (q:List Value) (t:TypeId) (B:List Bool) (all:List UInt8) (L:List It):Prop:=
 ∃rv ring,Ring ring all∧all.length≤1099511627776∧au H0 H (mO b (rv::i64 all.length::q) t B:: .sl rv 1 (ring.map bu)::L)
theorem Hq (ring:List UInt8): (ring.map bu).length=ring.length*1:=by simp
theorem Qz (w:jW H0 H b q t B all L) (h:R (i64 (min all.length 32768)) H):ab 299 #[at_ b 3] H R:=by
 obtain⟨rv,ring,hr,hs,o⟩:=w;refine uT.vc _ _ _ ?_;rw [fC,ak,aD,ae,ax];refine o.pl (by repeat(first|exact aiX|apply aiW)) (by decide) rfl ?_;refine o.M8 (v:=rv) (by repeat(first|exact aiX|apply aiW)) ?_;rw [ajh,hr.len];exact h
theorem QA {x:UInt8} (w:jW H0 H b q t B all L) (qm:all.length<1099511627776) (h: ∀H',jW H0 H' b q t B (all++ [x]) L→R (.tuple #[]) H'):ab 257 #[at_ b 3,bu x] H R:=by
 obtain⟨rv,ring,hr,hs,o⟩:=w;have hlen:=hr.len;refine uS.vc _ _ _ _ ?_;rw [fC,ak];refine⟨fun H' => ∃OG LQ,Ring LQ (all++ [x])∧au H0 H' (mO b (OG ::i64 all.length::q) t B:: .sl OG 1 (LQ.map bu)::L),?_,?_⟩
 ·rintro _ H1 ⟨OG,LQ,yj,o⟩
  rw [aD,ae,ax];refine o.pl (by repeat(first|exact aiX|apply aiW)) (by decide) rfl ?_;rw [ay,aJ,aD,ae,ax];refine o.ps (g:=3+1) cx.here (by decide) (by simp) rfl fun H2 o _=>?_;refine h H2 ⟨OG,LQ,yj,by rw [aiV,akc];omega,?_⟩;have e:i64 (all++ [x]).length= .int .i64 ((all.length:Int)+1):=by rw [aiV,akc];rfl
  rw [e];exact o
 ·rw [aD,ae,ax]
  refine o.pl (by repeat(first|exact aiX|apply aiW)) (by decide) rfl ?_;refine o.M8 (v:=rv) (by repeat(first|exact aiX|apply aiW)) ?_;rw [ajh,aO];refine av (fun hc=>?_) (fun hc=>?_)
  ·rw [aD,ae,ax]
   refine o.pl (by repeat(first|exact aiX|apply aiW)) (by decide) rfl ?_;refine o.cy (by decide) rfl rfl fun y H1 o=>?_;refine o.app (v:=rv) (x:=y) (by repeat(first|exact dD.here|apply dD.there)) (o.cf) (by rfl) (by rw [ajh];show 2* (ring.length+1)*1≤_;omega) fun y2 H2 o=>?_;rw [aD,ae,ax];have hy2:= (o.cf (v:=y2)).one;refine o.ps (b:=b) (post:=rv::i64 all.length::q) (t:=t) (B:=B) (g:=3+0) (by repeat(first|exact cx.here|apply cx.there)) (by decide) (by simp) hy2 fun H3 o _=>?_;have YL:ring=all:=by
    apply aj4;intro i
    by_cases hi:i<all.length
    ·rw [←hr.at_ i hi (by omega),ajg (by omega)]
    ·rw [ajm (by omega),ajm (by omega)]
   subst YL;refine⟨y2,ring++ [x],⟨by simp;omega,fun i hi _=>by rw [ajg (by simp at hi;omega)]⟩,?_⟩;rw [ajy];exact o.nw.swap
  ·have iT:32768≤all.length:=by omega
   rw [aD,ae,ax];refine o.pl (by repeat(first|exact aiX|apply aiW)) (by decide) rfl ?_;rw [aD,ae,ax];refine o.pl (by repeat(first|exact aiX|apply aiW)) (by decide) rfl ?_;rw [gz];refine⟨by decide,?_⟩;rw [akh (by omega)];have hm: ((all.length:Int) %32768).toNat*1=all.length%32768:=by omega
   refine(o.cf (v:=rv)).gG (Hq ring) fun p hp=>?_;refine o.store hp (by repeat(first|exact aiX|apply aiW)) (by rw [ajh];omega) rfl (by repeat(first|exact cx.here|apply cx.there)) fun H1 o _=>?_;rw [hm] at o;refine⟨rv,ring.set (all.length%32768) x,⟨by simp;omega,fun i hi Lp=>?_⟩,by rw [List.map_set];exact o⟩;rw [aiV,akc] at hi Lp
   by_cases he:i=all.length
   ·subst he
    rw [akG (by omega),ajP (aiZ _),akp]
    rfl
   ·rw [als (by omega),ajL (by omega)]
    exact hr.at_ i (by omega) (by omega)
theorem VQ {d:Int} (w:jW H0 H b q t B all L) (Pw:1≤d) (Yc:d≤(min all.length 32768:Nat)) (h:R (.tuple #[bu (all.getD (all.length - d.toNat) 0),.bool true]) H):ab 300 #[at_ b 3,.int .i64 d] H R:=by
 have w0:=w;obtain⟨rv,ring,hr,hs,o⟩:=w;refine tz.vc _ _ _ _ ?_;rw [aO,ei];refine aM ?_;refine Qz w0 ?_;rw [bc,ei];intro _;rw [ak,aD,ae,ax];refine o.pl (by repeat(first|exact aiX|apply aiW)) (by decide) rfl ?_;rw [aD,ae,ax];refine o.pl (by repeat(first|exact aiX|apply aiW)) (by decide) rfl ?_;rw [bq,aJ,gz];refine⟨by decide,?_⟩;rw [akh (by omega)];have hlen:=hr.len;have hm: (((all.length:Int) - d) %32768).toNat*1= (all.length - d.toNat) %32768:=by omega
 have hS:=o.cf (v:=rv);refine hS.gG (Hq ring) fun p hp=>?_;refine hp.load hS (w:=bu (all.getD (all.length - d.toNat) 0)) ?_ h;rw [hm,aji,hr.at_ _ (by omega) (by omega),ai1 (by omega),ai3,ai1 (by omega)]
 rfl
theorem YM {s:List UInt8} (w:jW H0 H b q t B all L) (qm:all.length+s.length≤1099511627776) (h: ∀H',jW H0 H' b q t B (all++s) L→R (.tuple #[]) H'):ab 253 #[at_ b 3,str s] H R:=by
 refine uR.vc _ _ _ _ ?_;refine aC ?_;refine⟨fun v H' => ∃ (i:Nat),v= .int .i64 i∧i≤s.length∧jW H0 H' b q t B (all++s.take i) L,fun v _=>match v with| .int _ i=> (s.length - i).toNat|_=>0,⟨0,rfl,by omega,by simpa using w⟩,?_⟩;rintro _ _ H1 ⟨i,rfl,hi,w⟩;rw [aO];refine av (fun hc=>?_) (fun hc=>?_)
 ·rw [cc,bB]
  refine⟨by omega,by omega,?_⟩;rw [aiY];refine QA w (by rw [aiV,ai2];omega) fun H2 w=>?_;rw [ay,aJ];refine⟨⟨i+1,rfl,by omega,?_⟩,by show (_:Int).toNat< (_:Int).toNat;omega⟩;rw [ajr,ai1 (by omega),←ai0];rw [ai3,ai1 (by omega)] at w;exact w
 ·have:i=s.length:=by omega
  subst this;rw [ajc] at w;exact h _ w
theorem NH {n d:Nat} (w:jW H0 H b q t B all L) (hn:n≤258) (sj:d<1∨min all.length 32768<d) (h:R (.tuple #[str [],.bool false]) H):ab 281 #[at_ b 3,i64 n,i64 d] H R:=by
 refine mK.vc _ _ _ _ _ ?_;rw [aO,ei];refine aM ?_;rw [bc,ei];intro _;refine aM ?_;rw [aO];intro _;refine gu (d:=decide (((min all.length 32768:Nat):Int)<d)) (fun _=>?_) ?_
 ·refine Qz w ?_
  rw [bc];exact⟨rfl,rfl⟩
 intro _;refine cN (fun _=>h) (fun hc=>?_);simp only [aks,decide_eq_false_iff_not] at hc;omega
theorem jW.QB {i:It} (w:jW H0 H b q t B all (i::L)): ∃rv ring,Ring ring all∧all.length≤1099511627776∧au H0 H (i::mO b (rv::i64 all.length::q) t B:: .sl rv 1 (ring.map bu)::L):=by
 obtain⟨rv,ring,hr,hs,o⟩:=w;refine⟨rv,ring,hr,hs,o.perm ?_⟩;exact List.Perm.trans (List.Perm.swap ..) (List.Perm.cons _ (List.Perm.swap ..))
theorem jW.QD {i:It} {rv:Value} {ring:List UInt8} (hr:Ring ring all) (hs:all.length≤1099511627776) (o:au H0 H (i::mO b (rv::i64 all.length::q) t B:: .sl rv 1 (ring.map bu)::L)):jW H0 H b q t B all (i::L):=by
 refine⟨rv,ring,hr,hs,o.perm ?_⟩;exact List.Perm.trans (List.Perm.cons _ (List.Perm.swap ..)) (List.Perm.swap ..)
theorem VR {n d:Nat} (w:jW H0 H b q t B all L) (Ct:n≤258) (y5:1≤d) (Pw:d≤min all.length 32768) (qm:all.length+258≤1099511627776)
  (h: ∀H',jW H0 H' b q t B (cU n all d) L→R (.tuple #[str ((cU n all d).drop all.length),.bool true]) H'):ab 281 #[at_ b 3,i64 n,i64 d] H R:=by
 refine mK.vc _ _ _ _ _ ?_;rw [aO,ei];refine aM ?_;rw [bc,ei];intro _;refine aM ?_;rw [aO,ei];intro _;refine aM ?_;refine Qz w ?_;rw [bc,ei];intro _;rw [ak];obtain⟨rv,ring,hr,hs,o⟩:=w;refine o.qh (by omega) (by omega) (by omega) fun ov H1 o=>?_;rw [aiY] at o;have w:=jW.QD hr hs o;refine o.M8 (v:=ov) (by repeat(first|exact aiX|apply aiW)) ?_;rw [ajB];refine⟨fun v H' => ∃ (i:Nat) (out:List Value),v= .int .i64 i∧i≤n∧jW H0 H' b q t B (cU i all d) (.sl ov 1 out::L)∧out.length=n∧out.take i= ((cU i all d).drop all.length).map bu,
  fun v _=>match v with| .int _ i=> (n - i).toNat|_=>0,⟨0,_,rfl,by omega,w,by simp,by simp [cU]⟩,?_⟩
 rintro _ _ H2 ⟨i,out,rfl,hi,w2,Mp,Uw⟩;have hl:=mg i all d;rw [aO];refine av (fun hc=>?_) (fun hc=>?_)
 ·refine VQ (d:=d) w2 (by omega) (by rw [hl];omega) ?_
  refine ai rfl ?_;refine ai rfl ?_;rw [aiY];generalize hx: (cU i all d).getD ((cU i all d).length - d) 0=x;obtain⟨rv,ring,hr,lL,o⟩:=w2.QB;refine(o.cf (v:=ov)).at_ (n:=n) (by omega) (by decide) (by omega) (by omega) fun p hp=>?_;refine o.store hp (by repeat(first|exact aiX|apply aiW)) (by omega) rfl (by repeat(first|exact cx.here|apply cx.there)) fun H3 o _=>?_;rw [aiY,ai5] at o;have hS:=o.cf (v:=ov);refine hS.at_ (n:=n) (by rw [aj1];omega) (by decide) (by omega) (by omega) fun p hp=>?_;refine hp.load hS (w:=bu x) (by rw [aiY,ai5,akG (by omega)]) ?_;refine QA (jW.QD hr lL o) (by rw [hl];omega) fun H4 w=>?_;rw [ay,aJ];refine⟨⟨i+1,out.set i (bu x),rfl,by omega,?_,by simpa using Mp,?_⟩,by show (_:Int).toNat< (_:Int).toNat;omega⟩
  ·rw [r8,hx];exact w
  ·rw [r8,hx,ajR (by rw [hl];omega),ajy,←Uw]
   rw [ajr,akG (by omega),List.take_set_of_le (by omega)]
   rfl
 ·have Lp:i=n:=by omega
  subst Lp;rw [ajf (by omega)] at Uw;rw [Uw] at w2;obtain⟨rv,ring,hr,lL,o⟩:=w2.QB;refine Sl.str (o.cf (v:=ov)) ?_;exact h _ ⟨rv,ring,hr,lL,o.pick (aki _ _)⟩
theorem jW.pl {K:Value→Prop} {g:Nat} {x:Value} (w:jW H0 H b q t B all L) (h5:5≤g) (hx:q[g - 5]? =some x) (hk:K x):ao H (at_ b g) K:=by
 obtain⟨rv,ring,hr,hs,o⟩:=w;refine o.pl (w:=x) (by repeat(first|exact aiX|apply aiW)) (by omega) ?_ hk;obtain⟨j,rfl⟩: ∃j,g=j+5:= ⟨g - 5,by omega⟩;simp only [akZ] at hx;rw [show j+5 - 3=j+1+1 by omega];exact hx
theorem jW.ps {K:Value→ag→Prop} {g:Nat} {x:Value} (w:jW H0 H b q t B all L) (h5:5≤g) (hg:g - 5<q.length) (hx:aS x=true) (hk: ∀H',jW H0 H' b (q.set (g - 5) x) t B all L→K undef H'):aI H (at_ b g) x K:=by
 obtain⟨rv,ring,hr,hs,o⟩:=w;refine o.ps (g:=g) cx.here (by omega) (by simp;omega) hx fun H' o _=>hk H' ⟨rv,ring,hr,hs,?_⟩;obtain⟨j,rfl⟩: ∃j,g=j+5:= ⟨g - 5,by omega⟩;rw [show j+5 - 3=j+1+1 by omega] at o;exact o
end
end Go.Proofs.YtpcgccdmmoggmaaGreatDoor
namespace Go.Proofs
open Go.Shelf Go.RowKit
section
set_option maxHeartbeats 1000000 in
theorem Tryz.rm (b f:Nat) (w:World) (h0:w.cell? ⟨b,f,none⟩=some (.pointer (some ⟨b,f,none⟩))):
  Calls Tryz.prog 128 #[.pointer (some ⟨b,f,none⟩)] w fun e w' =>e= .returned (.tuple #[])∧w' =w:=by
 obtain⟨j,hj,Z0⟩:=amL.1 (show (Tryz.prog.info? 153).map (·.size)=some 2 by kernel_rfl)
 go_enter Tryz.func128,Tryz.f128
 go_wp2
 rw [Lib.run_neq_ptr_same w _ Tryz.underlying151 hj]
 go_wp2
 go_end0
 exact⟨rfl,rfl⟩
set_option maxHeartbeats 1000000 in
theorem Tryz.yN (b:Nat) (w:World) (h0:w.cell? ⟨b,5,none⟩=some (.pointer none)) (Ly:w.shape? b=some (255,14)) (Pp:w.frozen? ⟨b,5,none⟩=false):
  Calls Tryz.prog 128 #[.pointer (some ⟨b,5,none⟩)] w fun e w' =>e= .returned (.tuple #[])∧w' =w.setCell ⟨b,5,none⟩ (.pointer (some ⟨b,5,none⟩)):=by
 obtain⟨j,hj,Z0⟩:=amL.1 (show (Tryz.prog.info? 153).map (·.size)=some 2 by kernel_rfl);have QE:liesAt Tryz.prog Tryz.prog.depth 255 (14/Tryz.prog.cellsOf 255) 5 153 1=true:=by kernel_rfl
 go_enter Tryz.func128,Tryz.f128
 go_wp2
 rw [Lib.run_to_unsafe w ⟨b,5,none⟩ Tryz.underlying151 Tryz.underlying256 hj (by rw [Z0];decide) Ly (show 5<14 by decide)];simp only [Result.andThen];rw [Oper.upon_value]
 go_wp2
 rw [run_callFunc_extern Tryz.func178 (by kernel_rfl) (by kernel_rfl) (by kernel_rfl) (e:=Extern.AbiNoEscape.same) (by kernel_rfl)];rw [Lib.run_noEscape];simp only [Result.andThen];rw [Oper.upon_value]
 go_wp2
 rw [Lib.run_from_unsafe w ⟨b,5,none⟩ Tryz.underlying256 Tryz.underlying151 hj Ly QE];simp only [Result.andThen];rw [Oper.upon_value]
 go_wp2
 go_end0
 exact⟨rfl,rfl⟩
set_option maxHeartbeats 1000000 in
theorem Tryz.Hr (b g cap:Nat) (cur:Array Value) (fr:Nat × Nat) (l:List UInt8) (w:World) (h1:w.cell? ⟨b,6,none⟩=some (.slice (some ⟨g,0,none⟩) l.length cap)) (hg:w.heap[g]? =some (.cells cur 5 fr)) (h0:l≠ []) (hl:l.length≤cap) (hm:l.length≤9223372036854775807) (hn:l.length≤cur.size)
  (hc: ∀ (j:Nat) (x:UInt8),l[j]? =some x→cur[j]? =some (Value.int .u8 x.toNat)):
  Calls Tryz.prog 76 #[.pointer (some ⟨b,5,none⟩)] w fun e w' =>e= .returned (.string ⟨l.toArray⟩)∧w' =w.drew.freeze ⟨g,0,none⟩ l.length:=by
 have SV:l.length≠0:=by simpa using h0
 have c1:w.drew.cell? ⟨b,6,none⟩=some (.slice (some ⟨g,0,none⟩) l.length cap):=h1;have hSD: (Builtin.unsafeSliceData_ #[82] 200 #[.slice (some ⟨g,0,none⟩) l.length cap]).run Tryz.prog w.drew= .ok (.pointer (some ⟨g,0,none⟩)) w.drew:=
  Lib.run_unsafeSliceData_row _ _ _ _ _ _ (by omega)
 have hUS: (Builtin.unsafeString_ #[200,3] 9 #[.pointer (some ⟨g,0,none⟩),.int .i64 l.length]).run Tryz.prog w.drew= .ok (.string ⟨l.toArray⟩) (w.drew.freeze ⟨g,0,none⟩ l.length):=by
  refine Lib.run_unsafeString_row w.drew 200 3 9 5 Tryz.underlying200 (by kernel_rfl) g cur.size (by have VS :w.drew.heap[g]? =some (.cells cur 5 fr):=hg;simp [World.shape?,VS]) l h0 hn hm ?_;intro j x hx;have VS :w.drew.heap[g]? =some (.cells cur 5 fr):=hg;have:=hc j x hx;rw [show (⟨g,0,none⟩:Addr).add j= ⟨g,j,none⟩ from by cases j<;>simp [Addr.add],Lib.cell_of_heap VS];exact this
 go_enter Tryz.func76,Tryz.f76
 go_wp2
 go_region
 all_goals (go_wp2;go_ret;exact⟨rfl,rfl⟩)
set_option maxHeartbeats 1000000 in
theorem Tryz.Kr (b:Nat) (w:World) (h1:w.cell? ⟨b,6,none⟩=some (.slice none 0 0)):
  Calls Tryz.prog 76 #[.pointer (some ⟨b,5,none⟩)] w fun e w' =>e= .returned (.string ⟨#[]⟩)∧w' =w.drew:=by
 have c1:w.drew.cell? ⟨b,6,none⟩=some (.slice none 0 0):=h1;have hSD: (Builtin.unsafeSliceData_ #[82] 200 #[.slice none 0 0]).run Tryz.prog w.drew= .ok (.pointer none) w.drew:=rfl;have hUS: ∀ (W:World) (q:Option Addr),(Builtin.unsafeString_ #[200,3] 9 #[.pointer q,.int .i64 0]).run Tryz.prog W= .ok (.string .empty) W:=fun W q=>Lib.run_unsafeString_none W _ _ _ q
 go_enter Tryz.func76,Tryz.f76
 go_wp2
 go_region
 all_goals (go_wp2;go_ret;exact⟨rfl,rfl⟩)
end
end Go.Proofs
namespace Go.Proofs.YtpcgccdmmoggmaaGreatDoor
open Go Go.Vc Go.Proofs
section
variable {H H0:ag} {R:Value→ag→Prop} {v:Value} {B:List Bool} {L M:List It} {b:Nat} {q:List Value} {W out:List UInt8}
def oR (v:Value) (out:List UInt8):eX where
 dF k:=aY v=some k
 holds H:= (v= .slice none 0 0∧out= [])∨(out≠ []∧∃ (g cap:Nat) (sp:List Value) (fr:Nat × Nat),v= .slice (some ⟨g,0,none⟩) out.length cap∧H[g]? =some (.cells (out.map bu++sp).toArray 5 fr)∧Ee fr cap∧out.length+sp.length=cap)
 frame:=fun h hf=>by
  rcases h with h| ⟨h0,g,cap,sp,fr,rfl,h1,h2⟩
  ·exact .inl h
  ·exact .inr ⟨h0,g,cap,sp,fr,rfl,(hf g rfl).trans h1,h2⟩
 lt:=fun h hf=>by
  rcases h with ⟨rfl,_⟩ | ⟨h0,g,cap,sp,fr,rfl,h1,h2⟩
  ·simp [aY] at hf
  ·simp only [aY,ai8] at hf;subst hf;exact bz h1
theorem NI (l:List UInt8): (l.map bu).all aS=true:=by simp [aS]
theorem EU {K:Value→ag→Prop} {x:Value} {new:List UInt8} (o:au H0 H L) (fH:dD (.aE (oR v out)) L M) (hlen:jc x=some new.length) (jd:cellsOf H 1 x=some (new.map bu)) (jL:out.length+new.length≤140737488355328)
  (hk: ∀v' H',au H0 H' (.aE (oR v' (out++new))::M)→K v' H'):a7 H 5 1 1 [.int .u8 0] v x K:=by
 have o1:=o.front fH;have hh:=o1.aE (T:=oR v out) aiX;have key: ∀v' H',H.size≤H'.size→(∀k,k<H.size→aY v≠some k→H'[k]? =H[k]?)→(oR v' (out++new)).holds H' →(∀k,aY v' =some k→aY v=some k∨H.size≤k)→K v' H' :=
  fun v' H' h1 h2 h3 h4=>hk v' H' (o1.jC cx.here h1 h2 h3 h4)
 rcases hh with ⟨rfl,rfl⟩ | ⟨h0,g,cap,sp,fr,rfl,hb,hf,hc⟩
 ·simp only [a7,hlen,jd]
  refine⟨fun hle=>?_,fun cL=>?_⟩
  ·have:new= []:=alz.1 (by omega)
   subst this;exact key _ H (aiZ _) (fun _ _ _=>rfl) (.inl ⟨rfl,rfl⟩) (fun k hk=> .inl hk)
  ·refine⟨by simp at jL;omega,?_⟩
   simp only [cellsOf,aje];intro c hc;refine key _ _ (by simp) (fun i hi _=>iK hi) (.inr ⟨by intro e;rw [List.append_eq_nil_iff] at e;rw [e.2] at cL;simp at cL,H.size,c,fS [.int .u8 0] (c - (0+new.length)),(0,0),by simp,?_,.inl rfl,?_⟩) (fun k hk=>?_)
   ·exact bO
   ·rw [g_];simp;omega
   ·simp only [aY,ai8] at hk;right;omega
 ·simp only [a7,hlen,jd]
  refine⟨fun hle=>?_,fun cL=>?_⟩
  ·simp only [ax,ajb,ai5]
   have zO:new.length≤sp.length:=by omega
   rw [jK hf (new.map bu) H out.length 0 (out.map bu++sp) hb (NI new) (by simp;omega) (by simp;omega)];simp only [ajq];have hp:=n9 (new.map bu) (out.map bu) sp (by simpa using zO);rw [ajh] at hp;rw [hp,ajh];refine key _ _ (by simp) (fun i hi cQ=>c9 (by intro e;subst e;exact cQ rfl)) (.inr ⟨by simp [h0],g,cap,sp.drop new.length,fr,by simp,?_,hf,?_⟩) (fun k hk=> .inl hk)
   ·rw [ajy];exact bU (bz hb)
   ·rw [aiV,ai4];omega
  ·refine⟨by omega,?_⟩
   have hr:cellsOf H 1 (.slice (some ⟨g,0,none⟩) out.length cap)=some (out.map bu):=by
    have:= (jJ.sl (by decide) (.inr ⟨g,out.length,cap,sp,rfl,⟨⟨_,fr,hb,by simpa using hf⟩,by simp,by simp;omega⟩⟩:jJ H (.slice (some ⟨g,0,none⟩) out.length cap) 1 (out.map bu))).cellsOf;exact this
   rw [hr];intro c gE;refine key _ _ (by simp) (fun i hi _=>iK hi) (.inr ⟨by simp [h0],H.size,c,fS [.int .u8 0] (c - (out.length+new.length)),(0,0),by simp,?_,.inl rfl,?_⟩) (fun k hk=>?_)
   ·rw [ajy];exact bO
   ·rw [g_,aiV];simp;omega
   ·simp only [aY,ai8] at hk;right;omega
def Dc (H0 H:ag) (b:Nat) (q:List Value) (B:List Bool) (W out:List UInt8) (L:List It):Prop:=
 ∃bp bv,(bp= .pointer none∨bp=at_ b 5)∧aS bv=true∧jW H0 H b (bp::bv::q) 255 B W (.aE (oR bv out)::L)
def Idle (H0 H:ag) (b:Nat) (q:List Value) (B:List Bool) (W:List UInt8) (L:List It):Prop:=
 ∃bp bv,aS bp=true∧aS bv=true∧jW H0 H b (bp::bv::q) 255 B W L
theorem vn {K:Value→ag→Prop} {a:Addr} {x:Value} (h:aI H (.pointer (some a)) x K):K undef (setAt H (a.add 0) x):=by
 simp only [aI,fQ] at h
 cases hc:cellAt H (a.add 0) with
 |none=>simp only [hc] at h
 |some y=>
  simp only [hc] at h
  cases hq:frozenAt H (a.add 0) with
  |true=>simp only [hq,cond_true] at h
  |false=>
   cases ho:aS x with
   |false=>simp only [hq,ho,cond_false] at h
   |true=>simpa only [hq,ho,cond_false,cond_true] using h
theorem rn {bp bv:Value} (hq:q.length=7) (sC:bp= .pointer none∨bp=at_ b 5) (w:jW H0 H b (bp::bv::q) 255 B W L)
  (h: ∀H',jW H0 H' b (at_ b 5::bv::q) 255 B W L→R (.tuple #[]) H'):ab 128 #[at_ b 5] H R:=by
 obtain⟨rv,ring,hr,hs,o⟩:=id w;obtain⟨rest,acc,n,h1,-⟩:=o.dS (T:=Yj b (rv::i64 W.length::bp::bv::q) 255 B);intro wd hw;subst hw;have hc:=Lib.cell_of_heap h1 5;rcases sC with rfl|rfl
 ·have c_:=w.ps (K:=fun _ H' =>R (.tuple #[]) H') (g:=5) (x:=at_ b 5) (by decide) (by simp) rfl (fun H' w' =>h H' w')
  have:=vn c_;refine(Tryz.yN b wd hc ?_ (Lib.frozen_of_heap h1 5)).mono fun e w' ⟨he,nP⟩=> ⟨_,he,?_,?_⟩
  ·simp [World.shape?,h1,hq]
  ·subst nP;exact⟨rfl,rfl,rfl,fun _=>by first|exact aiZ _|exact ajx _⟩
  ·subst nP;exact this
 ·exact(Tryz.rm b 5 wd hc).mono fun e w' ⟨he,nP⟩=> ⟨_,he,by subst nP;exact cq.refl _,by subst nP;exact h _ w⟩
theorem EV (o:au H0 H L) (h:It.aE (oR v out)∈L):aS v=true:=by
 rcases o.aE h with ⟨rfl,_⟩ | ⟨_,_,_,_,_,rfl,_⟩<;>rfl
theorem Hs {x:Value} {new:List UInt8} {bv:Value} (hq:q.length=7) (hn:out.length+new.length≤140737488355328) (w:jW H0 H b (at_ b 5::bv::q) 255 B W (.aE (oR bv out)::L))
  (hlen:jc x=some new.length) (jd:cellsOf H 1 x=some (new.map bu)) (h: ∀H',Dc H0 H' b q B W (out++new) L→R undef H'):
  aG (at_ b 5) fun x10=>aa 1 x10 fun x11=>ao H x11 fun x12=>a7 H 5 1 1 [(.int .u8 0)] x12 x fun x14 H_2=>aG (at_ b 5) fun x15=>aa 1 x15 fun x16=>aI H_2 x16 x14 R:=by
 rw [aD,ae,ax];refine w.pl (g:=5+1) (x:=bv) (by decide) rfl ?_;obtain⟨rv,ring,hr,hs,o⟩:=w.QB;refine EU o (by repeat(first|exact dD.here|apply dD.there)) hlen jd hn fun v' H2 o=>?_;have h1:=EV o (by repeat(first|exact aiX|apply aiW));have w:=jW.QD hr hs o;rw [aD,ae,ax];refine w.ps (g:=5+1) (by decide) (by simp) h1 fun H3 w=>?_;exact h H3 ⟨_,v',.inr rfl,h1,w⟩
theorem Ht {s:List UInt8} (hq:q.length=7) (hs:out.length+s.length≤140737488355328) (d:Dc H0 H b q B W out L) (h: ∀H',Dc H0 H' b q B W (out++s) L→R (.tuple #[i64 s.length,.nilIface]) H'):ab 75 #[at_ b 5,str s] H R:=by
 obtain⟨bp,bv,sC,yO,w⟩:=d;refine iB.vc _ _ _ _ ?_;refine rn hq sC w fun H1 w=>?_;refine Hs (x:=str s) (new:=s) hq hs w (by simp [jc,bB]) (by simp [cellsOf,bB]) fun H2 d=>?_;refine aC ?_;exact h H2 d
theorem QF {x:UInt8} (hq:q.length=7) (hs:out.length+1≤140737488355328) (d:Dc H0 H b q B W out L) (h: ∀H',Dc H0 H' b q B W (out++ [x]) L→R .nilIface H'):ab 258 #[at_ b 5,bu x] H R:=by
 obtain⟨bp,bv,sC,yO,w⟩:=d;refine mY.vc _ _ _ _ ?_;refine rn hq sC w fun H1 w=>?_;rw [aD,ae,ax];refine w.pl (g:=5+1) (x:=bv) (by decide) rfl ?_;obtain⟨rv,ring,hr,lL,o⟩:=w.QB;refine o.cy (sz:=1) (by decide) rfl rfl fun y H2 o=>?_;have hS:=o.cf (v:=y);refine EU (new:= [x]) o (by repeat(first|exact dD.here|apply dD.there)) (hS.jc (n:=1) rfl (by decide)) hS.cellsOf hs fun v' H2 o=>?_;have h1:=EV o (by repeat(first|exact aiX|apply aiW));have w:=jW.QD hr lL o.nw;rw [aD,ae,ax];refine w.ps (g:=5+1) (by decide) (by simp) h1 fun H3 w=>?_;exact h H3 ⟨_,v',.inr rfl,h1,w⟩
theorem Tq (hq:q.length=7) (d:Idle H0 H b q B W L) (h: ∀H',Dc H0 H' b q B W [] L→R (.tuple #[]) H'):ab 174 #[at_ b 5] H R:=by
 obtain⟨bp,bv,sC,yO,w⟩:=d;refine qn.vc _ _ _ ?_;rw [aD,ae,ax];refine w.ps (g:=5+0) (by decide) (by simp) rfl fun H1 w=>?_;rw [aD,ae,ax];refine w.ps (g:=5+1) (by decide) (by simp) rfl fun H2 w=>?_;refine h H2 ⟨.pointer none,.slice none 0 0,.inl rfl,rfl,?_⟩;obtain⟨rv,ring,hr,hs,o⟩:=w;refine jW.QD (rv:=rv) hr hs ?_;exact o.add (Ext.refl _) (i:= .aE (oR (.slice none 0 0) [])) (.inl ⟨rfl,rfl⟩) (by intro k hk;simp [It.dF,oR,aY] at hk)
def x_:eX where
 dF _:=False
 holds _:=True
 frame:=fun _ _=>trivial
 lt:=fun _ h=>h.elim
theorem Hu (hq:q.length=7) (hs:out.length≤140737488355328) (d:Dc H0 H b q B W out L) (h: ∀H',Idle H0 H' b q B W L→R (str out) H'):ab 76 #[at_ b 5] H R:=by
 obtain⟨bp,bv,sC,yO,w⟩:=d;have YN:aS bp=true:=by rcases sC with rfl|rfl<;>rfl
 obtain⟨rv,ring,hr,lL,o⟩:=w.QB;obtain⟨rest,acc,n,h1,-⟩:=o.dS (T:=Yj b (rv::i64 W.length::bp::bv::q) 255 B);intro wd hw;subst hw;have hc:wd.cell? ⟨b,6,none⟩=some bv:=Lib.cell_of_heap h1 6;rcases o.dS (T:=oR bv out) with ⟨rfl,rfl⟩ | ⟨h0,g,cap,sp,fr,rfl,hg,hf,Ae⟩
 ·refine(Tryz.Kr b wd hc).mono fun e w' ⟨he,nP⟩=> ⟨_,he,by subst nP;exact⟨rfl,rfl,rfl,fun _=>by first|exact aiZ _|exact ajx _⟩,?_⟩
  subst nP;exact h _ ⟨bp,_,YN,rfl,rv,ring,hr,lL,o.pick (aki _ _)⟩
 ·have SV:out.length≠0:=by simpa using h0
  have Pp: (wd.drew.freeze ⟨g,0,none⟩ out.length).heap=wd.heap.modify g fun
    | .cells c elem (lo,hi)=> .cells c elem (if lo==hi then (0,0+out.length) else (min lo 0,max hi (0+out.length)))
    |o=>o:=by
   unfold World.freeze;rw [if_neg SV]
   rfl
  refine(Tryz.Hr b g cap _ fr out wd hc hg h0 (by omega) (by omega) (by simp) ?_).mono fun e w' ⟨he,nP⟩=> ⟨_,he,?_,?_⟩
  ·intro j x hx
   have hj:= (ajD.1 hx).1;rw [ajC,ajL (by simpa using hj),aji,hx];rfl
  ·subst nP
   unfold World.freeze;rw [if_neg SV];exact⟨rfl,rfl,rfl,fun _=>by first|exact aiZ _|exact ajx _⟩
  ·subst nP
   have o2:au H0 (wd.drew.freeze ⟨g,0,none⟩ out.length).heap (.aE x_::mO b (rv::i64 W.length::bp:: .slice (some ⟨g,0,none⟩) out.length cap::q) 255 B:: .sl rv 1 (ring.map bu)::L):=by
    rw [Pp];refine o.jC cx.here (by simp) (fun k hk cQ=>?_) trivial (fun k hk=>hk.elim);rw [ak4,if_neg];intro e;exact cQ (by simp [It.dF,oR,aY,e])
   exact h _ ⟨bp,_,YN,rfl,rv,ring,hr,lL,o2.pick (aki _ _)⟩
end
section
variable {H H0:ag} {R:Value→ag→Prop} {v cS:Value} {B:List Bool} {L M:List It} {b:Nat} {q:List Value} {W out:List UInt8}
theorem Ts {a b:Nat} (ha:a<4611686018427387904) (hb:b<4611686018427387904):bitsOf .xor .i64 (a:Int) (b:Int)= ((a ^^^ b:Nat):Int):=by
 have cL:a ^^^ b<2 ^ 62:=akE (by simpa using ha) (by simpa using hb);have e: ((BitVec.ofInt 64 (a:Int)) ^^^ (BitVec.ofInt 64 (b:Int))).toNat=a ^^^ b:=by
  rw [alM,ajT,ajT,ajH,ajH,ajg (by omega),ajg (by omega)]
 show IntKind.i64.wrap ((((BitVec.ofInt 64 (a:Int)) ^^^ (BitVec.ofInt 64 (b:Int))).toNat:Nat):Int)=_;rw [e,aJ]
def EW (cS:Value) (q:List Value):Prop:= ∃ (n:Nat) (last left sy di:Value),q= [i64 n,last,left,sy,di,cS,.int .i64 0]∧n<3∧aS last=true∧aS left=true∧aS sy=true∧aS di=true
def qA (L:List It) (cS:Value) (s:St) (q:List Value):Prop:= ∃ (st last left sy di:Value),q= [st,last,left,sy,di,cS,.int .i64 0]∧aS last=true∧aS left=true∧aS sy=true∧aS di=true∧match s with
 | .hd=>st=i64 0
 | .cp n l=>st=i64 1∧last= .bool l∧left=i64 n
 | .tl zs zd l=>st=i64 2∧last= .bool l∧fX L zs sy∧fX L zd di
 | .dn=>st=i64 3
theorem qA.len {s:St} (h:qA L cS s q):q.length=7:=by obtain⟨_,_,_,_,_,rfl,_⟩:=h;rfl
theorem EW.len (h:EW cS q):q.length=7:=by obtain⟨_,_,_,_,_,rfl,_⟩:=h;rfl
theorem qA.mono {L' :List It} {s:St} (h:qA L cS s q) (hm: ∀i∈L,i∈L'):qA L' cS s q:=by
 obtain⟨st,last,left,sy,di,h1,h2,h3,h4,h5,h6⟩:=h;refine⟨st,last,left,sy,di,h1,h2,h3,h4,h5,?_⟩
 cases s with
 |tl zs zd l=>exact⟨h6.1,h6.2.1,h6.2.2.1.mono hm,h6.2.2.2.mono hm⟩
 |_=>exact h6
theorem fX.one {zs:List Int} {p:Value} (h:fX L zs p):aS p=true:=by obtain⟨_,_,_,_,_,rfl,_⟩:=h;rfl
theorem Dc.pl {K:Value→Prop} {g:Nat} {x:Value} (d:Dc H0 H b q B W out L) (h7:7≤g) (hx:q[g - 7]? =some x) (hk:K x):ao H (at_ b g) K:=by
 obtain⟨bp,bv,sC,yO,w⟩:=d;refine w.pl (x:=x) (by omega) ?_ hk;obtain⟨j,rfl⟩: ∃j,g=j+7:= ⟨g - 7,by omega⟩;simp only [akZ] at hx;rw [show j+7 - 5=j+1+1 by omega];exact hx
theorem Dc.ps {K:Value→ag→Prop} {g:Nat} {x:Value} (d:Dc H0 H b q B W out L) (h7:7≤g) (hg:g - 7<q.length) (hx:aS x=true) (hk: ∀H',Dc H0 H' b (q.set (g - 7) x) B W out L→K undef H'):aI H (at_ b g) x K:=by
 obtain⟨bp,bv,sC,yO,w⟩:=d;refine w.ps (by omega) (by simp;omega) hx fun H' w=>hk H' ⟨bp,bv,sC,yO,?_⟩;obtain⟨j,rfl⟩: ∃j,g=j+7:= ⟨g - 7,by omega⟩;rw [show j+7 - 5=j+1+1 by omega] at w;exact w
theorem Dc.rd (d:Dc H0 H b q B W out L): ∃ (post:List Value) (rv bv:Value) (ring:List UInt8),au H0 H (mO b post 255 B:: .sl rv 1 (ring.map bu):: .aE (oR bv out)::L)∧∀H' C M,au H0 H' (mO b post 255 C:: .sl rv 1 (ring.map bu):: .aE (oR bv out)::M)→Dc H0 H' b q C W out M:=by
 obtain⟨bp,bv,sC,yO,rv,ring,hr,hs,o⟩:=d;exact⟨_,rv,bv,ring,o,fun H' C M o=> ⟨bp,bv,sC,yO,rv,ring,hr,hs,o⟩⟩
theorem LR {M:List It} {i j k:It} (o:au H0 H (i:: (M++j::k::L))):au H0 H (i::j::k:: (M++L)):=by
 refine o.perm (List.Perm.cons _ ?_);refine List.Perm.symm (alD.trans (List.Perm.cons _ alD))
theorem Hv (d:Dc H0 H b q B W out L)
  (kp: ∀x C H',dQ 32 (dJ B)= .ok x C→(x%65536) ^^^ (x/65536)=65535→Dc H0 H' b q C W out L→R (.tuple #[i64 (x%65536),.int .i64 0]) H')
  (SY: ∀x C H',dQ 32 (dJ B)= .ok x C→(x%65536) ^^^ (x/65536)≠65535→Dc H0 H' b q C W out L→R (.tuple #[i64 (x%65536),.int .i64 8]) H')
  (l5: ∀H',dQ 32 (dJ B)= .er 2→Dc H0 H' b q (dJ B) W out L→R (.tuple #[i64 0,.int .i64 2]) H'):ab 250 #[at_ b 0] H R:=by
 obtain⟨post,rv,bv,ring,o,back⟩:=d.rd;refine qX.vc _ _ _ ?_;refine xJ (re o (by repeat(first|exact aiX|apply aiW))) fun H1 w c=>?_;have o:=o.rd w c cx.here
 change au H0 H1 (mO b post 255 (dJ B)::_) at o
 refine mi (n:=32) (by decide) o (fun x C H2 hx af7 o=>?_) (fun hx=>?_)
 ·refine ai rfl ?_
  refine ai rfl ?_;have a1:=ze (v:=x) (k:=16) (m:=65535) (by decide) rfl;rw [show (2:Nat) ^ 16=65536 from rfl] at a1;have e1:bitsOf .xor .i64 ((x%65536:Nat):Int) ((x/65536:Nat):Int)= (((x%65536) ^^^ (x/65536):Nat):Int):=Ts (by omega) (by omega);refine⟨fun e H' =>H2=H' ∧e=if (x%65536) ^^^ (x/65536)≠65535 then .int .i64 8 else .int .i64 0,?_,?_⟩
  ·rintro _ _ _ ⟨rfl,rfl⟩
   rw [cu,a1]
   by_cases hb: (x%65536) ^^^ (x/65536)≠65535
   ·rw [if_pos hb];exact SY x C H2 hx hb (back _ _ _ o)
   ·rw [if_neg hb];exact kp x C H2 hx (al9.1 hb) (back _ _ _ o)
  ·rw [aZ,decide_eq_true rfl]
   refine bs ?_;rw [cu,a1,lI];refine⟨by decide,?_⟩;rw [ka (m:=min (Int.toNat 16) IntKind.i64.bits) (j:=16) rfl,show (2:Nat) ^ 16=65536 from rfl,cu,e1,fx];intro _
   by_cases hb: (x%65536) ^^^ (x/65536)≠65535
   ·rw [nR,aL,if_pos hb];exact⟨rfl,rfl⟩
   ·rw [ei,ak,if_neg hb];exact⟨rfl,rfl⟩
 ·refine ai rfl ?_
  refine ai rfl ?_;refine⟨fun e H' =>H1=H' ∧e= .int .i64 2,?_,?_⟩
  ·rintro _ _ _ ⟨rfl,rfl⟩
   rw [cu];exact l5 H1 hx (back _ _ _ o)
  ·rw [aZ,qO,dO]
   intro _;rw [ak];exact⟨rfl,rfl⟩
theorem Ks (hG:Reads H0 ⟨4,0,none⟩ fY) (hq:EW cS q) (d:Dc H0 H b q B W out L)
  (kp: ∀st C H' M q',fM B= .ok st C→Dc H0 H' b q' C W out (M++L)→qA (M++L) cS st q' →R (.int .i64 0) H')
  (l5: ∀e H' C q',fM B= .er e→e≠0→Dc H0 H' b q' C W out L→EW cS q' →R (.int .i64 e) H'):ab 220 #[at_ b 0] H R:=by
 obtain⟨n,last,left,sy,di,rfl,VD,VH,hle,yI,CV⟩:=hq;generalize hT:fM B=T at*;unfold fM at hT;refine qW.vc _ _ _ ?_;rw [aD,ae,ax];obtain⟨post,rv,bv,ring,o,back⟩:=d.rd;refine mi (n:=3) (by decide) o (fun x C1 H1 hx nx o=>?_) (fun hx=>?_)
 rotate_left
 ·rw [hx] at hT
  refine ai rfl ?_;refine ai rfl ?_;refine lx (by decide) ?_;rw [aL];exact l5 2 H B _ hT.symm (by decide) d ⟨n,last,left,sy,di,rfl,VD,VH,hle,yI,CV⟩
 rw [hx] at hT
 dsimp only [Rs.bind] at hT
 have d:=back _ _ _ o;refine ai rfl ?_;refine ai rfl ?_;refine ep ?_;rw [ak];have B9:x<8:=nx;have a1:=ze (v:=x) (k:=1) (m:=1) (by decide) rfl;rw [show (2:Nat) ^ 1=2 from rfl] at a1;refine⟨fun e H' => ∃q' C M,Dc H0 H' b q' C W out (M++L)∧((e= .int .i64 0∧∀ya,∃st,ya= .bool (decide (x%2=1))→T= .ok st C∧qA (M++L) cS st (q'.set 1 ya))∨(∃ev,e= .int .i64 ev∧T= .er ev∧ev≠0∧EW cS q' ∧M= [])),?_,?_⟩
 ·rintro _ _ H2 ⟨q',C,M,d,hd⟩
  rw [cu,a1,aZ,aD,ae,ax];have hl7:7=q'.length:=by
   rcases hd with ⟨_,h⟩ | ⟨ev,_,_,_,h,_⟩
   ·obtain⟨st,h⟩:=h (.bool (decide (x%2=1)))
    have:= (h rfl).2.len;rw [aj1] at this;exact this.symm
   ·exact h.len.symm
  refine d.ps (g:=0+8) (by decide) (by omega) rfl fun H3 d=>?_;have eb: (decide (((x%2:Nat):Int)=1))=decide (x%2=1):=by rw [ajV,decide_eq_true_eq,decide_eq_true_eq];omega
  rw [eb] at d;rcases hd with ⟨rfl,h⟩ | ⟨ev,rfl,h1,h2,h3,rfl⟩
  ·obtain⟨st,h⟩:=h (.bool (decide (x%2=1)))
   obtain⟨h1,h2⟩:=h rfl;exact kp st C H3 M _ h1 d h2
  ·refine l5 ev H3 C _ h1 h2 d ?_
   obtain⟨n,last,left,sy,di,rfl,g1,g2,g3,g4,g5⟩:=h3;exact⟨n,_,left,sy,di,rfl,g1,rfl,g3,g4,g5⟩
 rw [lI];refine⟨by decide,?_⟩;rw [ka (m:=min (Int.toNat 1) IntKind.i64.bits) (j:=1) rfl,show (2:Nat) ^ 1=2 from rfl,aZ];refine av (fun h0=>?_) (fun h0=>?_)
 ·rw [if_pos (by omega)] at hT
  rw [aD,ae,ax];have fin: ∀ (nv:Nat) (ev:Int) (C:List Bool) (H2:ag),Dc H0 H2 b [i64 n,last,left,sy,di,cS,.int .i64 0] C W out L→((ev=0∧T= .ok (.cp nv (decide (x%2=1))) C)∨(T= .er ev∧ev≠0))→
    aG (at_ b 0) fun Ui=>aa 9 Ui fun x28=>aI H2 x28 (i64 nv) fun _ H_6=>aG (at_ b 0) fun x30=>aa 7 x30 fun x31=>aI H_6 x31 (.int .i64 1) fun _ H_7=>
    (∃q' C M,Dc H0 H_7 b q' C W out (M++L)∧(((.int .i64 ev:Value)= .int .i64 0∧∀ya,∃st,ya= .bool (decide (x%2=1))→T= .ok st C∧qA (M++L) cS st (q'.set 1 ya))∨(∃ev',(.int .i64 ev:Value)= .int .i64 ev' ∧T= .er ev' ∧ev' ≠0∧EW cS q' ∧M= []))):=by
   intro nv ev C H2 d hh;rw [aD,ae,ax];refine d.ps (g:=0+9) (by decide) (by simp) rfl fun H3 d=>?_;rw [aD,ae,ax];refine d.ps (g:=0+7) (by decide) (by simp) rfl fun H4 d=>?_;refine⟨_,C,[],d,?_⟩;rcases hh with ⟨rfl,h⟩ | ⟨h1,h2⟩
   ·exact .inl ⟨rfl,fun ya=> ⟨.cp nv (decide (x%2=1)),fun e=>by subst e;exact⟨h,_,_,_,_,_,rfl,rfl,rfl,yI,CV,rfl,rfl,rfl⟩⟩⟩
   ·exact .inr ⟨ev,rfl,h1,h2,⟨1,last,i64 nv,sy,di,rfl,by decide,VH,rfl,yI,CV⟩,rfl⟩
  refine Hv d (fun y C H2 hy QG d=>?_) (fun y C H2 hy QG d=>?_) (fun H2 hy d=>?_)
  ·refine ai rfl ?_
   refine ai rfl ?_;rw [hy] at hT
   dsimp only [Rs.bind] at hT
   rw [if_neg (fun g=>g QG)] at hT;exact fin (y%65536) 0 C H2 d (.inl ⟨rfl,hT.symm⟩)
  ·refine ai rfl ?_
   refine ai rfl ?_;rw [hy] at hT
   dsimp only [Rs.bind] at hT
   rw [if_pos QG] at hT;exact fin (y%65536) 8 C H2 d (.inr ⟨hT.symm,by decide⟩)
  ·refine ai rfl ?_
   refine ai rfl ?_;rw [hy] at hT;exact fin 0 2 _ H2 d (.inr ⟨hT.symm,by decide⟩)
 rw [if_neg (by omega)] at hT;rw [aZ];refine av (fun h1=>?_) (fun h1=>?_)
 ·rw [if_pos (by omega)] at hT
  refine J0 o fun H2 M p r hp hr o=>?_;have d:=back H2 C1 (M++L) (LR o.mid|>fun o=>o.perm (by
   refine List.Perm.cons _ (List.Perm.cons _ ?_);exact alL _))
  refine ai rfl ?_;refine ai rfl ?_;rw [aD,ae,ax];refine d.ps (g:=0+10) (by decide) (by simp) hp.one fun H3 d=>?_;rw [aD,ae,ax];refine d.ps (g:=0+11) (by decide) (by simp) hr.one fun H4 d=>?_;rw [aD,ae,ax];refine d.ps (g:=0+7) (by decide) (by simp) rfl fun H5 d=>?_;exact⟨_,C1,M,d,.inl ⟨rfl,fun ya=> ⟨.tl gm nc (decide (x%2=1)),fun e=>by subst e;exact⟨hT.symm,_,_,_,_,_,rfl,rfl,hle,hp.one,hr.one,rfl,rfl,hp.nH,hr.nH⟩⟩⟩⟩
 rw [if_neg (by omega)] at hT;rw [aZ];refine av (fun h2=>?_) (fun h2=>?_)
 ·rw [if_pos (by omega)] at hT
  rw [aD,ae,ax];refine ET hG o (fun p C H2 M y z hd hy hz o=>?_) (fun e C H2 y z hd he hy hz o=>?_)
  ·rw [hd] at hT
   dsimp only [Rs.bind] at hT
   have d:=back H2 C (M++L) (LR o);refine ai rfl ?_;refine ai rfl ?_;refine ai rfl ?_;rw [aD,ae,ax];refine d.ps (g:=0+10) (by decide) (by simp) hy.one fun H3 d=>?_;rw [aD,ae,ax];refine d.ps (g:=0+11) (by decide) (by simp) hz.one fun H4 d=>?_;rw [aD,ae,ax];refine d.ps (g:=0+7) (by decide) (by simp) rfl fun H5 d=>?_;exact⟨_,C,M,d,.inl ⟨rfl,fun ya=> ⟨.tl p.1 p.2 (decide (x%2=1)),fun e=>by subst e;exact⟨hT.symm,_,_,_,_,_,rfl,rfl,hle,hy.one,hz.one,rfl,rfl,hy.nH,hz.nH⟩⟩⟩⟩
  ·rw [hd] at hT
   dsimp only [Rs.bind] at hT
   have d:=back H2 C L o;refine ai rfl ?_;refine ai rfl ?_;refine ai rfl ?_;rw [aD,ae,ax];refine d.ps (g:=0+10) (by decide) (by simp) hy fun H3 d=>?_;rw [aD,ae,ax];refine d.ps (g:=0+11) (by decide) (by simp) hz fun H4 d=>?_;rw [aD,ae,ax];refine d.ps (g:=0+7) (by decide) (by simp) rfl fun H5 d=>?_;exact⟨_,C,[],d,.inr ⟨e,rfl,hT.symm,he,⟨2,last,left,y,z,rfl,by decide,VH,hle,hy,hz⟩,rfl⟩⟩
 ·rw [if_neg (by omega)] at hT
  exact l5 3 H1 C1 _ hT.symm (by decide) d ⟨n,last,left,sy,di,rfl,VD,VH,hle,yI,CV⟩
end
section
variable {H H0:ag} {R:Value→ag→Prop} {v cS:Value} {B:List Bool} {L M:List It} {b:Nat} {q:List Value} {W out:List UInt8}
theorem Bc {st left sy di:Value} {l:Bool} (h1:aS left=true) (h2:aS sy=true) (h3:aS di=true) (d:Dc H0 H b [st,.bool l,left,sy,di,cS,.int .i64 0] B W out L)
  (h: ∀H' q',Dc H0 H' b q' (ib l B W).B (ib l B W).W out L→qA L cS (ib l B W).st q' →R (.tuple #[]) H'):ab 254 #[at_ b 0] H R:=by
 refine qo.vc _ _ _ ?_;rw [aD,ae,ax];refine d.ps (g:=0+7) (by decide) (by simp) rfl fun H1 d=>?_;rw [aD,ae,ax];refine d.pl (g:=0+8) (x:= .bool l) (by decide) rfl ?_
 cases l with
 |true=>
  rw [aL,aD,ae,ax];refine d.ps (g:=0+7) (by decide) (by simp) rfl fun H2 d=>?_;rw [aD,ae,ax];obtain⟨post,rv,bv,ring,o,back⟩:=d.rd;refine xJ (re o (by repeat(first|exact aiX|apply aiW))) fun H3 w c=>?_;have o:=o.rd w c cx.here;exact h H3 _ (back H3 (dJ B) L o) ⟨_,_,_,_,_,rfl,rfl,h1,h2,h3,rfl⟩
 |false=>
  rw [ak];exact h H1 _ d ⟨_,_,_,_,_,rfl,rfl,h1,h2,h3,rfl⟩
theorem wU {l:List Bool} {k:Nat} (h:l.length=8*k): (bm l).length=k:=lp k l (by omega)
theorem Hw {left:Nat} {last:Bool} (hq:qA L cS (.cp left last) q) (hl:left≤65535) (qm:W.length+258*B.length≤1000000000000) (ho:out.length≤W.length) (d:Dc H0 H b q B W out L)
  (sN: ∀D' o H' q',bV ⟨.cp left last,B,W⟩= .go D' o→Dc H0 H' b q' D'.B D'.W (out++o) L→qA L cS D'.st q' →R (.int .i64 0) H')
  (Z1: ∀D' o H' q',bV ⟨.cp left last,B,W⟩= .wait D' o→Dc H0 H' b q' D'.B D'.W (out++o) L→qA L cS D'.st q' →R (.int .i64 2) H'):ab 221 #[at_ b 0] H R:=by
 obtain⟨_,_,_,sy,di,rfl,-,-,h4,h5,rfl,rfl,rfl⟩:=hq;have hq7: ([i64 1,.bool last,i64 left,sy,di,cS,.int .i64 0]:List Value).length=7:=rfl;have rS:=pQ B;refine pF.vc _ _ _ ?_;rw [aD,ae,ax,aD,ae,ax];refine d.pl (g:=0+9) (x:=i64 left) (by decide) rfl ?_;obtain⟨post,rv,bv,ring,o,back⟩:=d.rd;refine AJ (n:= (left:Int)) (by omega) (re o (by repeat(first|exact aiX|apply aiW))) fun H1 k hk w c=>?_
 change k=min (left:Int).toNat ((B.length - B.length%8) /8) at hk
 rw [←rS.2,aiY] at hk
 change Rd H1 b 0 ((dJ B).drop (8*k)) at w
 change aG (at_ b 0) _
 rw [show List.drop (B.length%8) B=dJ B from rfl];have d:=back H1 _ L (o.rd w c cx.here);have eF:8*k≤(dJ B).length:=by omega
 have EX: (bm ((dJ B).take (8*k))).length=k:=wU (by rw [ai2];omega);rw [aD,ae,ax];refine d.pl (g:=0+9) (x:=i64 left) (by decide) rfl ?_;refine aC ?_;rw [EX,bq,show (left:Int) - (k:Int)= ((left - k:Nat):Int) by omega,aJ,aD,ae,ax];refine d.ps (g:=0+9) (by decide) (by simp) rfl fun H2 d=>?_;rw [aD,ae,ax];obtain⟨bp,bv,sC,yO,w⟩:=d;refine YM w (by rw [EX];omega) fun H3 w=>?_;have d:Dc H0 H3 b _ _ _ out L:= ⟨bp,bv,sC,yO,w⟩;rw [aD,ae,ax];refine Ht (by rfl) (by rw [EX];omega) d fun H4 d=>?_;rw [aD,ae,ax];refine d.pl (g:=0+9) (x:=i64 (left - k)) (by decide) rfl ?_;rw [bc];have e1:bV ⟨.cp left last,B,W⟩=if min left ((dJ B).length/8)<left then .wait ⟨.cp (left - min left ((dJ B).length/8)) last,(dJ B).drop (8*min left ((dJ B).length/8)),W++bm ((dJ B).take (8*min left ((dJ B).length/8)))⟩ (bm ((dJ B).take (8*min left ((dJ B).length/8))))
   else .go (ib last ((dJ B).drop (8*left)) (W++bm ((dJ B).take (8*left)))) (bm ((dJ B).take (8*left))):=rfl
 rw [←hk] at e1;refine av (fun hc=>?_) (fun hc=>?_)
 ·rw [if_pos (by omega)] at e1
  exact Z1 _ _ H4 _ e1 d ⟨_,_,_,_,_,rfl,rfl,rfl,h4,h5,rfl,rfl,rfl⟩
 ·have IL:k=left:=by omega
  rw [if_neg (by omega)] at e1;rw [IL] at d;refine Bc (left:=i64 (left - left)) (sy:=sy) (di:=di) rfl h4 h5 d fun H5 q' d hs=>?_;exact sN _ _ H5 _ e1 d hs
theorem Bd: ∀k:Fin 29,3≤(lenOf (257+ ((k.val:Nat):Int))).1∧0≤(lenOf (257+ ((k.val:Nat):Int))).2∧(lenOf (257+ ((k.val:Nat):Int))).2≤5∧(lenOf (257+ ((k.val:Nat):Int))).1.toNat+2 ^ (lenOf (257+ ((k.val:Nat):Int))).2.toNat≤259:=by decide+kernel
theorem Hy: ∀k:Fin 30,1≤(bn ((k.val:Nat):Int)).1∧0≤(bn ((k.val:Nat):Int)).2∧(bn ((k.val:Nat):Int)).2≤13∧(bn ((k.val:Nat):Int)).1.toNat+2 ^ (bn ((k.val:Nat):Int)).2.toNat≤32769:=by decide+kernel
theorem Be {least n:Nat} (hn:n≤32) (hl:least≤100000) (d:Dc H0 H b q B W out L)
  (kp: ∀x C H',dQ n B= .ok x C→x<2 ^ n→Dc H0 H' b q C W out L→R (.tuple #[i64 (least+x),.int .i64 0]) H')
  (l5:dQ n B= .er 2→R (.tuple #[i64 least,.int .i64 2]) H):ab 280 #[at_ b 0,i64 least,i64 n,.bool true] H R:=by
 refine kx.vc _ _ _ _ _ _ ?_;rw [dq,aj0,ak,aD,ae,ax];obtain⟨post,rv,bv,ring,o,back⟩:=d.rd;refine mi hn o (fun x C H1 hx Z2 o=>?_) (fun hx=>?_)
 ·refine ai rfl ?_
  refine ai rfl ?_;have:2 ^ n≤2 ^ 32:=ajk (by decide) hn;rw [ay,show (least:Int)+ (x:Int)= ((least+x:Nat):Int) by omega,aJ];exact kp x C H1 hx Z2 (back _ _ _ o)
 ·refine ai rfl ?_
  refine ai rfl ?_;rw [ay,Int.add_zero,aJ];exact l5 hx
theorem Hz {x y:Int} (h:R (.tuple #[.int .i64 0,.int .i64 4]) H):ab 280 #[at_ b 0,.int .i64 x,.int .i64 y,.bool false] H R:=by
 refine kx.vc _ _ _ _ _ _ ?_;rw [dq,aku,aL];exact h
theorem HA {zd:List Int} {s:Nat} {st last left sy di e:Value} (hs:257≤s) (qm:W.length+258*B.length≤1000000000000) (hB:0<B.length∨W.length+258≤1000000000000) (ho:out.length≤W.length) (hc:fX L zd di) (d:Dc H0 H b [st,last,left,sy,di,cS,e] B W out L)
  (kp: ∀p C H',fD zd s B= .ok p C→1≤p.2∧p.2≤min W.length 32768→Dc H0 H' b [st,last,left,sy,di,cS,e] C (cU p.1 W p.2) (out++ (cU p.1 W p.2).drop W.length) L→R (.int .i64 0) H')
  (abI: ∀p C H',fD zd s B= .ok p C→¬ (1≤p.2∧p.2≤min W.length 32768)→Dc H0 H' b [st,last,left,sy,di,cS,e] C W out L→R (.int .i64 6) H')
  (l5: ∀ev C H',fD zd s B= .er ev→ev≠0→Dc H0 H' b [st,last,left,sy,di,cS,e] C W out L→R (.int .i64 ev) H'):ab 256 #[at_ b 0,i64 s] H R:=by
 generalize hT:fD zd s B=T at*;unfold fD at hT;rcases ajM 285 s with Tt|Tt
 ·rw [if_pos Tt] at hT
  refine ku.vc _ _ _ _ ?_;refine nK ?_;rw [if_pos (.inr (by omega))];refine ai rfl ?_;refine ai rfl ?_;refine ai rfl ?_;refine Hz ?_;refine ai rfl ?_;refine ai rfl ?_;refine lx (by decide) ?_;rw [aL];exact l5 4 B H hT.symm (by decide) d
 rw [if_neg (by omega)] at hT;refine ku.vc _ _ _ _ ?_;refine nK ?_;rw [if_neg (by omega)];refine ai rfl ?_;refine ai rfl ?_;refine ai rfl ?_;obtain⟨f1,f2,f3,f4⟩:=Bd ⟨s - 257,by omega⟩;have es: (257:Int)+ ((s - 257:Nat):Int)= (s:Int):=by omega
 dsimp only at f1 f2 f3 f4
 rw [es] at f1 f2 f3 f4;have p5:0<2 ^ (lenOf (s:Int)).2.toNat:=Nat.pow_pos (by decide);obtain⟨l1,QH⟩: ∃l1:Nat,(lenOf (s:Int)).1=l1:= ⟨_,(ajX (by omega)).symm⟩;obtain⟨n1,Ct⟩: ∃n1:Nat,(lenOf (s:Int)).2=n1:= ⟨_,(ajX (by omega)).symm⟩;rw [QH] at f1 f4;rw [Ct] at f2 f3 f4 p5;rw [QH,Ct] at hT ⊢;rw [aiY,aiY] at f4 hT;rw [aiY] at p5;refine Be (least:=l1) (n:=n1) (by omega) (by omega) d (fun x C1 H1 hx ea d=>?_) (fun hx=>?_)
 rotate_left
 ·rw [hx] at hT
  refine ai rfl ?_;refine ai rfl ?_;refine lx (by decide) ?_;rw [aL];exact l5 2 B H hT.symm (by decide) d
 rw [hx] at hT
 dsimp only [Rs.bind] at hT
 refine ai rfl ?_;refine ai rfl ?_;refine ep ?_;rw [ak,aD,ae,ax];refine d.pl (g:=0+11) (x:=di) (by decide) rfl ?_;rw [aD,ae,ax];obtain⟨post,rv,bv,ring,o,back⟩:=d.rd;refine tL hc.cons.cons o (fun k C2 H2 hk eF o=>?_) (fun ev H2 hk he o=>?_)
 rotate_left
 ·rw [hk] at hT
  dsimp only [Rs.bind] at hT
  refine ai rfl ?_;refine ai rfl ?_;refine lx he ?_;rw [aL];exact l5 ev C1 H2 hT.symm he (back _ _ _ o)
 rw [hk] at hT
 dsimp only [Rs.bind] at hT
 have d:=back H2 C2 L o;refine ai rfl ?_;refine ai rfl ?_;refine ep ?_;rw [ak];refine xK ?_;rcases ajM 29 k with h29|h29
 ·rw [if_pos h29] at hT
  rw [if_pos (.inr (by omega))];refine ai rfl ?_;refine ai rfl ?_;refine ai rfl ?_;refine Hz ?_;refine ai rfl ?_;refine ai rfl ?_;refine lx (by decide) ?_;rw [aL];exact l5 4 C2 H2 hT.symm (by decide) d
 rw [if_neg (by omega)] at hT;rw [if_neg (by omega)];refine ai rfl ?_;refine ai rfl ?_;refine ai rfl ?_;obtain⟨g1,g2,g3,g4⟩:=Hy ⟨k,by omega⟩
 dsimp only at g1 g2 g3 g4
 obtain⟨l2,Xb⟩: ∃l2:Nat,(bn (k:Int)).1=l2:= ⟨_,(ajX (by omega)).symm⟩;obtain⟨n2,Mu⟩: ∃n2:Nat,(bn (k:Int)).2=n2:= ⟨_,(ajX (by omega)).symm⟩;have p6:0<2 ^ (bn (k:Int)).2.toNat:=Nat.pow_pos (by decide);rw [Xb] at g1 g4;rw [Mu] at g2 g3 g4 p6;rw [Xb,Mu] at hT ⊢;rw [aiY,aiY] at g4 hT;rw [aiY] at p6;refine Be (least:=l2) (n:=n2) (by omega) (by omega) d (fun y C3 H3 hy hy2 d=>?_) (fun hy=>?_)
 rotate_left
 ·rw [hy] at hT
  refine ai rfl ?_;refine ai rfl ?_;refine lx (by decide) ?_;rw [aL];exact l5 2 C2 H2 hT.symm (by decide) d
 rw [hy] at hT
 dsimp only [Rs.bind] at hT
 refine ai rfl ?_;refine ai rfl ?_;refine ep ?_;rw [ak,aD,ae,ax];obtain⟨bp,bv,sC,yO,w⟩:=d;have wF:l1+x≤258:=by omega
 by_cases hd:1≤l2+y∧l2+y≤min W.length 32768
 ·refine VR w wF hd.1 hd.2 (by rcases hB with h|h<;>omega) fun H4 w=>?_
  refine ai rfl ?_;refine ai rfl ?_;rw [dq,aj0,ak,aD,ae,ax];have dM:=mg (l1+x) W (l2+y);refine Ht (by rfl) (by rw [ai4,dM];rcases hB with h|h<;>omega) ⟨bp,bv,sC,yO,w⟩ fun H5 d=>?_;exact kp (l1+x,l2+y) C3 H5 hT.symm hd d
 ·refine NH w wF (by omega) ?_
  refine ai rfl ?_;refine ai rfl ?_;rw [dq,aku,aL];exact abI (l1+x,l2+y) C3 H3 hT.symm hd ⟨bp,bv,sC,yO,w⟩
theorem EY {zs zd:List Int} {l:Bool} (hq:qA L cS (.tl zs zd l) q) (qm:W.length+258*B.length≤1000000000000) (ho:out.length≤W.length) (d:Dc H0 H b q B W out L)
  (sN: ∀D' o H' q',bV ⟨.tl zs zd l,B,W⟩= .go D' o→Dc H0 H' b q' D'.B D'.W (out++o) L→qA L cS D'.st q' →R (.int .i64 0) H')
  (l5: ∀e C H',bV ⟨.tl zs zd l,B,W⟩=SR.of ⟨.tl zs zd l,B,W⟩ e→e≠0→Dc H0 H' b q C W out L→R (.int .i64 e) H'):ab 222 #[at_ b 0] H R:=by
 have W_:=hq;obtain⟨_,_,left,sy,di,rfl,-,h3,h4,h5,rfl,rfl,rN,gE⟩:=hq;have e1:bV ⟨.tl zs zd l,B,W⟩=match eM zs B with
  | .er e=>SR.of ⟨.tl zs zd l,B,W⟩ e
  | .ok s B2=>if s=256 then .go (ib l B2 W) [] else if s<256 then .go ⟨.tl zs zd l,B2,W++ [UInt8.ofNat s]⟩ [UInt8.ofNat s] else match fD zd s B2 with
   | .er e=>SR.of ⟨.tl zs zd l,B,W⟩ e
   | .ok p B2=>if 1≤p.2∧p.2≤min W.length 32768 then .go ⟨.tl zs zd l,B2,cU p.1 W p.2⟩ ((cU p.1 W p.2).drop W.length) else .bad 6:=rfl
 refine pG.vc _ _ _ ?_;rw [aD,ae,ax];refine d.pl (g:=0+10) (x:=sy) (by decide) rfl ?_;rw [aD,ae,ax];obtain⟨post,rv,bv,ring,o,back⟩:=d.rd;refine tL rN.cons.cons o (fun s C1 H1 hs iJ o=>?_) (fun ev H1 hs he o=>?_)
 rotate_left
 ·rw [hs] at e1
  refine ai rfl ?_;refine ai rfl ?_;refine lx he ?_;rw [aL];exact l5 ev B H1 e1 he (back _ _ _ o)
 have kG:=wL hs;rw [hs] at e1
 dsimp only at e1
 have d:=back H1 C1 L o;refine ai rfl ?_;refine ai rfl ?_;refine ep ?_;rw [ak,aZ];refine av (fun p8=>?_) (fun p8=>?_)
 ·rw [if_pos (by omega)] at e1
  refine Bc h3 h4 h5 d fun H2 q' d hs=>?_;exact sN _ _ H2 _ e1 (by rw [ajl];exact d) hs
 rw [if_neg (by omega)] at e1;rw [bc];refine av (fun PK=>?_) (fun PK=>?_)
 ·rw [if_neg (by omega)] at e1
  refine HA (by omega) (by omega) (.inr (by omega)) ho gE d (fun p C H2 hm hp d=>?_) (fun p C H2 hm hp d=>?_) (fun ev C H2 hm he d=>?_)
  ·rw [hm] at e1
   dsimp only at e1
   rw [if_pos hp] at e1;exact sN _ _ H2 _ e1 d W_
  ·rw [hm] at e1
   dsimp only at e1
   rw [if_neg hp] at e1;refine l5 6 C H2 (by rw [e1];rfl) (by decide) d
  ·rw [hm] at e1
   exact l5 ev C H2 e1 he d
 ·rw [if_pos (by omega)] at e1
  rw [aD,ae,ax];refine a8 ?_;have eb:Value.int .u8 (IntKind.u8.wrap (s:Int))=bu (UInt8.ofNat s):=by
   have:=uB (v:=s);rw [ajg (by omega)] at this;exact this
  rw [eb];obtain⟨bp,bv,sC,yO,w⟩:=d;refine QA w (by omega) fun H2 w=>?_;rw [aD,ae,ax];refine a8 ?_;rw [eb];refine QF (by rfl) (by omega) ⟨bp,bv,sC,yO,w⟩ fun H3 d=>?_;exact sN _ _ H3 _ e1 d W_
end
section
variable {H H0:ag} {R:Value→ag→Prop} {v cS:Value} {B:List Bool} {L M:List It} {b:Nat} {q:List Value} {W out:List UInt8}
theorem qA.any {s:St} (h:qA L cS s q) (hd:s.iG=false):EW cS q:=by
 obtain⟨st,last,left,sy,di,rfl,h2,h3,h4,h5,h6⟩:=h
 cases s with
 |hd=>subst h6;exact⟨0,_,_,_,_,rfl,by decide,h2,h3,h4,h5⟩
 |cp n l=>obtain⟨rfl,rfl,rfl⟩:=h6;exact⟨1,_,_,_,_,rfl,by decide,h2,h3,h4,h5⟩
 |tl zs zd l=>obtain⟨rfl,rfl,_⟩:=h6;exact⟨2,_,_,_,_,rfl,by decide,h2,h3,h4,h5⟩
 |dn=>cases hd
theorem EZ {a c:Nat} (h:i64 a=i64 c):a=c:=by
 simp only [Value.int.injEq,true_and] at h;omega
def ji:St→Prop
 | .cp n _=>n≤65535
 |_=>True
theorem Dc.items {v' :It} (d:Dc H0 H b q B W out (M++v' ::L)):Dc H0 H b q B W out (M++L):=by
 obtain⟨post,rv,bv,ring,o,back⟩:=d.rd;exact back H B _ (o.pick (List.Sublist.cons_cons _ (List.Sublist.cons_cons _ (List.Sublist.cons_cons _ (akI (ako M) (aki _ _))))))
theorem fX.wV {zs:List Int} {p:Value} {c:Nat} {cs:List Value} (h:fX (M++ .box c cs 250::L) zs p):fX (M++L) zs p:=by
 obtain⟨h1,cb,lv,wv,sv,h2,h3⟩:=h;refine⟨h1,cb,lv,wv,sv,h2,fun i hi=>?_⟩;rcases ajo.1 (h3 i hi) with g|g
 ·exact akq _ g
 ·rcases ajd.1 g with rfl|g
  ·simp only [pI,ajd,amv,or_false,It.box.injEq,reduceCtorEq,or_self] at hi
   exact absurd hi.2.2 (by decide)
  ·exact akJ _ g
theorem qA.wV {s:St} {c:Nat} {cs:List Value} (h:qA (M++ .box c cs 250::L) cS s q):qA (M++L) cS s q:=by
 obtain⟨st,last,left,sy,di,h1,h2,h3,h4,h5,h6⟩:=h;refine⟨st,last,left,sy,di,h1,h2,h3,h4,h5,?_⟩
 cases s with
 |tl zs zd l=>exact⟨h6.1,h6.2.1,h6.2.2.1.wV,h6.2.2.2.wV⟩
 |_=>exact h6
theorem Kt {D:DM} (hG:Reads H0 ⟨4,0,none⟩ fY) (hq:qA L cS D.st q) (hd:D.st.iG=false) (Xn:ji D.st) (qm:D.W.length+258*D.B.length≤1000000000000) (ho:out.length≤D.W.length) (d:Dc H0 H b q D.B D.W out L)
  (sN: ∀D' o H' M q',bV D= .go D' o→Dc H0 H' b q' D'.B D'.W (out++o) (M++L)→qA (M++L) cS D'.st q' →R (.int .i64 0) H')
  (Z1: ∀D' o H' q',bV D= .wait D' o→Dc H0 H' b q' D'.B D'.W (out++o) L→qA L cS D'.st q' →R (.int .i64 2) H')
  (Mj: ∀e H' C q',bV D= .bad e→e≠0→e≠2→Dc H0 H' b q' C D.W out L→EW cS q' →R (.int .i64 e) H'):ab 175 #[at_ b 0] H R:=by
 obtain⟨s,B,W⟩:=D
 dsimp only at hq hd Xn qm ho d Mj
 have abK:=hq.any hd;obtain⟨n0,last,left,sy,di,rfl,VD,VH,hle,yI,CV⟩:=abK;refine qV.vc _ _ _ ?_;rw [aD,ae,ax];obtain⟨post,rv,bv,ring,o,back⟩:=d.rd;obtain⟨rest,acc,n,h1,hB,VT,VU,eU⟩:=o.dS (T:=Yj b post 255 B);have hR: ∀ {H' :ag},H'[b]? =H[b]? →Reads H' ⟨b,0,none⟩ [str rest,u64 acc,i64 n]:=fun {H'} he i x hx=>by
  have hs:= (lJ.all (he.trans h1)).part (x:= []) (y:= [str rest,u64 acc,i64 n]) (z:=post);rw [ax];have:=hs.cell (k:=i) hx
  simpa using this
 refine(hR rfl).fZ (n:=3) rfl ?_;rw [aD,ae,ax];refine d.pl (g:=0+7) (x:=i64 n0) (by decide) rfl ?_;refine fI fun H1 s1 e1 b1=>?_;have ZI:=bz h1;have o1:=o.add (i:= .box H.size [.string ⟨#[]⟩,.int .u64 0,.int .i64 0] 250) e1 b1 (fun k hk=>by simp only [It.dF] at hk;omega);have o1:au H0 H1 (mO b post 255 B:: .sl rv 1 (ring.map bu):: .aE (oR bv out):: .box H.size [.string ⟨#[]⟩,.int .u64 0,.int .i64 0] 250::L):=o1.cY;have d1:=back H1 B _ o1;refine⟨(hR (e1.get b ZI)).fZ (n:=3) rfl rfl,d1.pl (g:=0+7) (x:=i64 n0) (by decide) rfl rfl,?_⟩;have adC:=o1;refine o1.cz (b:=H.size) (vs:= [str rest,u64 acc,i64 n]) fun H2 o2 _=>?_;have d2:=back H2 B _ o2;refine⟨d2.pl (g:=0+7) (x:=i64 n0) (by decide) rfl rfl,?_⟩;have hqb:qA (.box H.size [str rest,u64 acc,i64 n] 250::L) cS s [i64 n0,last,left,sy,di,cS,.int .i64 0]:=hq.mono fun _=>aiW _;generalize Tl:It.box H.size [str rest,u64 acc,i64 n] 250=bx at*;refine⟨fun e H' => (e= .int .i64 0∧∃D' o M q',bV ⟨s,B,W⟩= .go D' o∧Dc H0 H' b q' D'.B D'.W (out++o) (M++bx::L)∧qA (M++bx::L) cS D'.st q')∨
   (e= .int .i64 2∧bV ⟨s,B,W⟩= .wait ⟨s,B,W⟩ []∧∃C q',Dc H0 H' b q' C W out (bx::L)∧qA L cS s (q'.set 0 (i64 n0)))∨
   (∃ev C q',e= .int .i64 ev∧ev≠0∧ev≠2∧bV ⟨s,B,W⟩= .bad ev∧Dc H0 H' b q' C W out (bx::L)∧EW cS q'),?_,?_⟩
 ·rintro _ _ H3 (⟨rfl,D',o,M,q',hs,d,HB⟩ | ⟨rfl,hs,C,q',d,HB⟩ | ⟨ev,C,q',rfl,h0,h2,hs,d,HB⟩)
  ·rw [aZ,qO,ak]
   subst Tl;exact sN D' o H3 M q' hs d.items HB.wV
  ·rw [aZ,decide_eq_true rfl,aL]
   obtain⟨post,rv,bv,ring,o,back⟩:=d.rd;refine o.lK (b:=H.size) (cs:= [str rest,u64 acc,i64 n]) (t:=250) (n:=3) (by subst Tl;repeat(first|exact aiX|apply aiW)) rfl ?_;rw [aD,ae,ax];refine o.p3s (B' :=B) cx.here hB VT VU eU fun H4 o _=>?_;have d:=back H4 B _ o;rw [aD,ae,ax];have hl:=HB.len;rw [aj1] at hl;refine d.ps (g:=0+7) (by decide) (by omega) rfl fun H5 d=>?_;exact Z1 _ [] H5 _ hs (by rw [ajl];exact Dc.items (M:= []) d) HB
  ·rw [aZ,decide_eq_false h2,ak]
   exact Mj ev H3 C q' hs h0 h2 (Dc.items (M:= []) d) HB
 ·have bad: ∀ {e:Int},e≠0→e≠2→bV ⟨s,B,W⟩=SR.of ⟨s,B,W⟩ e→bV ⟨s,B,W⟩= .bad e:=fun _ h hh=>by rw [hh];unfold SR.of;rw [if_neg h]
  have wt: ∀ {e:Int},e=2→bV ⟨s,B,W⟩=SR.of ⟨s,B,W⟩ e→bV ⟨s,B,W⟩= .wait ⟨s,B,W⟩ []:=fun h hh=>by rw [hh];unfold SR.of;rw [if_pos h]
  rw [aD,ae,ax];refine d2.pl (g:=0+7) (x:=i64 n0) (by decide) rfl ?_
  cases s with
  |hd=>
   have Ad:n0=0:=by obtain⟨_,_,_,_,_,QI,_,_,_,_,c_⟩:=hq;exact EZ ((amd QI).1.trans c_)
   subst Ad;rw [aZ,decide_eq_true (p:= ((0:Nat):Int)=0) rfl,aL];refine Ks hG ⟨0,last,left,sy,di,rfl,by decide,VH,hle,yI,CV⟩ d2 (fun st C H3 M q' hh d hs=>?_) (fun e H3 C q' hh he d hs=>?_)
   ·exact .inl ⟨rfl,⟨st,C,W⟩,[],M,q',by unfold bV;rw [hh],by rw [ajl];exact d,hs⟩
   ·have c_:bV ⟨.hd,B,W⟩=SR.of ⟨.hd,B,W⟩ e:=by conv=>lhs;unfold bV;rw [hh]
    by_cases h2:e=2
    ·refine .inr (.inl ⟨by rw [h2],wt h2 c_,C,q',d,?_⟩)
     obtain⟨n',last,left,sy,di,rfl,g1,g2,g3,g4,g5⟩:=hs;exact⟨_,_,_,_,_,rfl,g2,g3,g4,g5,rfl⟩
    ·exact .inr (.inr ⟨e,C,q',rfl,he,h2,bad he h2 c_,d,hs⟩)
  |cp nl l=>
   have Ad:n0=1:=by obtain⟨_,_,_,_,_,QI,_,_,_,_,c_,_⟩:=hq;exact EZ ((amd QI).1.trans c_)
   subst Ad;rw [aZ,qO,ak,aZ,decide_eq_true (p:= ((1:Nat):Int)=1) rfl,aL];refine Hw hqb Xn qm ho d2 (fun D' o H3 q' hh d hs=>?_) (fun D' o H3 q' hh d hs=>?_)
   ·subst Tl;exact sN D' o H3 [] q' hh (Dc.items (M:= []) d) (qA.wV (M:= []) hs)
   ·subst Tl;exact Z1 D' o H3 q' hh (Dc.items (M:= []) d) (qA.wV (M:= []) hs)
  |tl zs zd l=>
   have Ad:n0=2:=by obtain⟨_,_,_,_,_,QI,_,_,_,_,c_,_⟩:=hq;exact EZ ((amd QI).1.trans c_)
   subst Ad;rw [aZ,qO,ak,aZ,qO,ak,aZ,decide_eq_true (p:= ((2:Nat):Int)=2) rfl,aL];refine EY hqb qm ho d2 (fun D' o H3 q' hh d hs=>?_) (fun e C H3 hh he d=>?_)
   ·exact .inl ⟨rfl,D',o,[],q',hh,d,hs⟩
   ·by_cases h2:e=2
    ·exact .inr (.inl ⟨by rw [h2],wt h2 hh,C,_,d,hq⟩)
    ·exact .inr (.inr ⟨e,C,_,rfl,he,h2,bad he h2 hh,d,hq.any rfl⟩)
  |dn=>cases hd
end
section
variable {H H0:ag} {R:Value→ag→Prop} {v cS:Value} {B:List Bool} {L M:List It} {b:Nat} {q:List Value} {W out:List UInt8}
theorem E1 (k:Nat) (all:List UInt8) (d:Nat):cU k all d=all++ (cU k all d).drop all.length:=by
 have:=JW k all d
 conv=>lhs;rw [←ajp all.length (cU k all d),this]
theorem E2 {di:List Int} {s:Nat} {p:Nat × Nat} {C:List Bool} (hs:257≤s) (h:fD di s B= .ok p C):p.1≤258:=by
 unfold fD at h
 split at h
 ·cases h
 ·obtain⟨f1,f2,f3,f4⟩:=Bd ⟨s - 257,by omega⟩
  have es: (257:Int)+ ((s - 257:Nat):Int)= (s:Int):=by omega
  dsimp only at f1 f2 f3 f4
  rw [es] at f1 f2 f3 f4
  cases hx:dQ (lenOf (s:Int)).2.toNat B with
  |er e=>rw [hx] at h;cases h
  |ok x C1=>
   rw [hx] at h;obtain⟨g1,g2,g3⟩:=u9 hx;have cL:=pD (B.take (lenOf (s:Int)).2.toNat);rw [ai2,ajF g1,←g2] at cL
   dsimp only [Rs.bind] at h
   cases hk:eM di C1 with
   |er e=>rw [hk] at h;cases h
   |ok k C2=>
    rw [hk] at h
    dsimp only at h
    split at h
    ·cases h
    ·cases hy:dQ (bn (k:Int)).2.toNat C2 with
     |er e=>rw [hy] at h;cases h
     |ok y C3=>
      rw [hy] at h
      cases h
      dsimp only
      omega
theorem Ku {st:St} {C:List Bool} (h:fM B= .ok st C):ji st:=by
 have: (fM B).IN ji:=by
  unfold fM;refine Rs.IN.bind fun v B=>?_
  split
  ·refine Rs.IN.bind fun x B=>?_
   split
   ·exact nL
   ·exact tK (by show x%65536≤65535;omega)
  split
  ·exact tK trivial
  split
  ·exact Rs.IN.bind fun p B=>tK trivial
  ·exact nL
 rw [h] at this;exact this.h
theorem QJ (l:Bool) (B:List Bool) (W:List UInt8): (ib l B W).W=W∧ji (ib l B W).st∧(ib l B W).B.length≤B.length:=by
 have:=pQ B
 cases l
 ·exact⟨rfl,trivial,aiZ _⟩
 ·exact⟨rfl,trivial,this.1⟩
theorem rp {D D' :DM} {o:List UInt8} (hl:ji D.st) (h:bV D= .go D' o∨bV D= .wait D' o):D'.W=D.W++o∧D'.W.length+258*D'.B.length≤D.W.length+258*D.B.length∧ji D'.st:=by
 obtain⟨st,B,W⟩:=D;unfold bV at h
 cases st with
 |hd=>
  dsimp only at h
  split at h
  ·rename_i st C hh
   rcases h with h|h<;>cases h
   have:=xM hh;exact⟨by simp,by dsimp only;omega,Ku hh⟩
  ·unfold SR.of at h
   split at h<;>rcases h with h|h<;>cases h
   exact⟨by simp,aiZ _,trivial⟩
 |cp left last=>
  dsimp only at h hl ⊢
  have rS:=pQ B
  split at h
  ·rcases h with h|h<;>cases h
   refine⟨rfl,?_,?_⟩
   ·dsimp only
    rw [aiV,wU (k:=min left ((dJ B).length/8)) (by rw [ai2];omega),ai4];omega
   ·show left - _≤65535
    have:left≤65535:=hl;omega
  ·rcases h with h|h<;>cases h
   obtain⟨e1,e2,e3⟩:=QJ last ((dJ B).drop (8*left)) (W++bm ((dJ B).take (8*left)));refine⟨e1,?_,e2⟩;rw [e1,aiV,wU (k:=left) (by rw [ai2];omega)];rw [ai4] at e3;omega
 |tl sy di last=>
  dsimp only at h ⊢
  split at h
  ·unfold SR.of at h
   split at h<;>rcases h with h|h<;>cases h
   exact⟨by simp,aiZ _,trivial⟩
  ·rename_i s C hn
   have h1:=wL hn
   split at h
   ·rcases h with h|h<;>cases h
    obtain⟨e1,e2,e3⟩:=QJ last C W;exact⟨by rw [e1];simp,by rw [e1];omega,e2⟩
   split at h
   ·rcases h with h|h<;>cases h
    exact⟨rfl,by dsimp only;rw [aiV,akc];omega,trivial⟩
   ·split at h
    ·unfold SR.of at h
     split at h<;>rcases h with h|h<;>cases h
     exact⟨by simp,aiZ _,trivial⟩
    ·rename_i p E hm
     have h2:=xN (di:=di) (s:=s) (B:=C);rw [hm] at h2;have h2:E.length≤C.length:=h2.h;have h3:=E2 (by omega) hm
     split at h<;>rcases h with h|h<;>cases h
     exact⟨E1 _ _ _,by dsimp only;rw [mg];omega,trivial⟩
 |dn=>
  rcases h with h|h<;>cases h
  exact⟨by simp,aiZ _,trivial⟩
def Bf (b:Nat) (H:ag):Nat:=match H[b]? with
 |some (.cells cs _ _)=> (match cs[0]?,cs[2]?,cs[7]? with
  |some (Value.string s),some (Value.int _ n),some (Value.int _ st)=>2* (8* (im s).length+n.toNat)+ (if st=1 then 1 else 0)
  |_,_,_=>0)
 |_=>0
theorem yb {s:St} (d:Dc H0 H b q B W out L) (hq:qA L cS s q):Bf b H=mM ⟨s,B,W⟩:=by
 obtain⟨st,last,left,sy,di,rfl,-,-,-,-,h6⟩:=hq;obtain⟨bp,bv,sC,yO,rv,ring,hr,hs,o⟩:=d;obtain⟨rest,acc,n,h1,h2,-⟩:=o.dS (T:=Yj b _ 255 B);unfold Bf mM;have hlen:B.length=n+8*rest.length:=by rw [h2,aiV,aX,bj]
 rw [h1]
 cases s with
 |hd=>subst h6;simp only [ajC,ajn,aju,bB,aiY];rw [if_neg (show ¬ ((0:Nat):Int)=1 by decide)];omega
 |cp n l=>obtain⟨rfl,-⟩:=h6;simp only [ajC,ajn,aju,bB,aiY];rw [if_pos (show ((1:Nat):Int)=1 by decide)];omega
 |tl zs zd l=>obtain⟨rfl,-⟩:=h6;simp only [ajC,ajn,aju,bB,aiY];rw [if_neg (show ¬ ((2:Nat):Int)=1 by decide)];omega
 |dn=>subst h6;simp only [ajC,ajn,aju,bB,aiY];rw [if_neg (show ¬ ((3:Nat):Int)=1 by decide)];omega
def rq (H0 H:ag) (b:Nat) (D:DM) (cS:Nat) (L:List It):Prop:= ∃q,qA L (i64 cS) D.st q∧Idle H0 H b q D.B D.W L
def Ux (H0 H:ag) (b:Nat) (W:List UInt8) (cS:Nat) (e:Int) (L:List It):Prop:= ∃ (n:Nat) (last left sy di:Value) (C:List Bool),n<3∧Idle H0 H b [i64 n,last,left,sy,di,i64 cS,.int .i64 e] C W L∧aS last=true∧aS left=true∧aS sy=true∧aS di=true
theorem Idle.pl {K:Value→Prop} {g:Nat} {x:Value} (d:Idle H0 H b q B W L) (h7:7≤g) (hx:q[g - 7]? =some x) (hk:K x):ao H (at_ b g) K:=by
 obtain⟨bp,bv,sC,yO,w⟩:=d;refine w.pl (x:=x) (by omega) ?_ hk;obtain⟨j,rfl⟩: ∃j,g=j+7:= ⟨g - 7,by omega⟩;simp only [akZ] at hx;rw [show j+7 - 5=j+1+1 by omega];exact hx
theorem Idle.ps {K:Value→ag→Prop} {g:Nat} {x:Value} (d:Idle H0 H b q B W L) (h7:7≤g) (hg:g - 7<q.length) (hx:aS x=true) (hk: ∀H',Idle H0 H' b (q.set (g - 7) x) B W L→K undef H'):aI H (at_ b g) x K:=by
 obtain⟨bp,bv,sC,yO,w⟩:=d;refine w.ps (by omega) (by simp;omega) hx fun H' w=>hk H' ⟨bp,bv,sC,yO,?_⟩;obtain⟨j,rfl⟩: ∃j,g=j+7:= ⟨g - 7,by omega⟩;rw [show j+7 - 5=j+1+1 by omega] at w;exact w
theorem Idle.rd (d:Idle H0 H b q B W L): ∃ (post:List Value) (rv:Value) (ring:List UInt8),au H0 H (mO b post 255 B:: .sl rv 1 (ring.map bu)::L)∧∀H' C M,au H0 H' (mO b post 255 C:: .sl rv 1 (ring.map bu)::M)→Idle H0 H' b q C W M:=by
 obtain⟨bp,bv,sC,yO,rv,ring,hr,hs,o⟩:=d;exact⟨_,rv,ring,o,fun H' C M o=> ⟨bp,bv,sC,yO,rv,ring,hr,hs,o⟩⟩
theorem Dz (o:au H0 H L) (h: ∀H' b,rq H0 H' b ⟨.hd,[],[]⟩ 0 L→R (at_ b 0) H'):ab 123 #[] H R:=by
 refine Gx.vc _ _ ?_;rw [br];refine fI fun H1 s1 e1 b1=>?_;have o1:=o.M9;have o1:=o1.add (i:=mO H.size [.slice none 0 0,i64 0,.pointer none,.slice none 0 0,i64 0,.bool false,.int .i64 0,.pointer none,.pointer none,i64 0,.int .i64 0] 255 []) e1 ⟨[],0,0,b1,rfl,by decide,by decide,by decide⟩ (fun k hk=>by
  have hk:k=H.size:=hk;omega)
 refine h H1 H.size ⟨[i64 0,.bool false,.int .i64 0,.pointer none,.pointer none,i64 0,.int .i64 0],⟨_,_,_,_,_,rfl,rfl,rfl,rfl,rfl,rfl⟩,.pointer none,.slice none 0 0,rfl,rfl,.slice none 0 0,[],⟨rfl,fun i hi=>by simp at hi⟩,by simp,o1⟩
theorem Bg {s:List UInt8} {D:DM} {cS:Nat} (hG:Reads H0 ⟨4,0,none⟩ fY) (r:rq H0 H b D cS L) (hl:ji D.st) (qm:D.W.length+258* (D.B.length+8*s.length)≤1000000000000) (VV:cS+s.length≤1000000000000)
  (kp: ∀o D' H' M,run (D.add (toBits s))= (o,D',0)→rq H0 H' b D' (cS+s.length) (M++L)→R (.tuple #[str o,.int .i64 0]) H')
  (l5: ∀o D' e H' M,run (D.add (toBits s))= (o,D',e)→e≠0→Ux H0 H' b D'.W (cS+s.length) e (M++L)→R (.tuple #[str o,.int .i64 e]) H'):ab 124 #[at_ b 0,str s] H R:=by
 obtain⟨q,hq,d⟩:=r;have hq7:=hq.len;have W_:=hq;obtain⟨st,last,left,sy,di,rfl,q2,q3,q4,q5,q6⟩:=W_;refine qR.vc _ _ _ _ ?_;rw [fC,ak,aD,ae,ax];refine d.pl (g:=0+13) (x:= .int .i64 0) (by decide) rfl ?_;refine ep ?_;rw [ak,aD,ae,ax];obtain⟨post,rv,ring,o,back⟩:=d.rd;refine JS (re o (by repeat(first|exact aiX|apply aiW))) (by omega) fun H1 w c=>?_;have d:=back H1 _ L (o.rd w c cx.here);rw [aD,ae,ax];refine d.pl (g:=0+12) (x:=i64 cS) (by decide) rfl ?_;refine aC ?_;rw [ay,show (cS:Int)+ (s.length:Int)= ((cS+s.length:Nat):Int) by omega,aJ,aD,ae,ax];refine d.ps (g:=0+12) (by decide) (by simp) rfl fun H2 d=>?_;rw [aD,ae,ax];refine Tq rfl d fun H3 d=>?_;have hqs:qA L (i64 (cS+s.length)) D.st [st,last,left,sy,di,i64 (cS+s.length),.int .i64 0]:= ⟨_,_,_,_,_,rfl,q2,q3,q4,q5,q6⟩
 change Dc H0 H3 b [st,last,left,sy,di,i64 (cS+s.length),.int .i64 0] (D.B++toBits s) D.W [] L at d
 generalize OC:cS+s.length=fd at*;generalize eB:run (D.add (toBits s))=T at*;have abL:D.W.length+258* (D.B++toBits s).length≤1000000000000:=by rw [aiV,bj];exact qm
 refine⟨fun H' => ∃o D' M q',T= (o,D',0)∧o.length≤1000000000000∧Dc H0 H' b q' D'.B D'.W o (M++L)∧qA (M++L) (i64 fd) D'.st q',?_,?_⟩
 ·rintro _ H4 ⟨o,D',M,q',hT,Mp,d,HB⟩
  rw [aD,ae,ax];refine Hu HB.len (by omega) d fun H5 d=>?_;exact kp o D' H5 M hT ⟨q',HB,d⟩
 refine⟨fun H' => ∃o D1 M q',T= (o++ (run D1).1,(run D1).2)∧Dc H0 H' b q' D1.B D1.W o (M++L)∧qA (M++L) (i64 fd) D1.st q' ∧ji D1.st∧D1.W.length+258*D1.B.length≤1000000000000∧o.length≤D1.W.length,Bf b,⟨[],D.add (toBits s),[],_,by rw [eB,aje],d,hqs,hl,abL,by simp⟩,?_⟩;rintro _ H4 ⟨o,D1,M,q',hT,d,HB,QH,abM,ho⟩;have hm:=yb d HB;rw [aD,ae,ax];obtain⟨stv,adF,adG,sy1,di1,rfl,p2,p3,p4,p5,p6⟩:=id HB;refine d.pl (g:=0+7) (x:=stv) (by decide) rfl ?_
 cases zX:D1.st.iG with
 |true=>
  have abN :D1.st= .dn:=by cases hs:D1.st<;>rw [hs] at zX<;>first|rfl|cases zX
  rw [abN] at p6;subst p6;rw [fx,qO,ak];refine⟨o,D1,M,_,?_,by omega,d,HB⟩;rw [hT,ra zX,ajl]
 |false=>
  have c_: ∃n:Nat,stv=i64 n∧n<3:=by
   obtain⟨n,_,_,_,_,he,hn,_⟩:=HB.any zX;exact⟨n,(amd he).1,hn⟩
  obtain⟨n,rfl,hn⟩:=c_;rw [fx,nR,aL];refine Kt hG HB zX QH abM ho d (fun D2 o2 H5 M2 q2 hs d2 zg=>?_) (fun D2 o2 H5 q2 hs d2 zg=>?_) (fun e H5 C q2 hs h0 h2 d2 zg=>?_)
  ·rw [aZ,qO,ak]
   refine ep ?_;rw [ak];have hinv:=rp QH (.inl hs);have JV:=yb d2 zg;refine⟨⟨o++o2,D2,M2++M,q2,by rw [hT,pR hs,ai0],by rw [ai0];exact d2,by rw [ai0];exact zg,hinv.2.2,by omega,by rw [hinv.1,aiV,aiV];omega⟩,?_⟩;rw [hm,JV];exact mh hs
  ·rw [aZ,decide_eq_true rfl,aL]
   have hinv:=rp QH (.inr hs);exact⟨o++o2,D2,M,q2,by rw [hT,lu zX hs],by have:=congrArg List.length hinv.1;rw [aiV] at this;rw [aiV];omega,d2,zg⟩
  ·rw [aZ,decide_eq_false h2,ak]
   refine lx h0 ?_;rw [aL,aD,ae,ax];obtain⟨n',YO,YP,sy2,di2,rfl,g1,g2,g3,g4,g5⟩:=zg;refine d2.ps (g:=0+13) (by decide) (by simp) rfl fun H6 d2=>?_;rw [aD,ae,ax];refine Hu rfl (by omega) d2 fun H7 d2=>?_;exact l5 o D1 e H7 M (by rw [hT,r9 zX hs,ajl]) h0 ⟨n',YO,YP,sy2,di2,C,g1,d2,g2,g3,g4,g5⟩
end
section
variable {H H0:ag} {R:Value→ag→Prop} {v:Value} {B:List Bool} {L M:List It} {b cS:Nat} {q:List Value} {W out:List UInt8} {D:DM}
theorem p9 (r:rq H0 H b D cS L) (h:R (.bool D.st.iG) H):ab 125 #[at_ b 0] H R:=by
 obtain⟨q,hq,d⟩:=r;refine qS.vc _ _ _ ?_;rw [v8];refine bs ?_;rw [aD,ae,ax];obtain⟨st,last,left,sy,di,rfl,-,-,-,-,h6⟩:=hq;refine d.pl (g:=0+7) (x:=st) (by decide) rfl ?_
 cases hs:D.st with
 |hd=>rw [hs] at h h6;subst h6;rw [aZ];intro _;exact h
 |cp n l=>rw [hs] at h h6;obtain⟨rfl,-⟩:=h6;rw [aZ];intro _;exact h
 |tl zs zd l=>rw [hs] at h h6;obtain⟨rfl,-⟩:=h6;rw [aZ];intro _;exact h
 |dn=>rw [hs] at h h6;subst h6;rw [aZ];intro _;exact h
theorem rq.more {H' :ag} (r:rq H0 H b D cS L) (hx:Ext H H'):rq H0 H' b D cS L:=by
 obtain⟨q,hq,d⟩:=r;obtain⟨post,rv,ring,o,back⟩:=d.rd;exact⟨q,hq,back H' _ L (o.more hx)⟩
theorem tQ (r:rq H0 H b D cS L) (hn:D.st.iG=true) (h: ∀H',Ext H H' →R (str (bm ((dJ D.B).take (8* (D.B.length/8))))) H'):ab 126 #[at_ b 0] H R:=by
 obtain⟨q,hq,d⟩:=id r;obtain⟨post,rv,ring,o,back⟩:=d.rd;refine qT.vc _ _ _ ?_;refine p9 r ?_;rw [hn,dq,aj0,ak,aD,ae,ax];refine o.p3 (by repeat(first|exact aiX|apply aiW)) fun rest acc n hB VT VU eU=>?_;refine(au.start (H:=H)).box fun c H1 oc hc=>?_
 change au H H1 [.box c [str [],.int .u64 0,.int .i64 0] _] at oc
 refine oc.cz (vs:= [str rest,u64 acc,i64 n]) fun H2 oc _=>?_;have R3:Rd H2 c 0 D.B:= ⟨⟨rest,acc,n,lJ.all (oc.j8),hB,VT,VU⟩,eU⟩;have ea:=oc.ext;refine pM R3 ?_;rw [iL];refine⟨by decide,?_⟩;rw [akr (by omega),show ((D.B.length:Nat):Int) /8= ((D.B.length/8:Nat):Int) by omega,aJ];refine AJ (by omega) R3 fun H3 k hk w cg=>?_;rw [aiY] at hk;have CR:k=D.B.length/8:=by omega
 subst CR;refine h H3 ?_;have:=cg.ext ea (by omega) (fun _ h=>h.elim);exact this.1
theorem Kv (r:rq H0 H b D cS L) (hn:D.st.iG=true) (hf:cS≤1000000000000) (hB:D.B.length≤8000000000000) (h: ∀H',Ext H H' →R (.int .i64 ((cS:Int) - ((bm ((dJ D.B).take (8* (D.B.length/8)))).length:Int))) H'):ab 142 #[at_ b 0] H R:=by
 obtain⟨q,hq,d⟩:=id r;refine qU.vc _ _ _ ?_;refine p9 r ?_;rw [hn,dq,aj0,ak,aD,ae,ax];obtain⟨st,last,left,sy,di,rfl,q2,q3,q4,q5,q6⟩:=id hq;refine d.pl (g:=0+12) (x:=i64 cS) (by decide) rfl ?_;refine tQ r hn fun H1 hx=>?_;have r1:=r.more hx;obtain⟨q',HB,d'⟩:=r1;obtain⟨st',adH,adI,sy',di',rfl,-⟩:=HB;refine⟨d'.pl (g:=0+12) (x:=i64 cS) (by decide) rfl rfl,?_⟩;refine aC ?_;have hl: (bm ((dJ D.B).take (8* (D.B.length/8)))).length≤D.B.length:=by
  have:=lp (((dJ D.B).take (8* (D.B.length/8))).length/8) ((dJ D.B).take (8* (D.B.length/8))) rfl;rw [this,ai2];omega
 rw [bq,aJ];exact h H1 hx
def VW (b:Nat) (q:List Value) (B:List Bool) (W:List UInt8) (P:List It):Prop:= ∀ (H0 H:ag) (N:List It),au H0 H (P++N)→Idle H0 H b q B W N
theorem Idle.QK (d:Idle H0 H b q B W L): ∃P,VW b q B W P∧au H0 H (P++L):=by
 obtain⟨bp,bv,sC,yO,rv,ring,hr,hs,o⟩:=d;exact⟨[_,_],fun H0 H N o=> ⟨bp,bv,sC,yO,rv,ring,hr,hs,o⟩,o⟩
theorem DA {s:List UInt8} (hG:Reads H0 ⟨4,0,none⟩ fY) (o:au H0 H L) (hs:s.length≤100000000)
  (zX: ∀o D' H',run ⟨.hd,toBits s,[]⟩= (o,D',0)→D'.st.iG=true→Ext H0 H' →R (.tuple #[str o,str (bm ((dJ D'.B).take (8* (D'.B.length/8)))),.int .i64 0]) H')
  (yc: ∀o D' H',run ⟨.hd,toBits s,[]⟩= (o,D',0)→D'.st.iG=false→Ext H0 H' →R (.tuple #[str [],str [],.int .i64 2]) H')
  (l5: ∀o D' e H',run ⟨.hd,toBits s,[]⟩= (o,D',e)→e≠0→Ext H0 H' →R (.tuple #[str [],str [],.int .i64 e]) H'):ab 71 #[str s] H R:=by
 refine Gw.vc _ _ _ ?_;refine Dz o fun H1 b r=>?_;refine Bg hG r trivial (by simp;omega) (by omega) (fun o D' H2 M hr r=>?_) (fun o D' e H2 M hr he d=>?_)
 ·refine ai rfl ?_
  refine ai rfl ?_;refine ep ?_;rw [ak];refine p9 r ?_;have hx:Ext H0 H2:=by obtain⟨q,_,bp,bv,_,_,rv,ring,_,_,o⟩:=r;exact o.ext
  cases hd:D'.st.iG with
  |true=>
   rw [dq,aj0,ak];exact tQ r hd fun H3 nx=>zX o D' H3 hr hd (hx.trans nx)
  |false=>
   rw [dq,aku,aL];exact yc o D' H2 hr hd hx
 ·refine ai rfl ?_
  refine ai rfl ?_;refine lx he ?_;rw [aL];have hx:Ext H0 H2:=by obtain⟨_,_,_,_,_,_,_,⟨bp,bv,_,_,rv,ring,_,_,o⟩,_⟩:=d;exact o.ext
  exact l5 o D' e H2 hr he hx
end
section
variable {H H0:ag} {R:Value→ag→Prop} {v:Value} {B:List Bool} {L M:List It} {b cS:Nat} {q:List Value} {W out:List UInt8} {D:DM} {e:Int}
theorem E3: ∀ (n:Nat) (D:DM),mM D<n→ji D.st→(run D).2.1.W=D.W++ (run D).1∧(run D).2.1.W.length+258* (run D).2.1.B.length≤D.W.length+258*D.B.length∧ji (run D).2.1.st
 |0,D,h,_=>by omega
 |n+1,D,h,hl=>by
  by_cases hd:D.st.iG=true
  ·rw [ra hd];exact⟨by simp,aiZ _,hl⟩
  ·have hd:D.st.iG=false:=by simpa using hd
   cases c_:bV D with
   |go D' o=>
    have hi:=rp hl (.inl c_);have ih:=E3 n D' (by have:=mh c_;omega) hi.2.2;rw [pR c_];refine⟨?_,by dsimp only;omega,ih.2.2⟩;show (run D').2.1.W=D.W++ (o++ (run D').1);rw [ih.1,hi.1,ai0]
   |wait D' o=>
    have hi:=rp hl (.inr c_);rw [lu hd c_];exact⟨hi.1,hi.2.1,hi.2.2⟩
   |bad e=>rw [r9 hd c_];exact⟨by simp,aiZ _,hl⟩
def HC (H0 H:ag) (b:Nat) (D:DM) (cS:Nat) (e:Int) (L:List It):Prop:= (e=0∧rq H0 H b D cS L)∨(e≠0∧Ux H0 H b D.W cS e L)
theorem HC.ext (a:HC H0 H b D cS e L):Ext H0 H:=by
 rcases a with ⟨_,q,_,bp,bv,_,_,rv,ring,_,_,o⟩ | ⟨_,_,_,_,_,_,_,_,⟨bp,bv,_,_,rv,ring,_,_,o⟩,_⟩<;>exact o.ext
theorem HC.more {H' :ag} (a:HC H0 H b D cS e L) (hx:Ext H H'):HC H0 H' b D cS e L:=by
 rcases a with ⟨h,r⟩ | ⟨h,n,la,le,sy,di,C,hn,d,g⟩
 ·exact .inl ⟨h,r.more hx⟩
 ·obtain⟨post,rv,ring,o,back⟩:=d.rd
  exact .inr ⟨h,n,la,le,sy,di,C,hn,back H' _ L (o.more hx),g⟩
def lM (P:List It):eX where
 dF k:= ∃i∈P,i.dF k
 holds H:= (∀i∈P,i.holds H)∧P.Pairwise fun (i j:It)=> ∀k:Nat,i.dF k→¬j.dF k
 frame:=fun h hf=> ⟨fun i hi=>It.frame (h.1 i hi) fun k hk=>hf k ⟨i,hi,hk⟩,h.2⟩
 lt:=fun h hf=>by obtain⟨i,hi,hk⟩:=hf;exact It.lt (h.1 i hi) hk
theorem l6 {P:List It} (o:au H0 H (P++L)):au H0 H (.aE (lM P)::L):=by
 have hp:=al5.1 o.FH;refine⟨o.ext,?_,?_,ajs.2 ⟨?_,hp.2.1⟩⟩
 ·intro i hi
  rcases ajd.1 hi with rfl|hi
  ·exact⟨fun i hi=>o.ok i (akq _ hi),hp.1⟩
  ·exact o.ok i (akJ _ hi)
 ·intro i hi k hk
  rcases ajd.1 hi with rfl|hi
  ·obtain⟨j,hj,hk⟩:=hk;exact o.new j (akq _ hj) k hk
  ·exact o.new i (akJ _ hi) k hk
 ·rintro j hj k ⟨i,hi,hk⟩
  exact hp.2.2 i hi j hj k hk
theorem kh {P:List It} (o:au H0 H (.aE (lM P)::L)):au H0 H (P++L):=by
 have hp:=ajs.1 o.FH;have ht:=o.ok (.aE (lM P)) aiX;refine⟨o.ext,?_,?_,al5.2 ⟨ht.2,hp.2,?_⟩⟩
 ·intro i hi
  rcases ajo.1 hi with hi|hi
  ·exact ht.1 i hi
  ·exact o.ok i (aiW _ hi)
 ·intro i hi k hk
  rcases ajo.1 hi with hi|hi
  ·exact o.new (.aE (lM P)) aiX k ⟨i,hi,hk⟩
  ·exact o.new i (aiW _ hi) k hk
 ·intro i hi j hj k hk
  exact hp.1 j hj k ⟨i,hi,hk⟩
theorem fX.zj {zs:List Int} {p:Value} {T:eX} (h:fX (M++ .aE T::L) zs p):fX (M++L) zs p:=by
 obtain⟨h1,cb,lv,wv,sv,h2,h3⟩:=h;refine⟨h1,cb,lv,wv,sv,h2,fun i hi=>?_⟩;rcases ajo.1 (h3 i hi) with g|g
 ·exact akq _ g
 ·rcases ajd.1 g with rfl|g
  ·simp only [pI,ajd,amv,or_false,reduceCtorEq,or_self] at hi
  ·exact akJ _ g
theorem qA.zj {s:St} {T:eX} {cS:Value} (h:qA (M++ .aE T::L) cS s q):qA (M++L) cS s q:=by
 obtain⟨st,last,left,sy,di,h1,h2,h3,h4,h5,h6⟩:=h;refine⟨st,last,left,sy,di,h1,h2,h3,h4,h5,?_⟩
 cases s with
 |tl zs zd l=>exact⟨h6.1,h6.2.1,h6.2.2.1.zj,h6.2.2.2.zj⟩
 |_=>exact h6
theorem HC.QK (a:HC H0 H b D cS e L): ∃S:eX,au H0 H (.aE S::L)∧∀ (H0 H:ag) (N:List It),(∀i∈L,i∈N)→au H0 H (.aE S::N)→HC H0 H b D cS e N:=by
 rcases a with ⟨h,q,hq,d⟩ | ⟨h,n,la,le,sy,di,C,hn,d,g⟩
 ·obtain⟨P,hP,o⟩:=d.QK
  exact⟨lM P,l6 o,fun H0 H N hN o=> .inl ⟨h,q,hq.mono hN,hP H0 H N (kh o)⟩⟩
 ·obtain⟨P,hP,o⟩:=d.QK
  exact⟨lM P,l6 o,fun H0 H N hN o=> .inr ⟨h,n,la,le,sy,di,C,hn,hP H0 H N (kh o),g⟩⟩
end
section
variable {H H0 H' :ag} {R:Value→ag→Prop} {v:Value} {L:List It} {zs:List Int} {b:Nat} {B:List Bool}
def QL (H:ag) (b f:Nat):Nat:=match H[b]? with
 |some (.cells cs _ _)=>match cs[f]? with
  |some (.int _ x)=>x.toNat
  |_=>0
 |_=>0
theorem HD {b f:Nat} {cs:List Value} {t:TypeId} {fr:Nat × Nat} {k:IntKind} {x:Int} (h:H[b]? =some (.cells cs.toArray t fr)) (hf:cs[f]? =some (.int k x)):QL H b f=x.toNat:=by
 unfold QL;rw [h]
 simp [hf]
theorem HE {zs:List Int} {s:Nat} (h:0<zs.getD s 0):1≤(ic zs zs.length).length:=by
 have hs:s<zs.length:=ame fun hn=>by rw [ai3,ajm hn] at h;simp at h
 exact List.length_pos_of_mem (kO.2 ⟨hs,h⟩)
def Tu (E:List Ex):List Int:=E.foldl (fun ws e=>Qu ws e.1) (List.replicate 19 0)
structure QM (E:List Ex) (ws:List Int):Prop where
 wl:ws.length=19
 wr: ∀z∈ws,0≤z∧z≤(E.length:Int)
 wt: ∀e∈E,1≤ws.getD e.1 0
 ex:ws=Tu E
theorem QO {E:List Ex} {tv wv:Value} {k:Nat} {ws:List Int} (hE: ∀e∈E,e.1≤18) (Xq:E.length≤400) (hk:k<E.length) (c:QM (E.take k) ws) (o:au H0 H (.sl wv 1 (aP ws)::L)) (ht:It.sl tv 3 (kg E)∈L) {K:Value→ag→Prop}
  (h: ∀Z3 H',QM (E.take (k+1)) Z3 →au H0 H' (.sl wv 1 (aP Z3)::L)→K undef H'):
  aK 3 tv (.int .i64 (k:Int)) fun x75=>aF H 3 x75 fun x76=>bD H 237 (.agg #[(.int .i64 0),(.int .i64 0),(.int .u64 0)]) fun t11 abO=>aH abO 3 t11 x76 fun _ VX=>aa 0 t11 fun x78=>ao VX x78 fun x79=>
  aK 1 wv x79 fun x80=>ao VX x80 fun x81=>aB x81 (.int .i64 1) fun x82=>aK 1 wv x79 fun x83=>aI VX x83 x82 K:=by
 have iJ:=o.sl (v:=tv) (aiW _ ht);have ft: ((kg E).drop (k*3)).take 3=FJ (E[k]):=by
  have: ∀ (E:List Ex) (k:Nat) (hk:k<E.length),((kg E).drop (k*3)).take 3=FJ (E[k]):=by
   intro E
   induction E with
   |nil=>intro k hk;simp at hk
   |cons e E ih=>
    intro k hk;have e1:kg (e::E)=FJ e++kg E:=rfl
    cases k with
    |zero=>rw [e1];rfl
    |succ k=>
     rw [e1,show (k+1)*3=3+k*3 by omega,←ajK];exact ih k (by simpa using hk)
  exact this E k hk
 have lR:E.take (k+1)=E.take k++ [E[k]]:=by rw [ajr,ai1 hk];rfl
 have YQ:=hE _ (ai9 hk);have eF: (E.take k).length=k:=by rw [ai2];omega
 generalize E[k]=e at ft lR YQ;have EE:=c.wl;have wr:=c.wr;rw [eF] at wr;refine iJ.gG (mS E) fun p hp=>?_;rw [aiY] at hp;refine hp.fZ iJ (ws:=FJ e) ft rfl ?_;refine o.box fun tb H4 o4 _=>?_;refine o4.cz (vs:=FJ e) fun H5 o5 _=>?_;rw [ae,ax];refine o5.aw (b:=tb) (f:=0+0) (w:= .int .i64 (e.1:Nat)) ?_;refine vm (a:=e.1) (kd:= .i64) o5 (by repeat(first|exact aiX|apply aiW)) (by omega) wr (by omega) (by repeat(first|exact cx.here|apply cx.there)) fun H6 o6=>?_;refine h _ H6 ⟨by rw [aj1];exact EE,?_,fun u hu=>?_,by rw [lR,zh (by omega),Tu,alW,←Tu,←c.ex];rfl⟩ o6.tl
 ·rw [lR,aiV,eF]
  have:=zi (a:=e.1) (by omega) wr;exact this
 ·rw [lR] at hu
  rcases ajo.1 hu with hu|hu
  ·have:=c.wt u hu
   have h5:=inc_le (cs:=ws) (a:=e.1) (by omega) u.1;omega
  ·rw [ajE.1 hu,vl (by omega),if_pos rfl]
   have:=wr _ (ai9 (show e.1<ws.length by omega));omega
structure NJ (G:List Tok) (x y z:List Int) (E:List Ex) (c:Nat):Prop where
 hx: ∃x0 a,sd (Ko G) 15 x0∧Dv x0 257 a∧x=x0.take a
 hy: ∃y0 n,ri (Kp G) 15 y0∧Dv y0 1 n∧y=y0.take n
 hE:LK (x++y) E
 hz:sd (Tu E) 7 z
 hc:4≤c∧c≤19∧(∀j,c≤j→j<19→z.getD (bF.getD j 0) 0=0)∧(4<c→z.getD (bF.getD (c - 1) 0) 0≠0)
theorem NJ.one {G:List Tok} {x y z x' y' z' :List Int} {E E' :List Ex} {c c' :Nat} (h:NJ G x y z E c) (k:NJ G x' y' z' E' c'):x=x' ∧y=y' ∧z=z' ∧E=E' ∧c=c' :=by
 obtain⟨⟨x0,a,h1,h2,rfl⟩,⟨y0,n,h3,h4,rfl⟩,h5,h6,h7,h8,h9,h10⟩:=h;obtain⟨⟨x1,b,k1,k2,rfl⟩,⟨y1,m,k3,k4,rfl⟩,k5,k6,k7,k8,k9,k10⟩:=k;obtain rfl:=xY h1 k1;obtain rfl:=Dw h2 k2;obtain rfl:=A5 h3 k3;obtain rfl:=Dw h4 k4;obtain rfl:=Nw h5 k5;obtain rfl:=xY h6 k6;refine⟨rfl,rfl,rfl,rfl,?_⟩;rcases alV c c' with g|g|g
 ·exact absurd (h9 (c' - 1) (by omega) (by omega)) (k10 (by omega))
 ·exact g
 ·exact absurd (k9 (c - 1) (by omega) (by omega)) (h10 (by omega))
theorem QP {G:List Tok} {lv:Value} (hG:Reads H0 ⟨0,0,none⟩ fY) (hs:Sl H lv 3 (dw G)) (hlen:G.length≤65535) (hg: ∀t∈G,fL t=true) (o:au H0 H L)
  (h: ∀H' M cb ps pd pt tv x y z E c,fX M x ps→fX M y pd→fX M z pt→It.sl tv 3 (kg E)∈M→It.box cb [ps,pd,pt,tv,i64 x.length,i64 y.length,i64 c] 232∈M→xQ x y z E c→NJ G x y z E c→pX x 256→(∀t∈G,ve x y t)→
   au H0 H' (M++L)→R (.pointer (some ⟨cb,0,none⟩)) H'):ab 121 #[lv] H R:=by
 refine te.vc _ _ _ ?_;refine Hn hs hlen hg fun y1 y2 cs ds H1 c o1=>?_;refine ai (vs:= [y1,y2]) rfl ?_;refine ai (vs:= [y1,y2]) rfl ?_;have dM:=c.cl;have Dy:=c.dl;have hgc:xV cs=true:=oQ.2 fun z hz=>by have:=c.cr z hz;omega
 have W7:xV ds=true:=oQ.2 fun z hz=>by have:=c.dr z hz;omega
 have ja:=jR cs cs.length;have lL:=jR ds ds.length;refine xZ (m:=15) (o1.cf (v:=y1)) (by omega) (by omega) hgc (by decide) (by decide) (by omega) (HE (s:=256) (by have:=c.ce;omega)) fun y3 x0 H2 sx o2=>?_;refine vi (m:=15) ((o1.cf (v:=y2)).ext o2.ext) (by omega) W7 (by decide) (by decide) (by omega) fun y4 y0 H3 ly o3=>?_;refine ai (vs:= [y4,.int .i64 0]) rfl ?_;refine ai (vs:= [y4,.int .i64 0]) rfl ?_;have oA:au H0 H3 (.sl y4 1 (aP y0):: .sl y3 1 (aP x0)::L):= (((o.call o1).call o2).call o3).pick (List.Sublist.cons_cons _ (List.Sublist.cons_cons _ (List.Sublist.cons _ (List.Sublist.cons _ (ako _)))));have hx0:=sx.len;obtain⟨ly1,ly2,_⟩:=pZ ly (by decide) (by decide) (by omega);refine Du (least:=257) (oA.cf (v:=y3)) (by omega) (by omega) (by decide) fun a nQ Oz hza Uc=>?_;refine Du (least:=1) (oA.cf (v:=y4)) (by omega) (by omega) (by decide) fun n Ct Mu hzn VD=>?_;refine aR rfl (by simp) ?_;refine aR rfl (by simp) ?_;rw [br];refine oA.box fun cb H6 o6 _=>?_;rw [aD,ae,ax];refine o6.aw (b:=cb) (f:=0+4) (w:=i64 a) ?_;refine Kk (o6.cf (v:=y3)) (by decide) (n:=x0.length) (by rw [aV];omega) (by omega) fun vx hvx bvx=>?_;rw [aD,ae,ax];refine o6.aw (b:=cb) (f:=0+5) (w:=i64 n) ?_;refine Kk (o6.cf (v:=y4)) (by decide) (n:=y0.length) (by rw [aV];omega) (by omega) fun vy hvy bvy=>?_;rw [ai5,kJ] at hvx hvy;have Xr:ia (x0.take a) false=0:=Qy sx dM hza (by omega);have hyw:ia (y0.take n) true=0:=NF ly Dy hzn (by omega);have GO: (x0.take a).length=a:=by rw [ai2];omega
 have Cf: (y0.take n).length=n:=by rw [ai2];omega
 have Z2:aP (x0.take a)≠ []:=fun e=>by have:=congrArg List.length e;rw [aV,GO] at this;simp at this;omega
 have hyn:aP (y0.take n)≠ []:=fun e=>by have:=congrArg List.length e;rw [aV,Cf] at this;simp at this;omega
 have YR:1≤(x0.take a).getD 256 0:=by rw [kQ (by omega)];exact sx.has 256 (by have:=c.ce;omega)
 have hhx: ∀s:Nat,1≤cs.getD s 0→pX (x0.take a) s:=fun s h1=>by
  have h2:=sx.has s (by omega);have VY:s<a:=ame fun hn=>by have:=hza s hn;omega
  exact⟨by omega,by rw [iQ,kQ VY];omega⟩
 have hhy: ∀s:Nat,1≤ds.getD s 0→pX (y0.take n) s:=fun s h1=>by
  have Z4:s<ds.length:=ame fun hn=>by rw [ai3,ajm hn] at h1;simp at h1
  have h2:=ly2 s Z4;rw [if_pos (by omega)] at h2;have VY:s<n:=ame fun hn=>by have:=hzn s hn;omega
  exact⟨by omega,by rw [iQ,kQ VY];omega⟩
 have Sb: ∀t∈G,ve (x0.take a) (y0.take n) t:=fun t ht=>by
  have:=c.ct t ht;unfold ve
  split at this
  ·rename_i e;rw [if_pos e];exact hhx _ this
  ·rename_i e;rw [if_neg e];exact⟨hhx _ this.1,hhy _ this.2⟩
 have hrx: ∀s,0≤(x0.take a).getD s 0∧(x0.take a).getD s 0≤15:=fun s=>by
  by_cases VY:s<a
  ·rw [kQ VY];exact sx.rng s
  ·rw [ai3,ajm (by omega)];simp
 have hry: ∀s,0≤(y0.take n).getD s 0∧(y0.take n).getD s 0≤15:=fun s=>by
  by_cases VY:s<n
  ·rw [kQ VY]
   by_cases hs:s<ds.length
   ·have:=ly2 s hs
    split at this<;>omega
   ·rw [ai3,ajm (by omega)];simp
  ·rw [ai3,ajm (by omega)];simp
 have hDx: ∃x1 b,sd (Ko G) 15 x1∧Dv x1 257 b∧x0.take a=x1.take b:= ⟨x0,a,by rw [←c.ex.1];exact sx.ex,⟨nQ,Oz,hza,Uc⟩,rfl⟩;have hDy: ∃y1 m,ri (Kp G) 15 y1∧Dv y1 1 m∧y0.take n=y1.take m:= ⟨y0,n,by rw [←c.ex.2];exact ly,⟨Ct,Mu,hzn,VD⟩,rfl⟩;generalize x0.take a=x at hvx Xr GO Z2 YR hhx Sb hrx hDx;generalize y0.take n=y at hvy hyw Cf hyn hhy Sb hry hDy;have oB:au H0 H6 (.box cb [.pointer none,.pointer none,.pointer none,.slice none 0 0,i64 a,i64 n,.int .i64 0] 232:: .sl y4 1 (aP y0):: .sl y3 1 (aP x0)::L):=o6;have o7:au H0 H6 (.sl y3 1 (aP x0):: .box cb [.pointer none,.pointer none,.pointer none,.slice none 0 0,i64 a,i64 n,.int .i64 0] 232:: .sl y4 1 (aP y0)::L):=oB.cY;have o8:=o7.view hvx Z2 bvx;have o9:au H0 H6 (.sl y4 1 (aP y0):: .aE (A9 vx 1 (aP x)):: .box cb [.pointer none,.pointer none,.pointer none,.slice none 0 0,i64 a,i64 n,.int .i64 0] 232::L):=o8.cY;have o:=o9.view hvy hyn bvy;have vX: ∀ {H:ag} {M:List It},au H0 H M→It.aE (A9 vx 1 (aP x))∈M→Sl H vx 1 (aP x):=fun o h=> (o.aE h:_∧_).1;have vY: ∀ {H:ag} {M:List It},au H0 H M→It.aE (A9 vy 1 (aP y))∈M→Sl H vy 1 (aP y):=fun o h=> (o.aE h:_∧_).1;refine ir (loose:=false) o (vX o (by repeat(first|exact aiX|apply aiW))) (by omega) (fun H' hw _=>absurd Xr hw) fun H7 M1 px _ hM1 o=>?_;have o:=l6 o;refine ai (vs:= [px,.int .i64 0]) rfl ?_;refine ai (vs:= [px,.int .i64 0]) rfl ?_;rw [aD,ae,ax];refine o.eV (b:=cb) (f:=0+0) (by repeat(first|exact aiX|apply aiW)) (by simp) hM1.VO (by repeat(first|exact cx.here|apply cx.there)) fun H8 o _=>?_;refine ir (loose:=true) o (vY o (by repeat(first|exact aiX|apply aiW))) (by omega) (fun H' hw _=>absurd hyw hw) fun H9 M2 py _ hM2 o=>?_;have o:=l6 o;refine ai (vs:= [py,.int .i64 0]) rfl ?_;refine ai (vs:= [py,.int .i64 0]) rfl ?_;rw [aD,ae,ax];refine o.eV (b:=cb) (f:=0+1) (by repeat(first|exact aiX|apply aiW)) (by simp) hM2.VO (by repeat(first|exact cx.here|apply cx.there)) fun B_ o _=>?_;refine o.build (sz:=1) (vs:= [vx,vy]) (by decide) (fun K' hK=>dU (vX o (by repeat(first|exact aiX|apply aiW))).one (vY o (by repeat(first|exact aiX|apply aiW))).one hK) rfl fun yl OE o=>?_;refine xR (svs:= [vx,vy]) (ls:= [aP x,aP y]) (o.cf (v:=yl)) (by simp) rfl (fun k hk=>?_) ?_ ?_ fun zc Uv oc=>?_
 ·match k,hk with
  |0,_=>exact⟨vX o (by repeat(first|exact aiX|apply aiW)),_,(ai5 _).symm⟩
  |1,_=>exact⟨vY o (by repeat(first|exact aiX|apply aiW)),_,(ai5 _).symm⟩
 ·simp [aP,aS]
 ·simp only [aj_,alC,aiV,aV,ai_];omega
 have ez: ([aP x,aP y]:List (List Value)).flatten=aP (x++y):=by rw [iV];simp
 rw [ez] at oc;have abW: ∀z∈x++y,0≤z∧z≤15:=fun z hz=>by
  rcases ajo.1 hz with hz|hz
  ·obtain⟨i,hi,rfl⟩:=akK hz
   have:=hrx i
   rwa [ai3,ai1 hi] at this
  ·obtain⟨i,hi,rfl⟩:=akK hz
   have:=hry i
   rwa [ai3,ai1 hi] at this
 refine Nx (zs:=x++y) (oc.cf (v:=zc)) (by rw [aiV];omega) abW fun tv E Xs hT hPk oE=>?_;have IS:=hT.len;rw [aiV] at IS;have htv:= (oE.cf (v:=tv)).one;have o:au H0 Xs (.sl tv 3 (kg E)::_):= ((o.call oc).call oE);rw [aD,ae,ax];refine o.eV (b:=cb) (f:=0+3) (x:=tv) (by repeat(first|exact aiX|apply aiW)) (by simp) htv (by repeat(first|exact cx.here|apply cx.there)) fun Tv o _=>?_;have oC:au H0 Tv (.sl yl 1 [vx,vy]:: .sl zc 1 (aP (x++y)):: .aE (A9 vy 1 (aP y)):: .aE (A9 vx 1 (aP x)):: .sl tv 3 (kg E):: .box cb [px,py,.pointer none,tv,i64 a,i64 n,.int .i64 0] 232:: .aE (lM M2):: .aE (lM M1)::L):=o.cY;have o:=oC.tl.tl.tl.tl;refine o.qh (by decide) (by decide) (by decide) fun wv Z5 o=>?_;rw [kK] at o;rw [aD,ae,ax];refine o.aw (b:=cb) (f:=0+3) (w:=tv) ?_;refine(o.cf (v:=tv)).df (mS E) ?_;have Xq:E.length≤400:=by simp at IS;omega
 refine⟨fun i H' => ∃ (k:Nat) (ws:List Int),i= .int .i64 k∧k≤E.length∧QM (E.take k) ws∧au H0 H' (.sl wv 1 (aP ws):: .sl tv 3 (kg E):: .box cb [px,py,.pointer none,tv,i64 a,i64 n,.int .i64 0] 232:: .aE (lM M2):: .aE (lM M1)::L),
  fun i _=>match i with| .int _ x=> (E.length - x).toNat|_=>0,⟨0,List.replicate 19 0,rfl,by omega,⟨ajB,?_,fun e he=>by simp at he,rfl⟩,o⟩,?_⟩
 ·intro q hq;rw [amK hq,akD];decide
 rintro _ _ OF ⟨k,ws,rfl,hk,cw,o⟩;rw [aO];refine av (fun hc=>?_) (fun hc=>?_)
 ·refine QO (tv:=tv) hT.sym Xq (by omega) cw o (by repeat(first|exact aiX|apply aiW)) fun Z3 Xm cw' o' =>?_
  rw [ay,aJ];exact⟨⟨k+1,Z3,rfl,by omega,cw',o'⟩,by show (_:Int).toNat< (_:Int).toNat;omega⟩
 have hkE:k=E.length:=by omega
 rw [hkE,ajc] at cw;have EE:=cw.wl;have IM:=jR ws ws.length;obtain⟨e0,Vq⟩: ∃e,e∈E:=by
  cases E with
  |nil=>
   have: []=x++y:=hT;have:=congrArg List.length this;rw [aiV] at this
   simp at this;omega
  |cons e E=>exact⟨e,by simp⟩
 refine xZ (m:=7) (o.cf (v:=wv)) (by omega) (by omega) (oQ.2 fun z hz=>by have:=cw.wr z hz;omega) (by decide) (by decide) (by omega) (HE (s:=e0.1) (by have:=cw.wt e0 Vq;omega)) fun zv z Xm sz oz=>?_;have o:=o.call oz;have Nl:=sz.len;have hrz:=sz.rng;have hzw:ia z false=0:=Bb (Kq (by omega) fun s=>by have:=hrz s;omega) sz.share;refine ir (loose:=false) o (o.cf (v:=zv)) (by omega) (fun H' hw _=>absurd hzw hw) fun H18 M3 pz _ hM3 o=>?_;have o:=l6 o;refine ai (vs:= [pz,.int .i64 0]) rfl ?_;refine ai (vs:= [pz,.int .i64 0]) rfl ?_;rw [aD,ae,ax];refine o.eV (b:=cb) (f:=0+2) (x:=pz) (by repeat(first|exact aiX|apply aiW)) (by simp) hM3.VO (by repeat(first|exact cx.here|apply cx.there)) fun H19 o _=>?_;rw [aD,ae,ax];refine o.eV (b:=cb) (f:=0+6) (x:= .int .i64 19) (by repeat(first|exact aiX|apply aiW)) (by simp) rfl (by repeat(first|exact cx.here|apply cx.there)) fun H20 o _=>?_;have hhz: ∀e∈E,pX z e.1:=fun e he=>by
  have h1:=cw.wt e he;have h2:=sz.has e.1 (by omega);have h3:=hT.sym e he;exact⟨by omega,by rw [iQ];omega⟩
 refine⟨fun H' => ∃c:Nat,4≤c∧c≤19∧(∀j,c≤j→j<19→z.getD (bF.getD j 0) 0=0)∧au H0 H' (.aE (lM M3):: .sl zv 1 (aP z):: .sl wv 1 (aP ws):: .sl tv 3 (kg E):: .box cb [px,py,pz,tv,i64 a,i64 n,i64 c] 232:: .aE (lM M2):: .aE (lM M1)::L),
  fun H' =>QL H' cb 6,⟨19,by decide,by decide,fun j h1 h2=>by omega,o⟩,?_⟩
 rintro _ VM ⟨c,ZU,VZ,D5,o⟩;rw [aD,ae,ax];refine o.aw (b:=cb) (f:=0+6) (w:=i64 c) ?_;have fin: (∀j,c≤j→j<19→z.getD (bF.getD j 0) 0=0)→(4<c→z.getD (bF.getD (c - 1) 0) 0≠0)→R (.pointer (some ⟨cb,0,none⟩)) VM:=fun D5 hz9=>by
  have o:au H0 VM (.sl zv 1 (aP z):: .sl wv 1 (aP ws):: .aE (lM M1):: .aE (lM M2):: .aE (lM M3):: .sl tv 3 (kg E):: .box cb [px,py,pz,tv,i64 a,i64 n,i64 c] 232::L):=o.cY;have o1:=kh o.tl.tl;have o2:=o1.perm (L' := .aE (lM M2):: (M1++ (.aE (lM M3):: .sl tv 3 (kg E):: .box cb [px,py,pz,tv,i64 a,i64 n,i64 c] 232::L))) alD.symm;have o3:=kh o2;have o4:au H0 VM (.aE (lM M3):: (M2++ (M1++ (.sl tv 3 (kg E):: .box cb [px,py,pz,tv,i64 a,i64 n,i64 c] 232::L)))):=o3.perm (by
   rw [←ai0,←ai0];exact alD.symm)
  have o5:=kh o4;refine h VM (M3++ (M2++ (M1++ [.sl tv 3 (kg E),.box cb [px,py,pz,tv,i64 a,i64 n,i64 c] 232]))) cb px py pz tv x y z E c (hM1.mono fun i hi=>by simp [hi]) (hM2.mono fun i hi=>by simp [hi]) (hM3.mono fun i hi=>by simp [hi]) (by simp) (by rw [GO,Cf];simp)
   ⟨by omega,by omega,by omega,by omega,ZU,VZ,by omega,fun s=>by have:=hrz s;omega,D5,hzw,kX hzw,hT,hhz,by omega,Xr,hyw⟩ ⟨hDx,hDy,hPk,by rw [←cw.ex];exact sz.ex,ZU,VZ,D5,hz9⟩ ⟨by omega,by rw [iQ];omega⟩ Sb ?_
  simpa [ai0] using o5
 rw [bc]
 by_cases hc:4<c
 ·rw [nR]
  refine bs ?_;rw [aD,ae,ax];refine o.aw (b:=cb) (f:=0+6) (w:=i64 c) ?_;rw [bq,aJ,iq];refine⟨by omega,by omega,?_⟩;have gY:= (hG.ext o.ext) (c - 1) _ (rl (by omega));rw [ax,ajb] at gY;rw [ax,show 0+ ((c:Int) - 1).toNat*1=c - 1 by omega,bo gY];have cL:=wT ⟨c - 1,by omega⟩
  dsimp only at cL
  have R_:=o.cf (v:=zv);have Z6:z.getD (bF.getD (c - 1) 0) 0=z[bF.getD (c - 1) 0]'(by omega):=by rw [ai3,ai1 (by omega)];rfl
  refine R_.at_ (n:=z.length) (by rw [aV];omega) (by decide) (by omega) (by omega) fun p hp=>?_;refine hp.load R_ (w:= .int .i64 (z[bF.getD (c - 1) 0]'(by omega))) (by rw [aiY,ai5,cm (by omega)]) ?_;rw [aZ];intro _;refine av (fun he=>?_) (fun he=>fin D5 fun _=>by rw [Z6];exact he);rw [aD,ae,ax];refine o.aw (b:=cb) (f:=0+6) (w:=i64 c) ?_;rw [bq,aJ,aD,ae,ax];have m1:=HD (o.j8 (b:=cb) (cs:= [px,py,pz,tv,i64 a,i64 n,i64 c]) (t:=232)) (f:=6) (k:= .i64) (x:=c) rfl;refine o.eV (b:=cb) (f:=0+6) (x:= .int .i64 ((c:Int) - 1)) (by repeat(first|exact aiX|apply aiW)) (by simp) rfl (by repeat(first|exact cx.here|apply cx.there)) fun H22 o2 _=>?_;rw [show (c:Int) - 1= ((c - 1:Nat):Int) by omega] at o2;have m2:=HD (o2.j8 (b:=cb) (cs:= [px,py,pz,tv,i64 a,i64 n,i64 (c - 1:Nat)]) (t:=232)) (f:=6) (k:= .i64) (x:= (c - 1:Nat)) rfl;refine⟨⟨c - 1,by omega,by omega,fun j h1 h2=>?_,o2⟩,by dsimp only;rw [m1,m2];omega⟩
  by_cases e:j=c - 1
  ·subst e;rw [Z6];exact he
  ·exact D5 j (by omega) h2
 ·rw [ei,dO]
  intro _;rw [ak];exact fin D5 fun g=>absurd g hc
end
section
variable {H H0 H' :ag} {R:Value→ag→Prop} {v:Value} {L:List It} {zs:List Int} {b:WP} {B:List Bool}
theorem QQ {a c k:Nat} (h:a<2 ^ k):a|||2 ^ k*c=a+2 ^ k*c:=by
 rw [alo,←ams h];omega
theorem LS: ∀ (E:List Ex) (k:Nat) (hk:k<E.length),((kg E).drop (k*3)).take 3=FJ (E[k])
 | [],k,hk=>by simp at hk
 |e::E,0,hk=>rfl
 |e::E,k+1,hk=>by
  rw [show kg (e::E)=FJ e++kg E from rfl,show (k+1)*3=3+k*3 by omega,←ajK];exact LS E k (by simpa using hk)
theorem wW: ∀ {es:List Ex} {out l:List Int},Told out es l→∀e∈es,e.2.1≤7∧e.2.2<128
 | [],out,l,h,e,he=>by simp at he
 |u::es,out,l,h,e,he=>by
  rcases ajd.1 he with rfl|he
  ·rcases h.1 with h|h|h|h<;>omega
  ·exact wW h.2 e he
theorem NK {dv pt tv q0 q1:Value} {cb c:Nat} {x y z:List Int} {E:List Ex} (hG:Reads H0 ⟨0,0,none⟩ fY) (d:xQ x y z E c) (yL:It.box cb [q0,q1,pt,tv,i64 x.length,i64 y.length,i64 c] 232∈L) (hz:fX L z pt) (ht:It.sl tv 3 (kg E)∈L)
  (eU:B.length≤500000000) (o:au H0 H (.aE (lD b dv B)::L)) (h: ∀H' jV,au H0 H' (.aE (lD b jV (B++rh x y z E c))::L)→R (.tuple #[]) H'):
  ab 122 #[.pointer (some ⟨cb,0,none⟩),b.at] H R:=by
 have a1:=d.a1;have a2:=d.a2;have b1:=d.b1;have b2:=d.b2;have c1:=d.c1;have c2:=d.c2;have zl:=d.zl;have IS:=d.told.len;rw [aiV] at IS;have Xq:E.length≤316:=by simp at IS;omega
 refine wi.vc _ _ _ _ ?_;rw [aD,ae,ax];refine o.dc (b:=cb) (f:=0+4) (cs:= [q0,q1,pt,tv,i64 x.length,i64 y.length,i64 c]) (t:=232) (w:=i64 x.length) (by simp [yL]) rfl ?_;rw [bq,aJ,cP,cF (by omega) (by omega),aD,ae,ax];refine o.dc (b:=cb) (f:=0+5) (cs:= [q0,q1,pt,tv,i64 x.length,i64 y.length,i64 c]) (t:=232) (w:=i64 y.length) (by simp [yL]) rfl ?_;rw [bq,aJ,cP,cF (by omega) (by omega),fB];refine⟨by decide,?_⟩;rw [show min (5:Int).toNat IntKind.u64.bits=5 from rfl,show ((y.length:Int) - 1)*2 ^ 5= ((2 ^ 5* (y.length - 1):Nat):Int) by omega,cF (by omega) (by omega),show (x.length:Int) - 257= ((x.length - 257:Nat):Int) by omega,cu,wg (by omega) (by omega),QQ (by omega)];rw [aD,ae,ax];refine o.dc (b:=cb) (f:=0+6) (cs:= [q0,q1,pt,tv,i64 x.length,i64 y.length,i64 c]) (t:=232) (w:=i64 c) (by simp [yL]) rfl ?_;rw [bq,aJ,cP,cF (by omega) (by omega),fB];refine⟨by decide,?_⟩;rw [show min (10:Int).toNat IntKind.u64.bits=10 from rfl,show ((c:Int) - 4)*2 ^ 10= ((2 ^ 10* (c - 4):Nat):Int) by omega,cF (by omega) (by omega),cu,wg (by omega) (by omega),QQ (by omega)];refine p7 (n:=x.length - 257+2 ^ 5* (y.length - 1)+2 ^ 10* (c - 4)) (k:=14) (by omega) (by omega) (by omega) o fun H1 LN o=>?_;rw [aD,ae,ax];refine o.dc (b:=cb) (f:=0+2) (cs:= [q0,q1,pt,tv,i64 x.length,i64 y.length,i64 c]) (t:=232) (w:=pt) (by simp [yL]) rfl ?_;obtain⟨hzo,kb,lv,wv,sv,rfl,hm⟩:=hz;have hz:fX L z (.pointer (some ⟨kb,0,none⟩)):= ⟨hzo,kb,lv,wv,sv,rfl,hm⟩;refine MN o (lv:=lv) (wv:=wv) (sv:=sv) (aiW _ (hm (.box kb (cn lv wv (cI (natL z)) sv) 285) aiX)) (aiW _ (hm (.sl lv 1 (aP z)) (by simp [pI]))) (by omega) fun yv H2 ov=>?_;have o:=o.call ov;have o:au H0 H2 (.aE (lD b LN (B++a_ (x.length - 257+2 ^ 5* (y.length - 1)+2 ^ 10* (c - 4)) 14)):: .sl yv 1 (aP z)::L):=o.cY;generalize Z7:B++a_ (x.length - 257+2 ^ 5* (y.length - 1)+2 ^ 10* (c - 4)) 14=B1 at o;have agv:B1.length=B.length+14:=by rw [←Z7,aiV,aX]
 rw [aD,ae,ax];refine o.dc (b:=cb) (f:=0+6) (cs:= [q0,q1,.pointer (some ⟨kb,0,none⟩),tv,i64 x.length,i64 y.length,i64 c]) (t:=232) (w:=i64 c) (by simp [yL]) rfl ?_;rw [Gf,eD];refine⟨by omega,by omega,?_⟩;rw [aiY,ajO,if_neg (by decide),ax,qK];refine⟨fun u H' => ∃ (i:Nat) (jV :Value),u=i64 i∧i≤c∧au H0 H' (.aE (lD b jV (B1++nA z (bF.take i))):: .sl yv 1 (aP z)::L),fun u _=>match u with| .int _ i=> (c - i).toNat|_=>0,⟨0,LN,rfl,by omega,by simpa [nA] using o⟩,?_⟩;rintro _ _ H3 ⟨i,Tw,rfl,hi,o⟩;have EX: ∀i,(nA z (bF.take i)).length≤3*19:=fun i=>by
  have: ∀l:List Nat,(nA z l).length=3*l.length:=fun l=>by
   induction l with
   |nil=>rfl
   |cons s l ih=>unfold nA at ih ⊢;rw [akx,aiV,ih,aX,ai6];omega
  rw [this,ai2];have:bF.length=19:=rfl;omega
 rw [aO];refine av (fun rN=>?_) (fun rN=>?_)
 ·have YI:i<c:=by omega
  rw [mE];refine⟨by omega,by omega,?_⟩;have gY:= (hG.ext o.ext) i _ (rl (by omega));rw [ax,ajb] at gY;rw [ax,aiY,show 0+0+i*1=i by omega,bo gY];have cL:=wT ⟨i,by omega⟩
  dsimp only at cL
  have R_:=o.cf (v:=yv);have hz7:=d.z7 (bF.getD i 0);have Z6:z.getD (bF.getD i 0) 0=z[bF.getD i 0]'(by omega):=by rw [ai3,ai1 (by omega)];rfl
  refine R_.at_ (n:=z.length) (by rw [aV];omega) (by decide) (by omega) (by omega) fun p hp=>?_;refine hp.load R_ (w:= .int .i64 (z.getD (bF.getD i 0) 0)) (by rw [aiY,ai5,cm (by omega),Z6]) ?_;rw [cP,cF (by omega) (by omega),show z.getD (bF.getD i 0) 0= (((z.getD (bF.getD i 0) 0).toNat:Nat):Int) by omega];refine p7 (n:= (z.getD (bF.getD i 0) 0).toNat) (k:=3) (by omega) (by omega) (by rw [aiV];have:=EX i;omega) o fun H4 Sc o=>?_;rw [ay,aJ];refine⟨⟨i+1,Sc,rfl,by omega,?_⟩,by show (_:Int).toNat< (_:Int).toNat;omega⟩;have e:nA z (bF.take (i+1))=nA z (bF.take i)++a_ (z.getD (bF.getD i 0) 0).toNat 3:=by
   have hio:i<bF.length:=by show i<19;omega
   unfold nA;rw [ajr,ai1 hio,alX,ai3 (l:=bF),ai1 hio]
   simp
  rw [e,←ai0];exact o
 ·have YI:i=c:=by omega
  rw [YI] at o;rw [aD,ae,ax];refine o.dc (b:=cb) (f:=0+3) (cs:= [q0,q1,.pointer (some ⟨kb,0,none⟩),tv,i64 x.length,i64 y.length,i64 c]) (t:=232) (w:=tv) (by simp [yL]) rfl ?_;have o:= (o.Ah (L' := .sl yv 1 (aP z):: .aE (lD b Tw (B1++nA z (bF.take c)))::L) (by repeat(first|exact fK.refl|exact dD.here|apply fK.cons|apply dD.there))).tl;have hB2:=EX c;generalize hT2:nA z (bF.take c)=T2 at o hB2;refine(o.sl (v:=tv) (aiW _ ht)).df (mS E) ?_;refine⟨fun u H' => ∃ (k:Nat) (jV :Value),u=i64 k∧k≤E.length∧((E.take k).flatMap (yJ z)).length≤30*k∧au H0 H' (.aE (lD b jV (B1++T2++ (E.take k).flatMap (yJ z)))::L),fun u _=>match u with| .int _ k=> (E.length - k).toNat|_=>0,⟨0,Tw,rfl,by omega,by simp,by simpa using o⟩,?_⟩;rintro _ _ H5 ⟨k,Z8,rfl,hk,eF,o⟩;rw [aO];refine av (fun gE=>?_) (fun gE=>?_)
  ·have e_:k<E.length:=by omega
   have ft:=LS E k e_;have lR: (E.take (k+1)).flatMap (yJ z)= (E.take k).flatMap (yJ z)++yJ z E[k]:=by rw [ajr,ai1 e_,alX];simp
   have hbt:=wW d.told _ (ai9 e_);have YS:=d.has _ (ai9 e_);generalize E[k]=e at ft lR hbt YS;generalize (E.take k).flatMap (yJ z)=X at o eF lR;have hw:=iR hzo e.1;have iJ:=o.sl (v:=tv) (aiW _ ht);refine iJ.gG (mS E) fun p hp=>?_;rw [aiY] at hp;refine hp.fZ iJ (ws:=FJ e) ft rfl ?_;refine o.box fun tb H6 o _=>?_;refine o.cz (vs:=FJ e) fun H7 o _=>?_;rw [aD,ae,ax];refine o.dc (b:=cb) (f:=0+2) (cs:= [q0,q1,.pointer (some ⟨kb,0,none⟩),tv,i64 x.length,i64 y.length,i64 c]) (t:=232) (w:= .pointer (some ⟨kb,0,none⟩)) (by simp [yL]) rfl ?_;rw [ae,ax];refine o.aw (b:=tb) (f:=0+0) (w:= .int .i64 (e.1:Nat)) ?_;have o:=o.Ah (L' := .aE (lD b Z8 (B1++T2++X)):: .box tb (FJ e) 237::L) (by repeat(first|exact fK.refl|exact dD.here|apply fK.cons|apply dD.there));refine lE (s:=e.1) hz.cons YS (by simp only [aiV];omega) o fun H8 dv8 o=>?_;rw [ae,ax];refine o.aw (b:=tb) (f:=0+2) (w:= .int .u64 (e.2.2:Nat)) ?_;rw [ae,ax];refine o.aw (b:=tb) (f:=0+1) (w:= .int .i64 (e.2.1:Nat)) ?_;refine p7 (n:=e.2.2) (k:=e.2.1) (by omega) (by omega) (by simp only [aiV];omega) o fun H9 dv9 o=>?_;rw [ay,aJ];have ee:yJ z e=cT (natL z) e.1++a_ e.2.2 e.2.1:=rfl;refine⟨⟨k+1,dv9,rfl,by omega,by rw [lR,ee];simp only [aiV,aX];omega,?_⟩,by show (_:Int).toNat< (_:Int).toNat;omega⟩;rw [lR,ee];simp only [ai0] at o ⊢;exact o.pick (List.Sublist.cons_cons _ (List.Sublist.cons _ (ako _)))
  ·have hkE:k=E.length:=by omega
   rw [hkE,ajc] at o;refine h H5 Z8 ?_;unfold rh;rw [show x.length - 257+32* (y.length - 1)+1024* (c - 4)=x.length - 257+2 ^ 5* (y.length - 1)+2 ^ 10* (c - 4) from rfl,hT2,←ai0,Z7,←ai0];exact o
end
section
variable {H H0 H' :ag} {R:Value→ag→Prop} {v:Value} {L:List It} {zs:List Int} {b:WP} {B:List Bool}
theorem NL {t:Tok} (hg:fL t=true) (h: ∀H',Ext H H' →R (.bool false) H'):ab 158 #[t.v] H R:=by
 refine Ej.vc _ _ _ ?_;refine(au.start (H:=H)).box fun tb H1 o _=>?_;refine o.bh ?_;refine EH (t:=t) fun H2 hx=>?_;rw [hg,dq];exact h H2 (o.ext.trans hx)
theorem E5 {G:List Tok} {lv:Value} (hs:Sl H lv 3 (dw G)) (hlen:G.length≤65535) (hg: ∀t∈G,fL t=true) (h: ∀H',Ext H H' →R (.bool false) H'):
  ab 160 #[lv,.func (.func 158) #[] #[]] H R:=by
 have dg:=iX G;refine iF.vc _ _ _ _ ?_;refine jf.vc _ _ _ _ ?_;refine hs.df dg ?_;refine⟨fun i H' => ∃k:Nat,i= .int .i64 k∧k≤G.length∧Ext H H',fun i _=>match i with| .int _ x=> (G.length - x).toNat|_=>0,⟨0,rfl,by omega,Ext.refl _⟩,?_⟩;rintro _ _ H1 ⟨k,rfl,hk,hx⟩;rw [aO];refine av (fun hc=>?_) (fun hc=>?_)
 ·have e_:k<G.length:=by omega
  have ft:=u0 G k _ (ai1 e_);have Us:=hg _ (ai9 e_);generalize G[k]=t at ft Us;refine(hs.ext hx).gG dg fun p hp=>?_;rw [aiY] at hp;refine hp.fZ (hs.ext hx) (ws:=t.cells) ft rfl ?_;refine rZ (by kernel_rfl) ?_;refine NL (t:=t) Us fun H2 ea=>?_;rw [ak,ay,aJ];exact⟨⟨k+1,rfl,by omega,hx.trans ea⟩,by show (_:Int).toNat< (_:Int).toNat;omega⟩
 ·show jz _ _ _
  rw [dH,qO];exact h H1 hx
theorem vo {G:List Tok} {lv:Value} {s:List UInt8} {kind:Nat} (hk:kind<3) (iJ:s.length≤65535) (hs:Sl H lv 3 (dw G)) (hlen:G.length≤65535) (hg: ∀t∈G,fL t=true) (h: ∀H',Ext H H' →R (.bool true) H'):
  ab 115 #[.int .i64 (kind:Int),str s,lv] H R:=by
 have dg:=iX G;refine MJ.vc _ _ _ _ _ ?_;rw [dH,nR];refine bs ?_;rw [aO,nR];intro _;refine bs ?_;refine aC ?_;rw [gZ,nR];intro _;refine bs ?_;refine hs.df dg ?_;rw [gZ,nR];intro _;refine bs ?_;refine E5 hs hlen hg fun H1 hx=>?_;rw [dq];intro _;exact h H1 hx
theorem zk {α β:Type} {f:α→List β} {k:Nat}: ∀ {l:List α},(∀x∈l,(f x).length≤k)→(l.flatMap f).length≤k*l.length
 | [],h=>by simp
 |a::l,h=>by
  have h1:=h a (by simp);have h2:=zk (l:=l) fun x hx=>h x (by simp [hx]);rw [akx,aiV,ai6,Nat.mul_succ];omega
theorem Bh {x y z:List Int} {E:List Ex} {c:Nat} (d:xQ x y z E c): (rh x y z E c).length≤20000:=by
 have IS:=d.told.len;have a2:=d.a2;have b2:=d.b2;have c2:=d.c2;rw [aiV] at IS;have Xq:E.length≤316:=by simp at IS;omega
 have h1: (nA z (bF.take c)).length≤3* (bF.take c).length:=zk fun s _=>by rw [aX];omega
 have h2: (E.flatMap (yJ z)).length≤30*E.length:=zk fun e he=>by
  have:=wW d.told e he;have:=iR d.zok e.1;unfold yJ;rw [aiV,aX];omega
 have h3: (bF.take c).length≤19:=by rw [ai2];show min c 19≤19;omega
 unfold rh;rw [aiV,aiV,aX];omega
theorem YT (l:Bool):a_ (4+ (if l then 1 else 0)) 3= [l,false,true]:=by cases l<;>rfl
theorem DB {G:List Tok} {lv dv:Value} {s:List UInt8} {l:Bool} (hG:Reads H0 ⟨0,0,none⟩ fY) (iJ:s.length≤65535) (hl:It.sl lv 3 (dw G)∈L) (hlen:G.length≤65535) (hg: ∀t∈G,fL t=true) (eU:B.length≤400000000)
  (o:au H0 H (.aE (lD b dv B)::L))
  (h: ∀H' jV x y z E c,xQ x y z E c→NJ G x y z E c→pX x 256→qz x→qz y→(∀t∈G,ve x y t)→au H0 H' (.aE (lD b jV (B++ (l::false::true:: (rh x y z E c++gh x y G))))::L)→R (.int .i64 0) H'):
  ab 69 #[b.at,.int .i64 2,.bool l,str s,lv] H R:=by
 refine q_.vc _ _ _ _ _ _ _ ?_;rw [fC];refine aM ?_;refine vo (kind:=2) (by decide) iJ (o.sl (v:=lv) (aiW _ hl)) hlen hg fun H1 jg=>?_;rw [dq];intro _;show aq (.bool false) _ _;rw [ak,cP,cF (by decide) (by decide),fB];refine⟨by decide,?_⟩;have o1:=o.more jg;refine⟨fun hd H' =>hd= .int .u64 ((4+ (if l then 1 else 0):Nat):Int)∧H1=H',?_,?_⟩
 ·rintro _ _ _ ⟨rfl,rfl⟩
  refine p7 (n:=4+ (if l then 1 else 0)) (k:=3) (by split<;>omega) (by decide) (by omega) o1 fun H3 Tw o=>?_;rw [aZ,qO,ak,aZ,qO,ak,];refine QP hG (o.sl (v:=lv) (aiW _ hl)) hlen hg o fun H4 M cb ps pd pt tv x y z E c hx hy hz ht yL d dx p8 Sb o=>?_;have o:=o.perm (L' := .aE (lD b Tw (B++a_ (4+ (if l then 1 else 0)) 3)):: (M++L)) alD.symm;have OA:=hx.1;have YU:=hy.1;refine NK hG d (akq _ yL) hz.nH (akq _ ht) (by rw [aiV,aX];omega) o fun H5 Z8 o=>?_;refine x9 (sy:=x) (di:=y) (akJ _ hl) (akq _ yL) hx.nH hy.nH p8 (fun t ht=> ⟨hg t ht,Sb t ht⟩) hlen (by have:=Bh d;rw [aiV,aiV,aX];omega) o fun H6 Uu o=>?_;refine h H6 Uu x y z E c d dx p8 OA YU Sb ?_;rw [YT] at o;simp only [ai0,ake,aje] at o ⊢;exact o.pick (List.Sublist.cons_cons _ (ak0 M L))
 ·rw [show IntKind.u64.wrap (2*2 ^ (min (1:Int).toNat IntKind.u64.bits))=4 from rfl]
  cases l
  ·rw [ak];exact⟨rfl,rfl⟩
  ·rw [aL,cu];exact⟨rfl,rfl⟩
end
end Go.Proofs.YtpcgccdmmoggmaaGreatDoor

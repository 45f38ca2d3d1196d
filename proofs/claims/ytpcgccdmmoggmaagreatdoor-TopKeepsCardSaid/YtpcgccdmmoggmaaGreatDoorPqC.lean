/- Part 3 of the proof of RowTopKeeps: what it is built on, in the order of its needs. -/
import Derived.Test.YtpcgccdmmoggmaaGreatDoorPqB
set_option linter.unusedSimpArgs false
set_option linter.unusedVariables false
namespace Go.Proofs.YtpcgccdmmoggmaaGreatDoor
open Go Go.Vc Go.Proofs
section
set_option maxHeartbeats 4000000
set_option maxRecDepth 100000
variable [Go.Vc.Mode] (H0:ai) (R:Value→ai→Prop)
theorem uu.vc (h:
 aT [(.int .i64 0),(.int .i64 0)] [(0,1,(.int .i64 8)),(1,1,(.int .i64 144))] fun a=>aT [(.int .i64 0),(.int .i64 0)] [(0,1,(.int .i64 9)),(1,1,(.int .i64 256))] fun b=>aT [(.int .i64 0),(.int .i64 0)] [(0,1,(.int .i64 7)),(1,1,(.int .i64 280))] fun c=>aT [(.int .i64 0),(.int .i64 0)] [(0,1,(.int .i64 8)),(1,1,(.int .i64 288))] fun d=>aT [(.int .i64 0),(.int .i64 0),(.int .i64 0),(.int .i64 0),(.int .i64 0),(.int .i64 0),(.int .i64 0),(.int .i64 0)] [(0,2,a),(2,2,b),(4,2,c),(6,2,d)] fun a=> ∃ (b:Value→Value→ai→Prop) (c:Value→Value→ai→Nat),b (.slice none 0 0) (.int .i64 0) H0∧∀ (_:Env) (d e:Value) (f:ai),b d e f→cq e (.int .i64 4) fun g=>ao g (jV 4 2 a e fun a=>bs f 227 (.agg #[(.int .i64 0),(.int .i64 0)]) fun g h=>aC h 2 g a fun _ a=> ∃ (h:Value→ai→Prop) (i:Value→ai→Nat),h d a∧∀ (_:Env) (a:Value) (j:ai),h a j→bV a fun k=>aa 1 g fun l=>ak j l fun l=>cq k l fun k=>ao k (aa 0 g fun g=>ak j g fun g=>aY j 3 1 [(.int .i64 0)] [(0,1,g)] fun g k=>bj k 3 1 8 [(.int .i64 0)] a g fun g k=>h g k∧i g k<i a j) (aG e (.int .i64 1) fun g=>b a g j∧c a g j<c d e f)) (∃ (a:Value→Value→ai→Prop) (b:Value→Value→ai→Nat),a (.slice none 0 0) (.int .i64 0) f∧∀ (_:Env) (c e:Value) (f:ai),a c e f→cq e (.int .i64 32) fun g=>ao g (aY f 3 1 [(.int .i64 0)] [(0,1,(.int .i64 5))] fun g h=>bj h 3 1 8 [(.int .i64 0)] c g fun g h=>aG e (.int .i64 1) fun i=>a g i h∧b g i h<b c e f) (aT [(.pointer none),(.pointer none),(.pointer none),(.slice none 0 0),(.int .i64 0),(.int .i64 0),(.int .i64 0)] [] fun a=>bs f 232 a fun a b=>ab 162 #[d,(.bool false)] b fun b d=>aq 0 b fun e=>aq 1 b fun _=>aB a fun b=>aa 0 b fun b=>aF d b e fun _ b=>ab 162 #[c,(.bool false)] b fun b c=>aq 0 b fun d=>aq 1 b fun _=>aB a fun b=>aa 1 b fun b=>aF c b d fun _ b=>R a b))):ab 119 #[] H0 R:=bD 0x102a19a19a3a29496300531a52e02202e022761a3296960055a3191c012011763a6300531a1d602013019012766a32a1a Tryz.func119 h
theorem rC.vc (a b c:Value) (h:
 bV c fun d=> ∃ (e:Value→ai→Prop) (f:Value→ai→Nat),e (.int .i64 0) H0∧∀ (_:Env) (g:Value) (h:ai),e g h→cq g d fun d=>ao d (aI 3 c g fun c=>aE h 3 c fun c=>bs h 145 (.agg #[(.int .u8 0),(.int .i64 0),(.int .i64 0)]) fun d i=>aC i 3 d c fun _ c=>aa 1 d fun i=>ak c i fun i=>cu 0 i (.int .i64 0) fun i=>ao i (aB a fun i=>aa 0 i fun i=>ak c i fun i=>aa 0 d fun j=>ak c j fun j=>bm .i64 j fun j=>ab 163 #[i,b,j] c fun _ i=>aG g (.int .i64 1) fun j=>e j i∧f j i<f g h) (∃i:Value→Value→ai→Prop,(∀ (_:Env) (j k:Value) (l:ai),i j k l→aB a fun m=>aa 0 m fun m=>ak l m fun m=>aa 0 j fun n=>ak l n fun n=>ab 163 #[m,b,n] l fun _ l=>aa 2 j fun m=>ak l m fun m=>aa 1 j fun j=>ak l j fun j=>ab 116 #[b,m,j] l fun _ j=>aB a fun l=>aa 1 l fun l=>ak j l fun l=>aa 0 k fun m=>ak j m fun m=>ab 163 #[l,b,m] j fun _ j=>aa 2 k fun l=>ak j l fun l=>aa 1 k fun k=>ak j k fun k=>ab 116 #[b,l,k] j fun _ j=>aG g (.int .i64 1) fun k=>e k j∧f k j<f g h)∧aa 1 d fun e=>ak c e fun f=>aa 2 d fun d=>ak c d fun g=> (ab 164 #[f] c fun j k=> (ak k d fun l=>l=g)∧(ab 165 #[g] k fun l m=> (bs m 237 (.agg #[(.int .i64 0),(.int .i64 0),(.int .u64 0)]) fun n o=> (ak o e fun p=>p=f)∧(ak o d fun p=>p=g)∧bs o 237 (.agg #[(.int .i64 0),(.int .i64 0),(.int .u64 0)]) fun o p=> (ak p e fun q=>q=f)∧(ak p d fun q=>q=g)∧aC p 3 n j fun _ p=>aC p 3 o l fun _ p=>i n o p)∧(bs m 237 (.agg #[(.int .i64 0),(.int .i64 0),(.int .u64 0)]) fun m n=> (ak n e fun o=>o=f)∧(ak n d fun o=>o=g)∧bs n 237 (.agg #[(.int .i64 0),(.int .i64 0),(.int .u64 0)]) fun n o=> (ak o e fun p=>p=f)∧(ak o d fun p=>p=g)∧aC o 3 n j fun _ o=>aC o 3 m l fun _ l=>i n m l))∧((bs k 237 (.agg #[(.int .i64 0),(.int .i64 0),(.int .u64 0)]) fun l m=> (ak m e fun n=>n=f)∧(ak m d fun n=>n=g)∧(ab 165 #[g] m fun n o=>bs o 237 (.agg #[(.int .i64 0),(.int .i64 0),(.int .u64 0)]) fun o p=> (ak p e fun q=>q=f)∧(ak p d fun q=>q=g)∧aC p 3 l j fun _ p=>aC p 3 o n fun _ n=>i l o n)∧(bs m 237 (.agg #[(.int .i64 0),(.int .i64 0),(.int .u64 0)]) fun m n=> (ak n e fun o=>o=f)∧(ak n d fun o=>o=g)∧ab 165 #[g] n fun n o=>aC o 3 l j fun _ o=>aC o 3 m n fun _ n=>i l m n))∧(bs k 237 (.agg #[(.int .i64 0),(.int .i64 0),(.int .u64 0)]) fun k l=> (ak l e fun m=>m=f)∧(ak l d fun m=>m=g)∧(ab 165 #[g] l fun m n=>bs n 237 (.agg #[(.int .i64 0),(.int .i64 0),(.int .u64 0)]) fun n o=> (ak o e fun p=>p=f)∧(ak o d fun p=>p=g)∧aC o 3 n j fun _ o=>aC o 3 k m fun _ m=>i n k m)∧(bs l 237 (.agg #[(.int .i64 0),(.int .i64 0),(.int .u64 0)]) fun l m=> (ak m e fun n=>n=f)∧(ak m d fun n=>n=g)∧ab 165 #[g] m fun m n=>aC n 3 l j fun _ j=>aC j 3 k m fun _ j=>i l k j))))∧((bs c 237 (.agg #[(.int .i64 0),(.int .i64 0),(.int .u64 0)]) fun j k=> (ak k e fun l=>l=f)∧(ak k d fun l=>l=g)∧(ab 164 #[f] k fun l m=> (ak m d fun n=>n=g)∧(ab 165 #[g] m fun n o=>bs o 237 (.agg #[(.int .i64 0),(.int .i64 0),(.int .u64 0)]) fun o p=> (ak p e fun q=>q=f)∧(ak p d fun q=>q=g)∧aC p 3 j l fun _ p=>aC p 3 o n fun _ n=>i j o n)∧(bs m 237 (.agg #[(.int .i64 0),(.int .i64 0),(.int .u64 0)]) fun m n=> (ak n e fun o=>o=f)∧(ak n d fun o=>o=g)∧ab 165 #[g] n fun n o=>aC o 3 j l fun _ l=>aC l 3 m n fun _ l=>i j m l))∧(bs k 237 (.agg #[(.int .i64 0),(.int .i64 0),(.int .u64 0)]) fun k l=> (ak l e fun m=>m=f)∧(ak l d fun m=>m=g)∧ab 164 #[f] l fun l m=> (ak m d fun n=>n=g)∧ab 165 #[g] m fun m n=>aC n 3 j l fun _ l=>aC l 3 k m fun _ l=>i j k l))∧(bs c 237 (.agg #[(.int .i64 0),(.int .i64 0),(.int .u64 0)]) fun c j=> (ak j e fun k=>k=f)∧(ak j d fun k=>k=g)∧(ab 164 #[f] j fun k l=> (ak l d fun m=>m=g)∧(ab 165 #[g] l fun m n=>bs n 237 (.agg #[(.int .i64 0),(.int .i64 0),(.int .u64 0)]) fun n o=> (ak o e fun p=>p=f)∧(ak o d fun p=>p=g)∧aC o 3 n k fun _ o=>aC o 3 c m fun _ m=>i n c m)∧(bs l 237 (.agg #[(.int .i64 0),(.int .i64 0),(.int .u64 0)]) fun l m=> (ak m e fun n=>n=f)∧(ak m d fun n=>n=g)∧ab 165 #[g] m fun m n=>aC n 3 l k fun _ k=>aC k 3 c m fun _ k=>i l c k))∧(bs j 237 (.agg #[(.int .i64 0),(.int .i64 0),(.int .u64 0)]) fun j k=> (ak k e fun e=>e=f)∧(ak k d fun e=>e=g)∧ab 164 #[f] k fun e f=> (ak f d fun d=>d=g)∧ab 165 #[g] f fun d f=>aC f 3 j e fun _ e=>aC e 3 c d fun _ d=>i j c d))))) (aB a fun a=>aa 0 a fun a=>ak h a fun a=>ab 163 #[a,b,(.int .i64 256)] h fun _ a=>R (.tuple #[]) a)):ab 120 #[a,b,c] H0 R:=bD 0x1692969018042100111018236a018042100111018230218455412141261021845541261021844126155341213412710218455412141271021845541271021844127155341213412613021845541261021844126155341271021845541271021844127155341261302184412614127102184412714126135534121323420412002101101a252a1182118140001904211001110192353a34a6300531a6a227201c1763a3 Tryz.func120 h
theorem rD.vc (a:Value) (h:
 ab 166 #[a] H0 fun a b=>aq 0 a fun c=>aq 1 a fun a=>ab 167 #[c,(.int .i64 15)] b fun b c=>ab 168 #[a,(.int .i64 15)] c fun a c=>aq 0 a fun d=>aq 1 a fun _=>ab 169 #[b,(.int .i64 257)] c fun a c=>ab 169 #[d,(.int .i64 1)] c fun c e=>aT [(.pointer none),(.pointer none),(.pointer none),(.slice none 0 0),(.int .i64 0),(.int .i64 0),(.int .i64 0)] [(4,1,a),(5,1,c)] fun a=>bs e 232 a fun a c=>aB a fun e=>aa 4 e fun e=>ak c e fun e=>fg 1 b none (some e) fun b=>aB a fun e=>aa 5 e fun e=>ak c e fun e=>fg 1 d none (some e) fun d=>ab 162 #[b,(.bool false)] c fun c e=>aq 0 c fun f=>aq 1 c fun _=>aB a fun c=>aa 0 c fun c=>aF e c f fun _ c=>ab 162 #[d,(.bool true)] c fun c e=>aq 0 c fun f=>aq 1 c fun _=>aB a fun c=>aa 1 c fun c=>aF e c f fun _ c=>aY c 59 2 [(.slice none 0 0),(.slice none 0 0)] [(0,1,b),(1,1,d)] fun b c=>ab 171 #[b] c fun b c=>ab 170 #[b] c fun b c=>aB a fun d=>aa 3 d fun d=>aF c d b fun _ b=>dF b 3 8 [(.int .i64 0)] (.int .i64 19) (.int .i64 19) fun b c=>aB a fun d=>aa 3 d fun d=>ak c d fun d=>bV d fun e=> ∃ (f:Value→ai→Prop) (g:Value→ai→Nat),f (.int .i64 0) c∧∀ (_:Env) (c:Value) (h:ai),f c h→cq c e fun e=>ao e (aI 3 d c fun d=>aE h 3 d fun d=>bs h 237 (.agg #[(.int .i64 0),(.int .i64 0),(.int .u64 0)]) fun e i=>aC i 3 e d fun _ d=>aa 0 e fun e=>ak d e fun e=>aI 1 b e fun i=>ak d i fun i=>aG i (.int .i64 1) fun i=>aI 1 b e fun e=>aF d e i fun _ d=>aG c (.int .i64 1) fun e=>f e d∧g e d<g c h) (ab 167 #[b,(.int .i64 7)] h fun b c=>ab 162 #[b,(.bool false)] c fun c d=>aq 0 c fun e=>aq 1 c fun _=>aB a fun c=>aa 2 c fun c=>aF d c e fun _ c=>aB a fun d=>aa 6 d fun d=>aF c d (.int .i64 19) fun _ c=> ∃ (d:ai→Prop) (e:ai→Nat),d c∧∀ (_:Env) (c:ai),d c→aB a fun f=>aa 6 f fun f=>ak c f fun f=>dW f (.int .i64 4) fun f=>bZ f (fun f=>aB a fun g=>aa 6 g fun g=>ak c g fun g=>bY g (.int .i64 1) fun g=>dL 19 1 (.pointer (some ⟨0,0,none⟩)) g fun g=>ak c g fun g=>aI 1 b g fun b=>ak c b fun b=>cu 0 b (.int .i64 0) fun b=>f b c) c fun b f=> ∀_:Env,ao b (aB a fun b=>aa 6 b fun b=>ak f b fun b=>bY b (.int .i64 1) fun b=>aB a fun g=>aa 6 g fun g=>aF f g b fun _ b=>d b∧e b<e c) (R a f))):ab 121 #[a] H0 R:=bD 0x102a189600502901b6452604133381ca107634a19a3a291894a6300531a1b7d01b201991766a32a19a19a19a01e0427f53f885111002111001e237a7a3a7a1a Tryz.func121 h
theorem uv.vc (a b:Value) (h:
 aB a fun c=>aa 4 c fun c=>ak H0 c fun c=>bY c (.int .i64 257) fun c=>bm .u64 c fun c=>aB a fun d=>aa 5 d fun d=>ak H0 d fun d=>bY d (.int .i64 1) fun d=>bm .u64 d fun d=>jv d (.int .u64 5) fun d=>cx .or c d fun c=>aB a fun d=>aa 6 d fun d=>ak H0 d fun d=>bY d (.int .i64 4) fun d=>bm .u64 d fun d=>jv d (.int .u64 10) fun d=>cx .or c d fun c=>ab 116 #[b,c,(.int .i64 14)] H0 fun _ c=>aB a fun d=>aa 2 d fun d=>ak c d fun d=>ab 172 #[d] c fun c d=>aB a fun e=>aa 6 e fun e=>ak d e fun e=>ri 19 1 (.pointer (some ⟨0,0,none⟩)) none (some e) fun e=>bV e fun f=> ∃ (g:Value→ai→Prop) (h:Value→ai→Nat),g (.int .i64 0) d∧∀ (_:Env) (d:Value) (i:ai),g d i→cq d f fun f=>ao f (aI 1 e d fun e=>ak i e fun e=>aI 1 c e fun c=>ak i c fun c=>bm .u64 c fun c=>ab 116 #[b,c,(.int .i64 3)] i fun _ c=>aG d (.int .i64 1) fun e=>g e c∧h e c<h d i) (aB a fun c=>aa 3 c fun c=>ak i c fun c=>bV c fun d=> ∃ (e:Value→ai→Prop) (f:Value→ai→Nat),e (.int .i64 0) i∧∀ (_:Env) (g:Value) (h:ai),e g h→cq g d fun d=>ao d (aI 3 c g fun c=>aE h 3 c fun c=>bs h 237 (.agg #[(.int .i64 0),(.int .i64 0),(.int .u64 0)]) fun d i=>aC i 3 d c fun _ c=>aB a fun a=>aa 2 a fun a=>ak c a fun a=>aa 0 d fun i=>ak c i fun i=>ab 163 #[a,b,i] c fun _ a=>aa 2 d fun c=>ak a c fun c=>aa 1 d fun d=>ak a d fun d=>ab 116 #[b,c,d] a fun _ a=>aG g (.int .i64 1) fun b=>e b a∧f b a<f g h) (R (.tuple #[]) h))):ab 122 #[a,b] H0 R:=bD 0x12969018042100111018234a6300531a2a6c018207d1766a29793a6300531a1b4d06205c1767a36a0380421ffffffe511111103fffe5111111011111003823 Tryz.func122 h
theorem CC.vc (a:Value) (h:
 bs H0 145 a fun a b=>aE b 3 a fun a=>ab 159 #[a] b fun a b=>e7 a fun a=>R a b):ab 158 #[a] H0 R:=bD 0x104a2a Tryz.func158 h
theorem CD.vc (a:Value) (h:
 ∃b:Value→Value→ai→Prop,(∀ (_:Env) (c d:Value) (e:ai),b c d e→aI 1 c (.int .i64 256) fun f=>aF e f (.int .i64 1) fun _ e=>bV a fun f=> ∃ (g:Value→ai→Prop) (h:Value→ai→Nat),g (.int .i64 0) e∧∀ (_:Env) (e:Value) (i:ai),g e i→cq e f fun f=>ao f (aI 3 a e fun a=>aE i 3 a fun a=>bs i 145 (.agg #[(.int .u8 0),(.int .i64 0),(.int .i64 0)]) fun f j=>aC j 3 f a fun _ a=>aa 1 f fun j=>ak a j fun j=>cu 0 j (.int .i64 0) fun j=>ao j (aa 0 f fun j=>ak a j fun j=>aI 1 c j fun k=>ak a k fun k=>aG k (.int .i64 1) fun k=>aI 1 c j fun j=>aF a j k fun _ j=>aG e (.int .i64 1) fun k=>g k j∧h k j<h e i) (aa 1 f fun j=>ak a j fun j=>ab 164 #[j] a fun a j=>ic 0 a fun a=>aI 1 c a fun k=>ak j k fun k=>aG k (.int .i64 1) fun k=>aI 1 c a fun a=>aF j a k fun _ a=>aa 2 f fun f=>ak a f fun f=>ab 165 #[f] a fun a f=>ic 0 a fun a=>aI 1 d a fun j=>ak f j fun j=>aG j (.int .i64 1) fun j=>aI 1 d a fun a=>aF f a j fun _ a=>aG e (.int .i64 1) fun f=>g f a∧h f a<h e i)) (R (.tuple #[c,d]) i))∧(dF H0 3 8 [(.int .i64 0)] (.int .i64 286) (.int .i64 286) fun a c=>dF c 3 8 [(.int .i64 0)] (.int .i64 30) (.int .i64 30) fun c d=>b a c d)∧(dF H0 3 8 [(.int .i64 0)] (.int .i64 30) (.int .i64 30) fun a c=>dF c 3 8 [(.int .i64 0)] (.int .i64 286) (.int .i64 286) fun c d=>b c a d)):ab 166 #[a] H0 R:=bD 0x104a291a91aa0018a53a34a6300531a48607201e1763a33a02240515035152505321500421214214142a Tryz.func166 h
theorem CE.vc (a b:Value) (h:
 ab 168 #[a,b] H0 fun a b=>aq 0 a fun c=>aq 1 a fun _=>bV c fun a=> ∃ (d:Value→Value→Value→ai→Prop) (e:Value→Value→Value→ai→Nat),d (.int .i64 0) (.int .i64 (-1)) (.int .i64 0) b∧∀ (_:Env) (b f g:Value) (h:ai),d b f g h→cq g a fun a=>ao a (aI 1 c g fun a=>ak h a fun a=>dW a (.int .i64 0) fun a=>ao a (aG b (.int .i64 1) fun a=>aG g (.int .i64 1) fun i=>d a f i h∧e a f i h<e b f g h) (cq f (.int .i64 0) fun a=>ao a (aG g (.int .i64 1) fun a=>d b g a h∧e b g a h<e b f g h) (aG g (.int .i64 1) fun a=>d b f a h∧e b f a h<e b f g h))) (cu 0 b (.int .i64 1) fun a=>ao a (aI 1 c f fun a=>aF h a (.int .i64 1) fun _ a=>R c a) (R c h))):ab 167 #[a,b] H0 R:=bD 0x102a04952a32902952a3952a5a6300531a1c1837201a172763a32a18a1a Tryz.func167 h
theorem HF.vc (a b:Value) (h:
 bV a fun c=> ∃ (d:Value→ai→Prop) (e:Value→ai→Nat),d c H0∧∀ (_:Env) (c:Value) (f:ai),d c f→dW c b fun b=>bZ b (fun b=>bY c (.int .i64 1) fun g=>aI 1 a g fun a=>ak f a fun a=>cu 0 a (.int .i64 0) fun a=>b a f) f fun a b=> ∀_:Env,ao a (bY c (.int .i64 1) fun a=>d a b∧e a b<e c f) (R c b)):ab 169 #[a,b] H0 R:=bD 0x102a39600501a0644324041331c20520517633a1a Tryz.func169 h
theorem HG.vc (a:Value) (h:
 ab 203 #[a,(.func (.func 216) #[] #[])] H0 fun b c=>ao b (R (.slice none 0 0) c) (∃ (b:Value→Value→ai→Prop) (d:Value→Value→ai→Nat),b (.slice none 0 0) (.int .i64 0) c∧∀ (_:Env) (c e:Value) (f:ai),b c e f→bV a fun g=>cq e g fun g=>ao g (aI 1 a e fun g=>ak f g fun h=>ab 217 #[a,e] f fun a i=> (ak i g fun g=>g=h)∧aG e a fun g=> ∃j:Value→Value→ai→Prop,(∀ (_:Env) (k l:Value) (m:ai),j k l m→∃ (n:Value→Value→ai→Prop) (o:Value→Value→ai→Nat),n k l m∧∀ (_:Env) (k l:Value) (m:ai),n k l m→dW l (.int .i64 0) fun p=>ao p (ab 218 #[h,l] m fun p q=>aq 0 p fun r=>aq 1 p fun s=>aq 2 p fun p=>bs q 237 (.agg #[(.int .i64 0),(.int .i64 0),(.int .u64 0)]) fun q t=>aC t 3 q r fun _ r=> ∃t:Value→ai→Prop,(∀ (_:Env) (u:Value) (v:ai),t u v→aE v 3 q fun w=>aY v 237 1 [(.int .i64 0),(.int .i64 0),(.int .u64 0)] [(0,3,w)] fun v w=>bj w 237 3 24 [(.int .i64 0),(.int .i64 0),(.int .u64 0)] k v fun v w=>bY l u fun u=>n v u w∧o v u w<o k l m)∧e7 p fun l=>ao l (aT [(.int .i64 0),(.int .i64 0),(.int .u64 0)] [(0,1,h)] fun l=>aC r 3 q l fun _ l=>t (.int .i64 1) l) (t s r)) (b k g m∧d k g m<d c e f))∧ea 0 h (.int .i64 0) fun b=>ao b (aT [(.int .i64 0),(.int .i64 0),(.int .u64 0)] [(0,1,h)] fun b=>aY i 237 1 [(.int .i64 0),(.int .i64 0),(.int .u64 0)] [(0,3,b)] fun b d=>bj d 237 3 24 [(.int .i64 0),(.int .i64 0),(.int .u64 0)] c b fun b d=>bY a (.int .i64 1) fun e=>j b e d) (j c a i)) (R c f))):ab 170 #[a] H0 R:=bD 0x102a495a04952a34c0192019141ba60052a32b3a3204302042760396a52a182c020430204244a0274316160412685001200192360054a35a3642141761a31a001a53a31a1a Tryz.func170 h
theorem AB.vc (a:Value) (h:
 cq a (.int .i64 0) fun b=>d_ b (fun b=>dW a (.int .i64 15) fun a=>b a H0) H0 fun a b=> ∀_:Env,R a b):ab 216 #[a] H0 R:=bD 0x100655023422304131a Tryz.func216 h
theorem KQ.vc (a b:Value) (h:
 ∃ (c:Value→ai→Prop) (d:Value→ai→Nat),c (.int .i64 1) H0∧∀ (_:Env) (e:Value) (f:ai),c e f→aG b e fun g=>bV a fun h=>cq g h fun g=>bZ g (fun g=>aG b e fun h=>aI 1 a h fun h=>ak f h fun h=>aI 1 a b fun a=>ak f a fun a=>cu 0 h a fun a=>g a f) f fun a b=> ∀_:Env,ao a (aG e (.int .i64 1) fun a=>c a b∧d a b<d e f) (R e b)):ab 217 #[a,b] H0 R:=bD 0x102a39600502a01b7462704121689ff531ff5121dff533112102002b2332d510517631a1a Tryz.func217 h
theorem EM.vc (a b:Value) (h:
 bs H0 237 (.agg #[(.int .i64 0),(.int .i64 0),(.int .u64 0)]) fun c d=>cu 0 a (.int .i64 0) fun e=>bZ e (fun e=>lB b (.int .i64 11) fun f=>e f d) d fun d e=> ∀_:Env,ao d (jU b (.int .i64 138) fun d=>bY d (.int .i64 11) fun f=>bm .u64 f fun f=>aT [(.int .i64 0),(.int .i64 0),(.int .u64 0)] [(0,1,(.int .i64 18)),(1,1,(.int .i64 7)),(2,1,f)] fun f=>aC e 3 c f fun _ f=>aE f 3 c fun g=>R (.tuple #[g,d,(.bool true)]) f) (cu 0 a (.int .i64 0) fun d=>bZ d (fun d=>lB b (.int .i64 3) fun f=>d f e) e fun d e=> ∀_:Env,ao d (bY b (.int .i64 3) fun d=>bm .u64 d fun d=>aT [(.int .i64 0),(.int .i64 0),(.int .u64 0)] [(0,1,(.int .i64 17)),(1,1,(.int .i64 3)),(2,1,d)] fun d=>aC e 3 c d fun _ d=>aE d 3 c fun f=>R (.tuple #[f,b,(.bool true)]) d) (ea 0 a (.int .i64 0) fun a=>bZ a (fun a=>lB b (.int .i64 3) fun d=>a d e) e fun a d=> ∀_:Env,ao a (jU b (.int .i64 6) fun a=>bY a (.int .i64 3) fun b=>bm .u64 b fun b=>aT [(.int .i64 0),(.int .i64 0),(.int .u64 0)] [(0,1,(.int .i64 16)),(1,1,(.int .i64 2)),(2,1,b)] fun b=>aC d 3 c b fun _ b=>aE b 3 c fun e=>R (.tuple #[e,a,(.bool true)]) b) (aT [(.int .i64 0),(.int .i64 0),(.int .u64 0)] [] fun a=>aC d 3 c a fun _ a=>aE a 3 c fun b=>R (.tuple #[b,(.int .i64 0),(.bool false)]) a)))):ab 218 #[a,b] H0 R:=bD 0x104a0018a3a5065502342230413018a5065502342230413018a3a5065502342230413633a Tryz.func218 h
theorem CF.vc (a b:Value) (h:
 ∃ (c:Value→Value→Value→ai→Prop) (d:Value→Value→Value→ai→Nat),c (.int .i64 0) (.int .i64 0) (.int .i64 0) H0∧∀ (_:Env) (e f g:Value) (h:ai),c e f g h→cq g (.int .i64 3) fun i=>ao i (ab 317 #[g,a,b] h fun a b=>aq 0 a fun i=>aq 1 a fun a=>e7 a fun a=>ao a (R (.int .i64 0) b) (∃a:Value→ai→Prop,(∀ (_:Env) (j:Value) (k:ai),a j k→cq i j fun l=>ao l (aG g (.int .i64 1) fun l=>c i g l k∧d i g l k<d e f g h) (aG g (.int .i64 1) fun l=>c j f l k∧d j f l k<d e f g h))∧cu 0 g (.int .i64 0) fun c=>ao c (aG i (.int .i64 7) fun c=>a c b) (a e b))) (R f h)):ab 306 #[a,b] H0 R:=bD 0x102a2904953a03952a3280520514001a52a319a2a6300531a3b4103152761a32a1a Tryz.func306 h
theorem HH.vc (a b c:Value) (h:
 cu 0 a (.int .i64 0) fun d=>bZ d (fun d=>ab 115 #[a,b,c] H0 fun e f=>d e f) H0 fun d e=> ∀_:Env,ao d (aX b fun d=>qE (.int .i64 8) d fun d=>aG (.int .i64 35) d fun d=>R (.tuple #[d,(.bool true)]) e) (bs e 141 (.agg #[(.slice none 0 0),(.int .u64 0),(.int .i64 0)]) fun d e=>ab 69 #[d,a,(.bool false),b,c] e fun a b=>ab 321 #[d] b fun b c=>cu 0 a (.int .i64 0) fun a=>R (.tuple #[b,a]) c)):ab 317 #[a,b,c] H0 R:=bD 0x105a5a1a006a5070434223041332a Tryz.func317 h
theorem sT.vc (a:Value) (h:
 ea 3 a (.pointer none) fun b=>bZ b (fun b=>aB a fun c=>aa 2 c fun c=>ak H0 c fun c=>dW c (.int .i64 0) fun c=>b c H0) H0 fun b c=> ∀_:Env,ao b (aB a fun b=>aa 2 b fun b=>ak c b fun b=>bY (.int .i64 8) b fun b=>ab 116 #[a,(.int .u64 0),b] c fun _ a=>R (.tuple #[]) a) (R (.tuple #[]) c)):ab 70 #[a] H0 R:=bD 0x1079501805342230413 Tryz.func70 h
theorem sU.vc (a:Value) (h:
 cu 3 a (.pointer none) fun b=>ao b (R (str []) H0) (aB a fun b=>aa 0 b fun b=>ak H0 b fun b=>kh H0 b fun b=>aB a fun c=>aa 0 c fun c=>ak H0 c fun c=>fg 1 c none (some (.int .i64 0)) fun c=>aB a fun a=>aa 0 a fun a=>aF H0 a c fun _ a=>R b a)):ab 72 #[a] H0 R:=bD 0x102a19a6a001a52a31a Tryz.func72 h
theorem Ny.vc (a:Value) (h:
 aX a fun b=>dW b (.int .i64 8) fun b=>ao b (R (.int .u64 0) H0) (aX a fun b=>bY b (.int .i64 1) fun b=> ∃ (c:Value→Value→ai→Prop) (d:Value→Value→ai→Nat),c (.int .u64 0) b H0∧∀ (_:Env) (b e:Value) (f:ai),c b e f→lB e (.int .i64 0) fun g=>ao g (jv b (.int .u64 8) fun g=>bO a e fun a=>bm .u64 a fun a=>cx .or g a fun a=>bY e (.int .i64 1) fun g=>c a g f∧d a g f<d b e f) (R b f))):ab 109 #[a] H0 R:=bD 0x102a39189630052a31a6132131764a31a001a53a31a Tryz.func109 h
theorem lR.vc (a b c:Value) (h:
 cu 3 a (.pointer none) fun d=>d_ d (fun d=>cq c (.int .i64 1) fun e=>d e H0) H0 fun d e=> ∀_:Env,d_ d (fun d=>dW c (.int .i64 32) fun f=>d f e) e fun d e=> ∀_:Env,ao d (R (.tuple #[]) e) (aB a fun d=>aa 1 d fun d=>ak e d fun d=>jv (.int .u64 1) c fun f=>bY f (.int .u64 1) fun f=>cx .and b f fun b=>aB a fun f=>aa 2 f fun f=>ak e f fun f=>jv b f fun b=>cx .or d b fun b=>aB a fun d=>aa 1 d fun d=>aF e d b fun _ b=>aB a fun d=>aa 2 d fun d=>ak b d fun d=>aG d c fun c=>aB a fun d=>aa 2 d fun d=>aF b d c fun _ b=>ab 161 #[a] b fun _ a=>R (.tuple #[]) a)):ab 116 #[a,b,c] H0 R:=bD 0x12919a02a0411121ffe8511103e85110011102a23005019027462655023422304133 Tryz.func116 h
theorem wL.vc (a b:Value) (h:
 ea 3 a (.pointer none) fun c=>ao c (ab 70 #[a] H0 fun _ c=>aB a fun d=>aa 0 d fun d=>ak c d fun d=>bj c 5 1 1 [(.int .u8 0)] d b fun b c=>aB a fun a=>aa 0 a fun a=>aF c a b fun _ a=>R (.tuple #[]) a) (R (.tuple #[]) H0)):ab 117 #[a,b] H0 R:=bD 0x101a92a52a Tryz.func117 h
theorem Nz.vc (a b:Value) (h:
 cq b (.int .i64 1) fun c=>d_ c (fun c=>dW b (.int .i64 8) fun d=>c d H0) H0 fun c d=> ∀_:Env,ao c (R (str []) d) (dF d 5 1 [(.int .u8 0)] b b fun b c=>bV b fun d=> ∃ (e:Value→ai→Prop) (f:Value→ai→Nat),e (.int .i64 0) c∧∀ (_:Env) (c:Value) (g:ai),e c g→cq c d fun d=>ao d (qE (.int .i64 8) c fun d=>mo a d fun a=>bm .u8 a fun a=>aI 1 b c fun d=>aF g d a fun _ a=>aG c (.int .i64 1) fun d=>e d a∧f d a<f c g) (kh g b fun a=>R a g))):ab 118 #[a,b] H0 R:=bD 0x103a291992a6300531a1b1a0620291763a33a001a5050234223041331a Tryz.func118 h
theorem sV.vc (a:Value) (h:
 ∃ (b:ai→Prop) (c:ai→Nat),b H0∧∀ (_:Env) (d:ai),b d→aB a fun e=>aa 2 e fun e=>ak d e fun e=>lB e (.int .i64 8) fun e=>ao e (aB a fun e=>aa 0 e fun e=>ak d e fun f=>aB a fun g=>aa 1 g fun g=>ak d g fun g=>bm .u8 g fun g=>aY d 5 1 [(.int .u8 0)] [(0,1,g)] fun g h=> (ak h e fun e=>e=f)∧bj h 5 1 1 [(.int .u8 0)] f g fun e f=>aB a fun g=>aa 0 g fun g=>aF f g e fun _ e=>aB a fun f=>aa 1 f fun f=>ak e f fun f=>mo f (.int .u64 8) fun f=>aB a fun g=>aa 1 g fun g=>aF e g f fun _ e=>aB a fun f=>aa 2 f fun f=>ak e f fun f=>bY f (.int .i64 8) fun f=>aB a fun a=>aa 2 a fun a=>aF e a f fun _ a=>b a∧c a<c d) (R (.tuple #[]) d)):ab 161 #[a] H0 R:=bD 0x1189189041b4411a11a041123ffe5111110111001f23630055a34821076 Tryz.func161 h
theorem uw.vc (a b:Value) (h:
 ea 3 a (.pointer none) fun c=>ao c (aB a fun c=>aa 0 c fun c=>ak H0 c fun c=>aG c b fun b=>aB a fun a=>aa 0 a fun a=>aF H0 a b fun _ a=>R (.tuple #[]) a) (R (.tuple #[]) H0)):ab 173 #[a,b] H0 R:=bD 0x1019952a Tryz.func173 h
theorem ux.vc (a b:Value) (h:
 cu 3 a (.pointer none) fun c=>ao c (R (str []) H0) (ab 223 #[a] H0 fun _ c=>vk b (.int .i64 0) fun d=>ao d (R (str []) c) (∃ (d:Value→Value→ai→Prop) (e:Value→Value→ai→Nat),d b (.slice none 0 0) c∧∀ (_:Env) (b c:Value) (f:ai),d b c f→dW b (.int .i64 0) fun g=>bZ g (fun g=>aB a fun h=>aa 2 h fun h=>ak f h fun h=>dW h (.int .i64 0) fun h=>g h f) f fun g h=> ∀_:Env,ao g (aB a fun g=>aa 1 g fun g=>ak h g fun g=>bm .u8 g fun g=>aY h 5 1 [(.int .u8 0)] [(0,1,g)] fun g i=>bj i 5 1 1 [(.int .u8 0)] c g fun g i=>ab 224 #[a,(.int .i64 8)] i fun _ i=>bY b (.int .i64 1) fun j=>d j g i∧e j g i<e b c f) (aB a fun d=>aa 0 d fun d=>ak h d fun d=>aX d fun d=>jU b d fun b=>kh h c fun c=>aB a fun d=>aa 0 d fun d=>ak h d fun d=>a7 d none (some b) fun d=>aG c d fun c=>aB a fun d=>aa 0 d fun d=>ak h d fun d=>a7 d (some b) none fun b=>aB a fun a=>aa 0 a fun a=>aF h a b fun _ a=>R c a)))):ab 176 #[a,b] H0 R:=bD 0x102a1aa01a04121fc501110101a2318a392919a630050180534223041332c703013030127631a001a52a32a001a52a31a Tryz.func176 h
theorem uy.vc (a:Value) (h:
 cu 3 a (.pointer none) fun b=>ao b (R (.int .i64 0) H0) (aB a fun b=>aa 2 b fun b=>ak H0 b fun b=>aB a fun a=>aa 0 a fun a=>ak H0 a fun a=>aX a fun a=>qE (.int .i64 8) a fun a=>aG b a fun a=>R a H0)):ab 177 #[a] H0 R:=bD 0x1001c041211111011101c23001a52a31a Tryz.func177 h
theorem sW.vc (a:Value) (h:
 ea 3 a (.pointer none) fun b=>ao b (aB a fun b=>aa 2 b fun b=>ak H0 b fun b=>l8 b (.int .i64 8) fun b=>ab 224 #[a,b] H0 fun _ a=>R (.tuple #[]) a) (R (.tuple #[]) H0)):ab 223 #[a] H0 R:=bD 0x107952a Tryz.func223 h
theorem uz.vc (a b:Value) (h:
 aB a fun c=>aa 1 c fun c=>ak H0 c fun c=>mo c b fun c=>aB a fun d=>aa 1 d fun d=>aF H0 d c fun _ c=>aB a fun d=>aa 2 d fun d=>ak c d fun d=>bY d b fun b=>aB a fun a=>aa 2 a fun a=>aF c a b fun _ a=>R (.tuple #[]) a):ab 224 #[a,b] H0 R:=bD 0x119919a Tryz.func224 h
theorem bits_Len.vc (a:Value) (h:
 ao (.bool false) (bm .u32 a fun b=>ab 293 #[b] H0 fun b c=>R b c) (ab 294 #[a] H0 fun a b=>R a b)):ab 271 #[a] H0 R:=bD 0x103a004a531a Tryz.func271 h
theorem mK.vc (a b:Value) (h:
 ab 277 #[a,b] H0 fun c d=>aq 0 c fun e=>aq 1 c fun c=> ∃f:ai→Prop,(∀ (_:Env) (g:ai),f g→R (.tuple #[e,c]) g)∧ao c (ab 224 #[a,b] d fun _ a=>f a) (f d)):ab 274 #[a,b] H0 R:=bD 0x104a03951a31e10418a2a Tryz.func274 h
theorem mL.vc (a b:Value) (h:
 cu 3 a (.pointer none) fun c=>d_ c (fun c=>cq b (.int .i64 0) fun d=>c d H0) H0 fun c d=> ∀_:Env,d_ c (fun c=>dW b (.int .i64 32) fun e=>c e d) d fun c d=> ∀_:Env,d_ c (fun c=>ab 177 #[a] d fun e f=>cq e b fun e=>c e f) d fun c d=> ∀_:Env,ao c (R (.tuple #[(.int .u64 0),(.bool false)]) d) (ab 296 #[a,b] d fun _ c=>aB a fun a=>aa 1 a fun a=>ak c a fun a=>jv (.int .u64 1) b fun b=>bY b (.int .u64 1) fun b=>cx .and a b fun a=>R (.tuple #[a,(.bool true)]) c)):ab 277 #[a,b] H0 R:=bD 0x1001a0411211011101a233a002a501f041b41a21a5190274626550234223041332a Tryz.func277 h
theorem uA.vc (a b:Value) (h:
 ∃ (c:ai→Prop) (d:ai→Nat),c H0∧∀ (_:Env) (e:ai),c e→aB a fun f=>aa 2 f fun f=>ak e f fun f=>cq f b fun b=>bZ b (fun b=>aB a fun f=>aa 0 f fun f=>ak e f fun f=>ea 1 f (str []) fun f=>b f e) e fun b f=> ∀_:Env,ao b (aB a fun b=>aa 1 b fun b=>ak f b fun b=>aB a fun g=>aa 0 g fun g=>ak f g fun g=>bO g (.int .i64 0) fun g=>bm .u64 g fun g=>aB a fun h=>aa 2 h fun h=>ak f h fun h=>jv g h fun g=>cx .or b g fun b=>aB a fun g=>aa 1 g fun g=>aF f g b fun _ b=>aB a fun g=>aa 0 g fun g=>ak b g fun g=>a7 g (some (.int .i64 1)) none fun g=>aB a fun h=>aa 0 h fun h=>aF b h g fun _ b=>aB a fun g=>aa 2 g fun g=>ak b g fun g=>aG g (.int .i64 8) fun g=>aB a fun a=>aa 2 a fun a=>aF b a g fun _ a=>c a∧d a<d e) (R (.tuple #[]) f)):ab 296 #[a,b] H0 R:=bD 0x118919a02b0411123ffe85111011111011102b23600501c0574627041335d41076 Tryz.func296 h
theorem wM.vc (a:Value) (h:
 cu 3 a (.pointer none) fun b=>ao b (R (.int .i64 0) H0) (aB a fun b=>aa 0 b fun b=>ak H0 b fun b=>bV b fun b=>qE (.int .i64 8) b fun b=>aB a fun a=>aa 2 a fun a=>ak H0 a fun a=>aG b a fun a=>R a H0)):ab 321 #[a] H0 R:=bD 0x1001c041211101111101c23001a52a31a Tryz.func321 h
theorem EN.vc (a:Value) (h:
 ab 123 #[] H0 fun b c=>ab 124 #[b,a] c fun a c=>aq 0 a fun d=>aq 1 a fun a=>ea 0 a (.int .i64 0) fun e=>ao e (R (.tuple #[(str []),(str []),a]) c) (ab 125 #[b] c fun a c=>e7 a fun a=>ao a (R (.tuple #[(str []),(str []),(.int .i64 2)]) c) (ab 126 #[b] c fun a b=>R (.tuple #[d,a,(.int .i64 0)]) b))):ab 71 #[a] H0 R:=bD 0x106a003a54a04a53a6318a2a3a Tryz.func71 h
theorem EO.vc (h:
 aT [(str []),(.int .u64 0),(.int .i64 0),(.slice none 0 0),(.int .i64 0),(.pointer none),(.slice none 0 0),(.int .i64 0),(.bool false),(.int .i64 0),(.pointer none),(.pointer none),(.int .i64 0),(.int .i64 0)] [] fun a=>bs H0 255 a fun a b=>R a b):ab 123 #[] H0 R:=bD 0x103a1a Tryz.func123 h
theorem ph.vc (a b:Value) (h:
 cu 3 a (.pointer none) fun c=>ao c (R (.tuple #[(str []),(.int .i64 1)]) H0) (aB a fun c=>aa 13 c fun c=>ak H0 c fun c=>ea 0 c (.int .i64 0) fun c=>ao c (aB a fun c=>aa 13 c fun c=>ak H0 c fun c=>R (.tuple #[(str []),c]) H0) (aB a fun c=>aa 0 c fun c=>ab 173 #[c,b] H0 fun _ c=>aB a fun d=>aa 12 d fun d=>ak c d fun d=>aX b fun b=>aG d b fun b=>aB a fun d=>aa 12 d fun d=>aF c d b fun _ b=>aB a fun c=>aa 5 c fun c=>ab 174 #[c] b fun _ b=> ∃c:ai→Prop,(∀ (_:Env) (d:ai),c d→aB a fun e=>aa 5 e fun e=>ab 76 #[e] d fun d e=>R (.tuple #[d,(.int .i64 0)]) e)∧∃ (d:ai→Prop) (e:ai→Nat),d b∧∀ (_:Env) (b:ai),d b→aB a fun f=>aa 7 f fun f=>ak b f fun f=>ea 0 f (.int .i64 3) fun f=>ao f (ab 175 #[a] b fun f g=>cu 0 f (.int .i64 2) fun h=>ao h (c g) (ea 0 f (.int .i64 0) fun h=>ao h (aB a fun h=>aa 13 h fun h=>aF g h f fun _ h=>aB a fun a=>aa 5 a fun a=>ab 76 #[a] h fun a h=>R (.tuple #[a,f]) h) (d g∧e g<e b))) (c b)))):ab 124 #[a,b] H0 R:=bD 0x106a007a5a52a0052a33a60055a32b3d2420762b3d242044a1aa5a00060420111062355a3002a52a32a Tryz.func124 h
theorem pj.vc (a:Value) (h:
 ea 3 a (.pointer none) fun b=>bZ b (fun b=>aB a fun a=>aa 7 a fun a=>ak H0 a fun a=>cu 0 a (.int .i64 3) fun a=>b a H0) H0 fun a b=> ∀_:Env,R a b):ab 125 #[a] H0 R:=bD 0x10019518053422304131a Tryz.func125 h
theorem pn.vc (a:Value) (h:
 ab 125 #[a] H0 fun b c=>e7 b fun b=>ao b (R (str []) c) (aB a fun a=>aa 0 a fun a=>aE c 3 a fun a=>bs c 250 (.agg #[(str []),(.int .u64 0),(.int .i64 0)]) fun b c=>aC c 3 b a fun _ a=>ab 177 #[b] a fun a c=>rh a (.int .i64 8) fun a=>ab 176 #[b,a] c fun a b=>R a b)):ab 126 #[a] H0 R:=bD 0x104a6a001a53a31a Tryz.func126 h
theorem pq.vc (a:Value) (h:
 aB a fun b=>aa 0 b fun b=>aE H0 3 b fun c=>aB a fun d=>aa 7 d fun d=>ak H0 d fun e=>bs H0 250 (.agg #[(str []),(.int .u64 0),(.int .i64 0)]) fun f g=> (aE g 3 b fun b=>b=c)∧(ak g d fun b=>b=e)∧aC g 3 f c fun _ b=> (ak b d fun c=>c=e)∧∃c:Value→ai→Prop,(∀ (_:Env) (d:Value) (g:ai),c d g→cu 0 d (.int .i64 2) fun h=>ao h (aE g 3 f fun f=>aB a fun h=>aa 0 h fun h=>aC g 3 h f fun _ f=>aB a fun h=>aa 7 h fun h=>aF f h e fun _ e=>R d e) (R d g))∧aB a fun d=>aa 7 d fun d=>ak b d fun d=>cu 0 d (.int .i64 0) fun e=>ao e (ab 220 #[a] b fun e f=>c e f) (cu 0 d (.int .i64 1) fun e=>ao e (ab 221 #[a] b fun e f=>R e f) (cu 0 d (.int .i64 2) fun d=>ao d (ab 222 #[a] b fun a d=>c a d) (c (.int .i64 0) b)))):ab 175 #[a] H0 R:=bD 0x102a01a952a303952a03a52a3952a64a1f180202305141a01a5711917321811804249f50111011101b231a Tryz.func175 h
theorem pr.vc (a:Value) (h:
 aB a fun b=>aa 0 b fun b=>ab 249 #[b,(.int .i64 3)] H0 fun b c=>aq 0 b fun d=>aq 1 b fun b=>ea 0 b (.int .i64 0) fun e=>ao e (R b c) (∃e:Value→ai→Prop,(∀ (_:Env) (f:Value) (g:ai),e f g→cx .and d (.int .i64 1) fun h=>cu 0 h (.int .i64 1) fun h=>aB a fun i=>aa 8 i fun i=>aF g i h fun _ g=>R f g)∧mo d (.int .u64 1) fun d=>cu 0 d (.int .i64 0) fun f=>ao f (aB a fun f=>aa 0 f fun f=>ab 250 #[f] c fun f g=>aq 0 f fun h=>aq 1 f fun f=>aB a fun i=>aa 9 i fun i=>aF g i h fun _ g=>aB a fun h=>aa 7 h fun h=>aF g h (.int .i64 1) fun _ g=>e f g) (cu 0 d (.int .i64 1) fun f=>ao f (ab 251 #[] c fun f g=>aq 0 f fun h=>aq 1 f fun f=>aB a fun i=>aa 10 i fun i=>aF g i h fun _ g=>aB a fun h=>aa 11 h fun h=>aF g h f fun _ f=>aB a fun g=>aa 7 g fun g=>aF f g (.int .i64 2) fun _ f=>e b f) (cu 0 d (.int .i64 2) fun b=>ao b (aB a fun b=>aa 0 b fun b=>ab 252 #[b] c fun b d=>aq 0 b fun f=>aq 1 b fun g=>aq 2 b fun b=>aB a fun h=>aa 10 h fun h=>aF d h f fun _ d=>aB a fun f=>aa 11 f fun f=>aF d f g fun _ d=>aB a fun a=>aa 7 a fun a=>aF d a (.int .i64 2) fun _ a=>e b a) (R (.int .i64 3) c))))):ab 220 #[a] H0 R:=bD 0x102a7a01a4929a52a491ca52a491ca52a62a6a1a010230414002a52a319a1a Tryz.func220 h
theorem nE.vc (a:Value) (h:
 aB a fun b=>aa 0 b fun b=>aB a fun c=>aa 9 c fun c=>ak H0 c fun c=>ab 176 #[b,c] H0 fun b c=>aB a fun d=>aa 9 d fun d=>ak c d fun d=>aX b fun e=>bY d e fun d=>aB a fun e=>aa 9 e fun e=>aF c e d fun _ c=>aB a fun d=>aa 3 d fun d=>ab 253 #[d,b] c fun _ c=>aB a fun d=>aa 5 d fun d=>ab 75 #[d,b] c fun _ b=>aB a fun c=>aa 9 c fun c=>ak b c fun c=>dW c (.int .i64 0) fun c=>ao c (R (.int .i64 2) b) (ab 254 #[a] b fun _ a=>R (.int .i64 0) a)):ab 221 #[a] H0 R:=bD 0x101a2a001a55a35a5a1aa0190412111011019231a Tryz.func221 h
theorem nF.vc (a:Value) (h:
 aB a fun b=>aa 10 b fun b=>ak H0 b fun b=>aB a fun c=>aa 0 c fun c=>ab 255 #[b,c] H0 fun b c=>aq 0 b fun d=>aq 1 b fun b=>ea 0 b (.int .i64 0) fun e=>ao e (R b c) (cu 0 d (.int .i64 256) fun b=>ao b (ab 254 #[a] c fun _ b=>R (.int .i64 0) b) (dW d (.int .i64 256) fun b=>ao b (ab 256 #[a,d] c fun b e=>R b e) (aB a fun b=>aa 3 b fun b=>bm .u8 d fun e=>ab 257 #[b,e] c fun _ b=>aB a fun a=>aa 5 a fun a=>bm .u8 d fun c=>ab 258 #[a,c] b fun _ a=>R (.int .i64 0) a)))):ab 222 #[a] H0 R:=bD 0x101a6a6a004a53a01a2a53a02a53a6301d0421fff5311211011101d231a Tryz.func222 h
theorem CG.vc (a b:Value) (h:
 ab 274 #[a,b] H0 fun a b=>aq 0 a fun c=>aq 1 a fun a=>e7 a fun a=>ao a (R (.tuple #[(.int .i64 0),(.int .i64 2)]) b) (bm .i64 c fun a=>R (.tuple #[a,(.int .i64 0)]) b)):ab 249 #[a,b] H0 R:=bD 0x104a002a52a318a2a Tryz.func249 h
theorem pw.vc (a:Value) (h:
 ab 223 #[a] H0 fun _ b=>ab 249 #[a,(.int .i64 32)] b fun a b=>aq 0 a fun c=>aq 1 a fun a=> ∃d:Value→ai→Prop,(∀ (_:Env) (e:Value) (f:ai),d e f→cx .and c (.int .i64 65535) fun g=>R (.tuple #[g,e]) f)∧cu 0 a (.int .i64 0) fun e=>bZ e (fun e=>cx .and c (.int .i64 65535) fun f=>mo c (.int .u64 16) fun c=>cx .xor f c fun c=>ea 0 c (.int .i64 65535) fun c=>e c b) b fun b c=> ∀_:Env,ao b (d (.int .i64 8) c) (d a c)):ab 250 #[a] H0 R:=bD 0x105a01950190634223041319705205147a2a2a Tryz.func250 h
theorem rE.vc (h:
 aT [(.int .i64 0),(.int .i64 0)] [(0,1,(.int .i64 8)),(1,1,(.int .i64 144))] fun a=>aT [(.int .i64 0),(.int .i64 0)] [(0,1,(.int .i64 9)),(1,1,(.int .i64 256))] fun b=>aT [(.int .i64 0),(.int .i64 0)] [(0,1,(.int .i64 7)),(1,1,(.int .i64 280))] fun c=>aT [(.int .i64 0),(.int .i64 0)] [(0,1,(.int .i64 8)),(1,1,(.int .i64 288))] fun d=>aT [(.int .i64 0),(.int .i64 0),(.int .i64 0),(.int .i64 0),(.int .i64 0),(.int .i64 0),(.int .i64 0),(.int .i64 0)] [(0,2,a),(2,2,b),(4,2,c),(6,2,d)] fun a=> ∃ (b:Value→Value→ai→Prop) (c:Value→Value→ai→Nat),b (.slice none 0 0) (.int .i64 0) H0∧∀ (_:Env) (d e:Value) (f:ai),b d e f→cq e (.int .i64 4) fun g=>ao g (jV 4 2 a e fun a=>bs f 357 (.agg #[(.int .i64 0),(.int .i64 0)]) fun g h=>aC h 2 g a fun _ a=> ∃ (h:Value→ai→Prop) (i:Value→ai→Nat),h d a∧∀ (_:Env) (a:Value) (j:ai),h a j→bV a fun k=>aa 1 g fun l=>ak j l fun l=>cq k l fun k=>ao k (aa 0 g fun g=>ak j g fun g=>aY j 3 1 [(.int .i64 0)] [(0,1,g)] fun g k=>bj k 3 1 8 [(.int .i64 0)] a g fun g k=>h g k∧i g k<i a j) (aG e (.int .i64 1) fun g=>b a g j∧c a g j<c d e f)) (∃ (a:Value→Value→ai→Prop) (b:Value→Value→ai→Nat),a (.slice none 0 0) (.int .i64 0) f∧∀ (_:Env) (c e:Value) (f:ai),a c e f→cq e (.int .i64 32) fun g=>ao g (aY f 3 1 [(.int .i64 0)] [(0,1,(.int .i64 5))] fun g h=>bj h 3 1 8 [(.int .i64 0)] c g fun g h=>aG e (.int .i64 1) fun i=>a g i h∧b g i h<b c e f) (ab 162 #[d,(.bool false)] f fun a b=>aq 0 a fun d=>aq 1 a fun _=>ab 162 #[c,(.bool false)] b fun a b=>aq 0 a fun c=>aq 1 a fun _=>R (.tuple #[d,c]) b))):ab 251 #[] H0 R:=bD 0x104a7a7a29496300531a539032039032761a3296960055a3191f022021763a6300531a1d190202301c022766a32a2a Tryz.func251 h
theorem pA.vc (a:Value) (h:
 ab 249 #[a,(.int .i64 14)] H0 fun b c=>aq 0 b fun d=>aq 1 b fun b=>ea 0 b (.int .i64 0) fun e=>ao e (R (.tuple #[(.pointer none),(.pointer none),b]) c) (cx .and d (.int .i64 31) fun b=>aG b (.int .i64 257) fun b=>mo d (.int .u64 5) fun e=>cx .and e (.int .i64 31) fun e=>aG e (.int .i64 1) fun e=>mo d (.int .u64 10) fun d=>aG d (.int .i64 4) fun d=>dW b (.int .i64 286) fun f=>d_ f (fun f=>dW e (.int .i64 30) fun g=>f g c) c fun c f=> ∀_:Env,ao c (R (.tuple #[(.pointer none),(.pointer none),(.int .i64 20)]) f) (ab 275 #[a,d] f fun c d=>aq 0 c fun f=>aq 1 c fun c=>ea 0 c (.int .i64 0) fun g=>ao g (R (.tuple #[(.pointer none),(.pointer none),c]) d) (aG b e fun c=>ab 276 #[a,f,c] d fun a c=>aq 0 a fun d=>aq 1 a fun a=>ea 0 a (.int .i64 0) fun e=>ao e (R (.tuple #[(.pointer none),(.pointer none),a]) c) (aI 1 d (.int .i64 256) fun a=>ak c a fun a=>cu 0 a (.int .i64 0) fun a=>ao a (R (.tuple #[(.pointer none),(.pointer none),(.int .i64 12)]) c) (fg 1 d none (some b) fun a=>ab 162 #[a,(.bool false)] c fun a c=>aq 0 a fun e=>aq 1 a fun a=>ea 0 a (.int .i64 0) fun f=>ao f (R (.tuple #[(.pointer none),(.pointer none),a]) c) (fg 1 d (some b) none fun a=>ab 162 #[a,(.bool true)] c fun a b=>aq 0 a fun c=>aq 1 a fun a=>R (.tuple #[e,c,a]) b))))))):ab 252 #[a] H0 R:=bD 0x106a19a004a52a319a003a54a3004a52a31ba004a52a318a003a5050234223041331da004a52a37a3a Tryz.func252 h
theorem oG.vc (a:Value) (h:
 aB a fun b=>aa 7 b fun b=>aF H0 b (.int .i64 0) fun _ b=>aB a fun c=>aa 8 c fun c=>ak b c fun c=>ao c (aB a fun c=>aa 7 c fun c=>aF b c (.int .i64 3) fun _ c=>aB a fun a=>aa 0 a fun a=>ab 223 #[a] c fun _ a=>R (.tuple #[]) a) (R (.tuple #[]) b)):ab 254 #[a] H0 R:=bD 0x10494a54a4a Tryz.func254 h
theorem jm.vc (a b:Value) (h:
 ab 210 #[b] H0 fun b c=>aq 0 b fun d=>aq 1 b fun e=>aq 2 b fun b=>ab 280 #[a,d,e,b] c fun b c=>aq 0 b fun d=>aq 1 b fun b=>ea 0 b (.int .i64 0) fun e=>ao e (R b c) (aB a fun b=>aa 11 b fun b=>ak c b fun b=>aB a fun e=>aa 0 e fun e=>ab 255 #[b,e] c fun b c=>aq 0 b fun e=>aq 1 b fun b=>ea 0 b (.int .i64 0) fun f=>ao f (R b c) (ab 211 #[e] c fun b c=>aq 0 b fun e=>aq 1 b fun f=>aq 2 b fun b=>ab 280 #[a,e,f,b] c fun b c=>aq 0 b fun e=>aq 1 b fun b=>ea 0 b (.int .i64 0) fun f=>ao f (R b c) (aB a fun b=>aa 3 b fun b=>ab 281 #[b,d,e] c fun b c=>aq 0 b fun d=>aq 1 b fun b=>e7 b fun b=>ao b (R (.int .i64 6) c) (aB a fun a=>aa 5 a fun a=>ab 75 #[a,d] c fun _ a=>R (.int .i64 0) a))))):ab 256 #[a,b] H0 R:=bD 0x101a5a001a52a31ba002a52a31ca002a52a301d0421fff5311211011101d23002a52a31ca1a Tryz.func256 h
theorem yo.vc (a b:Value) (h:
 dF H0 3 8 [(.int .i64 0)] (.int .i64 19) (.int .i64 19) fun c d=>ri 19 1 (.pointer (some ⟨4,0,none⟩)) none (some b) fun b=>bV b fun e=> ∃ (f:Value→ai→Prop) (g:Value→ai→Nat),f (.int .i64 0) d∧∀ (_:Env) (d:Value) (h:ai),f d h→cq d e fun e=>ao e (aI 1 b d fun b=>ak h b fun b=>ab 249 #[a,(.int .i64 3)] h fun a e=>aq 0 a fun i=>aq 1 a fun a=>ea 0 a (.int .i64 0) fun j=>ao j (R (.tuple #[(.pointer none),a]) e) (aI 1 c b fun a=>aF e a i fun _ a=>aG d (.int .i64 1) fun b=>f b a∧g b a<g d h)) (ab 162 #[c,(.bool false)] h fun a b=>aq 0 a fun c=>aq 1 a fun a=>R (.tuple #[c,a]) b)):ab 275 #[a,b] H0 R:=bD 0x106a2959003a52a37a3a6300531a2842214301f1764a32a2a Tryz.func275 h
theorem wN.vc (a b c:Value) (h:
 ∃ (d:Value→ai→Prop) (e:Value→ai→Nat),d (.slice none 0 0) H0∧∀ (_:Env) (f:Value) (g:ai),d f g→bV f fun h=>cq h c fun h=>ao h (ab 255 #[b,a] g fun b h=>aq 0 b fun i=>aq 1 b fun b=>ea 0 b (.int .i64 0) fun j=>ao j (R (.tuple #[(.slice none 0 0),b]) h) (ab 295 #[a,i,f] h fun a b=>aq 0 a fun h=>aq 1 a fun i=>aq 2 a fun a=>ea 0 a (.int .i64 0) fun j=>ao j (R (.tuple #[(.slice none 0 0),a]) b) (bV f fun a=>bY c a fun a=>dW h a fun a=>ao a (R (.tuple #[(.slice none 0 0),(.int .i64 20)]) b) (∃ (a:Value→Value→ai→Prop) (c:Value→Value→ai→Nat),a f (.int .i64 0) b∧∀ (_:Env) (b j:Value) (k:ai),a b j k→cq j h fun h=>ao h (aY k 3 1 [(.int .i64 0)] [(0,1,i)] fun h i=>bj i 3 1 8 [(.int .i64 0)] b h fun h i=>aG j (.int .i64 1) fun l=>a h l i∧c h l i<c b j k) (d b k∧e b k<e f g))))) (R (.tuple #[f,(.int .i64 0)]) g)):ab 276 #[a,b,c] H0 R:=bD 0x103a29596300531a64d018204d0182762a002a57a03a53a631ba003a52a318a60054a35e6101817631a2a Tryz.func276 h
theorem jn.vc (a b c d:Value) (h:
 e7 d fun d=>ao d (R (.tuple #[(.int .i64 0),(.int .i64 4)]) H0) (aB a fun a=>aa 0 a fun a=>ab 249 #[a,c] H0 fun a c=>aq 0 a fun d=>aq 1 a fun a=>aG b d fun b=>R (.tuple #[b,a]) c)):ab 280 #[a,b,c,d] H0 R:=bD 0x106a1aa002a52a32a Tryz.func280 h
theorem yp.vc (a b c:Value) (h:
 ∃d:Value→Value→Value→ai→Prop,(∀ (_:Env) (e f g:Value) (h:ai),d e f g h→ab 249 #[a,f] h fun a f=>aq 0 a fun h=>aq 1 a fun a=>aG e h fun e=>R (.tuple #[e,g,a]) f)∧cu 0 b (.int .i64 16) fun a=>ao a (bV c fun a=>cu 0 a (.int .i64 0) fun a=>ao a (R (.tuple #[(.int .i64 0),(.int .i64 0),(.int .i64 3)]) H0) (bV c fun a=>bY a (.int .i64 1) fun a=>aI 1 c a fun a=>ak H0 a fun a=>d (.int .i64 3) (.int .i64 2) a H0)) (cu 0 b (.int .i64 17) fun a=>ao a (d (.int .i64 3) (.int .i64 3) (.int .i64 0) H0) (cu 0 b (.int .i64 18) fun a=>ao a (d (.int .i64 11) (.int .i64 7) (.int .i64 0) H0) (R (.tuple #[(.int .i64 1),b,(.int .i64 0)]) H0)))):ab 295 #[a,b,c] H0 R:=bD 0x1018a18a04a2952a1952a79003a53a352a61a282562219143a3a Tryz.func295 h
end
section
set_option maxRecDepth 100000
variable {H:ai} {R:Value→ai→Prop}
theorem bJ {n k:Nat} (hn:n<18446744073709551616) (PS:1≤k) (hk:k≤8) (h: ∀H',Ext H H' →R (str (aQ n k)) H'):ab 118 #[.int .u64 n,.int .i64 k] H R:=by
 refine Nz.vc _ _ _ _ ?_;simp only [a8,aN,fC,ki];rw [decide_eq_false (by omega),aj];refine fun _=>Np (by omega) (by omega) (by omega) fun v H1 o1 e1 s1 k1=>?_;refine(o1.sl (by decide)).len (n:=k) (by simp) (by decide) ?_;refine⟨fun i1 H' => ∃ (i:Nat) (l:List UInt8),i1= .int .i64 i∧i≤k∧l.length=k∧l.take i=aQ n i∧kI H' v 1 (l.map bX)∧Ext H H',fun i1 _=>match i1 with| .int _ x=> (k - x).toNat|_=>0,
  ⟨0,List.replicate k 0,rfl,by omega,by simp,rfl,?_,e1⟩,?_⟩
 ·rw [af_] at o1
  rw [List.map_replicate];exact o1
 rintro _ _ H2 ⟨i,l,rfl,hi,hl,ht,o2,e2⟩;simp only [az,mc,kj,bR,aN];refine av (fun hc=>?_) (fun hc=>?_)
 ·rw [ba (n:=8* (i:Int)) (by omega) (by omega)]
  refine⟨by omega,?_⟩;rw [show 8* (i:Int)= ((8*i:Nat):Int) by omega,JL (show 8*i≤64 by omega)];have hb:Value.int .u8 (IntKind.u8.wrap ((n/2 ^ (8*i):Nat):Int))=bX (UInt8.ofNat (n/256 ^ i%256)):=by
   rw [show (256:Nat) ^ i=2 ^ (8*i) by rw [Nat.pow_mul],sR]
  rw [hb];refine o2.store (x:=bX _) rfl (by omega) (by rw [agw];omega) fun H3 o3 i3 s3=>?_;rw [ba (by omega) (by omega)];rw [af_,←List.map_set] at o3;refine⟨⟨i+1,_,rfl,by omega,by simpa using hl,?_,o3,x9 e2 (fun k' gE =>by rw [k1,agf] at gE;omega) i3 (by omega)⟩,by show (_:Int).toNat< (_:Int).toNat;omega⟩;rw [agz,ahC (by omega),ajv (by omega),ht,ur]
  rfl
 ·have hie:i=k:=by omega
  subst hie;rw [agx (by omega)] at ht;rw [ht] at o2;exact Sl.str (o2.sl (by decide)) (h H2 e2)
theorem pB {n kn:Nat} {k:Int} (e:k=kn) (hn:n<18446744073709551616) (PS:1≤kn) (hk:kn≤8) (h: ∀H',Ext H H' →R (str (aQ n kn)) H'):ab 118 #[.int .u64 n,.int .i64 k] H R:=by
 subst e;exact bJ hn PS hk h
theorem mM {s:List UInt8} (hs:s.length≤1000000) (h:R (.int .u64 ((if s.length≤8 then ji s else 0:Nat):Int)) H):ab 109 #[str s] H R:=by
 refine Ny.vc _ _ _ ?_;simp only [qf,bu,aZ,a8];refine av (fun hc=>?_) (fun hc=>?_)
 ·rw [if_neg (by omega)] at h
  exact h
 rw [if_pos (by omega)] at h;rw [ba (n:= (s.length:Int) - 1) (by omega) (by omega)];refine⟨fun n1 i1 H' => ∃i:Nat,i1= .int .i64 ((i:Int) - 1)∧i≤s.length∧n1= .int .u64 ((ji (s.drop i):Nat):Int)∧H=H',fun _ i1 _=>match i1 with| .int _ x=> (x+1).toNat|_=>0,
  ⟨s.length,rfl,aga _,by rw [ahM];rfl,rfl⟩,?_⟩
 rintro _ _ _ _ ⟨i,rfl,hi,rfl,rfl⟩;simp only [and_true,aZ,cf,bu,bR,eB,Int.reduceLE,cd,true_and,dP];refine av (fun f_=>?_) (fun f_=>?_)
 ·obtain⟨j,rfl⟩: ∃j,i=j+1:= ⟨i - 1,by omega⟩
  have Aw:j<s.length:=by omega
  have h1:=CB (s.drop (j+1));have h2:256 ^ (s.drop (j+1)).length≤256 ^ 7:=agA (by decide) (by rw [agl];omega);have h3: (256:Nat) ^ 7=72057594037927936:=by decide
  have e:=KP Aw;refine⟨by omega,by omega,?_⟩;rw [show (((j+1:Nat):Int) - 1).toNat=j by omega,agd,agb Aw,ahi];generalize s[j]=x at*;have hx:x.toNat<256:=x.toNat_lt;generalize hG:ji (s.drop (j+1))=G at*;rw [show min (Int.toNat 8) IntKind.u64.bits=8 from rfl,show (G:Int)*2 ^ 8= ((G*2 ^ 8:Nat):Int) by omega,cR (n:= ((G*2 ^ 8:Nat):Int)) (by omega) (by omega),cR (n:= (x.toNat:Int)) (by omega) (by omega)];rw [uq (by omega) (by omega),aiq,sQ (by omega),ba (by omega) (by omega)];refine⟨⟨j,by congr 1;omega,by omega,?_⟩,by show (_:Int).toNat< (_:Int).toNat;omega⟩
  congr 1
  rw [e];omega
 ·have:i=0:=by omega
  subst this;exact h
end
section
set_option maxRecDepth 100000
def dA (ls:List Nat) (n:Nat):Nat:=ls.countP fun k=>decide (k=n)
def e_ (ls:List Nat):Nat→Nat
 |0=>0
 |n+1=>2*e_ ls n+dA ls (n+1)
def km (ls:List Nat) (n:Nat):Nat:=2*e_ ls (n - 1)
theorem yq (ls:List Nat) {n:Nat} (hn:1≤n):e_ ls n=km ls n+dA ls n:=by
 obtain⟨m,rfl⟩: ∃m,n=m+1:= ⟨n - 1,by omega⟩
 rfl
def jo (ls:List Nat) (n:Nat):Int:= ((2 ^ n:Nat):Int) - (e_ ls n:Int)
theorem yu (ls:List Nat) (n:Nat):jo ls (n+1)=2*jo ls n - (dA ls (n+1):Int):=by
 unfold jo;rw [e_,agW];omega
theorem Bj (ls:List Nat) {n m:Nat} (h:jo ls n<0) (hm:n≤m):jo ls m<0:=by
 induction m with
 |zero=>
  have:n=0:=by omega
  subst this;exact h
 |succ m ih=>
  by_cases he:n=m+1
  ·subst he;exact h
  ·have:=ih (by omega)
   rw [yu];omega
def shareL (ls:List Nat) (m:Nat):Nat:= (ls.map fun k=>if 1≤k∧k≤m then 2 ^ (m - k) else 0).sum
theorem kL (k:Nat) (ls:List Nat) (n:Nat):dA (k::ls) n=dA ls n+ (if k=n then 1 else 0):=by
 unfold dA;rw [aic]
 simp
theorem fh (a b:List Nat) (n:Nat):dA (a++b) n=dA a n+dA b n:=by unfold dA;rw [List.countP_append]
theorem Bk (k:Nat) (ls:List Nat): ∀n,e_ (k::ls) n=e_ ls n+ (if 1≤k∧k≤n then 2 ^ (n - k) else 0)
 |0=>by rw [if_neg (by omega)];rfl
 |n+1=>by
  rw [e_,Bk k ls n,kL,e_]
  by_cases h1:k=n+1
  ·subst h1
   rw [if_neg (by omega),if_pos rfl,if_pos (by omega),ahB];simp;omega
  ·rw [if_neg h1]
   by_cases h2:1≤k∧k≤n
   ·rw [if_pos h2,if_pos (by omega),show n+1 - k= (n - k)+1 by omega,agW];omega
   ·rw [if_neg h2,if_neg (by omega)];omega
theorem rF (ls:List Nat) (n:Nat):e_ ls n=shareL ls n:=by
 induction ls with
 |nil=>
  induction n with
  |zero=>rfl
  |succ n ih=>rw [e_,ih];rfl
 |cons k ls ih=>rw [Bk,ih];unfold shareL;rw [aha,aid];omega
def sX (ls:List Nat) (s:Nat):Nat:=dA (ls.take s) (ls.getD s 0)
def eG (ls:List Nat) (s:Nat):Nat:=km ls (ls.getD s 0)+sX ls s
theorem QE {ls:List Nat} {s:Nat} (hs:s<ls.length):sX ls s<dA ls (ls.getD s 0):=by
 unfold sX;have e:ls=ls.take s++ls[s]::ls.drop (s+1):=by rw [←ag4 hs,agE]
 have hg:ls.getD s 0=ls[s]:=by rw [agd,agb hs];rfl
 rw [hg];generalize ls[s]=x at e;have h2:=congrArg (fun l=>dA l x) e;simp only [fh,kL,if_true] at h2;omega
theorem CH {ls:List Nat} {s:Nat} (hs:s<ls.length) (h1:1≤ls.getD s 0):eG ls s<e_ ls (ls.getD s 0):=by
 rw [yq _ h1];unfold eG;have:=QE hs;omega
theorem HI (ls:List Nat) {n m:Nat} (h:n≤m):e_ ls n*2 ^ (m - n)≤e_ ls m:=by
 induction m with
 |zero=>
  have:n=0:=by omega
  subst this;simp
 |succ m ih=>
  by_cases he:n=m+1
  ·subst he;rw [ahB];simp
  ·have:=ih (by omega)
   rw [show m+1 - n= (m - n)+1 by omega,agW,e_];have e:e_ ls n* (2 ^ (m - n)*2)=2* (e_ ls n*2 ^ (m - n)):=by rw [←ah8,agT]
   rw [e];omega
theorem CI (ls:List Nat) {n m:Nat} (h:n<m):e_ ls n*2 ^ (m - n)≤km ls m:=by
 unfold km;have:=HI ls (n:=n) (m:=m - 1) (by omega);rw [show m - n= (m - 1 - n)+1 by omega,agW];have e:e_ ls n* (2 ^ (m - 1 - n)*2)=2* (e_ ls n*2 ^ (m - 1 - n)):=by rw [←ah8,agT]
 rw [e];omega
theorem CJ {ls:List Nat} {s t:Nat} (hs:s<ls.length) (ht:t<ls.length) (h1:1≤ls.getD s 0) (cF:ls.getD s 0<ls.getD t 0):
  eG ls t/2 ^ (ls.getD t 0 - ls.getD s 0)≠eG ls s:=by
 have h:=CH hs h1;have jM:=CI ls cF;have hc:km ls (ls.getD t 0)≤eG ls t:=by unfold eG;omega
 have hp:0<2 ^ (ls.getD t 0 - ls.getD s 0):=aib _;have:e_ ls (ls.getD s 0)≤eG ls t/2 ^ (ls.getD t 0 - ls.getD s 0):= (Nat.le_div_iff_mul_le hp).2 (by omega);omega
theorem sY {ls:List Nat} {s t:Nat} (jM:s<t) (ht:t<ls.length) (he:ls.getD s 0=ls.getD t 0):sX ls s<sX ls t:=by
 unfold sX;rw [he];have hs:s<ls.length:=by omega
 have hg:ls.getD s 0=ls[s]:=by rw [agd,agb hs];rfl
 have e:ls.take t=ls.take s++ls[s]:: (ls.take t).drop (s+1):=by
  have h1: (ls.take t).take s=ls.take s:=by rw [aiM,ag2 (by omega)]
  have h2:s< (ls.take t).length:=by rw [age];omega
  have h3:=agE s (ls.take t);rw [h1,ag4 h2,ai_] at h3;exact h3.symm
 rw [e,fh,kL,if_pos (by rw [←hg,he])];omega
theorem NA {ls:List Nat} {s t:Nat} (hs:s<ls.length) (ht:t<ls.length) (df:s≠t) (he:ls.getD s 0=ls.getD t 0):eG ls s≠eG ls t:=by
 unfold eG;rw [he];rcases Nat.lt_or_gt_of_ne df with h|h
 ·have:=sY h ht he;omega
 ·have:=sY h hs he.symm;omega
end
end Go.Proofs.YtpcgccdmmoggmaaGreatDoor
namespace Go.Vc
open Go
section
set_option maxRecDepth 100000
def aH (l:List Int):List Value:=l.map fun z=> .int .i64 z
theorem aL (l:List Int): (aH l).length=l.length:=by simp [aH]
theorem KR {l:List Int}: (aH l).all aK=true:=by simp [aH,aK]
theorem bM {l:List Int} {i:Nat} (h:i<l.length): (aH l)[i]? =some (.int .i64 l[i]):=by unfold aH;rw [agu,agb h];rfl
theorem nG (l m:List Int):aH (l++m)=aH l++aH m:=by simp [aH]
theorem rG (l:List Int) (n:Nat): (aH l).take n=aH (l.take n):=by unfold aH;rw [ai0]
theorem HJ (l:List Int) (n:Nat): (aH l).drop n=aH (l.drop n):=by unfold aH;rw [List.map_drop]
theorem iD (l:List Int) (i:Nat) (z:Int): (aH l).set i (.int .i64 z)=aH (l.set i z):=by unfold aH;rw [List.map_set]
theorem jE (n:Nat):List.replicate n (Value.int .i64 0)=aH (List.replicate n 0):=by simp [aH]
theorem EP {H:ai} {a:Option Addr} {len cap:Nat} {zs:List Int} (h:ir .i64 H a len cap zs): ∃l:List Int,l.length=len∧len≤maxLen∧(∀z∈l,-9223372036854775808≤z∧z≤9223372036854775807)∧Sl H (.slice a len cap) 1 (aH l):=by
 refine⟨zs.take len,?_,h.Qt,?_,?_⟩
 ·rw [age];have:=h.S2;omega
 ·intro z hz
  obtain⟨i,hi⟩:=ahI hz;rw [agV] at hi
  split at hi
  ·rename_i cF
   have hw:=h.wf cF;rw [agd,hi] at hw;exact Vj hw
  ·cases hi
 ·rcases h with ⟨rfl,rfl,rfl,rfl⟩ | ⟨x,rfl,hl,_,hz,hc,hw⟩
  ·exact .inl ⟨rfl,rfl⟩
  ·refine .inr ⟨x,len,cap,rfl,by rw [aL,age];omega,hl,fun i v hv=>?_⟩
   have hi:i< (zs.take len).length:=by have:= (agD.1 hv).1;rwa [aL] at this
   rw [bM hi,agf] at hv;rw [age] at hi;rw [hc i (by omega),←hv,agd,agb (by omega),ai_]
   rfl
end
end Go.Vc
namespace Go.Proofs.YtpcgccdmmoggmaaGreatDoor
open Go Go.Vc Go.Proofs
section
set_option maxHeartbeats 4000000
set_option maxRecDepth 100000
variable [Go.Vc.Mode] (H0:ai) (R:Value→ai→Prop)
theorem ER.vc (a:Value) (h:
 bV a fun b=>dW b (.int .i64 1048576) fun b=>ao b (R (.tuple #[(.int .i64 1048576),(.int .i64 11)]) H0) (mr H0 fun b c=>mr c fun c d=>aT [(.map none),(.map none)] [(0,1,b),(1,1,c)] fun b=>bs d 214 b fun b c=>bV a fun d=> ∃ (e:Value→ai→Prop) (f:Value→ai→Nat),e (.int .i64 0) c∧∀ (_:Env) (c:Value) (g:ai),e c g→cq c d fun d=>ao d (aI 1 a c fun a=>ak g a fun a=>ab 143 #[a] g fun d h=>ea 0 d (.int .i64 0) fun i=>ao i (R (.tuple #[c,d]) h) (ab 144 #[b,a] h fun d h=>ao d (R (.tuple #[c,(.int .i64 10)]) h) (ab 145 #[b,a] h fun _ a=>aG c (.int .i64 1) fun b=>e b a∧f b a<f c g))) (R (.tuple #[(.int .i64 0),(.int .i64 0)]) g))):ab 93 #[a] H0 R:=bD 0x102a2939003a53a3004a52a3a35a6300531a2a19211230291763a35a002a53a32a Tryz.func93 h
theorem om.vc (a b:Value) (h:
 aB a fun c=>aa 0 c fun c=>ak H0 c fun c=>fT H0 1 (.bool false) false c b fun c=>d_ c (fun c=>aB a fun d=>aa 1 d fun d=>ak H0 d fun d=>fT H0 1 (.bool false) false d b fun d=>c d H0) H0 fun c d=> ∀_:Env,ao c (R (.bool true) d) (aX b fun c=> ∃ (e:Value→ai→Prop) (f:Value→ai→Nat),e (.int .i64 0) d∧∀ (_:Env) (d:Value) (g:ai),e d g→cq d c fun c=>ao c (bO b d fun c=>bO (str [47]) (.int .i64 0) fun h=>cu 0 c h fun c=>bZ c (fun c=>aB a fun a=>aa 0 a fun a=>ak g a fun a=>a7 b none (some d) fun b=>fT g 1 (.bool false) false a b fun a=>c a g) g fun a b=> ∀_:Env,ao a (R (.bool true) b) (aG d (.int .i64 1) fun a=>e a b∧f a b<f d g)) (R (.bool false) g))):ab 144 #[a,b] H0 R:=bD 0x101a29001a501e01864526041268ff537f511111202001f232a6300531a2a2814202e1763a3001a501d0674627041331a Tryz.func144 h
theorem qY.vc (a b:Value) (h:
 aB a fun c=>aa 0 c fun c=>ak H0 c fun c=>ie H0 1 c b (.bool true) fun _ c=>aX b fun d=> ∃ (e:Value→ai→Prop) (f:Value→ai→Nat),e (.int .i64 0) c∧∀ (_:Env) (c:Value) (g:ai),e c g→cq c d fun d=>ao d (bO b c fun d=>bO (str [47]) (.int .i64 0) fun h=>cu 0 d h fun d=>ao d (aB a fun a=>aa 1 a fun a=>ak g a fun a=>a7 b none (some c) fun b=>ie g 1 a b (.bool true) fun _ a=>aG c (.int .i64 1) fun b=>e b a∧f b a<f c g) (aG c (.int .i64 1) fun a=>e a g∧f a g<f c g)) (R (.tuple #[]) g)):ab 145 #[a,b] H0 R:=bD 0x129001804268500111018250504202005232a6300531a1f704201c1763a6a Tryz.func145 h
theorem HK.vc (a:Value) (h:
 aX a fun b=> ∃ (c:Value→ai→Prop) (d:Value→ai→Nat),c (.int .i64 0) H0∧∀ (_:Env) (e:Value) (f:ai),c e f→cq e b fun b=>ao b (bO a e fun a=>lB a (.int .u8 128) fun a=>ao a (R (.bool false) f) (aG e (.int .i64 1) fun a=>c a f∧d a f<d e f)) (R (.bool true) f)):ab 196 #[a] H0 R:=bD 0x101a29001a54a2a6300531a72122061763a31a Tryz.func196 h
theorem AD.vc (a:Value) (h:
 bs H0 44 a fun a b=>aa 11 a fun c=>ak b c fun c=>bZ c (fun c=>aa 7 a fun d=>ak b d fun d=>ea 0 d (.int .u64 0) fun d=>d_ d (fun d=>aa 8 a fun e=>ak b e fun e=>ea 0 e (.int .u64 0) fun e=>d e b) b fun d e=> ∀_:Env,c d e) b fun b c=> ∀_:Env,ao b (R (.bool false) c) (aa 0 a fun b=>ak c b fun b=>ab 143 #[b] c fun b c=>cu 0 b (.int .i64 0) fun b=>bZ b (fun b=>aa 1 a fun d=>aE c 6 d fun d=>ab 94 #[d] c fun d e=>b d e) c fun b c=> ∀_:Env,bZ b (fun b=>aa 7 a fun d=>ak c d fun d=>cq d (.int .u64 4611686018427387904) fun d=>b d c) c fun b c=> ∀_:Env,bZ b (fun b=>aa 8 a fun d=>ak c d fun d=>cq d (.int .u64 4611686018427387904) fun d=>b d c) c fun b c=> ∀_:Env,bZ b (fun b=>aa 10 a fun a=>ak c a fun a=>cq a (.int .u64 4611686018427387904) fun a=>b a c) c fun a b=> ∀_:Env,R a b)):ab 95 #[a] H0 R:=bD 0x1003852f032c42b22b52a031f41e21e51d031a41921951803544250413001a501b01a037462434223041332a Tryz.func95 h
theorem yx.vc (a:Value) (h:
 bs H0 44 a fun a b=>aE b 12 a fun c=>ab 95 #[c] b fun b c=>e7 b fun b=>ao b (R (str []) c) (aE c 12 a fun b=>aE c 12 a fun d=>ab 139 #[b] c fun b c=> (aE c 12 a fun e=>e=d)∧ab 146 #[b] c fun b c=> (aE c 12 a fun e=>e=d)∧aG (str [80,75,3,4]) b fun b=>ab 147 #[d] c fun c d=>aG b c fun b=>aE d 12 a fun c=>ab 139 #[c] d fun c d=>ao c (aa 0 a fun c=>ak d c fun e=>aX e fun f=>bm .u64 f fun f=>aa 0 a fun g=>ak d g fun h=>ab 118 #[(.int .u64 0),(.int .i64 4)] d fun i j=> (ak j c fun c=>c=e)∧(ak j g fun c=>c=h)∧aG b i fun c=>aG c (str [255,255,255,255]) fun c=>aG c (str [255,255,255,255]) fun c=>ab 118 #[f,(.int .i64 2)] j fun e f=> (ak f g fun i=>i=h)∧aG c e fun c=>ab 118 #[(.int .u64 20),(.int .i64 2)] f fun e f=> (ak f g fun i=>i=h)∧aG c e fun c=>aG c h fun c=>ab 118 #[(.int .u64 1),(.int .i64 2)] f fun e f=> (ak f g fun i=>i=h)∧aG c e fun c=>ab 118 #[(.int .u64 16),(.int .i64 2)] f fun e f=> (ak f g fun i=>i=h)∧aG c e fun c=>ab 50 #[(str [0]),(.int .i64 16)] f fun e f=> (ak f g fun g=>g=h)∧aG c e fun c=>R c f) (aa 0 a fun c=>ak d c fun e=>aX e fun f=>bm .u64 f fun f=>aa 0 a fun a=>ak d a fun g=>ab 50 #[(str [0]),(.int .i64 12)] d fun d h=> (ak h c fun c=>c=e)∧(ak h a fun c=>c=g)∧aG b d fun b=>ab 118 #[f,(.int .i64 2)] h fun c d=> (ak d a fun e=>e=g)∧aG b c fun b=>ab 118 #[(.int .u64 0),(.int .i64 2)] d fun c d=> (ak d a fun a=>a=g)∧aG b c fun a=>aG a g fun a=>R a d))):ab 96 #[a] H0 R:=bD 0x10021d41a51c11911851c171251c421121b443405121023fa521fa511102001f2300022d41e12c12b51e12a12951e12811f51c51e11b11a51e11913241e621121d445405121a8dfca5228dfca525fca521021fca527ca51110112002f2352a3035435412141114505122f5011101823001a53a32a Tryz.func96 h
theorem yy.vc (a:Value) (h:
 bs H0 44 a fun a b=>aE b 12 a fun c=>ab 95 #[c] b fun b c=>e7 b fun b=>d_ b (fun b=>aa 11 a fun d=>ak c d fun d=>b d c) c fun b c=> ∀_:Env,ao b (R (str []) c) (∃b:Value→ai→Prop,(∀ (_:Env) (d:Value) (e:ai),b d e→aa 9 a fun f=>ak e f fun f=>bm .u64 f fun f=>aa 7 a fun g=>ak e g fun h=>aa 8 a fun i=>ak e i fun j=>ab 118 #[f,(.int .i64 4)] e fun e f=> (ak f g fun g=>g=h)∧(ak f i fun g=>g=j)∧aG (str [80,75,7,8]) e fun e=>ab 118 #[h,d] f fun f g=> (ak g i fun h=>h=j)∧aG e f fun e=>ab 118 #[j,d] g fun d f=>aG e d fun d=>R d f)∧aE c 12 a fun a=>ab 139 #[a] c fun a c=>ao a (b (.int .i64 8) c) (b (.int .i64 4) c))):ab 97 #[a] H0 R:=bD 0x10031d41951b1181451b623131a4354304121efdf501023df501011110282301952a1703203141a001a5060244324041332a Tryz.func97 h
theorem uB.vc (a:Value) (h:
 bs H0 44 a fun a b=>aE b 12 a fun c=>ab 95 #[c] b fun b c=>e7 b fun b=>ao b (R (str []) c) (aa 10 a fun b=>ak c b fun b=>dW b (.int .u64 4294967294) fun b=> ∃d:Value→ai→Prop,(∀ (_:Env) (e:Value) (f:ai),d e f→∃g:Value→ai→Prop,(∀ (_:Env) (h:Value) (i:ai),g h i→∃j:Value→ai→Prop,(∀ (_:Env) (k:Value) (l:ai),j k l→aE l 12 a fun m=>ab 139 #[m] l fun l m=>d_ l (fun l=>l b m) m fun l m=> ∀_:Env,ab 146 #[l] m fun l m=>aG (str [80,75,1,2]) l fun n=>aG n l fun l=>aE m 12 a fun n=>aa 9 a fun o=>ak m o fun p=>bm .u64 p fun q=>aa 7 a fun r=>ak m r fun s=>aE m 12 a fun t=>aa 8 a fun u=>ak m u fun v=>aE m 12 a fun w=>aa 0 a fun x=>ak m x fun y=>aX y fun z=>bm .u64 z fun z=>aX k fun A=>bm .u64 A fun A=>aa 10 a fun B=>ak m B fun C=>aa 0 a fun D=>ak m D fun E=>ab 147 #[n] m fun m n=> (ak n o fun o=>o=p)∧(ak n r fun o=>o=s)∧(aE n 12 a fun o=>o=t)∧(ak n u fun o=>o=v)∧(aE n 12 a fun o=>o=w)∧(ak n x fun o=>o=y)∧(ak n B fun o=>o=C)∧(ak n D fun o=>o=E)∧aG l m fun l=>ab 118 #[q,(.int .i64 4)] n fun m n=> (ak n r fun o=>o=s)∧(aE n 12 a fun o=>o=t)∧(ak n u fun o=>o=v)∧(aE n 12 a fun o=>o=w)∧(ak n x fun o=>o=y)∧(ak n B fun o=>o=C)∧(ak n D fun o=>o=E)∧aG l m fun l=>ab 139 #[t] n fun m n=> (ak n r fun o=>o=s)∧(ak n u fun o=>o=v)∧(aE n 12 a fun o=>o=w)∧(ak n x fun o=>o=y)∧(ak n B fun o=>o=C)∧(ak n D fun o=>o=E)∧ab 148 #[s,m] n fun m n=> (ak n u fun o=>o=v)∧(aE n 12 a fun o=>o=w)∧(ak n x fun o=>o=y)∧(ak n B fun o=>o=C)∧(ak n D fun o=>o=E)∧aG l m fun l=>ab 139 #[w] n fun m n=> (ak n u fun o=>o=v)∧(ak n x fun o=>o=y)∧(ak n B fun o=>o=C)∧(ak n D fun o=>o=E)∧ab 148 #[v,m] n fun m n=> (ak n x fun o=>o=y)∧(ak n B fun o=>o=C)∧(ak n D fun o=>o=E)∧aG l m fun l=>ab 118 #[z,(.int .i64 2)] n fun m n=> (ak n B fun o=>o=C)∧(ak n D fun o=>o=E)∧aG l m fun l=>ab 118 #[A,(.int .i64 2)] n fun m n=> (ak n B fun o=>o=C)∧(ak n D fun o=>o=E)∧aG l m fun l=>ab 50 #[(str [0]),(.int .i64 10)] n fun m n=> (ak n B fun o=>o=C)∧(ak n D fun o=>o=E)∧aG l m fun l=>ab 148 #[C,b] n fun m n=> (ak n D fun o=>o=E)∧aG l m fun l=>aG l E fun l=>aG l k fun k=>R k n)∧ea 1 h (str []) fun k=>ao k (ab 118 #[(.int .u64 1),(.int .i64 2)] i fun k l=>aX h fun m=>bm .u64 m fun m=>ab 118 #[m,(.int .i64 2)] l fun l m=>aG k l fun k=>aG k h fun k=>j k m) (j h i))∧ao b (aa 10 a fun b=>ak f b fun b=>ab 118 #[b,(.int .i64 8)] f fun b h=>aG e b fun b=>g b h) (g e f))∧aE c 12 a fun b=>ab 139 #[b] c fun b c=>ao b (aa 8 a fun b=>ak c b fun b=>aa 7 a fun a=>ak c a fun e=>ab 118 #[b,(.int .i64 8)] c fun b f=> (ak f a fun a=>a=e)∧ab 118 #[e,(.int .i64 8)] f fun a e=>aG b a fun a=>aG (str []) a fun a=>d a e) (d (str []) c))):ab 98 #[a] H0 R:=bD 0x10025e45c55955b15814c55b4e24b14a55b4e24913d55b4e23c12f55b4e3932e15b4e392b42d12955b4e392c2b52815b4e392c2b1d61f11b55b4e392c2b1e1d71a1655b4e392c2b1e1d1818515d525a434d433e4438432a431c437450412021021edfbfbfbfbee8501021fbfbfbfbee8527bfbfbfbee8511021fbfbfbee85111021fbfbee854bfbee8501021fbee854bee8501021ee8511021020106823025440352230413019952a1938042041406951a52a04204140046451312443041217e51011001a252a1a704204141a4a001a53a32a Tryz.func98 h
theorem JM.vc (a b c:Value) (h:
 lB a (.int .u64 4611686018427387904) fun d=>d_ d (fun d=>lB b (.int .u64 4611686018427387904) fun e=>d e H0) H0 fun d e=> ∀_:Env,d_ d (fun d=>lB c (.int .u64 4611686018427387904) fun f=>d f e) e fun d e=> ∀_:Env,ao d (R (str []) e) (∃d:Value→ai→Prop,(∀ (_:Env) (f:Value) (g:ai),d f g→jU a (.int .u64 65535) fun h=>ab 118 #[h,(.int .i64 2)] g fun g h=>aG f (str [80,75,5,6]) fun f=>ab 118 #[(.int .u64 0),(.int .i64 4)] h fun h i=>aG f h fun f=>aG f g fun f=>aG f g fun f=>dW b (.int .u64 4294967294) fun g=>ab 148 #[b,g] i fun g h=>aG f g fun f=>dW c (.int .u64 4294967294) fun g=>ab 148 #[c,g] h fun g h=>aG f g fun f=>ab 118 #[(.int .u64 0),(.int .i64 2)] h fun g h=>aG f g fun f=>R f h)∧dW a (.int .u64 65534) fun f=>d_ f (fun f=>dW b (.int .u64 4294967294) fun g=>f g e) e fun e f=> ∀_:Env,d_ e (fun e=>dW c (.int .u64 4294967294) fun g=>e g f) f fun e f=> ∀_:Env,ao e (ab 118 #[(.int .u64 44),(.int .i64 8)] f fun e g=>aG (str [80,75,6,6]) e fun e=>ab 146 #[(.bool true)] g fun g h=>aG e g fun e=>ab 146 #[(.bool true)] h fun g h=>aG e g fun e=>ab 118 #[(.int .u64 0),(.int .i64 8)] h fun g h=>aG e g fun e=>ab 118 #[a,(.int .i64 8)] h fun g h=>aG e g fun e=>ab 118 #[a,(.int .i64 8)] h fun a g=>aG e a fun a=>ab 118 #[b,(.int .i64 8)] g fun e g=>aG a e fun a=>ab 118 #[c,(.int .i64 8)] g fun e g=>aG a e fun a=>ab 118 #[(.int .u64 0),(.int .i64 4)] g fun e g=>aG (str [80,75,6,7]) e fun e=>aG c b fun b=>ab 118 #[b,(.int .i64 8)] g fun b c=>aG e b fun b=>ab 118 #[(.int .u64 1),(.int .i64 4)] c fun c e=>aG b c fun b=>aG a b fun a=>d a e) (d (str []) f))):ab 99 #[a,b,c] H0 R:=bD 0x102da4a01c92da501902746265502342230413581b07207141a001a50190274626550234223041331a Tryz.func99 h
theorem CK.vc (a:Value) (h:
 bs H0 44 a fun a b=>aa 8 a fun c=>ak b c fun c=>dW c (.int .u64 4294705145) fun c=>d_ c (fun c=>aa 7 a fun a=>ak b a fun a=>dW a (.int .u64 4294705145) fun a=>c a b) b fun a b=> ∀_:Env,R a b):ab 139 #[a] H0 R:=bD 0x1001857034432404132a Tryz.func139 h
theorem vH.vc (a:Value) (h:
 ao a (ab 118 #[(.int .u64 45),(.int .i64 2)] H0 fun a b=>R a b) (ab 118 #[(.int .u64 20),(.int .i64 2)] H0 fun a b=>R a b)):ab 146 #[a] H0 R:=bD 0x102a002a51a31a Tryz.func146 h
theorem wO.vc (a:Value) (h:
 bs H0 44 a fun a b=> ∃c:Value→Value→ai→Prop,(∀ (_:Env) (d e:Value) (f:ai),c d e f→∃g:Value→ai→Prop,(∀ (_:Env) (h:Value) (i:ai),g h i→aa 1 a fun j=>aE i 6 j fun j=>ab 197 #[j] i fun i j=>aq 0 i fun k=>aq 1 i fun l=>aq 2 i fun _=>ab 118 #[h,(.int .i64 2)] j fun h i=>ab 118 #[e,(.int .i64 2)] i fun e i=>aG h e fun e=>ab 118 #[l,(.int .i64 2)] i fun h i=>aG e h fun e=>ab 118 #[k,(.int .i64 2)] i fun h i=>aG e h fun e=>R e i)∧aa 0 a fun e=>ak f e fun e=>ab 196 #[e] f fun e f=>e7 e fun e=>ao e (cx .or d (.int .u64 2048) fun e=>g e f) (g d f))∧aa 11 a fun a=>ak b a fun a=>ao a (c (.int .u64 0) (.int .u64 0) b) (c (.int .u64 8) (.int .u64 8) b)):ab 147 #[a] H0 R:=bD 0x101ca1aa03954a56032031402952a1313213142a2a Tryz.func147 h
theorem yz.vc (a b:Value) (h:
 ao b (R (str [255,255,255,255]) H0) (ab 118 #[a,(.int .i64 4)] H0 fun a b=>R a b)):ab 148 #[a,b] H0 R:=bD 0x103a001a51a31a Tryz.func148 h
theorem wP.vc (a:Value) (h:
 bs H0 44 (.agg #[(str []),(.int .i64 0),(.int .i64 0),(.int .i64 0),(.int .i64 0),(.int .i64 0),(.int .i64 0),(.int .u64 0),(.int .u64 0),(.int .u32 0),(.int .u64 0),(.bool false)]) fun b c=>aT [(str []),(.int .i64 0),(.int .i64 0),(.int .i64 0),.nilFunc] [(0,1,(str [80,75,1,2])),(1,1,(.int .i64 46)),(2,1,(.int .i64 28)),(3,1,(.int .i64 8)),(4,1,(.func (.func 231) #[] #[]))] fun d=>ab 191 #[d,a] c fun a c=>aq 0 a fun d=>aq 1 a fun a=>aC c 12 b d fun _ c=>aE c 12 b fun b=>R (.tuple #[b,a]) c):ab 188 #[a] H0 R:=bD 0x107a2a Tryz.func188 h
theorem AE.vc (a b:Value) (h:
 bs H0 271 a fun a c=>bs c 44 (.agg #[(str []),(.int .i64 0),(.int .i64 0),(.int .i64 0),(.int .i64 0),(.int .i64 0),(.int .i64 0),(.int .u64 0),(.int .u64 0),(.int .u32 0),(.int .u64 0),(.bool false)]) fun c d=>aa 0 a fun e=>ak d e fun e=>ab 233 #[b,e] d fun d e=>e7 d fun d=>ao d (aT [(str []),(.int .i64 0),(.int .i64 0),(.int .i64 0),(.int .i64 0),(.int .i64 0),(.int .i64 0),(.int .u64 0),(.int .u64 0),(.int .u32 0),(.int .u64 0),(.bool false)] [] fun d=>aC e 12 c d fun _ d=>aE d 12 c fun f=>R (.tuple #[f,(.int .i64 (-1))]) d) (aa 2 a fun d=>ak e d fun d=>aa 2 a fun f=>ak e f fun g=>aG g (.int .i64 2) fun h=>ab 232 #[b,d,(.int .i64 2)] e fun d e=> (ak e f fun f=>f=g)∧bm .i64 d fun d=>ab 232 #[b,h,(.int .i64 2)] e fun e f=>bm .i64 e fun e=>aX b fun g=>aa 1 a fun h=>ak f h fun h=>cq g h fun g=>d_ g (fun g=>aX b fun h=>aa 1 a fun i=>ak f i fun i=>aG i d fun i=>aG i e fun i=>cq h i fun h=>g h f) f fun f g=> ∀_:Env,ao f (aT [(str []),(.int .i64 0),(.int .i64 0),(.int .i64 0),(.int .i64 0),(.int .i64 0),(.int .i64 0),(.int .u64 0),(.int .u64 0),(.int .u32 0),(.int .u64 0),(.bool false)] [] fun f=>aC g 12 c f fun _ f=>aE f 12 c fun h=>R (.tuple #[h,(.int .i64 0)]) f) (aa 1 a fun f=>ak g f fun f=>ab 234 #[b,f,d] g fun f g=>aT [(str []),(.int .i64 0),(.int .i64 0),(.int .i64 0),(.int .i64 0),(.int .i64 0),(.int .i64 0),(.int .u64 0),(.int .u64 0),(.int .u32 0),(.int .u64 0),(.bool false)] [(0,1,f)] fun f=>bs g 44 (.agg #[(str []),(.int .i64 0),(.int .i64 0),(.int .i64 0),(.int .i64 0),(.int .i64 0),(.int .i64 0),(.int .u64 0),(.int .u64 0),(.int .u32 0),(.int .u64 0),(.bool false)]) fun g h=>aC h 12 g f fun _ f=>aa 3 a fun h=>ak f h fun h=>ab 235 #[g,b,h] f fun f h=>e7 f fun f=>ao f (aT [(str []),(.int .i64 0),(.int .i64 0),(.int .i64 0),(.int .i64 0),(.int .i64 0),(.int .i64 0),(.int .u64 0),(.int .u64 0),(.int .u32 0),(.int .u64 0),(.bool false)] [] fun f=>aC h 12 c f fun _ f=>aE f 12 c fun i=>R (.tuple #[i,(.int .i64 (-1))]) f) (aa 4 a fun f=>ak h f fun f=>jk Tryz.prog Tryz.C f [b,g] h fun f h=>cu 1 f (str []) fun i=>d_ i (fun i=>aX f fun j=>aa 1 a fun a=>ak h a fun a=>aG a d fun a=>aG a e fun a=>ea 0 j a fun a=>i a h) h fun a d=> ∀_:Env,d_ a (fun a=>ab 106 #[b,f] d fun b e=>e7 b fun b=>a b e) d fun a b=> ∀_:Env,ao a (aT [(str []),(.int .i64 0),(.int .i64 0),(.int .i64 0),(.int .i64 0),(.int .i64 0),(.int .i64 0),(.int .u64 0),(.int .u64 0),(.int .u32 0),(.int .u64 0),(.bool false)] [] fun a=>aC b 12 c a fun _ a=>aE a 12 c fun d=>R (.tuple #[d,(.int .i64 (-1))]) a) (aE b 12 g fun a=>aX f fun d=>aC b 12 c a fun _ a=>aE a 12 c fun b=>R (.tuple #[b,d]) a))))):ab 191 #[a,b] H0 R:=bD 0x105a003a502a041e41d21d51c01934223041335a003a55a318a003a501f01964526041330419445713145430421fff517df51100121001d23003a55a33a Tryz.func191 h
theorem wQ.vc (a b:Value) (h:
 ab 232 #[a,(.int .i64 16),(.int .i64 4)] H0 fun c d=>bm .u32 c fun c=>aB b fun e=>aa 9 e fun e=>aF d e c fun _ c=>ab 232 #[a,(.int .i64 20),(.int .i64 4)] c fun c d=>ab 232 #[a,(.int .i64 24),(.int .i64 4)] d fun d e=>ab 232 #[a,(.int .i64 42),(.int .i64 4)] e fun e f=>aB b fun g=>aa 7 g fun g=>aF f g c fun _ c=>aB b fun f=>aa 8 f fun f=>aF c f d fun _ c=>aB b fun d=>aa 10 d fun d=>aF c d e fun _ c=>aB b fun d=>aa 0 d fun d=>ak c d fun d=>aX d fun d=>aG (.int .i64 46) d fun d=>aG d (.int .i64 4) fun d=> ∃e:Value→ai→Prop,(∀ (_:Env) (f:Value) (g:ai),e f g→∃h:ai→Prop,(∀ (_:Env) (i:ai),h i→aB b fun j=>aE i 12 j fun j=>ab 98 #[j] i fun i j=>R i j)∧aB b fun i=>aa 10 i fun i=>ak g i fun i=>cu 0 i (.int .u64 4294967295) fun i=>ao i (ab 232 #[a,f,(.int .i64 8)] g fun f i=>aB b fun j=>aa 10 j fun j=>aF i j f fun _ f=>h f) (h g))∧aB b fun f=>aa 7 f fun f=>ak c f fun f=>cu 0 f (.int .u64 4294967295) fun f=>ao f (ab 232 #[a,d,(.int .i64 8)] c fun f g=>aG d (.int .i64 8) fun h=>ab 232 #[a,h,(.int .i64 8)] g fun a g=>aB b fun h=>aa 8 h fun h=>aF g h f fun _ f=>aB b fun b=>aa 7 b fun b=>aF f b a fun _ a=>aG d (.int .i64 16) fun b=>e b a) (e d c)):ab 231 #[a,b] H0 R:=bD 0x105a07955a1a6e1040391fa55a2b3c052051418a2aa7a1a Tryz.func231 h
theorem HL.vc (a b c:Value) (h:
 ab 234 #[a,b,c] H0 fun a b=>ab 109 #[a] b fun a b=>R a b):ab 232 #[a,b,c] H0 R:=bD 0x106a1a Tryz.func232 h
theorem HM.vc (a b:Value) (h:
 aX a fun c=>ab 234 #[b,(.int .i64 0),c] H0 fun b c=>ab 106 #[a,b] c fun a b=>R a b):ab 233 #[a,b] H0 R:=bD 0x107a1a Tryz.func233 h
theorem NB.vc (a b c:Value) (h:
 aX a fun d=>jU b d fun b=>aG b c fun c=>aX a fun d=>jU c d fun c=>a7 a (some b) (some c) fun a=>R a H0):ab 234 #[a,b,c] H0 R:=bD 0x101aa5a1a Tryz.func234 h
theorem AF.vc (a b c:Value) (h:
 aG c (.int .i64 2) fun d=>ab 232 #[b,d,(.int .i64 2)] H0 fun d e=>cu 0 d (.int .u64 0) fun d=>aB a fun f=>aa 11 f fun f=>aF e f d fun _ d=>aG c (.int .i64 6) fun e=>ab 232 #[b,e,(.int .i64 2)] d fun d e=>aG c (.int .i64 4) fun c=>ab 232 #[b,c,(.int .i64 2)] e fun b c=>ab 262 #[d,b] c fun b c=>aq 0 b fun d=>aq 1 b fun b=>bs c 40 (.agg #[(.int .i64 0),(.int .i64 0),(.int .i64 0),(.int .i64 0),(.int .i64 0),(.int .i64 0)]) fun c e=>aC e 6 c d fun _ d=>aE d 6 c fun c=>aB a fun a=>aa 1 a fun a=>aC d 6 a c fun _ a=>R b a):ab 235 #[a,b,c] H0 R:=bD 0x102a5a1fa19a1a Tryz.func235 h
theorem stringslite_HasPrefix.vc (a b:Value) (h:
 aX a fun c=>aX b fun d=>lB c d fun c=>bZ c (fun c=>aX b fun d=>a7 a none (some d) fun a=>cu 1 a b fun a=>c a H0) H0 fun a b=> ∀_:Env,R a b):ab 152 #[a,b] H0 R:=bD 0x1001d51c066452604131a Tryz.func152 h
theorem stringslite_HasSuffix.vc (a b:Value) (h:
 aX a fun c=>aX b fun d=>lB c d fun c=>bZ c (fun c=>aX a fun d=>aX b fun e=>bY d e fun d=>a7 a (some d) none fun a=>cu 1 a b fun a=>c a H0) H0 fun a b=> ∀_:Env,R a b):ab 189 #[a,b] H0 R:=bD 0x1002851f0196452604131a Tryz.func189 h
theorem AG.vc (a:Value) (h:
 bs H0 145 a fun a b=>aa 1 a fun c=>ak b c fun c=>cu 0 c (.int .i64 0) fun c=>ao c (aa 2 a fun c=>ak b c fun c=>cu 0 c (.int .i64 0) fun c=>R c b) (aa 0 a fun c=>ak b c fun c=>cu 0 c (.int .u8 0) fun c=>bZ c (fun c=>aa 1 a fun d=>ak b d fun d=>lB d (.int .i64 3) fun d=>c d b) b fun b c=> ∀_:Env,bZ b (fun b=>aa 1 a fun d=>ak c d fun d=>vk d (.int .i64 258) fun d=>b d c) c fun b c=> ∀_:Env,bZ b (fun b=>aa 2 a fun d=>ak c d fun d=>lB d (.int .i64 1) fun d=>b d c) c fun b c=> ∀_:Env,bZ b (fun b=>aa 2 a fun a=>ak c a fun a=>vk a (.int .i64 32768) fun a=>b a c) c fun a b=> ∀_:Env,R a b)):ab 159 #[a] H0 R:=bD 0x1002f52e032b42a22a529031e41d21d51c03194182185703443240413004a53a32a Tryz.func159 h
theorem KS.vc (a:Value) (h:
 bs H0 237 (.agg #[(.int .i64 0),(.int .i64 0),(.int .u64 0)]) fun b c=>cq a (.int .i64 3) fun d=>d_ d (fun d=>dW a (.int .i64 258) fun e=>d e c) c fun c d=> ∀_:Env,ao c (aT [(.int .i64 0),(.int .i64 0),(.int .u64 0)] [] fun c=>aC d 3 b c fun _ c=>aE c 3 b fun e=>R e c) (ab 209 #[a,(.int .i64 257),(.int .i64 285),(.func (.func 210) #[] #[])] d fun a c=>aC c 3 b a fun _ a=>aE a 3 b fun b=>R b a)):ab 164 #[a] H0 R:=bD 0x103a002a5050234223041331a Tryz.func164 h
theorem QF.vc (a:Value) (h:
 bs H0 237 (.agg #[(.int .i64 0),(.int .i64 0),(.int .u64 0)]) fun b c=>cq a (.int .i64 1) fun d=>d_ d (fun d=>dW a (.int .i64 32768) fun e=>d e c) c fun c d=> ∀_:Env,ao c (aT [(.int .i64 0),(.int .i64 0),(.int .u64 0)] [] fun c=>aC d 3 b c fun _ c=>aE c 3 b fun e=>R e c) (ab 209 #[a,(.int .i64 0),(.int .i64 29),(.func (.func 211) #[] #[])] d fun a c=>aC c 3 b a fun _ a=>aE a 3 b fun b=>R b a)):ab 165 #[a] H0 R:=bD 0x103a002a5050234223041331a Tryz.func165 h
theorem QG.vc (a b c d:Value) (h:
 bs H0 237 (.agg #[(.int .i64 0),(.int .i64 0),(.int .u64 0)]) fun e f=> ∃ (g:Value→ai→Prop) (h:Value→ai→Nat),g c f∧∀ (_:Env) (c:Value) (f:ai),g c f→dW c b fun i=>ao i (jk Tryz.prog Tryz.C d [c] f fun i j=>aq 0 i fun k=>aq 1 i fun l=>aq 2 i fun _=>vk k a fun i=>ao i (bY a k fun i=>bm .u64 i fun i=>aT [(.int .i64 0),(.int .i64 0),(.int .u64 0)] [(0,1,c),(1,1,l),(2,1,i)] fun i=>aC j 3 e i fun _ i=>aE i 3 e fun k=>R k i) (bY c (.int .i64 1) fun i=>g i j∧h i j<h c f)) (jk Tryz.prog Tryz.C d [b] f fun c d=>aq 0 c fun f=>aq 1 c fun g=>aq 2 c fun _=>bY a f fun a=>bm .u64 a fun a=>aT [(.int .i64 0),(.int .i64 0),(.int .u64 0)] [(0,1,b),(1,1,g),(2,1,a)] fun a=>aC d 3 e a fun _ a=>aE a 3 e fun b=>R b a)):ab 209 #[a,b,c,d] H0 R:=bD 0x1018a1aa390018a53a1aa630053a32d431920191762a31a Tryz.func209 h
theorem ES.vc (a:Value) (h:
 cq a (.int .i64 257) fun b=>d_ b (fun b=>dW a (.int .i64 285) fun c=>b c H0) H0 fun b c=> ∀_:Env,ao b (R (.tuple #[(.int .i64 0),(.int .i64 0),(.bool false)]) c) (cu 0 a (.int .i64 285) fun b=>ao b (R (.tuple #[(.int .i64 258),(.int .i64 0),(.bool true)]) c) (bY a (.int .i64 257) fun a=>ab 242 #[a,(.int .i64 3),(.int .i64 8),(.int .i64 4)] c fun a b=>aq 0 a fun c=>aq 1 a fun a=>R (.tuple #[c,a,(.bool true)]) b))):ab 210 #[a] H0 R:=bD 0x105a18a003a53a03a5065502342230413633a Tryz.func210 h
theorem KT.vc (a:Value) (h:
 cq a (.int .i64 0) fun b=>d_ b (fun b=>dW a (.int .i64 29) fun c=>b c H0) H0 fun b c=> ∀_:Env,ao b (R (.tuple #[(.int .i64 0),(.int .i64 0),(.bool false)]) c) (ab 242 #[a,(.int .i64 1),(.int .i64 4),(.int .i64 2)] c fun a b=>aq 0 a fun c=>aq 1 a fun a=>R (.tuple #[c,a,(.bool true)]) b)):ab 211 #[a] H0 R:=bD 0x105a7a003a5050234223041333a Tryz.func211 h
theorem NC.vc (a b c d:Value) (h:
 cq a c fun e=>ao e (aG b a fun e=>R (.tuple #[e,(.int .i64 0)]) H0) (aG b c fun b=>bY a c fun a=> ∃ (c:Value→Value→Value→ai→Prop) (e:Value→Value→Value→ai→Nat),c a b (.int .i64 1) H0∧∀ (_:Env) (a b f:Value) (g:ai),c a b f g→lB a d fun h=>ao h (jv d f fun h=>aG b h fun h=>aG f (.int .i64 1) fun i=>bY a d fun d=>c d h i g∧e d h i g<e a b f g) (jv a f fun a=>aG b a fun a=>R (.tuple #[a,f]) g))):ab 242 #[a,b,c,d] H0 R:=bD 0x1018a49396a630053a31c1c119003119002764a31a4a005a53a32a Tryz.func242 h
theorem KU.vc (a b:Value) (h:
 bV a fun c=>dW c (.int .i64 288) fun c=>d_ c (fun c=>ab 203 #[a,(.func (.func 202) #[] #[])] H0 fun d e=>c d e) H0 fun c d=> ∀_:Env,ao c (R (.tuple #[(.pointer none),(.int .i64 1)]) d) (ab 204 #[a] d fun a c=>aT [(.slice none 0 0),(.slice none 0 0),(.int .i64 0),(.int .i64 0),(.int .i64 0),(.int .i64 0),(.int .i64 0),(.int .i64 0),(.int .i64 0),(.int .i64 0),(.int .i64 0),(.int .i64 0),(.int .i64 0),(.int .i64 0),(.int .i64 0),(.int .i64 0),(.int .i64 0),(.int .i64 0),(.slice none 0 0)] [(0,1,a)] fun a=>bs c 285 a fun a c=>ab 205 #[a] c fun c d=>cq c (.int .i64 0) fun e=>ao e (R (.tuple #[(.pointer none),(.int .i64 5)]) d) (dW c (.int .i64 0) fun c=>bZ c (fun c=>bZ b (fun b=>ab 206 #[a] d fun e f=>b e f) d fun b e=> ∀_:Env,e7 b fun b=>c b e) d fun b c=> ∀_:Env,ao b (R (.tuple #[(.pointer none),(.int .i64 4)]) c) (ab 207 #[a] c fun _ b=>R (.tuple #[a,(.int .i64 0)]) b)))):ab 162 #[a,b] H0 R:=bD 0x103a2a002a501a51901857025442234223041302a53a633a5a002a5070344324041331a2a Tryz.func162 h
theorem uC.vc (a b c:Value) (h:
 ab 208 #[a,c] H0 fun a c=>aq 0 a fun d=>aq 1 a fun a=>ab 116 #[b,d,a] c fun _ a=>R (.tuple #[]) a):ab 163 #[a,b,c] H0 R:=bD 0x179 Tryz.func163 h
theorem rH.vc (a:Value) (h:
 cu 3 a (.pointer none) fun b=>ao b (R (.slice none 0 0) H0) (aB a fun a=>aa 0 a fun a=>ak H0 a fun a=>ab 204 #[a] H0 fun a b=>R a b)):ab 172 #[a] H0 R:=bD 0x106a001a52a31a Tryz.func172 h
theorem CL.vc (a:Value) (h:
 cq a (.int .i64 0) fun b=>d_ b (fun b=>dW a (.int .i64 15) fun a=>b a H0) H0 fun a b=> ∀_:Env,R a b):ab 202 #[a] H0 R:=bD 0x100655023422304131a Tryz.func202 h
theorem wR.vc (a:Value) (h:
 aB a fun b=>aa 0 b fun b=>ak H0 b fun b=>bV b fun c=> ∃ (d:Value→ai→Prop) (e:Value→ai→Nat),d (.int .i64 0) H0∧∀ (_:Env) (f:Value) (g:ai),d f g→cq f c fun c=>ao c (aI 1 b f fun b=>ak g b fun b=>dW b (.int .i64 0) fun c=>ao c (aB a fun c=>aa 2 c fun c=>dL 16 1 c b fun c=>ak g c fun c=>aG c (.int .i64 1) fun c=>aB a fun h=>aa 2 h fun h=>dL 16 1 h b fun b=>aF g b c fun _ b=>aG f (.int .i64 1) fun c=>d c b∧e c b<e f g) (aG f (.int .i64 1) fun b=>d b g∧e b g<e f g)) (∃ (b:Value→Value→ai→Prop) (c:Value→Value→ai→Nat),b (.int .i64 1) (.int .i64 1) g∧∀ (_:Env) (d e:Value) (f:ai),b d e f→vk e (.int .i64 15) fun g=>ao g (qE (.int .i64 2) d fun g=>aB a fun a=>aa 2 a fun a=>dL 16 1 a e fun a=>ak f a fun a=>bY g a fun a=>cq a (.int .i64 0) fun g=>ao g (R a f) (aG e (.int .i64 1) fun g=>b a g f∧c a g f<c d e f)) (R d f))):ab 205 #[a] H0 R:=bD 0x102a39002a52a1aa630052a31f2e12023151761a31a29001b0412115112115001b252a3a6300531a28704201c1766a31a Tryz.func205 h
theorem uD.vc (a:Value) (h:
 aB a fun b=>aa 2 b fun b=>aE H0 16 b fun b=> ∃ (c:Value→Value→ai→Prop) (d:Value→Value→ai→Nat),c (.int .i64 0) (.int .i64 0) H0∧∀ (_:Env) (e f:Value) (g:ai),c e f g→cq f (.int .i64 16) fun h=>ao h (np 16 b f fun b=>aG e b fun b=>aG f (.int .i64 1) fun h=>c b h g∧d b h g<d e f g) (cu 0 e (.int .i64 0) fun b=>d_ b (fun b=>cu 0 e (.int .i64 1) fun c=>bZ c (fun c=>aB a fun a=>aa 2 a fun a=>dL 16 1 a (.int .i64 1) fun a=>ak g a fun a=>cu 0 a (.int .i64 1) fun a=>c a g) g fun a c=> ∀_:Env,b a c) g fun a b=> ∀_:Env,R a b)):ab 206 #[a] H0 R:=bD 0x1001e51d01c066452334223041329492a6300531a640103306032765a31a1a Tryz.func206 h
theorem sZ.vc (a:Value) (h:
 aB a fun b=>aa 0 b fun b=>ak H0 b fun b=>bV b fun b=>dF H0 324 16 [(.int .u64 0),(.int .i64 0)] b b fun b c=>aB a fun d=>aa 1 d fun d=>aF c d b fun _ b=> ∃ (c:Value→Value→ai→Prop) (d:Value→Value→ai→Nat),c (.int .u64 0) (.int .i64 1) b∧∀ (_:Env) (b e:Value) (f:ai),c b e f→vk e (.int .i64 15) fun g=>ao g (jv b (.int .u64 1) fun g=>aB a fun h=>aa 0 h fun h=>ak f h fun h=>bV h fun i=> ∃ (j:Value→Value→ai→Prop) (k:Value→Value→ai→Nat),j g (.int .i64 0) f∧∀ (_:Env) (g l:Value) (m:ai),j g l m→cq l i fun i=>ao i (aI 1 h l fun h=>ak m h fun h=>cu 0 h e fun h=>ao h (aB a fun h=>aa 1 h fun h=>ak m h fun i=>ab 241 #[g,e] m fun n o=> (ak o h fun h=>h=i)∧aT [(.int .u64 0),(.int .i64 0)] [(0,1,n),(1,1,e)] fun h=>aI 2 i l fun i=>aC o 2 i h fun _ h=>aB a fun i=>aa 18 i fun i=>ak h i fun i=>aY h 3 1 [(.int .i64 0)] [(0,1,l)] fun h n=>bj n 3 1 8 [(.int .i64 0)] i h fun h i=>aB a fun a=>aa 18 a fun a=>aF i a h fun _ a=>aG g (.int .u64 1) fun h=>aG l (.int .i64 1) fun i=>j h i a∧k h i a<k g l m) (aG l (.int .i64 1) fun a=>j g a m∧k g a m<k g l m)) (aG e (.int .i64 1) fun a=>c g a m∧d g a m<d b e f)) (R (.tuple #[]) f)):ab 207 #[a] H0 R:=bD 0x139290391ba031943171185704127c8501c8500011101c2353a5a6300531a3f2c1102302f022766a3a630052a35a19322121761a1a1aa Tryz.func207 h
theorem wS.vc (a b:Value) (h:
 cu 3 a (.pointer none) fun c=>d_ c (fun c=>cq b (.int .i64 0) fun d=>c d H0) H0 fun c d=> ∀_:Env,d_ c (fun c=>aB a fun e=>aa 1 e fun e=>ak d e fun e=>bV e fun e=>lB b e fun e=>c e d) d fun c d=> ∀_:Env,ao c (R (.tuple #[(.int .u64 0),(.int .i64 0)]) d) (aB a fun c=>aa 1 c fun c=>ak d c fun c=>aI 2 c b fun c=>aa 0 c fun c=>ak d c fun c=>aB a fun a=>aa 1 a fun a=>ak d a fun a=>aI 2 a b fun a=>aa 1 a fun a=>ak d a fun a=>R (.tuple #[c,a]) d)):ab 208 #[a,b] H0 R:=bD 0x1002a0423ff5111fc88501110112011102a23002a501e0774626550234223041332a Tryz.func208 h
theorem CM.vc (a b:Value) (h:
 ∃ (c:Value→Value→Value→ai→Prop) (d:Value→Value→Value→ai→Nat),c a (.int .u64 0) (.int .i64 0) H0∧∀ (_:Env) (a e f:Value) (g:ai),c a e f g→cq f b fun b=>ao b (jv e (.int .u64 1) fun b=>cx .and a (.int .u64 1) fun h=>cx .or b h fun b=>mo a (.int .u64 1) fun h=>aG f (.int .i64 1) fun i=>c h b i g∧d h b i g<d a e f g) (R e g)):ab 241 #[a,b] H0 R:=bD 0x102a29396a6300531a191040030104003762a31a1a Tryz.func241 h
theorem wT.vc (a b:Value) (h:
 cu 3 a (.pointer none) fun c=>d_ c (fun c=>cu 3 b (.pointer none) fun d=>c d H0) H0 fun c d=> ∀_:Env,ao c (R (.tuple #[(.int .i64 0),(.int .i64 1)]) d) (ab 177 #[b] d fun c d=>jU c (.int .i64 15) fun c=>ab 277 #[b,c] d fun d e=>aq 0 d fun f=>aq 1 d fun _=>ab 278 #[a,f,c] e fun d e=>aq 0 d fun g=>aq 1 d fun d=>dW d (.int .i64 0) fun h=>ao h (ab 274 #[b,d] e fun _ b=>R (.tuple #[g,(.int .i64 0)]) b) (ab 279 #[a,f,c] e fun a b=>ao a (R (.tuple #[(.int .i64 0),(.int .i64 2)]) b) (R (.tuple #[(.int .i64 0),(.int .i64 4)]) b)))):ab 255 #[a,b] H0 R:=bD 0x102a002a55a03a3a53a6319a18a4a002a5050234223041332a Tryz.func255 h
theorem wU.vc (a b c:Value) (h:
 ∃ (d:Value→Value→Value→Value→Value→ai→Prop) (e:Value→Value→Value→Value→Value→ai→Nat),d b (.int .i64 0) (.int .i64 0) (.int .i64 0) (.int .i64 1) H0∧∀ (_:Env) (b f g h i:Value) (j:ai),d b f g h i j→vk i c fun c=>ao c (cx .and b (.int .u64 1) fun c=>bm .i64 c fun c=>cx .or f c fun c=>mo b (.int .u64 1) fun k=>aB a fun l=>aa 2 l fun l=>dL 16 1 l i fun l=>ak j l fun l=>bY c g fun m=>cq m l fun l=>ao l (aB a fun l=>aa 18 l fun l=>ak j l fun l=>aG h c fun m=>bY m g fun m=>aI 1 l m fun l=>ak j l fun l=>R (.tuple #[l,i]) j) (aB a fun l=>aa 2 l fun l=>dL 16 1 l i fun l=>ak j l fun l=>aG h l fun l=>aB a fun a=>aa 2 a fun a=>dL 16 1 a i fun a=>ak j a fun a=>aG g a fun a=>jv a (.int .u64 1) fun a=>jv c (.int .u64 1) fun c=>aG i (.int .i64 1) fun m=>d k c a l m j∧e k c a l m j<e b f g h i j)) (R (.tuple #[(.int .i64 0),(.int .i64 0)]) j)):ab 278 #[a,b,c] H0 R:=bD 0x102a39391aa19a001ea55a7a33a6a630053a37c401236012761a33a2a Tryz.func278 h
theorem wV.vc (a b c:Value) (h:
 bs H0 41 b fun b d=>bs d 3 c fun c d=>ak d c fun e=>jv (.int .u64 1) e fun e=>bY e (.int .u64 1) fun e=>bs d 41 (.int .u64 0) fun d f=>aF f d e fun _ e=>aB a fun a=>aa 1 a fun a=>ak e a fun a=>ab 297 #[a,(.func (.func 298) #[] #[c,d,b])] e fun a b=>R a b):ab 279 #[a,b,c] H0 R:=bD 0x107a5a3a Tryz.func279 h
theorem rI.vc (a b c d:Value) (h:
 bs H0 324 a fun a e=>aa 1 a fun f=>ak e f fun f=>ak e b fun b=>dW f b fun b=>bZ b (fun b=>aa 0 a fun a=>ak e a fun a=>ak e c fun c=>cx .and a c fun a=>ak e d fun c=>cu 0 a c fun a=>b a e) e fun a b=> ∀_:Env,R a b):ab 298 #[a,b,c,d] H0 R:=bD 0x1001c51b065442504132a Tryz.func298 h
theorem AH.vc (a b:Value) (h:
 ab 212 #[a,b] H0 fun c d=>ea 0 c (.int .i64 0) fun e=>ao e (R (.tuple #[(.slice none 0 0),c]) d) (bV a fun c=>dF d 3 8 [(.int .i64 0)] c c fun c d=>ab 213 #[a] d fun d e=>bV d fun f=>cq f (.int .i64 2) fun f=>ao f (bV d fun f=> ∃ (g:Value→ai→Prop) (h:Value→ai→Nat),g (.int .i64 0) e∧∀ (_:Env) (i:Value) (j:ai),g i j→cq i f fun f=>ao f (aI 1 d i fun f=>ak j f fun f=>aI 1 c f fun f=>aF j f (.int .i64 1) fun _ f=>aG i (.int .i64 1) fun k=>g k f∧h k f<h i j) (R (.tuple #[c,(.int .i64 0)]) j)) (bV d fun f=> ∃ (g:Value→Value→ai→Prop) (h:Value→Value→ai→Nat),g (.slice none 0 0) (.int .i64 0) e∧∀ (_:Env) (e i:Value) (j:ai),g e i j→cq i f fun f=>ao f (aI 1 d i fun f=>ak j f fun f=>aI 1 a f fun a=>ak j a fun a=>aY j 3 1 [(.int .i64 0)] [(0,1,i)] fun f k=>aT [(.int .i64 0),(.slice none 0 0)] [(0,1,a),(1,1,f)] fun a=>aY k 293 1 [(.int .i64 0),(.slice none 0 0)] [(0,2,a)] fun a f=>bj f 293 2 32 [(.int .i64 0),(.slice none 0 0)] e a fun a f=>aG i (.int .i64 1) fun k=>g a k f∧h a k f<h e i j) (bY b (.int .i64 1) fun a=> ∃ (b:Value→Value→ai→Prop) (f:Value→Value→ai→Nat),b e (.int .i64 0) j∧∀ (_:Env) (g h:Value) (i:ai),b g h i→cq h a fun a=>ao a (ab 215 #[g] i fun a j=>ab 214 #[e,a] j fun a e=>aG h (.int .i64 1) fun j=>b a j e∧f a j e<f g h i) (bV d fun a=>qE (.int .i64 2) a fun a=>bY a (.int .i64 2) fun a=>fg 2 g none (some a) fun a=>bV a fun b=> ∃ (e:Value→ai→Prop) (f:Value→ai→Nat),e (.int .i64 0) i∧∀ (_:Env) (g:Value) (h:ai),e g h→cq g b fun b=>ao b (aI 2 a g fun a=>aE h 2 a fun a=>bs h 293 (.agg #[(.int .i64 0),(.slice none 0 0)]) fun b i=>aC i 2 b a fun _ a=>aa 1 b fun b=>ak a b fun b=>bV b fun i=> ∃ (j:Value→ai→Prop) (k:Value→ai→Nat),j (.int .i64 0) a∧∀ (_:Env) (a:Value) (l:ai),j a l→cq a i fun i=>ao i (aI 1 b a fun b=>ak l b fun b=>aI 1 d b fun b=>ak l b fun b=>aI 1 c b fun d=>ak l d fun d=>aG d (.int .i64 1) fun d=>aI 1 c b fun b=>aF l b d fun _ b=>aG a (.int .i64 1) fun d=>j d b∧k d b<k a l) (aG g (.int .i64 1) fun a=>e a l∧f a l<f g h)) (R (.tuple #[c,(.int .i64 0)]) h)))))):ab 168 #[a,b] H0 R:=bD 0x103a29291a93a6300531a1d18b02a201ae1764a4a6300531a2d7c010283019f17618a329596300531a66a01e206a01e2763a32a291b95a6300531a1f4821b204a01b2763a31a003a29493a6300531a73801a204b1763a353a33a4a003a52a4a32a Tryz.func168 h
theorem ET.vc (a b:Value) (h:
 bV a fun c=>dW c (.int .i64 288) fun c=>d_ c (fun c=>ab 203 #[a,(.func (.func 243) #[] #[])] H0 fun d e=>c d e) H0 fun c d=> ∀_:Env,d_ c (fun c=>cq b (.int .i64 1) fun e=>c e d) d fun c d=> ∀_:Env,d_ c (fun c=>dW b (.int .i64 15) fun e=>c e d) d fun c d=> ∀_:Env,ao c (R (.int .i64 1) d) (jv (.int .i64 1) b fun b=>ab 213 #[a] d fun a c=>bV a fun a=>dW a b fun a=>ao a (R (.int .i64 11) c) (R (.int .i64 0) c))):ab 212 #[a,b] H0 R:=bD 0x101a001a5055214234052101106233001a501f021d41c21c51b0219418218570344324041331a1a Tryz.func212 h
theorem HN.vc (a:Value) (h:
 bs H0 59 a fun a b=>ak b a fun c=>bV c fun d=> ∃ (e:Value→Value→ai→Prop) (f:Value→Value→ai→Nat),e (.slice none 0 0) (.int .i64 0) b∧∀ (_:Env) (b g:Value) (h:ai),e b g h→cq g d fun d=>ao d (aI 1 c g fun c=>ak h c fun c=>dW c (.int .i64 0) fun c=>ao c (aY h 3 1 [(.int .i64 0)] [(0,1,g)] fun c d=>bj d 3 1 8 [(.int .i64 0)] b c fun c d=>aG g (.int .i64 1) fun i=>e c i d∧f c i d<f b g h) (aG g (.int .i64 1) fun c=>e b c h∧f b c h<f b g h)) (ab 244 #[b,(.func (.func 245) #[] #[a])] h fun _ a=>R b a)):ab 213 #[a] H0 R:=bD 0x102a3a2905952a5a6300531a1b223204032763a31a2a Tryz.func213 h
theorem CN.vc (a b:Value) (h:
 ∃ (c:Value→Value→Value→ai→Prop) (d:Value→Value→Value→ai→Nat),c a b (.slice none 0 0) H0∧∀ (_:Env) (a b e:Value) (f:ai),c a b e f→bV a fun g=>dW g (.int .i64 0) fun g=>bZ g (fun g=>bV b fun h=>dW h (.int .i64 0) fun h=>g h f) f fun g h=> ∀_:Env,ao g (aI 2 a (.int .i64 0) fun g=>aa 0 g fun g=>ak h g fun g=>aI 2 b (.int .i64 0) fun i=>aa 0 i fun i=>ak h i fun i=>vk g i fun g=>ao g (aI 2 a (.int .i64 0) fun g=>aE h 2 g fun g=>fg 2 a (some (.int .i64 1)) none fun i=>aY h 293 1 [(.int .i64 0),(.slice none 0 0)] [(0,2,g)] fun g j=>bj j 293 2 32 [(.int .i64 0),(.slice none 0 0)] e g fun g j=>c i b g j∧d i b g j<d a b e f) (aI 2 b (.int .i64 0) fun g=>aE h 2 g fun g=>fg 2 b (some (.int .i64 1)) none fun i=>aY h 293 1 [(.int .i64 0),(.slice none 0 0)] [(0,2,g)] fun g j=>bj j 293 2 32 [(.int .i64 0),(.slice none 0 0)] e g fun g j=>c a i g j∧d a i g j<d a b e f)) (aY h 291 3 [(.slice none 0 0),(.slice none 0 0),(.slice none 0 0)] [(0,1,e),(1,1,a),(2,1,b)] fun a b=>ab 248 #[a] b fun a b=>R a b)):ab 214 #[a,b] H0 R:=bD 0x106a0218424426440427f5102111001a20218424426440427f5102111001a25019042111011101923600507034432404133493102031027631a1a Tryz.func214 h
theorem EU.vc (a:Value) (h:
 ∃ (b:Value→Value→ai→Prop) (c:Value→Value→ai→Nat),b (.slice none 0 0) (.int .i64 0) H0∧∀ (_:Env) (d e:Value) (f:ai),b d e f→aG e (.int .i64 1) fun g=>bV a fun h=>cq g h fun g=>ao g (aI 2 a e fun g=>aa 0 g fun g=>ak f g fun h=>aG e (.int .i64 1) fun i=>aI 2 a i fun i=>aa 0 i fun i=>ak f i fun j=>aG h j fun k=>aI 2 a e fun l=>aa 1 l fun l=>ak f l fun l=>aG e (.int .i64 1) fun m=>aI 2 a m fun a=>aa 1 a fun a=>ak f a fun a=>aY f 59 2 [(.slice none 0 0),(.slice none 0 0)] [(0,1,l),(1,1,a)] fun a l=> (ak l g fun m=>m=h)∧(ak l i fun m=>m=j)∧ab 171 #[a] l fun a l=> (ak l g fun g=>g=h)∧(ak l i fun g=>g=j)∧aT [(.int .i64 0),(.slice none 0 0)] [(0,1,k),(1,1,a)] fun a=>aY l 293 1 [(.int .i64 0),(.slice none 0 0)] [(0,2,a)] fun a g=>bj g 293 2 32 [(.int .i64 0),(.slice none 0 0)] d a fun a g=>aG e (.int .i64 2) fun h=>b a h g∧c a h g<c d e f) (R d f)):ab 215 #[a] H0 R:=bD 0x102a39043a41b523911b5238138041213fffffffe517ffe88885117888888510011688885007ffe511788510011650003e2630055a34d31131761a31a1a Tryz.func215 h
theorem yA.vc (a:Value) (h:
 cq a (.int .i64 0) fun b=>d_ b (fun b=>dW a (.int .i64 1099511627776) fun a=>b a H0) H0 fun a b=> ∀_:Env,R a b):ab 243 #[a] H0 R:=bD 0x100655023422304131a Tryz.func243 h
theorem AI.vc (a b c:Value) (h:
 ak H0 c fun d=>aI 1 d a fun d=>ak H0 d fun d=>ak H0 c fun c=>aI 1 c b fun c=>ak H0 c fun c=>ab 247 #[d,c] H0 fun c d=>ab 247 #[b,a] d fun a b=>aY b 3 2 [(.int .i64 0),(.int .i64 0)] [(0,1,c),(1,1,a)] fun a b=>ab 246 #[a] b fun a b=>R a b):ab 245 #[a,b,c] H0 R:=bD 0x10041b418521941804111200216850012001f231a Tryz.func245 h
end
section
set_option maxRecDepth 100000
variable {H:ai} {R:Value→ai→Prop} {v:Value} {zs:List Int}
def okZ (zs:List Int):Prop:=zs.length≤288∧∀z∈zs,0≤z∧z≤15
def natL (zs:List Int):List Nat:=zs.map Int.toNat
theorem fF (zs:List Int): (natL zs).length=zs.length:=by simp [natL]
theorem Bl (ls:List Nat) (m:Nat):shareL ls m≤ls.length*2 ^ m:=by
 induction ls with
 |nil=>simp [shareL]
 |cons k ls ih=>
  unfold shareL at ih ⊢;rw [aha,aid,agi,ah4];have: (if 1≤k∧k≤m then 2 ^ (m - k) else 0)≤2 ^ m:=by
   split
   ·exact agA (by decide) (by omega)
   ·exact agK _
  generalize 2 ^ m=P at*;omega
theorem ql {α:Type} {l:List α} {i:Nat} (h:i<l.length):l.take (i+1)=l.take i++ [l[i]]:=by rw [agz,agb h];rfl
theorem KW {i:Nat} (h:i<zs.length):natL (zs.take (i+1))=natL (zs.take i)++ [zs[i].toNat]:=by unfold natL;rw [ql h,agU];rfl
def dH (v:Nat):Nat→Nat
 |0=>0
 |n+1=>2*dH v n+ (v/2 ^ n) %2
theorem lS (v:Nat): ∀n,dH v n<2 ^ n
 |0=>by simp [dH]
 |n+1=>by
  have:=lS v n;have h2: (v/2 ^ n) %2<2:=ag5 _ (by decide);rw [dH,agW];generalize 2 ^ n=P at*;omega
theorem AJ {x n:Nat} (hx:x<18446744073709551616) (hn:n≤60) (h:R (.int .u64 (dH x n:Nat)) H):ab 241 #[.int .u64 (x:Int),.int .i64 (n:Int)] H R:=by
 refine CM.vc _ _ _ _ ?_;refine⟨fun v o i H' => ∃k:Nat,i= .int .i64 k∧k≤n∧v= .int .u64 ((x/2 ^ k:Nat):Int)∧o= .int .u64 (dH x k:Nat)∧H=H',fun _ _ i _=>match i with| .int _ x=> (1000 - x).toNat|_=>0,⟨0,rfl,by omega,by rw [ahX,aja],rfl,rfl⟩,?_⟩;rintro _ _ _ _ _ ⟨k,rfl,hk,rfl,rfl,rfl⟩;have hr:=lS x k;have hp:2 ^ k≤2 ^ 60:=agA (by decide) (by omega);have hd:x/2 ^ k≤x:=Nat.div_le_self _ _;rw [aN];refine av (fun hc=>?_) (fun hc=>?_)
 ·rw [eB]
  refine⟨by decide,?_⟩;rw [show min (1:Int).toNat IntKind.u64.bits=1 from rfl,cd];have e1:IntKind.u64.wrap (((dH x k:Nat):Int)*2 ^ 1)= ((2*dH x k:Nat):Int):=by rw [cR (by omega) (by omega)];omega
  have e2:bitsOf .and .u64 ((x/2 ^ k:Nat):Int) 1= ((x/2 ^ k%2:Nat):Int):=by
   have:=CA (a:=x/2 ^ k) (b:=1) (by omega) (by omega);rw [Nat.and_one_is_mod] at this;exact this
  have h2: (x/2 ^ k) %2<2:=ag5 _ (by decide);rw [e1,e2,cd,uq (by omega) (by omega)];have e3:2*dH x k|||x/2 ^ k%2=dH x (k+1):=by
   rw [dH,aiq,agT];have:=sQ (a:=x/2 ^ k%2) (v:=dH x k) (n:=1) (by simpa using h2);rw [Nat.pow_one] at this;rw [this];omega
  rw [e3,kj];refine⟨by decide,?_⟩;rw [show min (1:Int).toNat IntKind.u64.bits=1 from rfl,iX (j:=1) rfl,ajb,show 2 ^ k*2 ^ 1=2 ^ (k+1) from rfl,az,ba (n:= (k:Int)+1) (by omega) (by omega)];exact⟨⟨k+1,rfl,by omega,rfl,rfl,rfl⟩,by show (_:Int).toNat< (_:Int).toNat;omega⟩
 ·have:k=n:=by omega
  subst this;exact h
end
section
set_option maxHeartbeats 4000000
set_option maxRecDepth 100000
variable [Go.Vc.Mode] (H0:ai) (R:Value→ai→Prop)
theorem utf8_ValidString.vc (a:Value) (h:
 ∃ (b:Value→ai→Prop) (c:Value→ai→Nat),b a H0∧∀ (_:Env) (a:Value) (d:ai),b a d→aX a fun e=>dW e (.int .i64 0) fun e=>ao e (bO a (.int .i64 0) fun e=>cq e (.int .u8 128) fun f=>ao f (a7 a (some (.int .i64 1)) none fun f=>aX f fun g=>dW g (.int .i64 8) fun g=>bZ g (fun g=>ab 236 #[f] d fun h i=>cx .and h (.int .u64 9259542123273814144) fun h=>cu 0 h (.int .u64 0) fun h=>g h i) d fun g h=> ∀_:Env,ao g (a7 f (some (.int .i64 8)) none fun g=>aX g fun i=>dW i (.int .i64 16) fun i=>bZ i (fun i=>a7 g (some (.int .i64 8)) none fun j=>ab 236 #[g] h fun k l=>ab 236 #[j] l fun j l=>cx .or k j fun j=>cx .and j (.int .u64 9259542123273814144) fun j=>cu 0 j (.int .u64 0) fun j=>i j l) h fun i j=> ∀_:Env,ao i (a7 g (some (.int .i64 16)) none fun i=> ∃ (k:Value→ai→Prop) (l:Value→ai→Nat),k i j∧∀ (_:Env) (i:Value) (m:ai),k i m→aX i fun n=>dW n (.int .i64 32) fun n=>bZ n (fun n=>a7 i (some (.int .i64 8)) none fun o=>a7 i (some (.int .i64 16)) none fun p=>a7 i (some (.int .i64 24)) none fun q=>ab 236 #[i] m fun r s=>ab 236 #[o] s fun o s=>cx .or r o fun o=>ab 236 #[p] s fun p r=>ab 236 #[q] r fun q r=>cx .or p q fun p=>cx .or o p fun o=>cx .and o (.int .u64 9259542123273814144) fun o=>cu 0 o (.int .u64 0) fun o=>n o r) m fun n o=> ∀_:Env,ao n (a7 i (some (.int .i64 32)) none fun n=>k n o∧l n o<l i m) (b i o∧c i o<c a d)) (b g j∧c g j<c a d)) (b f h∧c f h<c a d)) (dL 256 1 (.pointer (some ⟨2,0,none⟩)) e fun e=>ak d e fun e=>cx .and e (.int .u8 7) fun f=>bm .i64 f fun f=>mo e (.int .u64 4) fun e=>dL 16 2 (.pointer (some ⟨3,0,none⟩)) e fun e=>aE d 2 e fun e=>bs d 316 (.agg #[(.int .u8 0),(.int .u8 0)]) fun g h=>aC h 2 g e fun _ e=>cu 0 f (.int .i64 2) fun h=>ao h (aX a fun h=>cq h (.int .i64 2) fun h=>d_ h (fun h=>bO a (.int .i64 1) fun i=>aa 0 g fun j=>ak e j fun j=>cq i j fun i=>h i e) e fun h i=> ∀_:Env,d_ h (fun h=>aa 1 g fun j=>ak i j fun j=>bO a (.int .i64 1) fun k=>cq j k fun j=>h j i) i fun h i=> ∀_:Env,ao h (R (.bool false) i) (a7 a (some (.int .i64 2)) none fun h=>b h i∧c h i<c a d)) (cu 0 f (.int .i64 3) fun h=>ao h (aX a fun h=>cq h (.int .i64 3) fun h=>d_ h (fun h=>bO a (.int .i64 1) fun i=>aa 0 g fun j=>ak e j fun j=>cq i j fun i=>h i e) e fun h i=> ∀_:Env,d_ h (fun h=>aa 1 g fun j=>ak i j fun j=>bO a (.int .i64 1) fun k=>cq j k fun j=>h j i) i fun h i=> ∀_:Env,d_ h (fun h=>bO a (.int .i64 2) fun j=>cq j (.int .u8 128) fun j=>h j i) i fun h i=> ∀_:Env,d_ h (fun h=>bO a (.int .i64 2) fun j=>cq (.int .u8 191) j fun j=>h j i) i fun h i=> ∀_:Env,ao h (R (.bool false) i) (a7 a (some (.int .i64 3)) none fun h=>b h i∧c h i<c a d)) (cu 0 f (.int .i64 4) fun f=>ao f (aX a fun f=>cq f (.int .i64 4) fun f=>d_ f (fun f=>bO a (.int .i64 1) fun h=>aa 0 g fun i=>ak e i fun i=>cq h i fun h=>f h e) e fun f h=> ∀_:Env,d_ f (fun f=>aa 1 g fun g=>ak h g fun g=>bO a (.int .i64 1) fun i=>cq g i fun g=>f g h) h fun f g=> ∀_:Env,d_ f (fun f=>bO a (.int .i64 2) fun h=>cq h (.int .u8 128) fun h=>f h g) g fun f g=> ∀_:Env,d_ f (fun f=>bO a (.int .i64 2) fun h=>cq (.int .u8 191) h fun h=>f h g) g fun f g=> ∀_:Env,d_ f (fun f=>bO a (.int .i64 3) fun h=>cq h (.int .u8 128) fun h=>f h g) g fun f g=> ∀_:Env,d_ f (fun f=>bO a (.int .i64 3) fun h=>cq (.int .u8 191) h fun h=>f h g) g fun f g=> ∀_:Env,ao f (R (.bool false) g) (a7 a (some (.int .i64 4)) none fun f=>b f g∧c f g<c a d)) (R (.bool false) e))))) (R (.bool true) d)):ab 192 #[a] H0 R:=bD 0x101a01a39001a504c034944824853f033c43b23b53a032f42e22e52d032a429229528051b41a21a519054432404111111111111111111111213fff51111211f51111104d23352a39001a503a032f42e22e52d032a429229528051b41a21a51905443240411111111111213fff51111211f51111103b23352a39001a5028051b41a21a5190544324041213fff51111211f51111102923352a61a6a4a4a000039600502c051f41c521845521d421a42644532404111217efff511f56fff511f51211f51111102d2332e59002001763a501c041845526445324041111211f51111101d233a50180444324041333a52a33a60053a32ce10020017631a Tryz.func192 h
theorem EV.vc (a b:Value) (h:
 ab 267 #[b] H0 fun b c=>aq 0 b fun d=>aq 1 b fun b=>ea 0 b (.int .i64 0) fun e=>ao e (R (.tuple #[(str []),b]) c) (ab 268 #[d,a] c fun a b=>aq 0 a fun c=>aq 1 a fun _=>ab 269 #[d] b fun a b=>aq 0 a fun d=>aq 1 a fun _=>aG c d fun a=>R (.tuple #[a,(.int .i64 0)]) b)):ab 239 #[a,b] H0 R:=bD 0x105a7a18a003a52a37a2a Tryz.func239 h
theorem EW.vc (a:Value) (h:
 cq a (.int .i64 0) fun b=>d_ b (fun b=>dW a (.int .i64 9) fun c=>b c H0) H0 fun b c=> ∀_:Env,ao b (R (.tuple #[(.pointer none),(.int .i64 1)]) c) (aT [(.int .i64 0),(str []),(str []),(.slice none 0 0),(.int .u64 0),(.int .i64 0),(.bool false)] [(0,1,a)] fun a=>bs c 367 a fun a b=>R (.tuple #[a,(.int .i64 0)]) b)):ab 267 #[a] H0 R:=bD 0x105a002a5050234223041332a Tryz.func267 h
theorem oH.vc (a b:Value) (h:
 cu 3 a (.pointer none) fun c=>ao c (R (.tuple #[(str []),(.int .i64 1)]) H0) (aB a fun c=>aa 6 c fun c=>ak H0 c fun c=>ao c (R (.tuple #[(str []),(.int .i64 16)]) H0) (aB a fun c=>aa 2 c fun c=>ak H0 c fun c=>aG c b fun b=>aB a fun c=>aa 2 c fun c=>aF H0 c b fun _ b=> ∃ (c:ai→Prop) (d:ai→Nat),c b∧∀ (_:Env) (b:ai),c b→aB a fun e=>aa 2 e fun e=>ak b e fun e=>aX e fun e=>dW e (.int .i64 16384) fun e=>ao e (ab 284 #[a,(.int .i64 16384),(.bool false)] b fun _ e=>c e∧d e<d b) (aB a fun a=>aa 3 a fun a=>ab 72 #[a] b fun a b=>R (.tuple #[a,(.int .i64 0)]) b)))):ab 268 #[a,b] H0 R:=bD 0x106a2960056a372e1076319a002a55a02a53a632a Tryz.func268 h
theorem oI.vc (a:Value) (h:
 cu 3 a (.pointer none) fun b=>ao b (R (.tuple #[(str []),(.int .i64 1)]) H0) (aB a fun b=>aa 6 b fun b=>ak H0 b fun b=>ao b (R (.tuple #[(str []),(.int .i64 16)]) H0) (aB a fun b=>aa 6 b fun b=>aF H0 b (.bool true) fun _ b=>aB a fun c=>aa 2 c fun c=>ak b c fun c=>aX c fun c=>ab 284 #[a,c,(.bool true)] b fun _ b=>aB a fun c=>aa 3 c fun c=>ab 70 #[c] b fun _ b=>aB a fun a=>aa 3 a fun a=>ab 72 #[a] b fun a b=>R (.tuple #[a,(.int .i64 0)]) b))):ab 269 #[a] H0 R:=bD 0x106a4a7a4a002a55a02a53a632a Tryz.func269 h
theorem oJ.vc (a b c:Value) (h:
 aB a fun d=>aa 2 d fun d=>ak H0 d fun d=>a7 d none (some b) fun d=>aB a fun e=>aa 2 e fun e=>ak H0 e fun e=>a7 e (some b) none fun b=>aB a fun e=>aa 2 e fun e=>aF H0 e b fun _ b=>aB a fun e=>aa 1 e fun e=>ak b e fun e=>aB a fun f=>aa 0 f fun f=>ak b f fun f=>ab 305 #[e,d,f] b fun b e=>aq 0 b fun f=>aq 1 b fun _=> ∃b:Value→ai→Prop,(∀ (_:Env) (g:Value) (h:ai),b g h→aB a fun i=>aa 3 i fun i=>ab 69 #[i,g,c,d,f] h fun _ c=>aB a fun g=>aa 1 g fun g=>ak c g fun g=>aG g d fun g=>aB a fun h=>aa 1 h fun h=>aF c h g fun _ c=>aB a fun g=>aa 1 g fun g=>ak c g fun g=>aB a fun h=>aa 1 h fun h=>ak c h fun h=>aX h fun h=>bY h (.int .i64 32768) fun h=>G1 h (.int .i64 0) fun h=>a7 g (some h) none fun g=>aB a fun h=>aa 1 h fun h=>aF c h g fun _ c=>R (.tuple #[]) c)∧aB a fun a=>aa 0 a fun a=>ak e a fun a=>dW a (.int .i64 0) fun a=>ao a (ab 306 #[d,f] e fun a c=>b a c) (b (.int .i64 0) e)):ab 284 #[a,b,c] H0 R:=bD 0x1028041127ffe511111101110028219a18a04955a73c0192019141a01f0427fff531121110011101f231aa7a Tryz.func284 h
theorem HO.vc (a:Value) (h:
 bV a fun b=> ∃ (c:Value→ai→Prop) (d:Value→ai→Nat),c (.int .i64 0) H0∧∀ (_:Env) (e:Value) (f:ai),c e f→cq e b fun b=>ao b (aI 1 a e fun a=>ak f a fun a=>ea 0 a (.int .i64 0) fun b=>ao b (R a f) (aG e (.int .i64 1) fun a=>c a f∧d a f<d e f)) (R (.int .i64 0) f)):ab 246 #[a] H0 R:=bD 0x102a29002a53a3a6300531a182020230181763a31a1a Tryz.func246 h
theorem wW.vc (a b:Value) (h:
 ab 272 #[a] H0 fun c d=>ab 272 #[b] d fun d e=>ao c (ao d (R (.int .i64 0) e) (R (.int .i64 (-1)) e)) (ao d (R (.int .i64 1) e) (cq a b fun c=>ao c (R (.int .i64 (-1)) e) (dW a b fun a=>ao a (R (.int .i64 1) e) (R (.int .i64 0) e))))):ab 247 #[a,b] H0 R:=bD 0x101a001a53a3001a53a3001a51a3001a001a51a351a33a3a1a Tryz.func247 h
theorem cmp_isNaN_int.vc (a:Value) (h:
 ea 0 a a fun a=>R a H0):ab 272 #[a] H0 R:=bD 0x104a1a Tryz.func272 h
theorem s0.vc (a b:Value) (h:
 aX b fun c=> ∃ (d:Value→ai→Prop) (e:Value→ai→Nat),d (.int .i64 0) H0∧∀ (_:Env) (f:Value) (g:ai),d f g→cq f c fun c=>ao c (bO b f fun b=>ab 257 #[a,b] g fun _ a=>aG f (.int .i64 1) fun b=>d b a∧e b a<e f g) (R (.tuple #[]) g)):ab 253 #[a,b] H0 R:=bD 0x129592a6300531a182042071763a Tryz.func253 h
theorem s7.vc (a b:Value) (h:
 cu 3 a (.pointer none) fun c=>ao c (R (.tuple #[]) H0) (∃c:ai→Prop,(∀ (_:Env) (d:ai),c d→aB a fun e=>aa 1 e fun e=>ak d e fun e=>aG e (.int .i64 1) fun e=>aB a fun f=>aa 1 f fun f=>aF d f e fun _ d=>R (.tuple #[]) d)∧aB a fun d=>aa 0 d fun d=>ak H0 d fun d=>bV d fun d=>cq d (.int .i64 32768) fun d=>ao d (aB a fun d=>aa 0 d fun d=>ak H0 d fun d=>aY H0 5 1 [(.int .u8 0)] [(0,1,b)] fun e f=>bj f 5 1 1 [(.int .u8 0)] d e fun d e=>aB a fun f=>aa 0 f fun f=>aF e f d fun _ d=>c d) (aB a fun d=>aa 0 d fun d=>ak H0 d fun d=>aB a fun a=>aa 1 a fun a=>ak H0 a fun a=>l8 a (.int .i64 32768) fun a=>aI 1 d a fun a=>aF H0 a b fun _ a=>c a))):ab 257 #[a,b] H0 R:=bD 0x118901c041201111011101c21b956a3a61040052a3 Tryz.func257 h
theorem lk.vc (a b c:Value) (h:
 cq b (.int .i64 0) fun d=>d_ d (fun d=>dW b (.int .i64 258) fun e=>d e H0) H0 fun d e=> ∀_:Env,d_ d (fun d=>cq c (.int .i64 1) fun f=>d f e) e fun d e=> ∀_:Env,d_ d (fun d=>ab 299 #[a] e fun f g=>dW c f fun f=>d f g) e fun d e=> ∀_:Env,ao d (R (.tuple #[(str []),(.bool false)]) e) (dF e 5 1 [(.int .u8 0)] b b fun b d=>bV b fun e=> ∃ (f:Value→ai→Prop) (g:Value→ai→Nat),f (.int .i64 0) d∧∀ (_:Env) (d:Value) (h:ai),f d h→cq d e fun e=>ao e (ab 300 #[a,c] h fun c e=>aq 0 c fun i=>aq 1 c fun _=>aI 1 b d fun c=>aF e c i fun _ c=>aI 1 b d fun e=>ak c e fun e=>ab 257 #[a,e] c fun _ a=>aG d (.int .i64 1) fun c=>f c a∧g c a<g d h) (kh h b fun a=>R (.tuple #[a,(.bool true)]) h))):ab 281 #[a,b,c] H0 R:=bD 0x104a29691aa2a6300531a2a2c019203e1763a33a002a501f041b41a21a5190274626550234223041332a Tryz.func281 h
theorem s8.vc (a:Value) (h:
 cu 3 a (.pointer none) fun b=>ao b (R (.int .i64 0) H0) (aB a fun a=>aa 0 a fun a=>ak H0 a fun a=>bV a fun a=>R a H0)):ab 299 #[a] H0 R:=bD 0x106a001a52a31a Tryz.func299 h
theorem rJ.vc (a b:Value) (h:
 cq b (.int .i64 1) fun c=>d_ c (fun c=>ab 299 #[a] H0 fun d e=>dW b d fun d=>c d e) H0 fun c d=> ∀_:Env,ao c (R (.tuple #[(.int .u8 0),(.bool false)]) d) (aB a fun c=>aa 0 c fun c=>ak d c fun c=>aB a fun a=>aa 1 a fun a=>ak d a fun a=>bY a b fun a=>l8 a (.int .i64 32768) fun a=>aI 1 c a fun a=>ak d a fun a=>R (.tuple #[a,(.bool true)]) d)):ab 300 #[a,b] H0 R:=bD 0x1001f04111217e850111011101f23002a5070434223041332a Tryz.func300 h
theorem CO.vc (a b c:Value) (h:
 cq c (.int .i64 0) fun d=>d_ d (fun d=>dW c (.int .i64 9) fun e=>d e H0) H0 fun d e=> ∀_:Env,ao d (R (.tuple #[(.slice none 0 0),(.int .i64 1)]) e) (cu 0 c (.int .i64 0) fun d=>ao d (aX b fun d=>dF e 145 24 [(.int .u8 0),(.int .i64 0),(.int .i64 0)] d d fun d f=>bV d fun g=> ∃ (h:Value→ai→Prop) (i:Value→ai→Nat),h (.int .i64 0) f∧∀ (_:Env) (f:Value) (j:ai),h f j→cq f g fun g=>ao g (bO b f fun g=>aI 3 d f fun k=>aa 0 k fun k=>aF j k g fun _ g=>aG f (.int .i64 1) fun k=>h k g∧i k g<i f j) (R (.tuple #[d,(.int .i64 0)]) j)) (dL 10 1 (.pointer (some ⟨5,0,none⟩)) c fun d=>ak e d fun d=>ab 315 #[a,b,d] e fun a b=>lB c (.int .i64 4) fun c=>ab 316 #[a,c] b fun a b=>R (.tuple #[a,(.int .i64 0)]) b))):ab 305 #[a,b,c] H0 R:=bD 0x101ba003a291892a6300531a1a1f01920391763a34a53a02a5065502342230413632a Tryz.func305 h
theorem wX.vc (a b c:Value) (h:
 aX a fun d=>bY d (.int .i64 32768) fun d=>G1 d (.int .i64 0) fun d=>a7 a (some d) none fun a=>aG a b fun b=>aX a fun d=>mr H0 fun e f=>aT [(str []),(.int .i64 0),(.map none),(.slice none 0 0),(.int .i64 0)] [(0,1,b),(1,1,d),(2,1,e),(4,1,c)] fun b=>bs f 406 b fun b c=>aB b fun d=>aa 0 d fun d=>ak c d fun d=>aX d fun d=>dF c 3 8 [(.int .i64 0)] d d fun c d=>aB b fun e=>aa 3 e fun e=>aF d e c fun _ c=>aX a fun a=> ∃ (d:Value→ai→Prop) (e:Value→ai→Nat),d (.int .i64 0) c∧∀ (_:Env) (c:Value) (f:ai),d c f→cq c a fun a=>ao a (ab 319 #[b,c] f fun _ a=>aG c (.int .i64 1) fun g=>d g a∧e g a<e c f) (R b f)):ab 315 #[a,b,c] H0 R:=bD 0x102a29392a6300531a63a018204b1763a31aa1aa7a1a Tryz.func315 h
theorem qJ.vc (a b:Value) (h:
 aB a fun c=>aa 1 c fun c=>ak H0 c fun c=> ∃ (d:Value→Value→ai→Prop) (e:Value→Value→ai→Nat),d (.slice none 0 0) c H0∧∀ (_:Env) (c f:Value) (g:ai),d c f g→aB a fun h=>aa 0 h fun h=>ak g h fun h=>aX h fun h=>cq f h fun h=>ao h (ab 320 #[a,f] g fun h i=>aq 0 h fun j=>aq 1 h fun h=>ab 319 #[a,f] i fun _ i=> ∃k:Value→ai→Prop,(∀ (_:Env) (l:Value) (m:ai),k l m→cu 0 l (.int .i64 0) fun n=>ao n (aB a fun n=>aa 0 n fun n=>ak m n fun n=>bO n f fun n=>aT [(.int .u8 0),(.int .i64 0),(.int .i64 0)] [(0,1,n)] fun n=>aY m 145 1 [(.int .u8 0),(.int .i64 0),(.int .i64 0)] [(0,3,n)] fun n o=>bj o 145 3 24 [(.int .u8 0),(.int .i64 0),(.int .i64 0)] c n fun n o=>aG f (.int .i64 1) fun p=>d n p o∧e n p o<e c f g) (aT [(.int .u8 0),(.int .i64 0),(.int .i64 0)] [(1,1,l),(2,1,h)] fun h=>aY m 145 1 [(.int .u8 0),(.int .i64 0),(.int .i64 0)] [(0,3,h)] fun h m=>bj m 145 3 24 [(.int .u8 0),(.int .i64 0),(.int .i64 0)] c h fun h m=>bY l (.int .i64 1) fun l=> ∃ (n:Value→Value→ai→Prop) (o:Value→Value→ai→Nat),n f (.int .i64 0) m∧∀ (_:Env) (m p:Value) (q:ai),n m p q→cq p l fun l=>ao l (aG m (.int .i64 1) fun l=>ab 319 #[a,l] q fun _ r=>aG p (.int .i64 1) fun s=>n l s r∧o l s r<o m p q) (aG m (.int .i64 1) fun l=>d h l q∧e h l q<e c f g)))∧dW j (.int .i64 0) fun d=>bZ d (fun d=>d b i) i fun b d=> ∀_:Env,bZ b (fun b=>cq j (.int .i64 258) fun e=>b e d) d fun b d=> ∀_:Env,ao b (aG f (.int .i64 1) fun b=>ab 320 #[a,b] d fun a b=>aq 0 a fun e=>aq 1 a fun _=>dW e j fun a=>ao a (k (.int .i64 0) b) (k j b)) (k j d)) (R c g)):ab 316 #[a,b] H0 R:=bD 0x102a3929393a6300531a71890620189062763a37a003a1ba52a3001953a19a501802645255403522304132a2c1107307143a18a60057a318a4552151765a3031a1a Tryz.func316 h
theorem rK.vc (a b:Value) (h:
 aG b (.int .i64 3) fun c=>aB a fun d=>aa 0 d fun d=>ak H0 d fun d=>aX d fun d=>dW c d fun c=>ao c (R (.tuple #[]) H0) (ab 322 #[a,b] H0 fun c d=>aB a fun e=>aa 3 e fun e=>ak d e fun e=>aB a fun f=>aa 2 f fun f=>ak d f fun f=>fT d 0 (.int .i64 0) false f c fun f=>aI 1 e b fun e=>aF d e f fun _ d=>aB a fun a=>aa 2 a fun a=>ak d a fun a=>aG b (.int .i64 1) fun b=>ie d 0 a c b fun _ a=>R (.tuple #[]) a)):ab 319 #[a,b] H0 R:=bD 0x118901d04121fc8501110011101d234a00518a3 Tryz.func319 h
theorem pC.vc (a b:Value) (h:
 aG b (.int .i64 3) fun c=>aB a fun d=>aa 0 d fun d=>ak H0 d fun d=>aX d fun d=>dW c d fun c=>ao c (R (.tuple #[(.int .i64 0),(.int .i64 0)]) H0) (aB a fun c=>aa 2 c fun c=>ak H0 c fun d=>ab 322 #[a,b] H0 fun e f=> (ak f c fun c=>c=d)∧fT f 0 (.int .i64 0) false d e fun c=> ∃d:Value→Value→ai→Prop,(∀ (_:Env) (e g:Value) (h:ai),d e g h→cq e (.int .i64 3) fun i=>ao i (R (.tuple #[(.int .i64 0),(.int .i64 0)]) h) (R (.tuple #[e,g]) h))∧∃ (e:Value→Value→Value→Value→ai→Prop) (g:Value→Value→Value→Value→ai→Nat),e (.int .i64 0) (.int .i64 0) c (.int .i64 0) f∧∀ (_:Env) (c f h i:Value) (j:ai),e c f h i j→dW h (.int .i64 0) fun k=>bZ k (fun k=>aB a fun l=>aa 4 l fun l=>ak j l fun l=>cq i l fun l=>k l j) j fun k l=> ∀_:Env,bZ k (fun k=>bY h (.int .i64 1) fun m=>bY b m fun m=>vk m (.int .i64 32768) fun m=>k m l) l fun k l=> ∀_:Env,ao k (∃k:Value→Value→ai→Prop,(∀ (_:Env) (m n:Value) (o:ai),k m n o→cu 0 m (.int .i64 258) fun p=>ao p (d m n o) (aB a fun p=>aa 3 p fun p=>ak o p fun p=>bY h (.int .i64 1) fun q=>aI 1 p q fun p=>ak o p fun p=>aG i (.int .i64 1) fun q=>e m n p q o∧g m n p q o<g c f h i j))∧bY h (.int .i64 1) fun e=>ab 323 #[a,e,b] l fun a e=>dW a c fun g=>ao g (bY h (.int .i64 1) fun g=>bY b g fun b=>k a b e) (k c f e)) (d c f l))):ab 320 #[a,b] H0 R:=bD 0x104a002a52a3391990052a307953a6a1c4b02163161463005028051b41a21a5190634223041335928462361761a59284621614027431616041268500111019232a002a518a32a Tryz.func320 h
theorem s9.vc (a b:Value) (h:
 aB a fun a=>aa 0 a fun a=>ak H0 a fun a=>bO a b fun c=>bm .i64 c fun c=>jv c (.int .u64 10) fun c=>aG b (.int .i64 1) fun d=>bO a d fun d=>bm .i64 d fun d=>jv d (.int .u64 5) fun d=>cx .xor c d fun c=>aG b (.int .i64 2) fun b=>bO a b fun a=>bm .i64 a fun a=>cx .xor c a fun a=>cx .and a (.int .i64 32767) fun a=>R a H0):ab 322 #[a,b] H0 R:=bD 0x1002c0411217888851002113c85100112002c235a1a Tryz.func322 h
theorem qK.vc (a b c:Value) (h:
 aB a fun d=>aa 0 d fun d=>ak H0 d fun d=>aX d fun d=>bY d c fun d=>jU (.int .i64 258) d fun d=> ∃ (e:Value→ai→Prop) (f:Value→ai→Nat),e (.int .i64 0) H0∧∀ (_:Env) (g:Value) (h:ai),e g h→cq g d fun d=>bZ d (fun d=>aB a fun i=>aa 0 i fun i=>ak h i fun i=>aG b g fun b=>bO i b fun b=>aB a fun a=>aa 0 a fun a=>ak h a fun a=>aG c g fun c=>bO a c fun a=>cu 0 b a fun a=>d a h) h fun a b=> ∀_:Env,ao a (aG g (.int .i64 1) fun a=>e a b∧f a b<f g h) (R g b)):ab 323 #[a,b,c] H0 R:=bD 0x102a39600502d0294432404121ff889f568889f531f51111f521c9f531f5111112002e2332f18018201817631a19a1a Tryz.func323 h
end
section
set_option maxRecDepth 100000
variable {H:ai} {R:Value→ai→Prop} {v:Value} {zs:List Int}
def sh (ls:List Nat):Nat:=ls.countP fun k=>decide (k≠0)
theorem yB (a b:List Nat):sh (a++b)=sh a+sh b:=by unfold sh;rw [List.countP_append]
def slackL (ls:List Nat):Bool:=decide (sh ls=0) || (decide (sh ls=1) && decide (dA ls 1=1))
theorem JN (n:Nat):decide ((n:Int)=1)=decide (n=1):=by rw [ahm,decide_eq_true_eq,decide_eq_true_eq];omega
theorem ND (n:Nat):decide ((n:Int)=0)=decide (n=0):=by rw [ahm,decide_eq_true_eq,decide_eq_true_eq];omega
noncomputable def gJ (zs:List Int) (loose:Bool):Int:=
 open Classical in if okZ zs then (if 32768<shareL (natL zs) 15 then 5 else if shareL (natL zs) 15<32768∧(loose && slackL (natL zs))=false then 4 else 0) else 1
theorem NF {loose:Bool} (h: ¬okZ zs):gJ zs loose=1:=by unfold gJ;rw [if_neg h]
theorem uE {loose:Bool} (h:okZ zs):gJ zs loose=if 32768<shareL (natL zs) 15 then 5 else if shareL (natL zs) 15<32768∧(loose && slackL (natL zs))=false then 4 else 0:=by unfold gJ;rw [if_pos h]
end
section
set_option maxRecDepth 100000
variable {H:ai} {R:Value→ai→Prop} {v:Value} {zs:List Int}
abbrev bU (lv wv:Value) (cs:List Int) (sv:Value):List Value:=lv::wv:: (aH cs++ [sv])
theorem ig {lv wv sv:Value} {cs:List Int} {n:Nat} (h:n<cs.length): (bU lv wv cs sv)[2+n]? =some (.int .i64 cs[n]):=by
 rw [show 2+n=n+1+1 by omega,agI,agI,agM (by rw [aL];exact h),bM h]
theorem AK {lv wv sv:Value} {cs:List Int} {n:Nat} {z:Int} (h:n<cs.length): (bU lv wv cs sv).set (2+n) (.int .i64 z)=bU lv wv (cs.set n z) sv:=by
 rw [show 2+n=n+1+1 by omega,ahp,ahp,ai5 _ _ (by rw [aL];exact h),iD]
def cj (ls:List Nat):List Int:= (List.range 16).map fun n=>if n=0 then 0 else ((dA ls n:Nat):Int)
theorem cX (ls:List Nat): (cj ls).length=16:=by simp [cj]
theorem fw {ls:List Nat} {n:Nat} (h:n<16): (cj ls)[n]'(by rw [cX];exact h)=if n=0 then 0 else ((dA ls n:Nat):Int):=by simp [cj]
theorem CP {ls:List Nat} {k:Nat} (h0:1≤k) (h1:k≤15):cj (ls++ [k])= (cj ls).set k ((dA ls k:Nat)+1:Int):=by
 apply ahF
 ·rw [ag8,cX,cX]
 intro i h2 h3;rw [cX] at h2;rw [fw h2,ajw]
 by_cases hi:k=i
 ·subst hi
  rw [if_pos rfl,if_neg (by omega),fh];have:dA [k] k=1:=by unfold dA;rw [aic,ajc,decide_eq_true rfl];rfl
  rw [this];omega
 ·rw [if_neg hi,fw h2]
  by_cases h0:i=0
  ·rw [if_pos h0,if_pos h0]
  ·rw [if_neg h0,if_neg h0,fh]
   have:dA [k] i=0:=by unfold dA;rw [aic,ajc,decide_eq_false hi];rfl
   rw [this];omega
theorem CQ {ls:List Nat}:cj (ls++ [0])=cj ls:=by
 apply ahF
 ·rw [cX,cX]
 intro i h2 h3;rw [cX] at h2;rw [fw h2,fw h2]
 by_cases h0:i=0
 ·rw [if_pos h0,if_pos h0]
 ·rw [if_neg h0,if_neg h0,fh]
  have:dA [0] i=0:=by unfold dA;rw [aic,ajc,decide_eq_false (by omega)];rfl
  rw [this];omega
theorem vI (ls:List Nat) (n:Nat) (hn:n≤15) (hl:ls.length≤288): -10000000≤jo ls n∧jo ls n≤32768:=by
 unfold jo;have h1:e_ ls n≤288*2 ^ 15:=by
  rw [rF];exact agJ (Bl ls n) (ajx hl (agA (by decide) hn))
 have h2:2 ^ n≤2 ^ 15:=agA (by decide) hn;generalize 2 ^ n=P at*;omega
theorem KX {H0:ai} {b:Nat} {t:TypeId} {lv wv sv:Value} (hz:okZ zs) (o:ar H0 H [.box b (bU lv wv (cj []) sv) t,.sl lv 1 (aH zs)])
  (h: ∀H' r,ar H0 H' [.box b (bU lv wv (cj (natL zs)) sv) t,.sl lv 1 (aH zs)]→(if jo (natL zs) 15<0 then r<0 else r=jo (natL zs) 15)→R (.int .i64 r) H'):ab 205 #[.pointer (some ⟨b,0,none⟩)] H R:=by
 have dI: (aH zs).length=zs.length*1:=by rw [aL];omega
 have KY:=hz.1;refine wR.vc _ _ _ ?_;rw [au,ae];refine o.aw (by repeat(first|exact af8|apply af7)) rfl ?_;refine(o.sl (v:=lv) (by repeat(first|exact af8|apply af7))).len dI (by decide) ?_;refine⟨fun i H' => ∃k:Nat,i= .int .i64 k∧k≤zs.length∧ar H0 H' [.box b (bU lv wv (cj (natL (zs.take k))) sv) t,.sl lv 1 (aH zs)],fun i _=>match i with| .int _ x=> (1000 - x).toNat|_=>0,⟨0,rfl,by omega,o⟩,?_⟩;rintro _ _ H1 ⟨k,rfl,hk,o⟩;rw [aN];refine av (fun hc=>?_) (fun hc=>?_)
 ·have dV:k<zs.length:=by omega
  have Yo:=hz.2 _ (agj dV);have R1:=KW dV;obtain⟨q,hq⟩: ∃q:Nat,zs[k]=q:= ⟨zs[k].toNat,by omega⟩;rw [hq,af_] at R1;refine(o.sl (v:=lv) (by repeat(first|exact af8|apply af7))).at_ dI (by decide) (by omega) (by omega) fun p hp=>?_;refine hp.load (o.sl (v:=lv) (by repeat(first|exact af8|apply af7))) (w:= .int .i64 q) (by rw [af_,agh,bM dV,hq]) ?_;rw [a8];refine av (fun KD=>?_) (fun KD=>?_)
  ·have dX:=cX (natL (zs.take k))
   have vB:dA (natL (zs.take k)) q≤288:=by
    have:=aiN (p:=fun j:Nat=>decide (j=q)) (l:=natL (zs.take k));rw [fF,age] at this;unfold dA;omega
   rw [au,ae,al,gG];refine⟨by omega,by omega,?_⟩;rw [al,show 0+2+ (q:Int).toNat*1=2+q by omega];refine o.aw (by repeat(first|exact af8|apply af7)) (ig (by rw [dX];omega)) ?_;rw [fw (by omega),if_neg (by omega),az,ba (n:= ((dA (natL (zs.take k)) q:Nat):Int)+1) (by omega) (by omega)];rw [au,ae,al,gG];refine⟨by omega,by omega,?_⟩;rw [al,show 0+2+ (q:Int).toNat*1=2+q by omega];refine o.bF (cs:=bU lv wv (cj (natL (zs.take k))) sv) (by repeat(first|exact af8|apply af7)) (by simp [aL,dX];omega) rfl (by repeat(first|exact aV.here|apply aV.there)) fun H2 o _=>?_;rw [AK (by rw [dX];omega),←CP (by omega) (by omega),←R1] at o;rw [az,ba (n:= (k:Int)+1) (by omega) (by omega)];exact⟨⟨k+1,rfl,by omega,o⟩,by show (_:Int).toNat< (_:Int).toNat;omega⟩
  ·have Uv:q=0:=by omega
   subst Uv;rw [←CQ,←R1] at o;rw [az,ba (n:= (k:Int)+1) (by omega) (by omega)];exact⟨⟨k+1,rfl,by omega,o⟩,by show (_:Int).toNat< (_:Int).toNat;omega⟩
 have Uw:k=zs.length:=by omega
 rw [Uw,agr] at o;have hlen: (natL zs).length≤288:=by rw [fF];omega
 generalize natL zs=ls at*;refine⟨fun l i H' => ∃n:Nat,i= .int .i64 (n+1:Nat)∧n≤15∧l= .int .i64 (jo ls n)∧0≤jo ls n∧H1=H',fun _ i _=>match i with| .int _ x=> (1000 - x).toNat|_=>0,⟨0,rfl,by omega,rfl,by show (0:Int)≤1;decide,rfl⟩,?_⟩;rintro _ _ _ _ ⟨n,rfl,hn,rfl,R2,rfl⟩;rw [kp];refine av (fun hc=>?_) (fun hc=>?_)
 ·have QH:n+1≤15:=by omega
  have hr:=vI ls n (by omega) hlen;have wz:=vI ls (n+1) QH hlen;have hs:=yu ls n;rw [mc,ba (n:=2*jo ls n) (by omega) (by omega)];rw [au,ae,al,gG];refine⟨by omega,by omega,?_⟩;rw [al,show 0+2+ ((n+1:Nat):Int).toNat*1=2+ (n+1) by omega];refine o.aw (by repeat(first|exact af8|apply af7)) (ig (by rw [cX];omega)) ?_;rw [fw (by omega),if_neg (by omega),aZ,←hs,ba (n:=jo ls (n+1)) (by omega) (by omega),aN];refine av (fun Hm=>?_) (fun Hm=>?_)
  ·exact h H1 _ o (by rw [if_pos (Bj ls Hm QH)];exact Hm)
  ·rw [az,ba (n:= ((n+1:Nat):Int)+1) (by omega) (by omega)]
   exact⟨⟨n+1,rfl,by omega,rfl,by omega,rfl⟩,by show (_:Int).toNat< (_:Int).toNat;omega⟩
 ·have:n=15:=by omega
  subst this;exact h H1 _ o (by rw [if_neg (by omega)])
theorem NG {H0:ai} {L:List It} {b f n:Nat} {t:TypeId} {pre mid post:List Value} {K:Value→Prop} (o:ar H0 H L) (dz:It.box b (pre++mid++post) t∈L) (hf:pre.length=f) (hn:mid.length=n) (hk:K (.agg mid.toArray)):aE H n (.pointer (some ⟨b,f,none⟩)) K:=by
 have hr:Reads H ⟨b,f,none⟩ mid:=fun i w hw=>by
  have xi:= (agD.1 hw).1;rw [al,da (o.fZ dz),agO,agc,agQ (by omega),agM (by omega),show f+i - pre.length=i by omega];exact hw
 exact hr.fE hn hk
def mO (ls:List Nat):Nat→Nat
 |0=>0
 |n+1=>mO ls n+ (if n=0 then 0 else dA ls n)
theorem Bm (k:Nat) (ls:List Nat): ∀n,mO (k::ls) n=mO ls n+ (if 1≤k∧k<n then 1 else 0)
 |0=>by rw [if_neg (by omega)];rfl
 |n+1=>by
  rw [mO,mO,Bm k ls n,kL]
  by_cases h0:n=0
  ·subst h0;rw [if_pos rfl,if_pos rfl,if_neg (by omega),if_neg (by omega)]
  ·rw [if_neg h0,if_neg h0]
   by_cases hk:k=n
   ·subst hk;rw [if_pos rfl,if_neg (by omega),if_pos (by omega)];omega
   ·rw [if_neg hk]
    by_cases h1:1≤k∧k<n
    ·rw [if_pos h1,if_pos (by omega)];omega
    ·rw [if_neg h1,if_neg (by omega)];omega
theorem JO: ∀ (ls:List Nat),(∀k∈ls,k≤15)→mO ls 16=sh ls
 | [],_=>rfl
 |k::ls,h=>by
  rw [Bm,JO ls fun x hx=>h x (by simp [hx])];have:=h k (by simp);unfold sh;rw [aic]
  by_cases hk:k=0
  ·subst hk;rfl
  ·rw [if_pos (by omega)];simp [hk]
theorem xk {ls:List Nat} (hlen:ls.length≤288): ∀k,mO ls k≤k*288
 |0=>aga _
 |k+1=>by
  have ih:=xk hlen k;have hc:dA ls k≤288:=agJ (aiN) hlen;rw [mO,ah4]
  by_cases h0:k=0
  ·rw [if_pos h0];exact agJ ih (ah7 _ _)
  ·rw [if_neg h0];exact Nat.add_le_add ih hc
theorem HP {n:Nat} {l:List Value} {k:IntKind} {i:Int} {x:Value} {K:Value→Prop} (h0:0≤i) (h1:i< (n:Int)) (hx:l[i.toNat]? =some x) (hK:K x):np n (.agg l.toArray) (.int k i) K:=by
 refine⟨h0,h1,?_⟩;show match l[i.toNat]? with|some v=>K v|none=>False
 rw [hx];exact hK
theorem HQ {H0:ai} {b:Nat} {t:TypeId} {lv wv sv:Value} (hz:okZ zs) (o:ar H0 H [.box b (bU lv wv (cj (natL zs)) sv) t,.sl lv 1 (aH zs)])
  (h:R (.bool (slackL (natL zs))) H):ab 206 #[.pointer (some ⟨b,0,none⟩)] H R:=by
 have KY:=hz.1;have hlen: (natL zs).length≤288:=by rw [fF];omega
 have hle: ∀k∈natL zs,k≤15:=fun k hk=>by
  obtain⟨z,vo,rfl⟩:=agP.1 hk;have:=hz.2 z vo;omega
 generalize natL zs=ls at*;refine uD.vc _ _ _ ?_;rw [au,ae,al];refine NG (pre:= [lv,wv]) (mid:=aH (cj ls)) (post:= [sv]) o (af8) rfl (by rw [aL,cX]) ?_;have CR:=xk hlen;refine⟨fun a i H' => ∃k:Nat,i= .int .i64 k∧k≤16∧a= .int .i64 (mO ls k:Nat)∧H=H',fun _ i _=>match i with| .int _ x=> (1000 - x).toNat|_=>0,⟨0,rfl,by omega,rfl,rfl⟩,?_⟩;rintro _ _ _ _ ⟨k,rfl,hk,rfl,rfl⟩;have Er:=CR k;rw [aN];refine av (fun hc=>?_) (fun hc=>?_)
 ·have Tg:k<16:=by omega
  have hc:dA ls k≤288:=agJ (aiN) hlen;have Bn: ∀ {K:Value→Prop},K (.int .i64 (if k=0 then 0 else ((dA ls k:Nat):Int)))→np 16 (.agg (aH (cj ls)).toArray) (.int .i64 (k:Int)) K:=fun hK=>
   HP (Int.natCast_nonneg k) (Int.ofNat_lt.2 Tg) (by rw [af_,bM (by rw [cX];exact Tg),fw Tg]) hK
  refine Bn ?_;rw [az,az,ba (n:= (k:Int)+1) (by omega) (by omega)];refine⟨⟨k+1,rfl,by omega,?_,rfl⟩,by show (_:Int).toNat< (_:Int).toNat;omega⟩;rw [mO]
  split
  ·rw [ba (by omega) (by omega)];simp
  ·rw [ba (by omega) (by omega)];rfl
 ·have:k=16:=by omega
  subst this;rw [JO ls hle,bc,ND];refine il (d:=decide (sh ls=1) && decide (dA ls 1=1)) (fun _=>?_) (fun _=>h);rw [bc,JN];refine dM (d:=decide (dA ls 1=1)) (fun _=>?_) (fun _=> ⟨rfl,rfl⟩);rw [au,ae,al,gG];refine⟨by decide,by decide,?_⟩;rw [al];refine o.aw (f:=2+1) (by repeat(first|exact af8|apply af7)) (ig (by rw [cX];decide)) ?_;rw [fw (by decide),if_neg (by decide),bc,JN];exact⟨rfl,rfl⟩
end
section
set_option maxRecDepth 100000
variable {H:ai} {R:Value→ai→Prop} {v:Value} {zs:List Int}
def qZ (ls:List Nat) (s:Nat):List Value:= [.int .u64 (dH (eG ls s) (ls.getD s 0):Nat),.int .i64 (ls.getD s 0:Nat)]
def ll (ls:List Nat):List Value:= ((List.range ls.length).map (qZ ls)).flatten
theorem HR {ls:List Nat} {s:Nat} (h:ls.getD s 0=0):qZ ls s= [.int .u64 0,.int .i64 0]:=by unfold qZ;rw [h];rfl
def j2 (ls:List Nat) (n x:Nat):List Nat:= (List.range x).filter fun s=>decide (ls.getD s 0=n)
def j3 (ls:List Nat):Nat→List Nat
 |0=> []
 |n+1=>j3 ls n++ (if n=0 then [] else j2 ls n ls.length)
theorem qm {ls:List Nat} {n:Nat}: ∀x,x≤ls.length→(j2 ls n x).length=dA (ls.take x) n
 |0,_=>rfl
 |x+1,h=>by
  have hx:x<ls.length:=by omega
  have hg:ls.getD x 0=ls[x]:=by rw [agd,agb hx];rfl
  unfold j2;rw [aiC,aiO,af9,ql hx,fh];have ih:=qm (ls:=ls) (n:=n) x (by omega);unfold j2 at ih;rw [ih];unfold dA;rw [ain,ajd,hg,aic,ajc]
  by_cases he:ls[x]=n
  ·rw [decide_eq_true he];rfl
  ·rw [decide_eq_false he];rfl
theorem mP {ls:List Nat}: ∀n,(j3 ls n).length=mO ls n
 |0=>rfl
 |n+1=>by
  rw [j3,mO,af9,mP n]
  by_cases h0:n=0
  ·rw [if_pos h0,if_pos h0];rfl
  ·rw [if_neg h0,if_neg h0,qm _ (aga _),agr]
theorem NH {n:Nat}: ∀ (L:List (List Value)) (i:Nat) (r:List Value),(∀r∈L,r.length=n)→r.length=n→i<L.length→iI L.flatten (i*n) r= (L.set i r).flatten:=fun L i r hl hr hi=>by
 have e:L=L.take i++L[i]::L.drop (i+1):=by rw [←ag4 hi,agE]
 have hu:L[i].length=n:=hl _ (agj hi);have hp: (L.take i).flatten.length=i*n:=by
  rw [mG (L.take i) (fun x hx=>hl x (ag3 hx)),age,ag2 (by omega)]
 have e1:L.flatten= (L.take i).flatten++ (L[i]++ (L.drop (i+1)).flatten):=by
  conv=>lhs;rw [e]
  rw [ahz,ag0]
 have e2: (L.set i r).flatten= (L.take i).flatten++ (r++ (L.drop (i+1)).flatten):=by
  rw [List.set_eq_take_append_cons_drop,if_pos hi,ahz,ag0]
 rw [e1,e2,←hp,mF r _ _ (by rw [af9];omega),agc,ahk (by omega),ahN (by omega),agn]
def gv (ls:List Nat) (n x:Nat):List (List Value):= (List.range ls.length).map fun s=>if 1≤ls.getD s 0∧(ls.getD s 0<n∨(ls.getD s 0=n∧s<x)) then qZ ls s else [.int .u64 0,.int .i64 0]
theorem kM {ls:List Nat} {n x:Nat}: (gv ls n x).length=ls.length:=by simp [gv]
theorem Bo {ls:List Nat} {n x:Nat}: ∀r∈gv ls n x,r.length=2:=by
 intro r hr;obtain⟨s,_,rfl⟩:=agP.1 hr
 split<;>rfl
theorem vJ {ls:List Nat} {n x m y:Nat} (h: ∀s,s<ls.length→(1≤ls.getD s 0∧(ls.getD s 0<n∨(ls.getD s 0=n∧s<x))↔1≤ls.getD s 0∧(ls.getD s 0<m∨(ls.getD s 0=m∧s<y)))):gv ls n x=gv ls m y:=by
 unfold gv;refine ahs fun s hs=>?_;have:=h s (aiy.1 hs)
 by_cases hc:1≤ls.getD s 0∧(ls.getD s 0<n∨(ls.getD s 0=n∧s<x))
 ·rw [if_pos hc,if_pos (this.1 hc)]
 ·rw [if_neg hc,if_neg (fun g=>hc (this.2 g))]
theorem HS {ls:List Nat} {n x:Nat} (h:ls.getD x 0≠n):gv ls n (x+1)=gv ls n x:=vJ fun s hs=>by
 constructor
 ·rintro⟨h1,h2| ⟨h2,h3⟩⟩
  ·exact⟨h1,.inl h2⟩
  ·refine⟨h1,.inr ⟨h2,?_⟩⟩
   by_cases he:s=x
   ·subst he;exact absurd h2 h
   ·omega
 ·rintro⟨h1,h2| ⟨h2,h3⟩⟩
  ·exact⟨h1,.inl h2⟩
  ·exact⟨h1,.inr ⟨h2,by omega⟩⟩
theorem yC {ls:List Nat} {n x i:Nat} (h:i<ls.length): (gv ls n x)[i]? =some (if 1≤ls.getD i 0∧(ls.getD i 0<n∨(ls.getD i 0=n∧i<x)) then qZ ls i else [.int .u64 0,.int .i64 0]):=by
 unfold gv;rw [agu,aho h];rfl
theorem KZ {ls:List Nat} {n x:Nat} (hx:x<ls.length) (h:ls.getD x 0=n) (hn:1≤n): (gv ls n x).set x (qZ ls x)=gv ls n (x+1):=by
 apply agX;intro i
 by_cases xi:i<ls.length
 ·rw [yC xi]
  by_cases hi:x=i
  ·subst hi
   rw [ahC (by rw [kM];exact hx),if_pos ⟨by omega,.inr ⟨h,by omega⟩⟩]
  ·rw [aiv hi,yC xi]
   by_cases hc:1≤ls.getD i 0∧(ls.getD i 0<n∨(ls.getD i 0=n∧i<x))
   ·rw [if_pos hc,if_pos ⟨hc.1,hc.2.imp id fun g=> ⟨g.1,by omega⟩⟩]
   ·rw [if_neg hc,if_neg (fun g=>hc ⟨g.1,g.2.imp id fun g=> ⟨g.1,by omega⟩⟩)]
 ·rw [agq (by rw [ag8,kM];omega),agq (by rw [kM];omega)]
theorem HT {ls:List Nat} {n:Nat}:gv ls n ls.length=gv ls (n+1) 0:=vJ fun s hs=>by omega
theorem EX {ls:List Nat}: (gv ls 1 0).flatten=eJ [.int .u64 0,.int .i64 0] ls.length:=by
 rw [EH]
 congr 1
 apply agX;intro i
 by_cases xi:i<ls.length
 ·rw [yC xi,aie,if_pos xi,if_neg (by omega)]
 ·rw [agq (by rw [kM];omega),agq (by rw [agF];omega)]
theorem K0 {ls:List Nat} (h: ∀k∈ls,k≤15): (gv ls 16 0).flatten=ll ls:=by
 unfold gv ll
 congr 1
 refine ahs fun s hs=>?_;have ik:=aiy.1 hs;have hg:ls.getD s 0=ls[s]:=by rw [agd,agb ik];rfl
 have Ux:=h _ (agj ik)
 by_cases h0:ls.getD s 0=0
 ·rw [if_neg (by omega),HR h0]
 ·rw [if_pos ⟨by omega,.inl (by omega)⟩]
def lT (l:List Nat):List Value:=l.map fun s=>Value.int .i64 (s:Nat)
theorem Bp (l:List Nat): (lT l).length=l.length:=by simp [lT]
theorem uF {ls:List Nat} {n x:Nat} (h:ls.getD x 0=n):j2 ls n (x+1)=j2 ls n x++ [x]:=by
 unfold j2;rw [aiC,aiO,ain,ajd,decide_eq_true h];rfl
theorem yD {ls:List Nat} {n x:Nat} (h:ls.getD x 0≠n):j2 ls n (x+1)=j2 ls n x:=by
 unfold j2;rw [aiC,aiO,ain,ajd,decide_eq_false h];simp
theorem JP {ls:List Nat} (h:ls.length≤288) (n:Nat):e_ ls n≤288*2 ^ n:=by
 rw [rF];exact agJ (Bl ls n) (aht _ h)
theorem K1 {i:Nat} (h:i<zs.length): (natL zs).getD i 0=zs[i].toNat:=by
 rw [agd,agb (by rw [fF];exact h)]
 simp [natL]
theorem EY {H0:ai} {b:Nat} {t:TypeId} {lv:Value} (hz:okZ zs) (o:ar H0 H [.box b (bU lv (.slice none 0 0) (cj (natL zs)) (.slice none 0 0)) t,.sl lv 1 (aH zs)])
  (h: ∀H' wv sv,ar H0 H' [.box b (bU lv wv (cj (natL zs)) sv) t,.sl lv 1 (aH zs),.sl wv 2 (ll (natL zs)),.sl sv 1 (lT (j3 (natL zs) 16))]→R (.tuple #[]) H'):ab 207 #[.pointer (some ⟨b,0,none⟩)] H R:=by
 have dI: (aH zs).length=zs.length*1:=by rw [aL];omega
 have KY:=hz.1;have Xg:= @K1 zs;have hlen: (natL zs).length=zs.length:=fF zs;have hle: ∀k∈natL zs,k≤15:=fun k hk=>by
  obtain⟨z,vo,rfl⟩:=agP.1 hk;have:=hz.2 z vo;omega
 generalize natL zs=ls at*;have mC:=JP (ls:=ls) (by omega);refine sZ.vc _ _ _ ?_;rw [au,ae];refine o.aw (by repeat(first|exact af8|apply af7)) rfl ?_;refine(o.sl (v:=lv) (by repeat(first|exact af8|apply af7))).len dI (by decide) ?_;refine o.make (by decide) (by omega) (by omega) (by omega) fun wv H1 o=>?_;rw [af_,←hlen,←EX] at o;rw [au,ae,al];refine o.bF (f:=0+1) (cs:=bU lv (.slice none 0 0) (cj ls) (.slice none 0 0)) (by repeat(first|exact af8|apply af7)) (by simp) (o.sl (v:=wv) (by repeat(first|exact af8|apply af7))).one (by repeat(first|exact aV.here|apply aV.there)) fun H2 o _=>?_;have o:ar H0 H2 [.box b (bU lv wv (cj ls) (.slice none 0 0)) t,.sl lv 1 (aH zs),.sl wv 2 (gv ls 1 0).flatten]:=o.arr (by repeat(first|exact cC.nil|exact bw.here|apply cC.cons|apply bw.there));have o:=o.add (Ext.refl _) (i:= .sl (.slice none 0 0) 1 []) ⟨by decide,.inl ⟨rfl,rfl⟩⟩ (by intro k hk;exact absurd hk (by simp [It.cN,aS]));have o:ar H0 H2 [.box b (bU lv wv (cj ls) (.slice none 0 0)) t,.sl lv 1 (aH zs),.sl wv 2 (gv ls 1 0).flatten,.sl (.slice none 0 0) 1 (lT (j3 ls 1))]:=o.arr (by repeat(first|exact cC.nil|exact bw.here|apply cC.cons|apply bw.there));refine⟨fun m i H' => ∃n:Nat,i= .int .i64 ((n+1:Nat):Int)∧n≤15∧m= .int .u64 ((e_ ls n:Nat):Int)∧∃sv,ar H0 H' [.box b (bU lv wv (cj ls) sv) t,.sl lv 1 (aH zs),.sl wv 2 (gv ls (n+1) 0).flatten,.sl sv 1 (lT (j3 ls (n+1)))],fun _ i _=>match i with| .int _ x=> (1000 - x).toNat|_=>0,⟨0,rfl,by omega,rfl,_,o⟩,?_⟩;clear o;rintro _ _ _ H3 ⟨n,rfl,hn,rfl,sv,o⟩;rw [kp];refine av (fun hc=>?_) (fun hc=>?_)
 ·have QH:n+1≤15:=by omega
  have he:=mC n;have Aq:2 ^ n≤2 ^ 15:=agA (by decide) hn;generalize 2 ^ n=P at*;rw [eB];refine⟨by decide,?_⟩;rw [show min (1:Int).toNat IntKind.u64.bits=1 from rfl,show ((e_ ls n:Nat):Int)*2 ^ 1= ((km ls (n+1):Nat):Int) by unfold km;rw [aif];omega];have jM:km ls (n+1)=2*e_ ls n:=by unfold km;rw [aif]
  rw [cR (by omega) (by omega)];rw [au,ae];refine o.aw (by repeat(first|exact af8|apply af7)) rfl ?_;refine(o.sl (v:=lv) (by repeat(first|exact af8|apply af7))).len dI (by decide) ?_;refine⟨fun m i H' => ∃k:Nat,i= .int .i64 (k:Int)∧k≤zs.length∧m= .int .u64 ((km ls (n+1)+dA (ls.take k) (n+1):Nat):Int)∧∃sv,ar H0 H' [.box b (bU lv wv (cj ls) sv) t,.sl lv 1 (aH zs),.sl wv 2 (gv ls (n+1) k).flatten,.sl sv 1 (lT (j3 ls (n+1)++j2 ls (n+1) k))],fun _ i _=>match i with| .int _ x=> (1000 - x).toNat|_=>0,⟨0,rfl,by omega,rfl,sv,by rw [show j2 ls (n+1) 0= [] from rfl,agy];exact o⟩,?_⟩;clear o;rintro _ _ _ H4 ⟨k,rfl,hk,rfl,sv,o⟩;rw [aN];refine av (fun hc=>?_) (fun hc=>?_)
  ·have dV:k<zs.length:=by omega
   have dX:dA (ls.take k) (n+1)≤288:=agJ aiN (by rw [age];omega);have Yo:=hz.2 _ (agj dV);refine(o.sl (v:=lv) (by repeat(first|exact af8|apply af7))).at_ dI (by decide) (by omega) (by omega) fun p hp=>?_;refine hp.load (o.sl (v:=lv) (by repeat(first|exact af8|apply af7))) (w:= .int .i64 zs[k]) (by rw [af_,agh,bM dV]) ?_;rw [bc,az,ba (n:= (k:Int)+1) (by omega) (by omega)];have RX:ls[k]? =some zs[k].toNat:=by
    have:=Xg dV;rw [agd,agb (by omega)] at this;rw [agb (by omega),←this];rfl
   have me:dA (ls.take (k+1)) (n+1)=dA (ls.take k) (n+1)+ (if ls.getD k 0=n+1 then 1 else 0):=by
    rw [agz,RX,Xg dV,fh,Option.toList,kL]
    simp [dA]
   refine cy (fun hb=>?_) (fun hb=>?_)
   ·have hkv:zs[k]= ((n+1:Nat):Int):=by
     have:=hb
     simp at this
     rw [this];rfl
    have hg:ls.getD k 0=n+1:=by rw [Xg dV,hkv];rfl
    rw [if_pos hg] at me;rw [au,ae,al];refine o.aw (f:=0+1) (by repeat(first|exact af8|apply af7)) rfl ?_;refine AJ (by omega) (by omega) ?_;refine⟨o.aw (f:=0+1) (by repeat(first|exact af8|apply af7)) rfl rfl,?_⟩;refine dm rfl rfl ?_;have Xh: (gv ls (n+1) k).flatten.length=zs.length*2:=by rw [mG _ Bo,kM,hlen]
    refine(o.sl (v:=wv) (by repeat(first|exact af8|apply af7))).at_ Xh (by decide) (by omega) (by omega) fun p hp=>?_;refine o.Td (l:= (gv ls (n+1) k).flatten) hp (by repeat(first|exact af8|apply af7)) rfl (by omega) rfl (by repeat(first|exact aV.here|apply aV.there)) fun H5 o _=>?_;rw [af_,NH _ _ _ Bo rfl (by rw [kM];omega)] at o;have hw: [Value.int .u64 (dH (km ls (n+1)+dA (ls.take k) (n+1)) (n+1):Nat),.int .i64 ((n+1:Nat):Int)]=qZ ls k:=by
     unfold qZ eG sX;rw [hg]
    rw [hw,KZ (by omega) hg (by omega)] at o;rw [au,ae,al];refine o.aw (f:=0+18) (by repeat(first|exact af8|apply af7)) rfl ?_;refine o.dj (sz:=1) (by decide) rfl rfl fun y H6 o=>?_;have kg: (lT (j3 ls (n+1)++j2 ls (n+1) k)).length≤5000:=by
     rw [Bp,af9,mP,qm _ (by omega)];have:=xk (ls:=ls) (by omega) (n+1);have h2: (n+1)*288≤15*288:=aht _ QH;exact agJ (Nat.add_le_add (agJ this h2) dX) (by decide)
    refine o.app (by repeat(first|exact bw.here|apply bw.there)) (o.sl (v:=y) (by repeat(first|exact af8|apply af7))) rfl (by show 2* (_+1)*8≤_;omega) fun z H7 o=>?_;rw [au,ae,al];refine o.bF (f:=0+18) (cs:=bU lv wv (cj ls) sv) (by repeat(first|exact af8|apply af7)) (by simp [aL,cX]) (o.sl (v:=z) (by repeat(first|exact af8|apply af7))).one (by repeat(first|exact aV.here|apply aV.there)) fun H8 o _=>?_;rw [az,cR (by omega) (by omega),az,ba (n:= (k:Int)+1) (by omega) (by omega)];refine⟨⟨k+1,rfl,by omega,?_,z,?_⟩,by show (_:Int).toNat< (_:Int).toNat;omega⟩
    ·rw [me];rfl
    ·rw [uF hg]
     have e:lT (j3 ls (n+1)++j2 ls (n+1) k)++ [Value.int .i64 (k:Int)]=lT (j3 ls (n+1)++ (j2 ls (n+1) k++ [k])):=by simp [lT]
     rw [←e];exact o.arr (by repeat(first|exact cC.nil|exact bw.here|apply cC.cons|apply bw.there))
   ·have hkv:zs[k]≠((n+1:Nat):Int):=by
     intro e;rw [e] at hb
     simp at hb
    have hg:ls.getD k 0≠n+1:=by rw [Xg dV];omega
    rw [if_neg hg,agL] at me;refine⟨⟨k+1,rfl,by omega,by rw [me];rfl,sv,?_⟩,by show (_:Int).toNat< (_:Int).toNat;omega⟩;rw [HS hg,yD hg];exact o
  ·have Uw:k=zs.length:=by omega
   rw [Uw,←hlen,HT] at o;rw [Uw,←hlen,agr,←yq _ (by omega)];rw [az,ba (n:= ((n+1:Nat):Int)+1) (by omega) (by omega)];refine⟨⟨n+1,rfl,by omega,rfl,sv,?_⟩,by show (_:Int).toNat< (_:Int).toNat;omega⟩;rw [j3,if_neg (by omega)];exact o
 ·have:n=15:=by omega
  subst this;rw [K0 hle] at o;exact h _ _ _ o
end
end Go.Proofs.YtpcgccdmmoggmaaGreatDoor

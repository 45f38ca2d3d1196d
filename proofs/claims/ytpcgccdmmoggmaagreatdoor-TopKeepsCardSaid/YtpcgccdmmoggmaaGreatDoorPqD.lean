/- Part 4 of the proof of RowTopKeeps: what it is built on, in the order of its needs. -/
import Derived.Test.YtpcgccdmmoggmaaGreatDoorPqC
import Derived.RangeFuncNested
import Derived.RangeFuncBound
import Derived.RangeFuncCalls
import Derived.RangeFuncLeaves
import Derived.Shelf.Abstract
import Derived.Shelf.RegionOpen
import Derived.WalkKit
import Derived.OwnWalkIn
import Derived.TacticsInMore
import Derived.LoopNIn
import Derived.LoopIn
set_option linter.unusedSimpArgs false
set_option linter.unusedVariables false
set_option maxRecDepth 100000
namespace Go.Proofs.YtpcgccdmmoggmaaGreatDoor
open Go Go.Vc Go.Proofs
section
set_option maxHeartbeats 4000000
variable [Go.Vc.Mode] (H0:ai) (R:Value→ai→Prop)
theorem s_.vc (a b:Value) (h:
 bY (.int .u32 4294967295) a fun a=> ∃ (c:Value→Value→ai→Prop) (d:Value→Value→ai→Nat),c a (.int .i64 0) H0∧∀ (_:Env) (a e:Value) (f:ai),c a e f→aX b fun g=>cq e g fun g=>ao g (bO b e fun b=>bm .u32 b fun b=>cx .xor a b fun b=>ab 86 #[b] f fun b g=>aG e (.int .i64 1) fun h=>c b h g∧d b h g<d a e f) (bY (.int .u32 4294967295) a fun a=>R a f)):ab 37 #[a,b] H0 R:=bD 0x103a39189630054a31c20400304002761a33a1a Tryz.func37 h
theorem ta.vc (a:Value) (h:
 ∃ (b:Value→Value→ai→Prop) (c:Value→Value→ai→Nat),b a (.int .i64 0) H0∧∀ (_:Env) (a d:Value) (e:ai),b a d e→cq d (.int .i64 8) fun f=>ao f (∃f:Value→ai→Prop,(∀ (_:Env) (g:Value) (h:ai),f g h→aG d (.int .i64 1) fun i=>b g i h∧c g i h<c a d e)∧l8 a (.int .u32 2) fun b=>cu 0 b (.int .u32 1) fun b=>rh a (.int .u32 2) fun c=>ao b (cx .xor c (.int .u32 3988292384) fun b=>f b e) (f c e)) (R a e)):ab 86 #[a] H0 R:=bD 0x102a3903951a3a4a6740300300140052a31d200202002761a31a Tryz.func86 h
theorem fQ.vc (a b:Value) (h:
 bV a fun c=>bV b fun d=>ea 0 c d fun c=>ao c (R (.bool false) H0) (bV a fun c=> ∃ (d:Value→ai→Prop) (e:Value→ai→Nat),d (.int .i64 0) H0∧∀ (_:Env) (f:Value) (g:ai),d f g→cq f c fun c=>ao c (aI 8 a f fun a=>aE g 8 a fun a=>aI 8 b f fun b=>aE g 8 b fun b=>G0 [1,0,0,0,0,0,0,1] a b fun a=>ao a (R (.bool false) g) (aG f (.int .i64 1) fun a=>d a g∧e a g<e f g)) (R (.bool true) g))):ab 40 #[a,b] H0 R:=bD 0x101a29001a5019042168500120019232a6300531a1c714201d1763a3001a55a31a Tryz.func40 h
theorem gh.vc (a b:Value) (h:
 ab 201 #[a,b] H0 fun a b=>lB a (.int .i64 0) fun a=>R a b):ab 160 #[a,b] H0 R:=bD 0x105a1a Tryz.func160 h
theorem mQ.vc (a:Value) (h:
 bV a fun b=> ∃ (c:Value→Value→ai→Prop) (d:Value→Value→ai→Nat),c (.int .i64 0) (.int .i64 0) H0∧∀ (_:Env) (e f:Value) (g:ai),c e f g→cq f b fun b=>ao b (aI 1 a f fun b=>ak g b fun b=>bV b fun b=>aG e b fun b=>cq b (.int .i64 0) fun h=>ao h (False) (aG f (.int .i64 1) fun h=>c b h g∧d b h g<d e f g)) (ab 219 #[(.slice none 0 0),e] g fun b c=>bV a fun d=> ∃ (e:Value→Value→ai→Prop) (f:Value→Value→ai→Nat),e b (.int .i64 0) c∧∀ (_:Env) (b c:Value) (g:ai),e b c g→cq c d fun d=>ao d (aI 1 a c fun a=>ak g a fun a=>bj g 3 1 8 [(.int .i64 0)] b a fun a d=>aG c (.int .i64 1) fun h=>e a h d∧f a h d<f b c g) (R b g))):ab 171 #[a] H0 R:=bD 0x102a29493a6300531a72a0106302c062763a33a2902952a5a3a6300531a1b50103307032763a31a1a Tryz.func171 h
theorem kA.vc (a b:Value) (h:
 ab 240 #[a,b] H0 fun c d=>cu 0 c (.int .i64 (-1)) fun e=>ao e (R a d) (aG c (.int .i64 1) fun e=> ∃ (f:Value→Value→ai→Prop) (g:Value→Value→ai→Nat),f c e d∧∀ (_:Env) (c d:Value) (e:ai),f c d e→bV a fun h=>cq d h fun h=>ao h (∃h:Value→ai→Prop,(∀ (_:Env) (i:Value) (j:ai),h i j→aG d (.int .i64 1) fun k=>f i k j∧g i k j<g c d e)∧aI 1 a d fun d=>ak e d fun d=>jk Tryz.prog Tryz.C b [d] e fun b f=>e7 b fun b=>ao b (aI 1 a c fun b=>aF f b d fun _ b=>aG c (.int .i64 1) fun d=>h d b) (h c f)) (fg 1 a (some c) none fun b=>si e [(.int .i64 0)] b fun _ b=>fg 1 a none (some c) fun a=>R a b))):ab 199 #[a,b] H0 R:=bD 0x104a4a390395a54a5a61d1e0105305140054a32b18252151763a3002a52a34a1a Tryz.func199 h
theorem gS.vc (a b:Value) (h:
 bV a fun c=> ∃ (d:Value→ai→Prop) (e:Value→ai→Nat),d (.int .i64 0) H0∧∀ (_:Env) (f:Value) (g:ai),d f g→cq f c fun c=>ao c (aI 3 a f fun a=>aE g 3 a fun a=>jk Tryz.prog Tryz.C b [a] g fun a b=>ao a (R f b) (aG f (.int .i64 1) fun a=>d a b∧e a b<e f g)) (R (.int .i64 (-1)) g)):ab 201 #[a,b] H0 R:=bD 0x101a29002a56a2a6300531a1a21420181763a31a Tryz.func201 h
theorem dJ.vc (a b:Value) (h:
 ab 240 #[a,b] H0 fun a b=>lB a (.int .i64 0) fun a=>R a b):ab 203 #[a,b] H0 R:=bD 0x105a1a Tryz.func203 h
theorem nH.vc (a:Value) (h:
 cu 4 a (.slice none 0 0) fun b=>ao b (R (.slice none 0 0) H0) (aY H0 3 0 [] [] fun b c=>bj c 3 1 8 [(.int .i64 0)] b a fun a b=>R a b)):ab 204 #[a] H0 R:=bD 0x104a001a52a31a Tryz.func204 h
theorem oK.vc (a b:Value) (h:
 ∃c:ai→Prop,(∀ (_:Env) (d:ai),c d→G2 a fun e=>bV a fun f=>bY e f fun e=>bY b e fun e=>dW e (.int .i64 0) fun f=>ao f (G2 a fun f=>fg 1 a none (some f) fun f=>oT d 3 8 [(.int .i64 0)] f e fun e f=>bV a fun g=>fg 1 e none (some g) fun e=>R e f) (R a d))∧cq b (.int .i64 0) fun a=>ao a (False) (c H0)):ab 219 #[a,b] H0 R:=bD 0x102a01a952a18a302952a251041a Tryz.func219 h
theorem dq.vc (a b:Value) (h:
 bV a fun c=> ∃ (d:Value→ai→Prop) (e:Value→ai→Nat),d (.int .i64 0) H0∧∀ (_:Env) (f:Value) (g:ai),d f g→cq f c fun c=>ao c (aI 1 a f fun a=>ak g a fun a=>jk Tryz.prog Tryz.C b [a] g fun a b=>ao a (R f b) (aG f (.int .i64 1) fun a=>d a b∧e a b<e f g)) (R (.int .i64 (-1)) g)):ab 240 #[a,b] H0 R:=bD 0x101a29002a56a2a6300531a1a21420181763a31a Tryz.func240 h
theorem lI.vc (a b:Value) (h:
 bV a fun c=>bm .u64 c fun d=>ab 271 #[d] H0 fun d e=>ab 270 #[a,(.int .i64 0),c,d,b] e fun _ a=>R (.tuple #[]) a):ab 244 #[a,b] H0 R:=bD 0x1793a Tryz.func244 h
theorem gK.vc (a:Value) (h:
 bV a fun b=> ∃ (c:Value→Value→ai→Prop) (d:Value→Value→ai→Nat),c (.int .i64 0) (.int .i64 0) H0∧∀ (_:Env) (e f:Value) (g:ai),c e f g→cq f b fun b=>ao b (aI 1 a f fun b=>ak g b fun b=>bV b fun b=>aG e b fun b=>cq b (.int .i64 0) fun h=>ao h (False) (aG f (.int .i64 1) fun h=>c b h g∧d b h g<d e f g)) (ab 273 #[(.slice none 0 0),e] g fun b c=>bV a fun d=> ∃ (e:Value→Value→ai→Prop) (f:Value→Value→ai→Nat),e b (.int .i64 0) c∧∀ (_:Env) (b c:Value) (g:ai),e b c g→cq c d fun d=>ao d (aI 1 a c fun a=>ak g a fun a=>bj g 293 2 32 [(.int .i64 0),(.slice none 0 0)] b a fun a d=>aG c (.int .i64 1) fun h=>e a h d∧f a h d<f b c g) (R b g))):ab 248 #[a] H0 R:=bD 0x102a29493a6300531a72a0106302c062763a33a2902952a5a3a6300531a1b50103307032763a31a1a Tryz.func248 h
theorem lJ.vc (a b c d e:Value) (h:
 ∃ (f:Value→Value→Value→Value→Value→ai→Prop) (g:Value→Value→Value→Value→Value→ai→Nat),f b c d (.bool true) (.bool true) H0∧∀ (_:Env) (b c d h i:Value) (j:ai),f b c d h i j→bY c b fun k=>vk k (.int .i64 12) fun l=>ao l (ab 285 #[a,b,c,e] j fun _ l=>R (.tuple #[]) l) (cu 0 d (.int .i64 0) fun l=>ao l (ab 286 #[a,b,c,e] j fun _ l=>R (.tuple #[]) l) (∃l:Value→ai→Prop,(∀ (_:Env) (m:Value) (n:ai),l m n→ab 288 #[a,b,c,e] n fun n o=>aq 0 n fun p=>aq 1 n fun n=> ∃q:Value→Value→ai→Prop,(∀ (_:Env) (r s:Value) (t:ai),q r s t→∃u:ai→Prop,(∀ (_:Env) (v:ai),u v→dW b (.int .i64 0) fun w=>bZ w (fun w=>bY b (.int .i64 1) fun x=>aI 1 a x fun x=>ak v x fun x=>aI 1 a r fun y=>ak v y fun y=>jk Tryz.prog Tryz.C e [x,y] v fun x y=>cq x (.int .i64 0) fun x=>e7 x fun x=>w x y) v fun v w=> ∀_:Env,ao v (ab 291 #[a,b,c,r,e] w fun v x=>f v c m h i x∧g v c m h i x<g b c d h i j) (ab 292 #[a,b,c,r,e] w fun r v=>aq 0 r fun w=>aq 1 r fun r=>bY w b fun x=>bY c w fun y=>rh k (.int .i64 8) fun k=>cq x y fun z=>ao z (lB x k fun x=>ab 270 #[a,b,w,m,e] v fun _ z=>aG w (.int .i64 1) fun A=>f A c m x r z∧g A c m x r z<g b c d h i j) (lB y k fun k=>aG w (.int .i64 1) fun x=>ab 270 #[a,x,c,m,e] v fun _ v=>f b w m k r v∧g b w m k r v<g b c d h i j)))∧bZ h (fun f=>f i t) t fun f g=> ∀_:Env,bZ f (fun f=>cu 0 s (.int .i64 1) fun i=>f i g) g fun f g=> ∀_:Env,ao f (ab 290 #[a,b,c,e] g fun f i=>ao f (R (.tuple #[]) i) (u i)) (u g))∧cu 0 n (.int .i64 2) fun f=>ao f (ab 289 #[a,b,c,e] o fun _ f=>bY c (.int .i64 1) fun g=>bY p b fun i=>bY g i fun g=>q g (.int .i64 1) f) (q p n o))∧e7 h fun f=>ao f (ab 287 #[a,b,c,e] j fun _ a=>bY d (.int .i64 1) fun b=>l b a) (l d j)))):ab 270 #[a,b,c,d,e] H0 R:=bD 0x1297a4a396a4a53a3a18a2a1ba002a7a502801d342230411121388f537511ef513311102923300055a50702544245302512204131c18c1040197a5a52a1c5811d211d141aa0395a52a184a0320314005a52a3005a52a34a6299621216212761a1a Tryz.func270 h
theorem gZ.vc (a b:Value) (h:
 ∃c:ai→Prop,(∀ (_:Env) (d:ai),c d→G2 a fun e=>bV a fun f=>bY e f fun e=>bY b e fun e=>dW e (.int .i64 0) fun f=>ao f (G2 a fun f=>fg 2 a none (some f) fun f=>oT d 293 32 [(.int .i64 0),(.slice none 0 0)] f e fun e f=>bV a fun g=>fg 2 e none (some g) fun e=>R e f) (R a d))∧cq b (.int .i64 0) fun a=>ao a (False) (c H0)):ab 273 #[a,b] H0 R:=bD 0x102a01a952a18a302952a251041a Tryz.func273 h
theorem jj.vc (a b c d:Value) (h:
 aG b (.int .i64 1) fun e=> ∃ (f:Value→ai→Prop) (g:Value→ai→Nat),f e H0∧∀ (_:Env) (e:Value) (h:ai),f e h→cq e c fun c=>ao c (∃ (c:Value→ai→Prop) (i:Value→ai→Nat),c e h∧∀ (_:Env) (j:Value) (k:ai),c j k→dW j b fun b=>bZ b (fun b=>aI 1 a j fun l=>ak k l fun l=>bY j (.int .i64 1) fun m=>aI 1 a m fun m=>ak k m fun m=>jk Tryz.prog Tryz.C d [l,m] k fun d l=>cq d (.int .i64 0) fun d=>b d l) k fun b d=> ∀_:Env,ao b (bY j (.int .i64 1) fun b=>bY j (.int .i64 1) fun l=>aI 1 a l fun l=>ak d l fun l=>aI 1 a j fun m=>ak d m fun m=>aI 1 a j fun n=>aF d n l fun _ l=>aI 1 a b fun a=>aF l a m fun _ a=>bY j (.int .i64 1) fun b=>c b a∧i b a<i j k) (aG e (.int .i64 1) fun a=>f a d∧g a d<g e h)) (R (.tuple #[]) h)):ab 285 #[a,b,c,d] H0 R:=bD 0x1393902a041213ffcb51688850013c85100100002a26300502801c44324041121789f5131f511df53311200292334a1801920191762a630053a358211820181763a Tryz.func285 h
theorem fc.vc (a b:Value) (h:
 ab 312 #[a,b] H0 fun a b=>lB a (.int .i64 0) fun a=>R a b):ab 297 #[a,b] H0 R:=bD 0x105a1a Tryz.func297 h
theorem fR.vc (a b:Value) (h:
 bV a fun c=> ∃ (d:Value→ai→Prop) (e:Value→ai→Nat),d (.int .i64 0) H0∧∀ (_:Env) (f:Value) (g:ai),d f g→cq f c fun c=>ao c (aI 2 a f fun a=>aE g 2 a fun a=>jk Tryz.prog Tryz.C b [a] g fun a b=>ao a (R f b) (aG f (.int .i64 1) fun a=>d a b∧e a b<e f g)) (R (.int .i64 (-1)) g)):ab 312 #[a,b] H0 R:=bD 0x101a29002a56a2a6300531a1a21420181763a31a Tryz.func312 h
theorem NI.vc (h:
 bs H0 170 (.agg ((List.replicate 256 (.int .u32 0))).toArray) fun a b=> ∃ (c:Value→ai→Prop) (d:Value→ai→Nat),c (.int .i64 0) b∧∀ (_:Env) (b:Value) (e:ai),c b e→cq b (.int .i64 256) fun f=>ao f (bm .u32 b fun f=> ∃ (g:Value→Value→ai→Prop) (h:Value→Value→ai→Nat),g f (.int .i64 0) e∧∀ (_:Env) (f i:Value) (j:ai),g f i j→cq i (.int .i64 8) fun k=>ao k (cx .and f (.int .u32 1) fun k=>mo f (.int .u64 1) fun l=>cu 0 k (.int .u32 1) fun k=>ao k (cx .xor l (.int .u32 3988292384) fun k=>aG i (.int .i64 1) fun m=>g k m j∧h k m j<h f i j) (aG i (.int .i64 1) fun k=>g l k j∧h l k j<h f i j)) (dL 256 1 a b fun g=>aF j g f fun _ f=>aG b (.int .i64 1) fun g=>c g f∧d g f<d b e)) (R a e)):ab 41 #[] H0 R:=bD 0x101a29492903952a3a3a6300531a1a513206032761a33a2a6300531a2e21051761a31a1a Tryz.func41 h
theorem AL.vc (a b:Value) (h:
 ab 63 #[a,(.int .u32 0),b] H0 fun a b=>R a b):ab 57 #[a,b] H0 R:=bD 0x104a1a Tryz.func57 h
theorem yE.vc (a b c:Value) (h:
 cu 3 a (.pointer none) fun d=>ao d (R (.int .u32 0) H0) (ML b fun b=>aX c fun d=> ∃ (e:Value→Value→ai→Prop) (f:Value→Value→ai→Nat),e b (.int .i64 0) H0∧∀ (_:Env) (b g:Value) (h:ai),e b g h→cq g d fun d=>ao d (bm .u8 b fun d=>bO c g fun c=>cx .xor d c fun c=>aB a fun a=>dL 256 1 a c fun a=>ak h a fun a=>mo b (.int .u64 8) fun c=>cx .xor a c fun a=>aG g (.int .i64 1) fun c=>e a c h∧f a c h<f b g h) (ML b fun a=>R a h))):ab 63 #[a,b,c] H0 R:=bD 0x103a2901e04121012157e5385001001e22a6300531a2860501301c012763a33a001a52a31a Tryz.func63 h
theorem NJ.vc (a b c:Value) (h:
 cu 3 a (.pointer none) fun d=>d_ d (fun d=>cq c (.int .i64 2) fun e=>d e H0) H0 fun d e=> ∀_:Env,ao d (R (.tuple #[(.pointer none),(.int .i64 1)]) e) (cq b (.int .i64 0) fun d=>d_ d (fun d=>ab 51 #[a] e fun f g=>dW b f fun f=>d f g) e fun d e=> ∀_:Env,d_ d (fun d=>ab 51 #[a] e fun f g=>bY f b fun f=>dW c f fun f=>d f g) e fun d e=> ∀_:Env,ao d (R (.tuple #[(.pointer none),(.int .i64 20)]) e) (aT [(.pointer none),(.int .i64 0),(.int .i64 0),(str []),(.int .u64 0),(.bool false)] [(0,1,a),(1,1,b),(2,1,c)] fun d=>bs e 181 d fun d e=> ∃ (f:Value→ai→Prop) (g:Value→ai→Nat),f (.int .i64 0) e∧∀ (_:Env) (e:Value) (h:ai),f e h→cq e c fun c=>ao c (aG b e fun b=>ab 107 #[a,b] h fun a b=>aq 0 a fun c=>aq 1 a fun a=>ea 0 a (.int .i64 0) fun i=>ao i (R (.tuple #[(.pointer none),a]) b) (ab 108 #[c] b fun a b=>aq 0 a fun c=>aq 1 a fun i=>aq 2 a fun a=>bZ a (fun a=>aB d fun j=>aa 4 j fun j=>ak b j fun j=>dW c j fun j=>a j b) b fun a b=> ∀_:Env,ao a (aB d fun a=>aa 4 a fun a=>aF b a c fun _ a=>aB d fun c=>aa 3 c fun c=>aF a c i fun _ a=>aG e (.int .i64 1) fun c=>f c a∧g c a<g e h) (aG e (.int .i64 1) fun a=>f a b∧g a b<g e h))) (R (.tuple #[d,(.int .i64 0)]) h)))):ab 52 #[a,b,c] H0 R:=bD 0x103a2901a950180624122041319a003a52a31aa2a6300531a4d3e5116305d1762a36a002a502851f0619418218570434223041302a5065502342230413632a Tryz.func52 h
theorem CS.vc (a:Value) (h:
 cu 3 a (.pointer none) fun b=>ao b (R (.tuple #[(str []),(.int .u64 0)]) H0) (aB a fun b=>aa 3 b fun b=>ak H0 b fun b=>aB a fun a=>aa 4 a fun a=>ak H0 a fun a=>R (.tuple #[b,a]) H0)):ab 53 #[a] H0 R:=bD 0x1001a0421f5111011101a23002a52a32a Tryz.func53 h
theorem NK.vc (a:Value) (h:
 a7 a none (some (.int .i64 8)) fun b=>bO a (.int .i64 8) fun c=>bm .i64 c fun c=>ab 109 #[b] H0 fun b d=>cu 0 b (.int .u64 0) fun e=>d_ e (fun e=>dW c (.int .i64 23) fun f=>e f d) d fun d e=> ∀_:Env,ao d (R (.tuple #[(.int .u64 0),(str []),(.bool false)]) e) (aG (.int .i64 9) c fun c=>a7 a (some (.int .i64 9)) (some c) fun c=>ab 154 #[b,c] e fun d e=>cu 1 d a fun a=>R (.tuple #[b,c,a]) e)):ab 108 #[a] H0 R:=bD 0x101aa5a003a50502342230413302642533420427511011018233a Tryz.func108 h
theorem EZ.vc (a b:Value) (h:
 cu 3 a (.pointer none) fun c=>d_ c (fun c=>aX b fun d=>dW d (.int .i64 23) fun d=>c d H0) H0 fun c d=> ∀_:Env,ao c (R (.int .i64 1) d) (aB a fun c=>aa 5 c fun c=>ak d c fun c=>ao c (R (.int .i64 16) d) (aB a fun c=>aa 4 c fun c=>ak d c fun c=>cu 0 c (.int .u64 18446744073709551615) fun c=>ao c (R (.int .i64 15) d) (aB a fun c=>aa 4 c fun c=>ak d c fun c=>aG c (.int .u64 1) fun c=>ab 157 #[a,c,b] d fun c d=>ea 0 c (.int .i64 0) fun e=>ao e (aB a fun e=>aa 5 e fun e=>aF d e (.bool true) fun _ e=>R c e) (aB a fun c=>aa 4 c fun c=>ak d c fun c=>aG c (.int .u64 1) fun c=>aB a fun e=>aa 4 e fun e=>aF d e c fun _ c=>aB a fun a=>aa 3 a fun a=>aF c a b fun _ a=>R (.int .i64 0) a))))):ab 114 #[a,b] H0 R:=bD 0x101a1ea002a4a52a19a3001a56a01a55a01a5075603342230413631a Tryz.func114 h
theorem NL.vc (a b:Value) (h:
 cu 0 a (.int .u64 0) fun c=>d_ c (fun c=>aX b fun d=>dW d (.int .i64 23) fun d=>c d H0) H0 fun c d=> ∀_:Env,ao c (R (str []) d) (ab 118 #[a,(.int .i64 8)] d fun a c=>aX b fun d=>bm .u64 d fun d=>ab 118 #[d,(.int .i64 1)] c fun c d=>aG a c fun a=>aG a b fun a=>aX a fun b=>bY (.int .i64 60) b fun b=>ab 50 #[(str [0]),b] d fun b c=>aG a b fun a=>ab 41 #[] c fun b c=>ab 57 #[b,a] c fun b c=>bm .u64 b fun b=>ab 118 #[b,(.int .i64 4)] c fun b c=>aG a b fun a=>R a c)):ab 154 #[a,b] H0 R:=bD 0x1018a7a1aa001a5060334223041331a Tryz.func154 h
theorem AM.vc (a b c:Value) (h:
 aB a fun d=>aa 0 d fun d=>ak H0 d fun e=>aB a fun f=>aa 1 f fun f=>ak H0 f fun g=>aB a fun h=>aa 2 h fun h=>ak H0 h fun i=>bm .u64 i fun j=>l8 b j fun j=>bm .i64 j fun j=>aG g j fun j=>ab 154 #[b,c] H0 fun b c=> (ak c d fun d=>d=e)∧(ak c f fun d=>d=g)∧(ak c h fun d=>d=i)∧ab 155 #[e,j,b] c fun b c=>ea 0 b (.int .i64 0) fun d=>ao d (R b c) (aB a fun a=>aa 0 a fun a=>ak c a fun a=>ab 113 #[a] c fun a b=>R a b)):ab 157 #[a,b,c] H0 R:=bD 0x106a002a52a022c41c7332b12b04121c888885001fffe8513fc885111100111011102e2331a Tryz.func157 h
theorem K2.vc (a b c d:Value) (h:
 cu 3 a (.pointer none) fun e=>d_ e (fun e=>cq c (.int .i64 1) fun f=>e f H0) H0 fun e f=> ∀_:Env,ao e (R (.tuple #[(.pointer none),(.int .i64 1)]) f) (cq b (.int .i64 0) fun e=>d_ e (fun e=>ab 51 #[a] f fun g h=>dW b g fun g=>e g h) f fun e f=> ∀_:Env,d_ e (fun e=>ab 51 #[a] f fun g h=>bY g b fun g=>dW c g fun g=>e g h) f fun e f=> ∀_:Env,d_ e (fun e=>cq d (.int .i64 0) fun g=>e g f) f fun e f=> ∀_:Env,d_ e (fun e=>qE c (.int .i64 64) fun g=>dW d g fun g=>e g f) f fun e f=> ∀_:Env,ao e (R (.tuple #[(.pointer none),(.int .i64 20)]) f) (aT [(.pointer none),(.int .i64 0),(.int .i64 0),(.int .i64 0)] [(0,1,a),(1,1,b),(2,1,c),(3,1,d)] fun a=>bs f 187 a fun a b=>R (.tuple #[a,(.int .i64 0)]) b))):ab 55 #[a,b,c,d] H0 R:=bD 0x1018a002a503a539042d42c22c52b022942822851f0619418218570434223041302a5065502342230413632a Tryz.func55 h
theorem wY.vc (a b c:Value) (h:
 cu 3 a (.pointer none) fun d=>ao d (R (.tuple #[(str []),(.int .i64 1)]) H0) (cq b (.int .i64 0) fun d=>d_ d (fun d=>cq c (.int .i64 0) fun e=>d e H0) H0 fun d e=> ∀_:Env,d_ d (fun d=>aB a fun f=>aa 3 f fun f=>ak e f fun f=>dW b f fun f=>d f e) e fun d e=> ∀_:Env,d_ d (fun d=>aB a fun f=>aa 3 f fun f=>ak e f fun f=>bY f b fun f=>dW c f fun f=>d f e) e fun d e=> ∀_:Env,ao d (R (.tuple #[(str []),(.int .i64 20)]) e) (bs e 153 (.agg #[(.pointer none),(.slice none 0 0)]) fun d e=>aG b c fun c=> ∃ (f:Value→ai→Prop) (g:Value→ai→Nat),f b e∧∀ (_:Env) (b:Value) (e:ai),f b e→cq b c fun h=>ao h (aB a fun h=>aa 0 h fun h=>ak e h fun h=>aB a fun a=>aa 1 a fun a=>ak e a fun a=>rh b (.int .i64 64) fun i=>aG a i fun a=>ab 107 #[h,a] e fun a h=>aq 0 a fun i=>aq 1 a fun a=>ea 0 a (.int .i64 0) fun j=>ao j (R (.tuple #[(str []),a]) h) (l8 b (.int .i64 64) fun a=>bY (.int .i64 64) a fun j=>bY c b fun c=>jU j c fun c=>aG a c fun j=>a7 i (some a) (some j) fun a=>ab 75 #[d,a] h fun _ a=>aG b c fun c=>f c a∧g c a<g b e)) (ab 76 #[d] e fun a b=>R (.tuple #[a,(.int .i64 0)]) b)))):ab 56 #[a,b,c] H0 R:=bD 0x103a497a7a3a003a52a30290423ffff531121fe851011101110292360053a34e3f3214014011764a31a002a503852f0181f41e21e51d0674626550234223041302a53a632a Tryz.func56 h
theorem lU.vc (a b:Value) (h:
 cu 3 a (.pointer none) fun c=>ao c (R (.int .i64 1) H0) (aX b fun c=>ab 111 #[a] H0 fun d e=>dW c d fun c=>ao c (R (.int .i64 15) e) (aB a fun c=>aa 3 c fun c=>ak e c fun c=> ∃ (d:Value→Value→ai→Prop) (f:Value→Value→ai→Nat),d b c e∧∀ (_:Env) (b c:Value) (e:ai),d b c e→ea 1 b (str []) fun g=>ao g (l8 c (.int .i64 64) fun g=>aX b fun h=>bY (.int .i64 64) g fun i=>jU h i fun h=>rh c (.int .i64 64) fun i=>a7 b none (some h) fun j=>ab 112 #[a,i,g,j] e fun g i=>ea 0 g (.int .i64 0) fun j=>ao j (R g i) (a7 b (some h) none fun g=>aG c h fun h=>d g h i∧f g h i<f b c e)) (aB a fun a=>aa 3 a fun a=>aF e a c fun _ a=>R (.int .i64 0) a)))):ab 60 #[a,b] H0 R:=bD 0x101a5a189002a52a19a36a3a60052a3391d42013030127635a001a56a01a53a631a Tryz.func60 h
theorem wZ.vc (a:Value) (h:
 cu 3 a (.pointer none) fun b=>ao b (R (.int .i64 1) H0) (aB a fun a=>aa 0 a fun a=>ak H0 a fun a=>ab 113 #[a] H0 fun a b=>R a b)):ab 62 #[a] H0 R:=bD 0x106a001a52a31a Tryz.func62 h
theorem w3.vc (a:Value) (h:
 cu 3 a (.pointer none) fun b=>ao b (R (.int .i64 0) H0) (aB a fun b=>aa 2 b fun b=>ak H0 b fun b=>qE b (.int .i64 64) fun b=>aB a fun a=>aa 3 a fun a=>ak H0 a fun a=>bY b a fun a=>R a H0)):ab 111 #[a] H0 R:=bD 0x1001b04121110111101b23001a52a31a Tryz.func111 h
theorem w4.vc (a b c d:Value) (h:
 ∃e:Value→ai→Prop,(∀ (_:Env) (f:Value) (g:ai),e f g→aG f d fun d=>aB a fun f=>aa 0 f fun f=>ak g f fun h=>aB a fun i=>aa 1 i fun i=>ak g i fun j=>aG j b fun k=>aX d fun l=>bY (.int .i64 64) l fun l=>ab 50 #[(str [0]),l] g fun g l=> (ak l f fun f=>f=h)∧(ak l i fun f=>f=j)∧aG d g fun d=>ab 155 #[h,k,d] l fun d f=>R d f)∧dW c (.int .i64 0) fun d=>ao d (aB a fun d=>aa 0 d fun d=>ak H0 d fun d=>aB a fun a=>aa 1 a fun a=>ak H0 a fun a=>aG a b fun a=>ab 107 #[d,a] H0 fun a b=>aq 0 a fun d=>aq 1 a fun a=>ea 0 a (.int .i64 0) fun f=>ao f (R a b) (a7 d none (some c) fun a=>e a b)) (e (str []) H0)):ab 112 #[a,b,c,d] H0 R:=bD 0x10031f47321e11e04127e8885111007e850111011102a234a049002a52a30280421ffff531127e85011101110282352a2d13182019141a1a Tryz.func112 h
theorem pD.vc (a b c d e:Value) (h:
 cu 3 a (.pointer none) fun f=>d_ f (fun f=>ab 115 #[b,d,e] H0 fun g h=>e7 g fun g=>f g h) H0 fun f g=> ∀_:Env,ao f (R (.int .i64 1) g) (bm .u64 b fun f=>jv f (.int .u64 1) fun f=> ∃h:Value→ai→Prop,(∀ (_:Env) (i:Value) (j:ai),h i j→ab 116 #[a,i,(.int .i64 3)] j fun _ i=>cu 0 b (.int .i64 0) fun j=>ao j (ab 70 #[a] i fun _ j=>aX d fun k=>bm .u64 k fun k=>ab 118 #[k,(.int .i64 2)] j fun j k=>aX d fun l=>bY (.int .i64 65535) l fun l=>bm .u64 l fun l=>ab 118 #[l,(.int .i64 2)] k fun k l=>aG j k fun j=>aG j d fun d=>ab 117 #[a,d] l fun _ d=>R (.int .i64 0) d) (cu 0 b (.int .i64 1) fun b=>ao b (ab 119 #[] i fun b d=>ab 120 #[b,a,e] d fun _ b=>R (.int .i64 0) b) (ab 121 #[e] i fun b d=>ab 122 #[b,a] d fun _ d=>ab 120 #[b,a,e] d fun _ a=>R (.int .i64 0) a)))∧ao c (cx .or f (.int .u64 1) fun a=>h a g) (h f g))):ab 69 #[a,b,c,d,e] H0 R:=bD 0x101a493a3a4952a1e92a52a61a33a03951a21d01b201b144a001a50180534223041331a Tryz.func69 h
theorem K3.vc (a b c:Value) (h:
 lB a (.int .i64 0) fun d=>bZ d (fun d=>cq a (.int .i64 3) fun a=>d a H0) H0 fun a d=> ∀_:Env,bZ a (fun a=>aX b fun b=>vk b (.int .i64 65535) fun b=>a b d) d fun a b=> ∀_:Env,bZ a (fun a=>bV c fun d=>vk d (.int .i64 65535) fun d=>a d b) b fun a b=> ∀_:Env,bZ a (fun a=>ab 160 #[c,(.func (.func 158) #[] #[])] b fun c d=>e7 c fun c=>a c d) b fun a b=> ∀_:Env,R a b):ab 115 #[a,b,c] H0 R:=bD 0x1002e52d042942822851f031c41b21b51a037462655023422304131a1a Tryz.func115 h
end
section
variable {H:ai} {R:Value→ai→Prop} {v:Value} {zs:List Int}
theorem qn {P:Program} {C:List Nat} {g:Nat} {first cap:Array Value} {args:List Value} {K:Value→ai→Prop} (hm:jT g C=true) (h:fP P g (first.toList++args++cap.toList).toArray H K):jk P C (.func (.func g) first cap) args H K:=by
 show (bif jT g C then fP P g (first.toList++args++cap.toList).toArray H K else False);rw [hm];exact h
def Bq (zs:List Int):Bool:=zs.all fun z=>decide (0≤z∧z≤15)
theorem uG:Bq zs=true↔∀z∈zs,0≤z∧z≤15:=by simp [Bq]
theorem NM {z:Int} (h:R (.bool (!decide (0≤z∧z≤15))) H):ab 202 #[.int .i64 z] H R:=by
 refine CL.vc _ _ _ ?_;rw [aN];refine il (d:=decide (15<z)) (fun _=>by rw [a8];exact⟨rfl,rfl⟩) ?_;intro _;have e: (decide (z<0) ||decide (15<z))= !decide (0≤z∧z≤15):=by
  rw [ahm,ahg,decide_eq_true_eq,decide_eq_true_eq,ahV,decide_eq_false_iff_not];omega
 rw [e];exact h
theorem E1 (hs:Sl H v 1 (aH zs)) (hlen:zs.length≤maxLen) (h:R (.bool (!Bq zs)) H):ab 203 #[v,.func (.func 202) #[] #[]] H R:=by
 have w5:maxLen=9223372036854775807:=rfl;have dI: (aH zs).length=zs.length*1:=by rw [aL];omega
 refine dJ.vc _ _ _ _ ?_;refine dq.vc _ _ _ _ ?_;refine hs.len dI (by decide) ?_;refine⟨fun i H' => ∃k:Nat,i= .int .i64 k∧k≤zs.length∧(∀z∈zs.take k,0≤z∧z≤15)∧H=H',fun i _=>match i with| .int _ x=> (9223372036854775807 - x).toNat|_=>0,⟨0,rfl,by omega,by simp,rfl⟩,?_⟩;rintro _ _ _ ⟨k,rfl,hk,gl,rfl⟩;rw [aN];refine av (fun hc=>?_) (fun hc=>?_)
 ·have dV:k<zs.length:=by omega
  refine hs.at_ dI (by decide) (by omega) (by omega) fun p hp=>?_;refine hp.load hs (w:= .int .i64 zs[k]) (by rw [af_,agh,bM dV]) ?_;refine qn (by kernel_rfl) ?_;refine NM ?_;refine cy (fun hb=>?_) (fun hb=>?_)
  ·have: ¬ (0≤zs[k]∧zs[k]≤15):=by rw [ahV,decide_eq_false_iff_not] at hb;exact hb
   show lB _ _ _;rw [dP,decide_eq_true (by omega)];have e:Bq zs=false:=by
    rw [←Bool.not_eq_true,uG];exact fun g=>this (g _ (agj dV))
   rw [e] at h;exact h
  ·have hz:0≤zs[k]∧zs[k]≤15:=by simpa using hb
   rw [az,ba (n:= (k:Int)+1) (by omega) (by omega)];refine⟨⟨k+1,rfl,by omega,fun z vo =>?_,rfl⟩,by show (_:Int).toNat< (_:Int).toNat;omega⟩;rw [ql dV] at vo;rcases agv.1 vo with g|g
   ·exact gl z g
   ·rw [agH.1 g];exact hz
 ·have:k=zs.length:=by omega
  rw [this,agr] at gl;rw [uG.2 gl] at h;show lB _ _ _;rw [dP,decide_eq_false (by decide)];exact h
theorem yF (hs:Sl H v 1 (aH zs)) (hlen:zs.length≤1000) (h: ∀y H',ar H H' [.sl y 1 (aH zs)]→R y H'):ab 204 #[v] H R:=by
 refine nH.vc _ _ _ ?_;have jq: (∃n c,v= .slice none n c∧zs= [])∨∃a n c,v= .slice (some a) n c:=by
  rcases hs with ⟨rfl,h0⟩ | ⟨a,m,cap,rfl,_⟩
  ·exact .inl ⟨_,_,rfl,by have:=congrArg List.length h0;rw [aL] at this;exact ajy.1 this⟩
  ·exact .inr ⟨a,m,cap,rfl⟩
 have Bn:aY H 3 0 [] [] fun x5 H_1=>bj H_1 3 1 8 [(.int .i64 0)] x5 v fun x7 Yp=>R x7 Yp:=by
  refine(ar.start (H:=H)).Tc 1 (by decide) fun y H1 o=>?_;refine o.app (by repeat(first|exact bw.here|apply bw.there)) (hs.ext o.ext) KR (by rw [aL];show 2* (0+_)*8≤_;omega) fun z H2 o=>?_;exact h z H2 o
 rcases jq with ⟨n,c,rfl,rfl⟩ | ⟨a,n,c,rfl⟩
 ·rw [SZ,aD]
  refine h _ _ ?_;exact ar.start.add (Ext.refl _) ⟨by decide,.inl ⟨rfl,rfl⟩⟩ (by intro k hk;exact absurd hk (by simp [It.cN,aS]))
 ·rw [S0,aj]
  exact Bn
abbrev qo (zs:List Int) (b:Nat) (lv wv sv:Value):List It:=
 [.box b (bU lv wv (cj (natL zs)) sv) 285,.sl lv 1 (aH zs),.sl wv 2 (ll (natL zs)),.sl sv 1 (lT (j3 (natL zs) 16))]
theorem vK (ls:List Nat):jo ls 15=32768 - (shareL ls 15:Nat):=by unfold jo;rw [rF];rfl
theorem K4 {loose:Bool} (hs:Sl H v 1 (aH zs)) (hlen:zs.length≤maxLen)
  (nt: ∀H',Ext H H' →gJ zs loose≠0→R (.tuple #[.pointer none,.int .i64 (gJ zs loose)]) H')
  (rL: ∀H' b lv wv sv,ar H H' (qo zs b lv wv sv)→okZ zs→gJ zs loose=0→R (.tuple #[.pointer (some ⟨b,0,none⟩),.int .i64 0]) H'):ab 162 #[v,.bool loose] H R:=by
 have w5:maxLen=9223372036854775807:=rfl;have dI: (aH zs).length=zs.length*1:=by rw [aL];omega
 refine KU.vc _ _ _ _ ?_;refine hs.len dI (by decide) ?_;rw [a8];refine il (d:= !Bq zs) (fun _=>E1 hs hlen ⟨rfl,rfl⟩) ?_;intro _;have nI: (decide (288< (zs.length:Int)) || !Bq zs)=true↔¬okZ zs:=by
  rw [ahg,decide_eq_true_eq,ahV,←Bool.not_eq_true,uG];unfold okZ
  constructor
  ·rintro(g|g) h
   ·omega
   ·exact g h.2
  ·intro g
   by_cases g1:288< (zs.length:Int)
   ·exact .inl g1
   ·exact .inr fun g2=>g ⟨by omega,g2⟩
 refine cy (fun hb=>?_) (fun hb=>?_)
 ·have h1:=NF (loose:=loose) (nI.1 hb)
  have:=nt H (Ext.refl H);rw [h1] at this;exact this (by decide)
 have gl:okZ zs:=by
  by_cases g:okZ zs
  ·exact g
  ·rw [nI.2 g] at hb;cases hb
 have E2:=uE (loose:=loose) gl;have aco:=gl.1;refine yF hs (by omega) fun lv H1 o=>?_;refine aM (o.sl (v:=lv) (by repeat(first|exact af8|apply af7))).one (by decide) ?_;rw [bz];refine o.box fun b H2 o _=>?_
 change ar H H2 [.box b (bU lv (.slice none 0 0) (cj []) (.slice none 0 0)) _,_] at o
 refine KX gl o fun H3 r o hr=>?_;rw [vK] at hr;rw [aN];refine av (fun hc=>?_) (fun hc=>?_)
 ·have PT:32768<shareL (natL zs) 15:=by
   split at hr<;>omega
  rw [if_pos PT] at E2;have:=nt H3 o.ext;rw [E2] at this;exact this (by decide)
 rw [a8];rw [if_neg (by intro g;rw [if_pos g] at hr;omega)] at hr;refine dM (d:= !(loose && slackL (natL zs))) (fun KD=>?_) ?_
 ·refine dM (d:=slackL (natL zs)) (fun _=>HQ gl o ⟨rfl,rfl⟩) ?_
  intro _;rw [db];exact⟨rfl,rfl⟩
 intro _;rw [if_neg (show ¬32768<shareL (natL zs) 15 by omega)] at E2;refine cy (fun hb=>?_) (fun hb=>?_)
 ·rw [agk,decide_eq_true_eq,ahV] at hb
  rw [if_pos ⟨by omega,hb.2⟩] at E2;have:=nt H3 o.ext;rw [E2] at this;exact this (by decide)
 ·have h0:gJ zs loose=0:=by
   rw [E2,if_neg];rintro⟨g1,g2⟩;rw [g2,decide_eq_true (by omega)] at hb
   cases hb
  refine EY gl o fun H4 wv sv o=>?_;exact rL H4 b lv wv sv o gl h0
end
section
variable {H:ai} {R:Value→ai→Prop} {v:Value} {zs:List Int}
def E3 (ls:List Nat) (i:Int):Nat × Nat:=if 0≤i∧i<ls.length then (dH (eG ls i.toNat) (ls.getD i.toNat 0),ls.getD i.toNat 0) else (0,0)
theorem yG (ls:List Nat): (ll ls).length=ls.length*2:=by
 unfold ll;rw [mG (n:=2) _ (by intro r hr;obtain⟨s,_,rfl⟩:=agP.1 hr;rfl),agw,ajz]
theorem K5 {n:Nat} {L:List (List Value)} {i j:Nat} {r:List Value} (hl: ∀r∈L,r.length=n) (hi:L[i]? =some r) (hj:j<n):L.flatten[i*n+j]? =r[j]? :=by
 have xi:= (agD.1 hi).1;have Vu:= (agD.1 hi).2;have e:L=L.take i++r::L.drop (i+1):=by rw [←Vu,←ag4 xi,agE]
 have hp: (L.take i).flatten.length=i*n:=by
  rw [mG (L.take i) (fun x hx=>hl x (ag3 hx)),age,ag2 (by omega)]
 have hr:r.length=n:=by rw [←Vu];exact hl _ (agj xi)
 rw [e,ahz,ag0,agQ (by omega),agM (by omega)]
 congr 1
 omega
theorem qp {ls:List Nat} {s j:Nat} (h:s<ls.length) (hj:j<2): (ll ls)[s*2+j]? = (qZ ls s)[j]? :=
 K5 (by intro r hr;obtain⟨s,_,rfl⟩:=agP.1 hr;rfl) (by rw [agu,aho h];rfl) hj
theorem K6 {H0:ai} {L:List It} {b:Nat} {lv wv sv:Value} {i:Int} (o:ar H0 H L) (h1:It.box b (bU lv wv (cj (natL zs)) sv) 285∈L) (h2:It.sl wv 2 (ll (natL zs))∈L) (hlen:zs.length≤288)
  (h:R (.tuple #[.int .u64 (E3 (natL zs) i).1,.int .i64 (E3 (natL zs) i).2]) H):ab 208 #[.pointer (some ⟨b,0,none⟩),.int .i64 i] H R:=by
 have hl: (natL zs).length≤288:=by rw [fF];exact hlen
 generalize natL zs=ls at*;have QI:=yG ls;refine wS.vc _ _ _ _ ?_;rw [cB];refine aO ?_;rw [aN];intro _;refine il (d:=decide ((ls.length:Int)≤i)) (fun _=>?_) ?_
 ·rw [au,ae,al]
  refine o.aw (f:=0+1) h1 rfl ?_;refine(o.sl h2).len QI (by decide) ?_;rw [dP];exact⟨rfl,rfl⟩
 intro _;refine cy (fun hb=>?_) (fun hb=>?_)
 ·rw [ahg,decide_eq_true_eq,decide_eq_true_eq] at hb
  have e:E3 ls i= (0,0):=if_neg (by omega);rw [e] at h;exact h
 ·rw [ahA,decide_eq_false_iff_not,decide_eq_false_iff_not] at hb
  have e:E3 ls i= (dH (eG ls i.toNat) (ls.getD i.toNat 0),ls.getD i.toNat 0):=if_pos (by omega);rw [e] at h;have hi:i.toNat<ls.length:=by omega
  rw [au,ae,al];refine o.aw (f:=0+1) h1 rfl ?_;refine(o.sl h2).at_ QI (by decide) (by omega) (by omega) fun p hp=>?_;refine hp.field (f:=0) fun q hq=>?_;refine hq.load (o.sl h2) (by rw [qp hi (by decide)];rfl) ?_;rw [au,ae,al];refine o.aw (f:=0+1) h1 rfl ?_;refine(o.sl h2).at_ QI (by decide) (by omega) (by omega) fun p hp=>?_;refine hp.field (f:=1) fun q hq=>?_;refine hq.load (o.sl h2) (by rw [qp hi (by decide)];rfl) ?_;exact h
theorem K7 {H0:ai} {L:List It} {b:Nat} {lv wv sv:Value} (o:ar H0 H L) (h1:It.box b (bU lv wv (cj (natL zs)) sv) 285∈L) (h2:It.sl lv 1 (aH zs)∈L) (hlen:zs.length≤288)
  (h: ∀y H',ar H H' [.sl y 1 (aH zs)]→R y H'):ab 172 #[.pointer (some ⟨b,0,none⟩)] H R:=by
 refine rH.vc _ _ _ ?_;rw [cB,aj,au,ae];refine o.aw h1 rfl ?_;exact yF (o.sl h2) (by omega) h
theorem E4 (v k:Nat): ∀n,dH v (k+n) %2 ^ n=dH (v/2 ^ k) n
 |0=>by rw [ahX,aiz];rfl
 |n+1=>by
  have ih:=E4 v k n;rw [←ahR,dH,dH,←ih,ajb,←aih,agW];have h2:v/2 ^ (k+n) %2<2:=ag5 _ (by decide);generalize v/2 ^ (k+n) %2=c at*;generalize dH v (k+n)=x at*;generalize 2 ^ n=P at*;have e: (2*x+c) % (2*P)=c+2* (x%P):=by rw [ai9,show (2*x+c) %2=c by omega,show (2*x+c) /2=x by omega]
  rw [agT P 2,e];omega
theorem E5 {a b:Nat}: ∀ {n:Nat},dH a n=dH b n→a%2 ^ n=b%2 ^ n
 |0,_=>by rw [ahX,aiz,aiz]
 |n+1,h=>by
  rw [dH,dH] at h;have h1:a/2 ^ n%2<2:=ag5 _ (by decide);have h2:b/2 ^ n%2<2:=ag5 _ (by decide);have ih:=E5 (a:=a) (b:=b) (n:=n) (by omega);rw [Nat.mod_pow_succ,Nat.mod_pow_succ,ih]
  congr 2
  omega
theorem NN {ls:List Nat} (h:shareL ls 15≤32768) {n:Nat} (hn:n≤15):e_ ls n≤2 ^ n:=by
 have Ux:=vK ls;rcases Int.lt_or_le (jo ls n) 0 with g|g
 ·have:=Bj ls g hn
  omega
 ·unfold jo at g
  omega
theorem tc {ls:List Nat} (h:shareL ls 15≤32768) (hle: ∀k∈ls,k≤15) {s:Nat} (hs:s<ls.length) (h1:1≤ls.getD s 0):eG ls s<2 ^ ls.getD s 0:=by
 have hg:ls.getD s 0=ls[s]:=by rw [agd,agb hs];rfl
 exact ahj (CH hs h1) (NN h (by rw [hg];exact hle _ (agj hs)))
theorem HU {ls:List Nat} (h:shareL ls 15≤32768) (hle: ∀k∈ls,k≤15) {s t:Nat} (hs:s<ls.length) (ht:t<ls.length) (df:s≠t) (h1:1≤ls.getD s 0) (h2:ls.getD s 0≤ls.getD t 0):
  dH (eG ls s) (ls.getD s 0)≠dH (eG ls t) (ls.getD t 0) %2 ^ ls.getD s 0:=by
 intro he;have hc:=tc h hle hs h1;have hd:=tc h hle ht (by omega);have e:ls.getD t 0= (ls.getD t 0 - ls.getD s 0)+ls.getD s 0:=by omega
 rw [e,E4] at he;have he:=E5 he;rw [agp hc] at he;have hq:eG ls t/2 ^ (ls.getD t 0 - ls.getD s 0)<2 ^ ls.getD s 0:=by
  rw [Nat.div_lt_iff_lt_mul (aib _),←aih,ahQ,←e];exact hd
 rw [agp hq] at he;rcases Nat.lt_or_eq_of_le h2 with g|g
 ·exact CJ hs ht h1 g he.symm
 ·rw [g,ahB,ahX,aja] at he
  exact NA hs ht df g he
theorem Br (hz:okZ zs): ∀k∈natL zs,k≤15:=fun k hk=>by
 obtain⟨z,vo,rfl⟩:=agP.1 hk;have:=hz.2 z vo;omega
theorem K8 {loose:Bool} (hz:okZ zs) (h:gJ zs loose=0):shareL (natL zs) 15≤32768:=by
 rw [uE hz] at h
 split at h
 ·cases h
 ·omega
theorem NO {ls:List Nat} {k:Nat} (h:k<ls.length):E3 ls (k:Int)= (dH (eG ls k) (ls.getD k 0),ls.getD k 0):=if_pos (by omega)
theorem td {ls:List Nat} (hle: ∀k∈ls,k≤15) (k:Nat):ls.getD k 0≤15:=by
 rcases ag6 k ls.length with h|h
 ·have hg:ls.getD k 0=ls[k]:=by rw [agd,agb h];rfl
  rw [hg];exact hle _ (agj h)
 ·rw [agd,agq h];exact agK _
end
section
variable {H:ai} {R:Value→ai→Prop} {v:Value} {zs:List Int}
theorem HV (v n:Nat):aU v (n+1)=aU v n++ [v.testBit n]:=by unfold aU;rw [aiC,agU];rfl
theorem mR (c:Nat): ∀n,aU (dH c n) n= (aU c n).reverse
 |0=>rfl
 |n+1=>by
  have h2:c/2 ^ n%2<2:=ag5 _ (by decide);rw [HV c,List.reverse_append,rA,←mR c n,dH];have e1: (2*dH c n+c/2 ^ n%2) /2=dH c n:=by omega
  have e2: (2*dH c n+c/2 ^ n%2).testBit 0=c.testBit n:=by
   rw [aiA,Nat.testBit_eq_decide_div_mod_eq]
   congr 1
   have: (2*dH c n+c/2 ^ n%2) %2=c/2 ^ n%2:=by omega
   rw [this]
  rw [e1,e2]
  rfl
def dQ (ls:List Nat) (s:Nat):List Bool:=aU (dH (eG ls s) (ls.getD s 0)) (ls.getD s 0)
section
variable {α:Type} {f:Nat→α} {z:α} {ls:List Nat} {n x:Nat}
end
end
section
variable {H:ai} {R:Value→ai→Prop} {v:Value} {zs:List Int} {ls:List Nat} {B:List Bool}
def hit (ls:List Nat) (B:List Bool) (s:Nat):Prop:=s<ls.length∧1≤ls.getD s 0∧B.take (ls.getD s 0)=dQ ls s
def more (ls:List Nat) (B:List Bool):Prop:= ∃s,s<ls.length∧B.length<ls.getD s 0∧(dQ ls s).take B.length=B
theorem uH (ls:List Nat) (s:Nat): (dQ ls s).length=ls.getD s 0:=aR _ _
theorem CT {s:Nat} (h:hit ls B s):ls.getD s 0≤B.length:=by
 have:=congrArg List.length h.2.2;rw [uH,age] at this;omega
theorem nJ {v n m:Nat} (h:n≤m): (aU v m).take n=aU v n:=by
 obtain⟨k,rfl⟩: ∃k,m=n+k:= ⟨m - n,by omega⟩;rw [jD,ahl (by rw [aR];omega),agx (by rw [aR];omega)]
theorem uI {a b n:Nat} (h:aU a n=aU b n):a%2 ^ n=b%2 ^ n:=by
 have:=congrArg gr h
 rwa [gu,gu] at this
theorem QJ (h:shareL ls 15≤32768) (hle: ∀k∈ls,k≤15) {s t:Nat} (hs:hit ls B s) (ht:hit ls B t):s=t:=by
 by_cases df:s=t
 ·exact df
 exfalso
 have key: ∀ {s t:Nat},hit ls B s→hit ls B t→s≠t→ls.getD s 0≤ls.getD t 0→False:=by
  intro s t hs ht df h2;refine HU h hle hs.1 ht.1 df hs.2.1 h2 ?_;have e1: (dQ ls t).take (ls.getD s 0)=dQ ls s:=by rw [←ht.2.2,aiM,ag2 h2];exact hs.2.2
  unfold dQ at e1;rw [nJ h2] at e1;have:=uI e1;rw [agp (lS _ _)] at this;exact this.symm
 rcases Nat.le_total (ls.getD s 0) (ls.getD t 0) with g|g
 ·exact key hs ht df g
 ·exact key ht hs (ahh df) g
theorem E6 {n:Nat}: ∀ {x r:Nat},x≤ls.length→r<dA (ls.take x) n→∃s,s<x∧ls.getD s 0=n∧dA (ls.take s) n=r∧(j2 ls n x)[r]? =some s
 |0,r,_,h=>by simp [dA] at h
 |x+1,r,hx,h=>by
  have JQ:x<ls.length:=by omega
  have hg:ls.getD x 0=ls[x]:=by rw [agd,agb JQ];rfl
  have hlen:=qm (ls:=ls) (n:=n) x (by omega);have e:dA (ls.take (x+1)) n=dA (ls.take x) n+ (if ls.getD x 0=n then 1 else 0):=by
   rw [ql JQ,fh,kL,hg];simp [dA]
  by_cases hr:r<dA (ls.take x) n
  ·obtain⟨s,h1,h2,h3,h4⟩:=E6 (x:=x) (by omega) hr
   refine⟨s,by omega,h2,h3,?_⟩
   by_cases hh:ls.getD x 0=n
   ·rw [uF hh,agM (by omega)];exact h4
   ·rw [yD hh];exact h4
  ·by_cases hh:ls.getD x 0=n
   ·rw [if_pos hh] at e
    refine⟨x,by omega,hh,by omega,?_⟩;rw [uF hh,agQ (by omega),show r - (j2 ls n x).length=0 by omega];rfl
   ·rw [if_neg hh] at e;omega
theorem NP {n r:Nat} (h1:1≤n) (hr:r<dA ls n): ∀m,n<m→∃s,s<ls.length∧ls.getD s 0=n∧sX ls s=r∧(j3 ls m)[mO ls n+r]? =some s:=by
 intro m hm
 induction m with
 |zero=>omega
 |succ m ih=>
  rw [j3]
  by_cases he:n=m
  ·subst he
   obtain⟨s,g1,g2,g3,g4⟩:=E6 (ls:=ls) (x:=ls.length) (aga _) (by rw [agr];exact hr);refine⟨s,g1,g2,by unfold sX;rw [g2];exact g3,?_⟩;rw [if_neg (by omega),agQ (by rw [mP];omega),mP,show mO ls n+r - mO ls n=r by omega];exact g4
  ·obtain⟨s,g1,g2,g3,g4⟩:=ih (by omega)
   refine⟨s,g1,g2,g3,?_⟩;rw [agM (agD.1 g4).1];exact g4
theorem HW {s n x:Nat} (hn:ls.getD s 0=n) (h:eG ls s=dH x n):dQ ls s=aU x n:=by
 unfold dQ;rw [hn,h,mR,mR,List.reverse_reverse]
theorem HX (MC:shareL ls 15≤32768) (hle: ∀k∈ls,k≤15) {s n x:Nat} (hs:s<ls.length) (h1:1≤n) (hn:ls.getD s 0=n) (h:dQ ls s=aU x n):eG ls s=dH x n:=by
 unfold dQ at h;rw [hn] at h;have hc:=tc MC hle hs (by omega);rw [hn] at hc;rw [mR] at h;have h2:aU (eG ls s) n=aU (dH x n) n:=by rw [mR,←h,List.reverse_reverse]
 have:=uI h2
 rwa [agp hc,agp (lS _ _)] at this
theorem Th {r c:Nat} (hc:c<2) (hr:r<4294967296):bitsOf .or .i64 ((2*r:Nat):Int) (c:Int)= ((2*r+c:Nat):Int):=by
 have e: ((BitVec.ofInt 64 ((2*r:Nat):Int)) ||| (BitVec.ofInt 64 (c:Int))).toNat=2*r+c:=by
  rw [ajr,agY,agY,agZ,agZ,agp (by omega),agp (by omega),aiq,agT];have:=sQ (a:=c) (v:=r) (n:=1) (by simpa using hc);rw [Nat.pow_one] at this;rw [this];omega
 show IntKind.i64.wrap ((((BitVec.ofInt 64 ((2*r:Nat):Int)) ||| (BitVec.ofInt 64 (c:Int))).toNat:Nat):Int)=_;rw [e,ba (by omega) (by omega)]
theorem find_spec {H0:ai} {L:List It} {b:Nat} {lv wv sv:Value} {x n:Nat} (hz:okZ zs) (MC:shareL (natL zs) 15≤32768) (o:ar H0 H L) (m1:It.box b (bU lv wv (cj (natL zs)) sv) 285∈L) (m2:It.sl sv 1 (lT (j3 (natL zs) 16))∈L)
  (hx:x<2 ^ n) (hn:n≤15) (h1: ∀s,hit (natL zs) (aU x n) s→R (.tuple #[.int .i64 (s:Nat),.int .i64 ((natL zs).getD s 0:Nat)]) H) (h2: (∀s,¬hit (natL zs) (aU x n) s)→R (.tuple #[.int .i64 0,.int .i64 0]) H):
  ab 278 #[.pointer (some ⟨b,0,none⟩),.int .u64 (x:Int),.int .i64 (n:Int)] H R:=by
 have hle:=Br hz;have hlen: (natL zs).length≤288:=by rw [fF];exact hz.1
 generalize natL zs=ls at*;have mC:=JP (ls:=ls) hlen;have CR:=xk hlen;have hxp:2 ^ n≤2 ^ 15:=agA (by decide) hn;have HY: ∀k:Nat,k≤15→(bU lv wv (cj ls) sv)[2+k]? =some (.int .i64 (if k=0 then 0 else ((dA ls k:Nat):Int))):=fun k hk=>by
  rw [ig (by rw [cX];omega),fw (by omega)]
 refine wU.vc _ _ _ _ _ ?_;refine⟨fun a w f d i H' => ∃k:Nat,i= .int .i64 ((k+1:Nat):Int)∧k≤n∧a= .int .u64 ((x/2 ^ k:Nat):Int)∧w= .int .i64 ((2*dH x k:Nat):Int)∧f= .int .i64 ((2*e_ ls k:Nat):Int)∧d= .int .i64 ((mO ls (k+1):Nat):Int)∧e_ ls k≤dH x k∧(∀s,hit ls (aU x n) s→k<ls.getD s 0)∧H=H',fun _ _ _ _ i _=>match i with| .int _ x=> (1000 - x).toNat|_=>0,⟨0,rfl,by omega,by rw [ahX,aja],rfl,rfl,rfl,aga _,fun s h=>h.2.1,rfl⟩,?_⟩;rintro _ _ _ _ _ _ _ ⟨k,rfl,hk,rfl,rfl,rfl,rfl,hge,nt,rfl⟩;have hr:=lS x k;have W8:2 ^ k≤2 ^ 15:=agA (by decide) (by omega);rw [kp];refine av (fun hc=>?_) (fun hc=>?_)
 ·have lD:k+1≤n:=by omega
  have hd:x/2 ^ k≤x:=Nat.div_le_self _ _;have h2' :x/2 ^ k%2<2:=ag5 _ (by decide);have he:=mC k;have GV:=mC (k+1);have dX:dA ls (k+1)≤288:=agJ aiN hlen;have gW:mO ls (k+1)≤16*288:=agJ (CR (k+1)) (aht _ (by omega));have e2:bitsOf .and .u64 ((x/2 ^ k:Nat):Int) 1= ((x/2 ^ k%2:Nat):Int):=by
   have:=CA (a:=x/2 ^ k) (b:=1) (by omega) (by omega);rw [Nat.and_one_is_mod] at this;exact this
  have Xi:dH x (k+1)=2*dH x k+x/2 ^ k%2:=rfl;rw [cd,e2,bR,ba (n:= ((x/2 ^ k%2:Nat):Int)) (by omega) (by omega),cd];have e3:bitsOf .or .i64 ((2*dH x k:Nat):Int) ((x/2 ^ k%2:Nat):Int)= ((dH x (k+1):Nat):Int):=by
   rw [Xi];exact Th h2' (by omega)
  rw [e3,kj];refine⟨by decide,?_⟩;rw [show min (1:Int).toNat IntKind.u64.bits=1 from rfl,iX (j:=1) rfl,ajb,show 2 ^ k*2 ^ 1=2 ^ (k+1) from rfl];have Yq: ∀ {K:Value→Prop},K (.int .i64 ((dA ls (k+1):Nat):Int))→dL 16 1 (.pointer (some ⟨b,0+2,none⟩)) (.int .i64 ((k+1:Nat):Int)) fun y=>ak H y K:=fun {K} hK=>by
   rw [gG];refine⟨by omega,by omega,?_⟩;rw [al,show 0+2+ ((k+1:Nat):Int).toNat*1=2+ (k+1) by omega];refine o.aw m1 (HY (k+1) (by omega)) ?_;rw [if_neg (by omega)];exact hK
  rw [au,ae,al];refine Yq ?_;rw [aZ,ba (by omega) (by omega),aN];refine av (fun cF=>?_) (fun cF=>?_)
  ·have wz:dH x (k+1) - 2*e_ ls k<dA ls (k+1):=by omega
   obtain⟨s,g1,g2,g3,g4⟩:=NP (ls:=ls) (n:=k+1) (by omega) wz 16 (by omega);have tV:eG ls s=dH x (k+1):=by
    unfold eG;rw [g2,g3];unfold km;rw [aif];omega
   have hb:=HW g2 tV;have hh:hit ls (aU x n) s:= ⟨g1,by omega,by rw [g2,nJ lD,hb]⟩;rw [au,ae,al];refine o.aw (f:=0+18) m1 rfl ?_;rw [az,ba (by omega) (by omega),aZ,ba (by omega) (by omega)];have ik:=mP (ls:=ls) 16;have xi:= (agD.1 g4).1;refine(o.sl m2).at_ (n:= (j3 ls 16).length) (by rw [Bp,agh]) (by decide) (by omega) (by omega) fun p hp=>?_;refine hp.load (o.sl m2) (w:= .int .i64 (s:Nat)) ?_ ?_
   ·unfold lT
    rw [agu,show ((((mO ls (k+1):Nat):Int)+ ((dH x (k+1):Nat):Int) - ((2*e_ ls k:Nat):Int)).toNat*1)=mO ls (k+1)+ (dH x (k+1) - 2*e_ ls k) by omega,g4]
    rfl
   ·have:=h1 s hh
    rw [g2] at this;exact this
  ·rw [au,ae,al]
   refine Yq ?_;rw [az,ba (by omega) (by omega)];rw [au,ae,al];refine Yq ?_;have hek:e_ ls (k+1)=2*e_ ls k+dA ls (k+1):=rfl;have wz:=lS x (k+1);have acr:2 ^ (k+1)≤2 ^ 15:=agA (by decide) (by omega);rw [az,show ((2*e_ ls k:Nat):Int)+ ((dA ls (k+1):Nat):Int)= ((e_ ls (k+1):Nat):Int) by omega,ba (n:= ((e_ ls (k+1):Nat):Int)) (by omega) (by omega),eB];refine⟨by decide,?_⟩;rw [show min (1:Int).toNat IntKind.i64.bits=1 from rfl,show ((e_ ls (k+1):Nat):Int)*2 ^ 1= ((2*e_ ls (k+1):Nat):Int) by omega,ba (n:= ((2*e_ ls (k+1):Nat):Int)) (by omega) (by omega),eB];refine⟨by decide,?_⟩;rw [show min (1:Int).toNat IntKind.i64.bits=1 from rfl,show ((dH x (k+1):Nat):Int)*2 ^ 1= ((2*dH x (k+1):Nat):Int) by omega,ba (n:= ((2*dH x (k+1):Nat):Int)) (by omega) (by omega),az,ba (n:= ((k+1:Nat):Int)+1) (by omega) (by omega)];refine⟨⟨k+1,rfl,lD,rfl,rfl,rfl,?_,by omega,fun s hh=>?_,rfl⟩,by show (_:Int).toNat< (_:Int).toNat;omega⟩
   ·rw [mO.eq_2 ls (k+1),if_neg (by omega)];rfl
   ·have h3:=nt s hh
    by_cases PI:ls.getD s 0=k+1
    ·exfalso
     have hw:=hh.2.2;rw [PI,nJ lD] at hw;have Uy:=HX MC hle hh.1 (by omega) PI hw.symm;have:=CH hh.1 hh.2.1;rw [PI] at this;omega
    ·omega
 ·have dV:k=n:=by omega
  subst dV;refine h2 fun s hh=>?_;have h3:=nt s hh;have h4:=CT hh;rw [aR] at h4;omega
end
section
variable {H:ai} {R:Value→ai→Prop} {v:Value} {zs:List Int} {ls:List Nat} {B:List Bool}
theorem HZ {H0:ai} {L:List It} {hb mb vb:Nat} {th tm tv:TypeId} {x n a m:Nat} (o:ar H0 H L) (hn:n≤15) (ha:a<18446744073709551616) (m1:It.box hb [.int .i64 (n:Int)] th∈L) (m2:It.box mb [.int .u64 (IntKind.u64.wrap (IntKind.u64.wrap (1*2 ^ min ((n:Int)).toNat IntKind.u64.bits) - 1))] tm∈L) (m3:It.box vb [.int .u64 (x:Int)] tv∈L)
  (h: ∀H',ar H0 H' L→R (.bool (decide (n<m) && decide (a%2 ^ n=x))) H'):
  ab 298 #[.agg #[.int .u64 (a:Int),.int .i64 (m:Int)],.pointer (some ⟨hb,0,none⟩),.pointer (some ⟨mb,0,none⟩),.pointer (some ⟨vb,0,none⟩)] H R:=by
 refine rI.vc _ _ _ _ _ _ ?_;refine o.box fun wb H1 o1 _=>?_
 change ar H0 H1 (.box wb [.int .u64 (a:Int),.int .i64 (m:Int)] _::L) at o1
 rw [ae,al];refine o1.aw (f:=0+1) (by repeat(first|exact af8|apply af7)) rfl ?_;refine o1.aw (af7 _ m1) rfl ?_;rw [a8];refine dM (d:=decide (a%2 ^ n=x)) (fun _=>?_) ?_
 ·rw [ae,al]
  refine o1.aw (f:=0+0) (by repeat(first|exact af8|apply af7)) rfl ?_;refine o1.aw (af7 _ m2) rfl ?_;rw [cd,ym ha (by omega)];refine o1.aw (af7 _ m3) rfl ?_;rw [bc];refine⟨?_,rfl⟩
  congr 1
  rw [ahm,decide_eq_true_eq,decide_eq_true_eq];omega
 intro _;have:=h H1 (o1.pick (ag_ _ _));rw [show decide ((n:Int)< (m:Int))=decide (n<m) by rw [ahm,decide_eq_true_eq,decide_eq_true_eq];omega];exact this
theorem H_ {s n x:Nat} (h:n≤ls.getD s 0) (hx:x<2 ^ n): (dQ ls s).take n=aU x n↔dH (eG ls s) (ls.getD s 0) %2 ^ n=x:=by
 unfold dQ;rw [nJ h]
 constructor
 ·intro g
  have:=uI g
  rwa [agp hx] at this
 ·intro g
  rw [←kK,g]
open Classical in
theorem K9 {H0:ai} {L:List It} {b:Nat} {lv wv sv:Value} {x n:Nat} (hz:okZ zs) (o:ar H0 H L) (m1:It.box b (bU lv wv (cj (natL zs)) sv) 285∈L) (m2:It.sl wv 2 (ll (natL zs))∈L)
  (hx:x<2 ^ n) (hn:n≤15) (h: ∀H',ar H0 H' L→R (.bool (decide (more (natL zs) (aU x n)))) H'):
  ab 279 #[.pointer (some ⟨b,0,none⟩),.int .u64 (x:Int),.int .i64 (n:Int)] H R:=by
 have hle:=Br hz;have hlen: (natL zs).length≤288:=by rw [fF];exact hz.1
 generalize natL zs=ls at*;have QI:=yG ls;refine wV.vc _ _ _ _ _ ?_;refine o.box fun vb H1 o1 _=>?_
 change ar H0 H1 (.box vb [.int .u64 (x:Int)] _::L) at o1
 refine o1.box fun hb H2 o2 _=>?_
 change ar H0 H2 (.box hb [.int .i64 (n:Int)] _:: .box vb [.int .u64 (x:Int)] _::L) at o2
 refine o2.aw (by repeat(first|exact af8|apply af7)) rfl ?_;rw [eB];refine⟨by omega,?_⟩;rw [aZ];refine o2.box fun mb H3 o3 _=>?_
 change ar H0 H3 (.box mb [.int .u64 0] _:: .box hb [.int .i64 (n:Int)] _:: .box vb [.int .u64 (x:Int)] _::L) at o3
 refine o3.bF (by repeat(first|exact af8|apply af7)) (by decide) rfl (aV.here) fun H4 o4 _=>?_;rw [ahx] at o4;rw [au,ae,al];have mem: ∀ {i:It},i∈L→∀ {a b c:It},i∈a::b::c::L:=fun {i} h {a b c}=>af7 _ (af7 _ (af7 _ h));refine o4.aw (f:=0+1) (mem m1) rfl ?_;refine fc.vc _ _ _ _ ?_;refine fR.vc _ _ _ _ ?_;refine(o4.sl (mem m2)).len QI (by decide) ?_;have mC: ∀ {H' a b c},ar H0 H' (a::b::c::L)→ar H0 H' L:=fun o=>o.pick (List.Sublist.cons _ (List.Sublist.cons _ (ag_ _ _)));refine⟨fun i H' => ∃k:Nat,i= .int .i64 k∧k≤ls.length∧ar H0 H' (.box mb [.int .u64 (IntKind.u64.wrap (IntKind.u64.wrap (1*2 ^ min ((n:Int)).toNat IntKind.u64.bits) - 1))] 41:: .box hb [.int .i64 (n:Int)] 3:: .box vb [.int .u64 (x:Int)] 41::L)∧∀s,s<k→¬ (n<ls.getD s 0∧(dQ ls s).take n=aU x n),fun i _=>match i with| .int _ x=> (1000 - x).toNat|_=>0,⟨0,rfl,by omega,o4,by omega⟩,?_⟩;clear o o1 o2 o3 o4;rintro _ _ H5 ⟨k,rfl,hk,o4,nt⟩;rw [aN];refine av (fun hc=>?_) (fun hc=>?_)
 ·have fG:k<ls.length:=by omega
  refine(o4.sl (mem m2)).at_ QI (by decide) (by omega) (by omega) fun p hp=>?_;rw [af_] at hp;refine hp.fE (o4.sl (mem m2)) (ws:=qZ ls k) ?_ rfl ?_
  ·have e0:=qp (ls:=ls) (s:=k) (j:=0) fG (by decide)
   have e1:=qp (ls:=ls) (s:=k) (j:=1) fG (by decide);apply agX;intro i;rw [agV]
   split
   ·rename_i hi
    rw [ag7]
    match i,hi with
    |0,_=>exact e0
    |1,_=>exact e1
   ·rename_i hi
    rw [agq (by show 2≤i;omega)]
  refine qn (by kernel_rfl) ?_;have hr:=lS (eG ls k) (ls.getD k 0);have Aq:2 ^ ls.getD k 0≤2 ^ 15:=agA (by decide) (td hle k);refine HZ (a:=dH (eG ls k) (ls.getD k 0)) (m:=ls.getD k 0) o4 hn (by omega) (by repeat(first|exact af8|apply af7)) (by repeat(first|exact af8|apply af7)) (by repeat(first|exact af8|apply af7)) fun H6 o5=>?_;have K_:= @H_ ls k n x;refine cy (fun hb=>?_) (fun hb=>?_)
  ·rw [agk,decide_eq_true_eq,decide_eq_true_eq] at hb
   show lB _ _ _;rw [dP,decide_eq_true (by omega)];have hm:more ls (aU x n):= ⟨k,fG,by rw [aR];exact hb.1,by rw [aR];exact(K_ (by omega) hx).2 hb.2⟩;have:=h H6 (mC o5);rw [decide_eq_true hm] at this;exact this
  ·rw [az,ba (n:= (k:Int)+1) (by omega) (by omega)]
   refine⟨⟨k+1,rfl,by omega,o5,fun s hs=>?_⟩,by show (_:Int).toNat< (_:Int).toNat;omega⟩
   by_cases he:s=k
   ·subst he
    rintro⟨g1,g2⟩;rw [decide_eq_true g1,decide_eq_true ((K_ (by omega) hx).1 g2)] at hb
    cases hb
   ·exact nt s (by omega)
 ·have fG:k=ls.length:=by omega
  subst fG;show lB _ _ _;rw [dP,decide_eq_false (by decide)];have hm: ¬more ls (aU x n):=by
   rintro⟨s,g1,g2,g3⟩;rw [aR] at g2 g3;exact nt s g1 ⟨g2,g3⟩
  have:=h H5 (mC o4);rw [decide_eq_false hm] at this;exact this
end
section
variable {H:ai} {R:Value→ai→Prop}
abbrev at_ (b o:Nat):Value:= .pointer (some ⟨b,o,none⟩)
abbrev u64 (n:Nat):Value:= .int .u64 (n:Int)
abbrev i64 (n:Nat):Value:= .int .i64 (n:Int)
structure Rd (H:ai) (b o:Nat) (B:List Bool):Prop where
 sub: ∃ (rest:List UInt8) (acc n:Nat),kl H b o [str rest,u64 acc,i64 n]∧B=aU acc n++toBits rest∧acc<2 ^ n∧n<40
 Ti:B.length≤1152921504606846976
theorem Rd.ext {H' :ai} {b o:Nat} {B:List Bool} (h:Rd H b o B) (hx:Ext H H'):Rd H' b o B:=by
 obtain⟨⟨rest,acc,n,h1,h2⟩,h3⟩:=h;exact⟨⟨rest,acc,n,h1.ext hx,h2⟩,h3⟩
theorem Rd.lt {b o:Nat} {B:List Bool} (h:Rd H b o B):b<H.size:=by
 obtain⟨⟨rest,acc,n,h1,h2⟩,h3⟩:=h;exact h1.lt
theorem Rd.new {b o:Nat} (h:kl H b o [str [],.int .u64 0,.int .i64 0]):Rd H b o []:= ⟨⟨[],0,0,h,rfl,by decide,by decide⟩,by simp⟩
variable {b o:Nat} {B:List Bool}
theorem nK (hr:Rd H b o B) (h:R (i64 B.length) H):ab 177 #[at_ b o] H R:=by
 obtain⟨⟨rest,acc,n,hs,rfl,ha,hn⟩,hb⟩:=hr;rw [af9,aR,bA] at hb h;refine uy.vc _ _ _ ?_;simp only [au,ae,al,agL,aW (hs.cell0 rfl),qf,bu,mc,aW (hs.cell (k:=2) rfl),az,cB,aj];rw [ba (n:=8* (rest.length:Int)) (by omega) (by omega),ba (by omega) (by omega),show (n:Int)+8* (rest.length:Int)= ((n+8*rest.length:Nat):Int) by omega];exact h
theorem Ia {s:List UInt8} (hr:Rd H b o B) (jh:B.length+8*s.length≤1152921504606846976) (h: ∀H',Rd H' b o (B++toBits s)→jB b o 3 none_ none_ H H' →R (.tuple #[]) H'):ab 173 #[at_ b o,str s] H R:=by
 obtain⟨⟨rest,acc,n,hs,rfl,ha,hn⟩,hb⟩:=hr;rw [af9,aR,bA] at hb jh;refine uw.vc _ _ _ _ ?_;simp only [au,ae,al,agL,aW (hs.cell0 rfl),Hy,sF,bu,rn,aD];refine⟨by first|omega| (simp [ByteArray.size];omega),?_⟩;refine iC (F:=none_) (n:=3) hs rfl (by simp) rfl fun H1 s1 gW c1=>?_;refine h H1 ⟨⟨rest++s,acc,n,gW,by rw [dG,agc],ha,hn⟩,?_⟩ c1;rw [af9,af9,aR,bA,bA];omega
theorem Ib {k:Nat} (hk:k≤32) {rest:List UInt8} {acc n:Nat} (hs:kl H b o [str rest,u64 acc,i64 n]) (ha:acc<2 ^ n) (hn:n<40) (hl:k≤n+8*rest.length) (jh:rest.length≤1152921504606846976)
  (h: ∀H' kq eS n',kl H' b o [str kq,u64 eS,i64 n']→aU eS n' ++toBits kq =aU acc n++toBits rest→eS <2 ^ n' →n' <40→k≤n' →jB b o 3 none_ none_ H H' →R (.tuple #[]) H'):ab 296 #[at_ b o,i64 k] H R:=by
 refine uA.vc _ _ _ _ ?_;refine⟨fun H' => ∃ (kq :List UInt8) (eS n' :Nat),kl H' b o [str kq,u64 eS,i64 n']∧aU eS n' ++toBits kq =aU acc n++toBits rest∧eS <2 ^ n' ∧n' <40∧kq.length≤rest.length∧jB b o 3 none_ none_ H H',
  fun H' =>match cellAt H' ⟨b,o+2,none⟩ with|some (.int _ q)=> (100 - q).toNat|_=>0,⟨rest,acc,n,hs,rfl,ha,hn,aga _,jB.refl⟩,?_⟩
 rintro _ H1 ⟨kq,eS,n',gW,he,qG,xl,Xh,c1⟩;have hlen:n' +8*kq.length=n+8*rest.length:=by
  have:=congrArg List.length he;rw [af9,af9,aR,aR,bA,bA] at this;exact this
 simp only [au,ae,al,agL,aW (gW.cell0 rfl),RV,bu,ne_eq,aW (gW.cell (k:=2) rfl),aN,jy,qe,cf,Int.reduceLE,bR,eB,true_and,aW (gW.cell (k:=1) rfl),cd];refine fun _=>av (fun hc=>?_) (fun hc=>?_)
 ·obtain⟨x,t,rfl⟩: ∃x t,kq =x::t:=by
   cases kq with
   |nil=>exact absurd rfl hc.2
   |cons x t=>exact⟨x,t,rfl⟩
  have hx:x.toNat<256:=x.toNat_lt;have hpw: (2:Nat) ^ n' ≤2 ^ 31:=agA (by decide) (by omega);have hm:x.toNat*2 ^ n' ≤255*2 ^ 31:=ajx (by omega) hpw;simp only [Int.reduceToNat,List.getD_cons_zero];refine⟨by simp,by omega,?_⟩;rw [cR (n:= (x.toNat:Int)) (by omega) (by omega),JK (by omega) (by omega),uq (by omega) (by omega),sQ qG];have acs :kl H1 b o [str (x::t),u64 eS,i64 n']:=gW;refine ft (F:=none_) (k:=1) (n:=3) gW rfl (by simp) rfl fun H2 s2 lV c2=>?_;simp only [aW (lV.cell0 rfl),mE,bu,agi,jA,Int.reduceLE,true_and];refine⟨by omega,?_⟩;simp only [Int.reduceToNat,List.drop_succ_cons,agS];rw [agx (by simp)];refine iC (F:=none_) (n:=3) lV rfl (by simp) rfl fun H3 s3 GW c3=>?_;simp only [aW (GW.cell (k:=2) rfl),az];rw [ba (n:= (n' :Int)+8) (by omega) (by omega)];refine ft (F:=none_) (k:=2) (n:=3) GW rfl (by simp) rfl fun H4 s4 La c4=>?_;refine⟨⟨t,eS +x.toNat*2 ^ n',n' +8,La,?_,?_,by omega,by simp at Xh;omega,((c1.trans c2).trans c3).trans c4⟩,?_⟩
  ·rw [←he,yj qG,lQ,agc]
  ·rw [aih]
   have h1:x.toNat*2 ^ n' ≤255*2 ^ n' :=aht _ (by omega);have: (2:Nat) ^ 8=256:=rfl;omega
  ·rw [La.cell (k:=2) rfl,gW.cell (k:=2) rfl]
   show (100 - ((n' :Int)+8)).toNat< (100 - (n' :Int)).toNat;omega
 ·refine h H1 kq eS n' gW he qG xl ?_ c1
  by_cases PU:kq = []
  ·subst PU;simp at hlen;omega
  ·have: ¬ ((n' :Int)< (k:Int)):=fun h' =>hc ⟨h',PU⟩
   omega
theorem rM {k:Nat} {rest:List UInt8} {acc n:Nat} (hs:kl H b o [str rest,u64 acc,i64 n]) (hk:k≤n) (hn:n<40)
  (h: ∀H',kl H' b o [str rest,u64 (acc/2 ^ k),i64 (n - k)]→jB b o 3 none_ none_ H H' →R (.tuple #[]) H'):ab 224 #[at_ b o,i64 k] H R:=by
 refine uz.vc _ _ _ _ ?_;simp only [au,ae,al,aW (hs.cell (k:=1) rfl),kj];refine⟨by omega,?_⟩;rw [JL (show k≤64 by omega)];refine ft (F:=none_) (k:=1) (n:=3) hs rfl (by simp) rfl fun H2 s2 lV c2=>?_;simp only [aW (lV.cell (k:=2) rfl),aZ];rw [ba (n:= (n:Int) - (k:Int)) (by omega) (by omega),show (n:Int) - (k:Int)= ((n - k:Nat):Int) by omega];refine ft (F:=none_) (k:=2) (n:=3) lV rfl (by simp) rfl fun H3 s3 GW c3=>?_;exact h H3 GW (c2.trans c3)
theorem Bt {acc n k:Nat} {rest:List UInt8} (hk:k≤n):aU (acc/2 ^ k) (n - k)++toBits rest= (aU acc n++toBits rest).drop k:=by
 rw [ahk (by rw [aR];exact hk)]
 congr 1
 conv=>rhs;rw [show n=k+ (n - k) by omega,jD]
 rw [ahk (by rw [aR];exact aga _),ahN (by rw [aR];exact aga _),agn]
theorem CU {acc n k:Nat} (h:acc<2 ^ n) (hk:k≤n):acc/2 ^ k<2 ^ (n - k):=by
 rw [Nat.div_lt_iff_lt_mul (aib k),←aih,show n - k+k=n by omega];exact h
theorem NQ {n:Int} (hr:Rd H b o B) (nt: ¬ (0≤n∧n≤32∧n≤(B.length:Int))) (h:R (.tuple #[.int .u64 0,.bool false]) H):ab 277 #[at_ b o,.int .i64 n] H R:=by
 refine mL.vc _ _ _ _ ?_;simp only [aN,a8,eB,aZ,au,ae,al,cB,fC,aim,ki]
 intros
 refine il (d:=decide ((B.length:Int)<n)) (fun _=>?_) ?_
 ·refine nK hr ?_
  simp only [and_true,aN]
 refine fun _=>cy (fun _=>h) (fun hc=>?_);simp only [ahA,decide_eq_false_iff_not] at hc;omega
theorem yH {k:Nat} (hr:Rd H b o B) (hk:k≤32) (Xj:k≤B.length)
  (h: ∀H' rest acc n,kl H' b o [str rest,u64 acc,i64 n]→B=aU acc n++toBits rest→acc<2 ^ n→n<40→k≤n→jB b o 3 none_ none_ H H' →R (.tuple #[u64 (gr (B.take k)),.bool true]) H'):ab 277 #[at_ b o,i64 k] H R:=by
 have Qn :=hr;obtain⟨⟨rest,acc,n,hs,he,ha,hn⟩,hb⟩:=hr;have hlen:B.length=n+8*rest.length:=by rw [he,af9,aR,bA]
 refine mL.vc _ _ _ _ ?_;simp only [aN,a8,eB,aZ,au,ae,al,cB,fC,aim,ki]
 intros
 refine il (d:=false) (fun _=>?_) ?_
 ·refine nK Qn ?_
  simp only [and_true,aN];rw [decide_eq_false (by omega)]
 rw [decide_eq_false (by omega)];refine fun _=>?_;simp only [Bool.or_false,aj];refine Ib hk hs ha hn (by omega) (by omega) fun H1 kq eS n' gW GV qG xl lD c1=>?_;simp only [aW (gW.cell (k:=1) rfl),cd];refine⟨by omega,?_⟩;have hpw: (2:Nat) ^ n' ≤2 ^ 39:=agA (by decide) (by omega);rw [ym (by omega) hk];have hv:eS %2 ^ k=gr (B.take k):=by
  rw [he,←GV,ahl (by rw [aR];exact lD)];have: (aU eS n').take k=aU eS k:=by
   conv=>lhs;rw [show n' =k+ (n' - k) by omega,jD]
   rw [ahl (by rw [aR];exact aga _),agx (by rw [aR];exact aga _)]
  rw [this,gu]
 rw [hv];exact h H1 kq eS n' gW (by rw [he,GV]) qG xl lD c1
theorem Ic {k:Nat} (hr:Rd H b o B) (hk:k≤32) (Xj:k≤B.length) (h: ∀H',Rd H' b o B→jB b o 3 none_ none_ H H' →R (.tuple #[u64 (gr (B.take k)),.bool true]) H'):ab 277 #[at_ b o,i64 k] H R:=
 yH hr hk Xj fun H' rest acc n hs he ha hn lD c=>h H' ⟨⟨rest,acc,n,hs,he,ha,hn⟩,hr.Ti⟩ c
theorem NR {n:Int} (hr:Rd H b o B) (nt: ¬ (0≤n∧n≤32∧n≤(B.length:Int))) (h:R (.tuple #[.int .u64 0,.bool false]) H):ab 274 #[at_ b o,.int .i64 n] H R:=by
 refine mK.vc _ _ _ _ ?_;refine NQ hr nt ?_;simp only [iq,agI,agB,aj];exact⟨fun H' =>H=H',fun _ H' e=>e ▸ h,rfl⟩
theorem yI {k:Nat} (hr:Rd H b o B) (hk:k≤32) (Xj:k≤B.length) (h: ∀H',Rd H' b o (B.drop k)→jB b o 3 none_ none_ H H' →R (.tuple #[u64 (gr (B.take k)),.bool true]) H'):ab 274 #[at_ b o,i64 k] H R:=by
 have hb:=hr.Ti;refine mK.vc _ _ _ _ ?_;refine yH hr hk Xj fun H1 rest acc n hs he ha hn lD c1=>?_;simp only [iq,agI,agB,aD];refine⟨fun H' =>Rd H' b o (B.drop k)∧jB b o 3 none_ none_ H H',fun _ H' e=>h H' e.1 e.2,?_⟩;refine rM hs lD hn fun H2 lV c2=> ⟨⟨⟨rest,acc/2 ^ k,n - k,lV,by rw [he,Bt lD],CU ha lD,by omega⟩,by rw [agl];omega⟩,c1.trans c2⟩
theorem vL (hr:Rd H b o B) (h: ∀H' rest acc n,kl H' b o [str rest,u64 acc,i64 n]→B.drop (B.length%8)=aU acc n++toBits rest→acc<2 ^ n→n<40→n%8=0→jB b o 3 none_ none_ H H' →R (.tuple #[]) H'):ab 223 #[at_ b o] H R:=by
 obtain⟨⟨rest,acc,n,hs,he,ha,hn⟩,hb⟩:=hr;have hlen:B.length=n+8*rest.length:=by rw [he,af9,aR,bA]
 refine sW.vc _ _ _ ?_;simp only [au,ae,al,aW (hs.cell (k:=2) rfl),jz,ne_eq,Int.reduceEq,not_false_eq_true,true_and,rn,aD];rw [ahy (by omega),show (n:Int) %8= ((n%8:Nat):Int) by omega];refine rM hs (by omega) hn fun H2 lV c2=>?_;refine h H2 rest _ _ lV ?_ (CU ha (by omega)) (by omega) (by omega) c2;rw [Bt (by omega),←he,show B.length%8=n%8 by omega]
theorem vM (hr:Rd H b o B) (h: ∀H',Rd H' b o (B.drop (B.length%8))→jB b o 3 none_ none_ H H' →R (.tuple #[]) H'):ab 223 #[at_ b o] H R:=
 vL hr fun H' rest acc n hs he ha hn h8 c=>h H' ⟨⟨rest,acc,n,hs,he,ha,hn⟩,by have:=hr.Ti;rw [agl];omega⟩ c
theorem yJ {n:Int} (xl:n≤9223372036854775807) (hr:Rd H b o B)
  (h: ∀H' (k:Nat),k=min n.toNat ((B.length - B.length%8) /8)→Rd H' b o ((B.drop (B.length%8)).drop (8*k))→jB b o 3 none_ none_ H H' →R (str (bG ((B.drop (B.length%8)).take (8*k)))) H'):ab 176 #[at_ b o,.int .i64 n] H R:=by
 have hb:=hr.Ti;have Xk:=hr.lt;refine ux.vc _ _ _ _ ?_;simp only [au,ae,al,agL,kp,cB,aj];refine vL hr fun H1 rest acc m hs he ha hm h8 c1=>?_;generalize hC:B.drop (B.length%8)=C at*;have Vv:C.length=B.length - B.length%8:=by rw [←hC,agl]
 rw [←Vv] at h;have Tj:C.length=m+8*rest.length:=by rw [he,af9,aR,bA]
 refine av (fun hc=>?_) (fun hc=>?_)
 ·have h:=h H1 0 (by omega) ⟨⟨rest,acc,m,hs,by simpa using he,ha,hm⟩,by simp;omega⟩ c1
  simpa [bG] using h
 refine⟨fun n1 v H' => ∃ (j eS m' :Nat) (D:List UInt8),n1= .int .i64 (n - j)∧(j:Int)≤n∧kl H' b o [str rest,u64 eS,i64 m']∧eS <2 ^ m' ∧m' <40∧m' %8=0∧D.length=j∧toBits D++ (aU eS m' ++toBits rest)=C∧kI H' v 1 (D.map bX)∧(∀k,aS v=some k→H.size≤k)∧jB b o 3 none_ none_ H H',
  fun n1 _ _=>match n1 with| .int _ x=>x.toNat|_=>0,⟨0,acc,m,[],by simp,by omega,hs,ha,hm,h8,rfl,by rw [he];rfl,.inl ⟨rfl,rfl⟩,by simp [aS],c1⟩,?_⟩
 rintro _ _ v H2 ⟨j,eS,m',D,rfl,hj,lV,S1,Lb,h82,Vw,Yr,o2,k2,c2⟩;have aan:8*j+m' =m:=by
  have:=congrArg List.length Yr;rw [af9,af9,aR,bA,bA,Tj,Vw] at this;omega
 simp only [aW (lV.cell (k:=2) rfl),a8,aZ,jy,qe,aW (lV.cell (k:=1) rfl),bR,aW (lV.cell0 rfl),mE,bu,qf,iV,jA,dc,agS];refine fun _=>av (fun f_=>?_) (fun f_=>?_)
 ·rw [sR]
  refine o2.Qv (n:=j) (by decide) rfl rfl rfl (by simp [Vw]) (by omega) fun v2 H3 o3 i3 s3 k3=>?_;have Tk:aS v≠some b:=fun e=>by have:=k2 b e;omega
  have GW:kl H3 b o [str rest,u64 eS,i64 m']:=lV.same (i3 b lV.lt Tk);have c3:jB b o 3 none_ none_ H H3:= ⟨by have:=c2.size;omega,fun i hi hib _=>by
    rw [i3 i (by have:=c2.size;omega) (fun e=>by have:=k2 i e;omega)];exact c2.ne i hi hib (fun h=>h),fun cs t fr hc=>by
    obtain⟨c',g1,g2⟩:=c2.fZ cs t fr hc;exact⟨c',by rw [i3 b lV.lt Tk];exact g1,g2⟩,fun k hk=>hk.elim⟩
  refine rM (k:=8) GW (by omega) Lb fun H4 La c4=>?_;rw [ba (n:=n - (j:Int) - 1) (by omega) (by omega)];refine⟨⟨j+1,eS /2 ^ 8,m' - 8,D++ [UInt8.ofNat (eS %256)],by congr 1;omega,by omega,La,CU S1 (by omega),by omega,by omega,by simp [Vw],?_,?_,fun k hk=>?_,c3.trans c4⟩,by show (_:Int).toNat< (_:Int).toNat;omega⟩
  ·rw [←Yr,dG,agc,qX (n:=m') (by omega),agc]
  ·rw [agU]
   have EC:aS v2≠some b:=fun e=>by
    rcases k3 b e with h' |h'
    ·exact Tk h'
    ·have:=lV.lt;omega
   exact c4.own o3 EC (fun k hk h=>h)
  ·rcases k3 k hk with h' |h'
   ·exact k2 k h'
   ·have:=c2.size;omega
 ·have jM: (o2.sl (by decide)).str (K:=fun z=>True) trivial= (o2.sl (by decide)).str (K:=fun z=>True) trivial:=rfl
  refine Sl.str (o2.sl (by decide)) ?_;simp only [Hy,sF,bu];have PU:rest.length≤9223372036854775807:=by omega
  have Vx:0≤min (n - (j:Int)) (rest.length:Int):=by omega
  refine⟨by omega,by omega,by rw [age];omega,by omega,by omega,?_⟩;refine iC (F:=none_) (n:=3) lV rfl (by simp) rfl fun H3 s3 GW c3=>?_;generalize hq: (min (n - (j:Int)) (rest.length:Int)).toNat=q at*;have jq:j+q=min n.toNat (C.length/8):=by
   by_cases MA:m' =0
   ·subst MA;omega
   ·have: (j:Int)=n:=by
     rcases Int.lt_or_eq_of_le hj with h' |h'
     ·exact absurd ⟨by omega,by omega⟩ f_
     ·exact h'
    omega
  have Ys:q≠0→m' =0:=fun h0=>by
   rcases air m' with h' |h'
   ·exact h'
   ·exact absurd ⟨by omega,by omega⟩ f_
  have hql:q≤rest.length:=by omega
  have Cy:C=toBits (D++rest.take q)++ (aU eS m' ++toBits (rest.drop q)):=by
   rw [←Yr,dG,agc]
   congr 1
   by_cases h0:q=0
   ·subst h0;simp [toBits]
   ·have MA:=Ys h0
    subst MA;rw [rz,agn,agn,←dG,agE]
  have h:=h H3 (j+q) jq ⟨⟨rest.drop q,eS,m',?_,?_,S1,Lb⟩,by rw [agl];omega⟩ (c2.trans c3)
  ·have aao:rest=rest:=rfl
   have e1:bG (C.take (8* (j+q)))=D++rest.take q:=by
    have hl: (toBits (D++rest.take q)).length=8* (j+q):=by rw [bA,af9,age,Vw];omega
    rw [Cy,←hl,ahl (aga _),agr,oh]
   rw [e1] at h
   simpa using h
  ·have e2:List.take (rest.length - q) (List.drop q rest)=rest.drop q:=by rw [agx (by rw [agl];omega)]
   rw [e2] at GW;exact GW
  ·have hl: (toBits (D++rest.take q)).length=8* (j+q):=by rw [bA,af9,age,Vw];omega
   conv=>lhs;rw [Cy]
   rw [←hl,ahk (aga _),ahN (aga _),agn]
end
section
def cU:Nat→List UInt8→Nat→List UInt8
 |0,b,_=>b
 |k+1,b,d=>cU k (b++ [b.getD (b.length - d) 0]) d
theorem uJ: ∀ (k:Nat) (b:List UInt8) (d:Nat),cU (k+1) b d=cU k b d++ [(cU k b d).getD ((cU k b d).length - d) 0]
 |0,b,d=>rfl
 |k+1,b,d=>by
  rw [cU,uJ k,←cU]
theorem qq: ∀ (k:Nat) (b:List UInt8) (d:Nat),(cU k b d).length=b.length+k
 |0,b,d=>rfl
 |k+1,b,d=>by rw [cU,qq k];simp;omega
theorem Bu: ∀ (k:Nat) (b:List UInt8) (d:Nat),∃t,cU k b d=b++t∧t.length=k
 |0,b,d=> ⟨[],by simp [cU],rfl⟩
 |k+1,b,d=>by
  obtain⟨t,h1,h2⟩:=Bu k (b++ [b.getD (b.length - d) 0]) d;exact⟨b.getD (b.length - d) 0::t,by rw [cU,h1];simp,by simp [h2]⟩
theorem Ie (k:Nat) (b:List UInt8) (d:Nat): (cU k b d).take b.length=b:=by
 obtain⟨t,h1,h2⟩:=Bu k b d;rw [h1];simp
end
section
variable {H:ai} {R:Value→ai→Prop}
structure Tok where
 (b:UInt8) (n d:Int)
abbrev Tok.cells (t:Tok):List Value:= [bX t.b,.int .i64 t.n,.int .i64 t.d]
abbrev Tok.v (t:Tok):Value:= .agg t.cells.toArray
def Tok.obj (t:Tok):Obj:= .cells t.cells.toArray 145 (0,0)
def cP (l:List Tok):List Value:=l.flatMap Tok.cells
theorem gL: ∀l:List Tok,(cP l).length=l.length*3
 | []=>rfl
 |t::r=>by
  have:=gL r;simp only [cP,ahL,af9,agi,agt] at this ⊢;omega
theorem te: ∀ (l:List Tok) (i:Nat) (t:Tok),l[i]? =some t→((cP l).drop (i*3)).take 3=t.cells
 | [],i,t,h=>by simp at h
 |u::r,0,t,h=>by
  simp only [agB,agf] at h;subst h
  simp [cP,Tok.cells]
 |u::r,i+1,t,h=>by
  simp only [agI] at h;have:=te r i t h;rw [←this];show ((u.cells++cP r).drop ((i+1)*3)).take 3=_;rw [show (i+1)*3=u.cells.length+i*3 by simp [Tok.cells];omega,List.drop_append];simp only [ah2 (show [bX u.b,Value.int IntKind.i64 u.n,Value.int IntKind.i64 u.d].length≤ [bX u.b,Value.int IntKind.i64 u.n,Value.int IntKind.i64 u.d].length+i*3 by omega),agn];rw [show u.cells.length+i*3 - u.cells.length=i*3 by omega]
def eH (t:Tok):Bool:=if t.n=0 then decide (t.d=0) else decide ((t.b.toNat:Int)=0∧3≤t.n∧t.n≤258∧1≤t.d∧t.d≤32768)
theorem CV {t:Tok} (h: ∀H',Ext H H' →R (.bool (eH t)) H'):ab 159 #[t.v] H R:=by
 refine AG.vc _ _ _ ?_;refine eW fun H1 s1 e1 b1=>?_;have b1:H1[H.size]? =some t.obj:=b1;have h:=h H1 e1;simp only [ae,al,ags,oY b1,agI,agB,bc,dP,agL,jy,qe,kp];refine av (fun hc=>?_) (fun hc=>?_)
 ·rw [eH,if_pos hc] at h;exact h
 ·rw [eH,if_neg hc] at h
  intros
  refine JF ?_ h;rw [ahm];simp only [decide_eq_true_eq];omega
def eu:List Tok→List UInt8→Option (List UInt8)
 | [],b=>some b
 |t::r,b=>if eH t=true∧t.d≤(b.length:Int) then eu r (cU t.n.toNat (if t.n=0 then b++ [t.b] else b) t.d.toNat) else none
theorem iE {t:Tok} (h:eH t=true): (t.n=0∧t.d=0)∨(3≤t.n∧t.n≤258∧1≤t.d∧t.d≤32768):=by
 unfold eH at h
 split at h
 ·left;exact⟨by assumption,by simpa using h⟩
 ·right;simp only [decide_eq_true_eq] at h;omega
end
section
variable {H:ai} {R:Value→ai→Prop}
def uK:Nat→Int→Int→Nat→Int→Int × Int
 |0,k,a,e,_=> (a+k*2 ^ e,e)
 |f+1,k,a,e,st=>if st≤k then uK f (k - st) (a+st*2 ^ e) (e+1) st else (a+k*2 ^ e,e)
def yK (k least free st:Int):Int × Int:=if k<free then (least+k,0) else uK 40 (k - free) (least+free) 1 st
theorem yL {k least free st:Int} (hk:0≤k) (Ap:k≤31) (hl:0≤least) (Uz:least≤3) (hf:0≤free) (MD:free≤8) (hs:2≤st) (lV:st≤4)
  (h:R (.tuple #[.int .i64 (yK k least free st).1,.int .i64 (yK k least free st).2]) H):ab 242 #[.int .i64 k,.int .i64 least,.int .i64 free,.int .i64 st] H R:=by
 refine NC.vc _ _ _ _ _ _ ?_;simp only [az,aZ,aN];unfold yK at h;refine av (fun hc=>?_) (fun hc=>?_)
 ·rw [if_pos hc] at h
  rw [ba (by omega) (by omega)];exact h
 rw [if_neg hc] at h;rw [ba (by omega) (by omega),ba (by omega) (by omega)];refine⟨fun v a e H' => ∃ (k' a' :Int) (e' f:Nat),v= .int .i64 k' ∧a= .int .i64 a' ∧e= .int .i64 e' ∧H=H' ∧0≤k' ∧k' +e' ≤32∧1≤e' ∧e' +f=41∧0≤a' ∧a' ≤300+32*2 ^ e' ∧uK f k' a' e' st=uK 40 (k - free) (least+free) 1 st,
  fun v _ _ _=>match v with| .int _ i=>i.toNat|_=>0,⟨k - free,least+free,1,40,rfl,rfl,rfl,rfl,by omega,by omega,by omega,by omega,by omega,by omega,rfl⟩,?_⟩
 rintro _ _ _ _ _ ⟨k',a',e',f,rfl,rfl,rfl,rfl,h1,h2,h3,h4,h5,h6,h7⟩;have hP: (1:Int)≤2 ^ e' :=by
  have: (0:Int)<2 ^ e' :=aip (by decide);omega
 have hP2: (2:Int) ^ e' ≤2 ^ 32:=by
  have: (2:Nat) ^ e' ≤2 ^ 32:=agA (by decide) (by omega)
  exact_mod_cast this
 have Vx:min ((e' :Int)).toNat IntKind.i64.bits=e' :=by
  show min ((e' :Int)).toNat 64=e';omega
 have hkP:k' *2 ^ e' ≤32*2 ^ e' :=ajQ (by omega) (by omega);have acw:0≤k' *2 ^ e' :=Int.mul_nonneg h1 (by omega);have hsP:st*2 ^ e' ≤4*2 ^ e' :=ajQ (by omega) (by omega);have acx:0≤st*2 ^ e' :=Int.mul_nonneg (by omega) (by omega);simp only [true_and,aZ,az,eB,Vx,dP]
 match f,h4,h7 with
 |0,h4,h7=>omega
 |f+1,h4,h7=>
  have h7: (if st≤k' then uK f (k' - st) (a' +st*2 ^ e') (e' +1) st else (a' +k' *2 ^ e',(e' :Int)))=uK 40 (k - free) (least+free) 1 st:=h7;refine av (fun f_=>?_) (fun f_=>?_)
  ·rw [if_pos f_] at h7
   refine⟨by omega,?_⟩;rw [ba (n:=st*2 ^ e') (by omega) (by omega),ba (n:=a' +st*2 ^ e') (by omega) (by omega),ba (n:= (e' :Int)+1) (by omega) (by omega),ba (n:=k' - st) (by omega) (by omega)];refine⟨⟨k' - st,a' +st*2 ^ e',e' +1,f,rfl,rfl,rfl,by omega,by omega,by omega,by omega,by omega,?_,h7⟩,by show (_:Int).toNat< (_:Int).toNat;omega⟩;have Yt: (2:Int) ^ (e' +1)=2 ^ e' *2:=Int.pow_succ _ _;rw [Yt];omega
  ·rw [if_neg f_] at h7
   rw [←h7] at h;refine⟨by omega,?_⟩;rw [ba (n:=k' *2 ^ e') (by omega) (by omega),ba (by omega) (by omega)];exact h
def lenOf (s:Int):Int × Int:=if s=285 then (258,0) else yK (s - 257) 3 8 4
def bH (s:Int):Int × Int:=yK s 1 4 2
theorem mf {s:Int} (h:R (if s<257∨285<s then .tuple #[.int .i64 0,.int .i64 0,.bool false] else .tuple #[.int .i64 (lenOf s).1,.int .i64 (lenOf s).2,.bool true]) H):ab 210 #[.int .i64 s] H R:=by
 refine ES.vc _ _ _ ?_;simp only [a8,aZ,bc,aN,fC,ki];refine fun _=>av (fun hc=>?_) (fun hc=>?_)
 ·rw [if_pos hc] at h;exact h
 rw [if_neg hc] at h;refine av (fun f_=>?_) (fun f_=>?_)
 ·rw [lenOf,if_pos f_] at h;exact h
 ·rw [lenOf,if_neg f_] at h
  rw [ba (by omega) (by omega)];refine yL (by omega) (by omega) (by decide) (by decide) (by decide) (by decide) (by decide) (by decide) ?_;simp only [iq,agI,agB];exact h
theorem vN {s:Int} (h:R (if s<0∨29<s then .tuple #[.int .i64 0,.int .i64 0,.bool false] else .tuple #[.int .i64 (bH s).1,.int .i64 (bH s).2,.bool true]) H):ab 211 #[.int .i64 s] H R:=by
 refine KT.vc _ _ _ ?_;simp only [a8,aN,fC,ki];refine fun _=>av (fun hc=>?_) (fun hc=>?_)
 ·rw [if_pos hc] at h;exact h
 rw [if_neg hc] at h;refine yL (by omega) (by omega) (by decide) (by decide) (by decide) (by decide) (by decide) (by decide) ?_;simp only [iq,agI,agB];exact h
def findF (g:Int→Int × Int) (n:Int):Nat→Int→Int
 |0,s=>s
 |k+1,s=>if (g s).1≤n then s else findF g n k (s - 1)
abbrev QK (s b v:Int):Value:= .agg #[.int .i64 s,.int .i64 b,.int .u64 v]
theorem yM {g:Int→Int × Int} {fv:Value} {n first last:Int} (ME:first≤last) (h0:0≤first) (h1:last≤1000)
  (hg: ∀ (s:Int) (H:ai) (R:Value→ai→Prop),first≤s→s≤last→R (.tuple #[.int .i64 (g s).1,.int .i64 (g s).2,.bool true]) H→jk Tryz.prog Tryz.C fv [.int .i64 s] H R)
  (h: ∀H',Ext H H' →R (QK (findF g n (last - first).toNat last) (g (findF g n (last - first).toNat last)).2 (IntKind.u64.wrap (IntKind.i64.wrap (n - (g (findF g n (last - first).toNat last)).1)))) H'):
  ab 209 #[.int .i64 n,.int .i64 first,.int .i64 last,fv] H R:=by
 refine QG.vc _ _ _ _ _ _ ?_;refine eW fun H1 s1 e1 b1=>?_;refine⟨fun v H' => ∃ (s:Int) (k:Nat),v= .int .i64 s∧H1=H' ∧s=first+k∧s≤last∧findF g n k s=findF g n (last - first).toNat last,fun v _=>match v with| .int _ i=> (i - first).toNat|_=>0,⟨last,(last - first).toNat,rfl,rfl,by omega,by omega,rfl⟩,?_⟩;rintro _ _ _ ⟨s,k,rfl,rfl,hs,ik,NS⟩;simp only [eE,kG,ag1,agi,agt,ags,Nat.reduceAdd,Nat.reduceLeDiff,List.fD,dd,ahx,eh,bz,true_and,aZ,a8];refine av (fun hc=>?_) (fun hc=>?_)
 ·refine hg s _ _ (by omega) ik ?_
  simp only [true_and,iq,agI,agB,kG,ag1,agi,agt,ags,List.fD,dd,ahp,ahx,Nat.reduceAdd,eh,sG,aZ,bR,kp]
  match k,hs,NS with
  |0,hs,NS=>omega
  |k+1,hs,NS=>
   rw [findF] at NS;refine av (fun f_=>?_) (fun f_=>?_)
   ·rw [if_pos f_] at NS
    refine cL b1 (by rfl) (by rfl) (by rfl) fun H2 _ u2=>?_;rw [cK u2.at_ (by rfl)];have h:=h H2 (u2.ext e1 (aga _));rw [←NS] at h;exact h
   ·rw [if_neg f_] at NS
    rw [ba (by omega) (by omega)];exact⟨⟨s - 1,k,rfl,by omega,by omega,NS⟩,by show (_:Int).toNat< (_:Int).toNat;omega⟩
 ·refine hg first _ _ (by omega) ME ?_
  simp only [iq,agI,agB,kG,ag1,agi,agt,ags,List.fD,dd,ahp,ahx,Nat.reduceAdd,eh,sG,true_and,aZ,bR];have hk:k=0:=by omega
  subst hk;have Vy:s=first:=by omega
  subst Vy;refine cL b1 (by rfl) (by rfl) (by rfl) fun H2 _ u2=>?_;rw [cK u2.at_ (by rfl)];have h:=h H2 (u2.ext e1 (aga _));rw [←NS] at h;exact h
def g_ (n:Int):Int:=findF lenOf n 28 285
def iu (n:Int):Int:=findF bH n 29 29
def Lc (n:Int):Value:=if n<3∨258<n then QK 0 0 0 else QK (g_ n) (lenOf (g_ n)).2 (IntKind.u64.wrap (IntKind.i64.wrap (n - (lenOf (g_ n)).1)))
def Bv (n:Int):Value:=if n<1∨32768<n then QK 0 0 0 else QK (iu n) (bH (iu n)).2 (IntKind.u64.wrap (IntKind.i64.wrap (n - (bH (iu n)).1)))
theorem vO {n:Int} (h: ∀H',Ext H H' →R (Lc n) H'):ab 164 #[.int .i64 n] H R:=by
 refine KS.vc _ _ _ ?_;refine eW fun H1 s1 e1 b1=>?_;simp only [a8,bz,aN,fC,ki];refine fun _=>av (fun hc=>?_) (fun hc=>?_)
 ·refine cL b1 (by rfl) (by rfl) (by rfl) fun H2 _ u2=>?_
  rw [cK u2.at_ (by rfl)];have h:=h H2 (u2.ext e1 (aga _));rw [Lc,if_pos hc] at h;exact h
 ·refine yM (g:=lenOf) (by decide) (by decide) (by decide) (fun s H R gW lV hR=>?_) fun H2 e2=>?_
  ·refine mf ?_
   rw [if_neg (by omega)];exact hR
  ·refine cL (e2.fZ b1) (by rfl) (by rfl) (by rfl) fun H3 _ u3=>?_
   rw [cK u3.at_ (by rfl)];have h:=h H3 (u3.ext (e1.trans e2) (aga _));rw [Lc,if_neg hc] at h;exact h
theorem Bw {n:Int} (h: ∀H',Ext H H' →R (Bv n) H'):ab 165 #[.int .i64 n] H R:=by
 refine QF.vc _ _ _ ?_;refine eW fun H1 s1 e1 b1=>?_;simp only [a8,bz,aN,fC,ki];refine fun _=>av (fun hc=>?_) (fun hc=>?_)
 ·refine cL b1 (by rfl) (by rfl) (by rfl) fun H2 _ u2=>?_
  rw [cK u2.at_ (by rfl)];have h:=h H2 (u2.ext e1 (aga _));rw [Bv,if_pos hc] at h;exact h
 ·refine yM (g:=bH) (by decide) (by decide) (by decide) (fun s H R gW lV hR=>?_) fun H2 e2=>?_
  ·refine vN ?_
   rw [if_neg (by omega)];exact hR
  ·refine cL (e2.fZ b1) (by rfl) (by rfl) (by rfl) fun H3 _ u3=>?_
   rw [cK u3.at_ (by rfl)];have h:=h H3 (u3.ext (e1.trans e2) (aga _));rw [Bv,if_neg hc] at h;exact h
theorem rN (g:Int→Int × Int) (n:Int): ∀ (k:Nat) (s first:Int),s=first+k→(g first).1≤n→(∀s',s<s' →s' ≤s+1→True)→
  first≤findF g n k s∧findF g n k s≤s∧(g (findF g n k s)).1≤n∧(findF g n k s=s∨n< (g (findF g n k s+1)).1)
 |0,s,first,hs,hf,_=>by
  have:s=first:=by omega
  subst this;exact⟨ait _,ait _,hf,.inl rfl⟩
 |k+1,s,first,hs,hf,_=>by
  rw [findF]
  by_cases hc: (g s).1≤n
  ·rw [if_pos hc];exact⟨by omega,ait _,hc,.inl rfl⟩
  ·rw [if_neg hc]
   obtain⟨h1,h2,h3,h4⟩:=rN g n k (s - 1) first (by omega) hf (fun _ _ _=>trivial);refine⟨h1,by omega,h3,.inr ?_⟩;rcases h4 with h4|h4
   ·rw [h4,show s - 1+1=s by omega];omega
   ·exact h4
theorem Ld: ∀k:Fin 28,(lenOf (257+ ((k.val:Nat):Int)+1)).1≤(lenOf (257+ ((k.val:Nat):Int))).1+2 ^ (lenOf (257+ ((k.val:Nat):Int))).2.toNat∧0≤(lenOf (257+ ((k.val:Nat):Int))).2∧(lenOf (257+ ((k.val:Nat):Int))).2≤5:=by decide+kernel
theorem Ig: ∀k:Fin 30,(k.val<29→(bH (((k.val:Nat):Int)+1)).1≤(bH ((k.val:Nat):Int)).1+2 ^ (bH ((k.val:Nat):Int)).2.toNat)∧0≤(bH ((k.val:Nat):Int)).2∧(bH ((k.val:Nat):Int)).2≤13:=by decide+kernel
theorem nL {n:Int} (h0:3≤n) (h1:n≤258):257≤g_ n∧g_ n≤285∧(lenOf (g_ n)).1≤n∧n< (lenOf (g_ n)).1+2 ^ (lenOf (g_ n)).2.toNat∧0≤(lenOf (g_ n)).2∧(lenOf (g_ n)).2≤5:=by
 obtain⟨f1,f2,f3,f4⟩:=rN lenOf n 28 285 257 (by decide) (by rw [show (lenOf 257).1=3 by decide+kernel];omega) (fun _ _ _=>trivial);refine⟨f1,f2,f3,?_⟩
 change 257≤g_ n at f1
 change g_ n≤285 at f2
 change (lenOf (g_ n)).1≤n at f3
 change g_ n=285∨n< (lenOf (g_ n+1)).1 at f4
 generalize g_ n=s at*
 by_cases hs:s=285
 ·subst hs
  have e1: (lenOf 285).1=258:=by decide+kernel
  have e2: (lenOf 285).2=0:=by decide+kernel
  rw [e1,e2];exact⟨by simp;omega,by decide,by decide⟩
 ·have hk:=Ld ⟨(s - 257).toNat,by omega⟩
  dsimp only at hk
  rw [show (257:Int)+ (((s - 257).toNat:Nat):Int)=s by omega] at hk;refine⟨?_,hk.2⟩;rcases f4 with f4|f4<;>omega
theorem nM {n:Int} (h0:1≤n) (h1:n≤32768):0≤iu n∧iu n≤29∧(bH (iu n)).1≤n∧n< (bH (iu n)).1+2 ^ (bH (iu n)).2.toNat∧0≤(bH (iu n)).2∧(bH (iu n)).2≤13:=by
 obtain⟨f1,f2,f3,f4⟩:=rN bH n 29 29 0 (by decide) (by rw [show (bH 0).1=1 by decide+kernel];omega) (fun _ _ _=>trivial);refine⟨f1,f2,f3,?_⟩
 change 0≤iu n at f1
 change iu n≤29 at f2
 change (bH (iu n)).1≤n at f3
 change iu n=29∨n< (bH (iu n+1)).1 at f4
 generalize iu n=s at*;have hk:=Ig ⟨s.toNat,by omega⟩
 dsimp only at hk
 rw [show ((s.toNat:Nat):Int)=s by omega] at hk;refine⟨?_,hk.2⟩
 by_cases hs:s=29
 ·subst hs
  have e1: (bH 29).1=24577:=by decide+kernel
  have e2: (bH 29).2=13:=by decide+kernel
  rw [e1,e2];show n<24577+8192;omega
 ·have:=hk.1 (by omega)
  rcases f4 with f4|f4<;>omega
end
section
inductive Rs (α:Type) where
 |ok (a:α) (B:List Bool)
 |er (e:Int)
def Rs.bind {α β:Type}:Rs α→(α→List Bool→Rs β)→Rs β
 | .ok a B,f=>f a B
 | .er e,_=> .er e
def dY (n:Nat) (B:List Bool):Rs Nat:=if n≤B.length then .ok (gr (B.take n)) (B.drop n) else .er 2
open Classical in
noncomputable def fV (zs:List Int) (B:List Bool):Rs Nat:=
 if h: ∃s,hit (natL zs) B s then .ok h.choose (B.drop ((natL zs).getD h.choose 0)) else .er (if more (natL zs) (B.take 15) then 2 else 4)
def uL (s:Nat) (ah:List Int) (B:List Bool):Rs (Nat × Int):=
 if s=16 then (if ah= [] then .er 3 else (dY 2 B).bind fun n B=> .ok (3+n,ah.getD (ah.length - 1) 0) B)
 else if s=17 then (dY 3 B).bind fun n B=> .ok (3+n,0) B
 else if s=18 then (dY 7 B).bind fun n B=> .ok (11+n,0) B
 else .ok (1,(s:Int)) B
noncomputable def oo:Nat→List Int→Nat→List Int→List Bool→Rs (List Int)
 |0,_,_,_,_=> .er 1
 |k+1,zs,n,out,B=>if n≤out.length then .ok out B else
  (fV zs B).bind fun s B1=> (uL s out B1).bind fun r B2=>
  if n<out.length+r.1 then .er 20 else oo k zs n (out++List.replicate r.1 r.2) B2
def bI:List Nat:= [16,17,18,0,8,7,9,6,10,5,11,4,12,3,13,2,14,1,15]
def pE:List Nat→List Int→List Bool→Rs (List Int)
 | [],l,B=> .ok l B
 |s::r,l,B=> (dY 3 B).bind fun v B=>pE r (l.set s (v:Int)) B
noncomputable def CW (B:List Bool):Rs (List Int × List Int):=
 (dY 14 B).bind fun v B=>
 if 286<v%32+257∨30<v/32%32+1 then .er 20 else
 (pE (bI.take (v/1024+4)) (List.replicate 19 0) B).bind fun t B=>
 if gJ t false≠0 then .er (gJ t false) else
 (oo (v%32+257+ (v/32%32+1)+1) t (v%32+257+ (v/32%32+1)) [] B).bind fun l B=>
 if l.getD 256 0=0 then .er 12 else
 if gJ (l.take (v%32+257)) false≠0 then .er (gJ (l.take (v%32+257)) false) else
 if gJ (l.drop (v%32+257)) true≠0 then .er (gJ (l.drop (v%32+257)) true) else
 .ok (l.take (v%32+257),l.drop (v%32+257)) B
def gw:List Int:=List.replicate 144 8++List.replicate 112 9++List.replicate 24 7++List.replicate 8 8
def mg:List Int:=List.replicate 32 5
inductive St where
 |hd
 |cp (left:Nat) (last:Bool)
 |tl (sy di:List Int) (last:Bool)
 |dn
structure DM where
 (st:St) (B:List Bool) (W:List UInt8)
def gQ (B:List Bool):List Bool:=B.drop (B.length%8)
def ln (last:Bool) (B:List Bool) (W:List UInt8):DM:=if last then ⟨.dn,gQ B,W⟩ else ⟨.hd,B,W⟩
noncomputable def iY (B:List Bool):Rs St:= (dY 3 B).bind fun v B=>
 if v/2=0 then (dY 32 (gQ B)).bind fun x B=>if (x%65536) ^^^ (x/65536)≠65535 then .er 8 else .ok (.cp (x%65536) (decide (v%2=1))) B
 else if v/2=1 then .ok (.tl gw mg (decide (v%2=1))) B
 else if v/2=2 then (CW B).bind fun p B=> .ok (.tl p.1 p.2 (decide (v%2=1))) B
 else .er 3
noncomputable def iv (di:List Int) (s:Nat) (B:List Bool):Rs (Nat × Nat):=
 if 285<s then .er 4 else
 (dY (lenOf s).2.toNat B).bind fun x B=> (fV di B).bind fun k B=>
 if 29<k then .er 4 else (dY (bH k).2.toNat B).bind fun y B=> .ok ((lenOf s).1.toNat+x,(bH k).1.toNat+y) B
inductive SR where
 |go (D:DM) (o:List UInt8)
 |wait (D:DM) (o:List UInt8)
 |bad (e:Int)
def SR.of (D:DM) (e:Int):SR:=if e=2 then .wait D [] else .bad e
noncomputable def dg (D:DM):SR:=match D.st with
 | .hd=>match iY D.B with
  | .ok st B=> .go ⟨st,B,D.W⟩ []
  | .er e=>SR.of D e
 | .cp left last=>
  if min left ((gQ D.B).length/8)<left then .wait ⟨.cp (left - min left ((gQ D.B).length/8)) last,(gQ D.B).drop (8*min left ((gQ D.B).length/8)),D.W++bG ((gQ D.B).take (8*min left ((gQ D.B).length/8)))⟩ (bG ((gQ D.B).take (8*min left ((gQ D.B).length/8))))
  else .go (ln last ((gQ D.B).drop (8*left)) (D.W++bG ((gQ D.B).take (8*left)))) (bG ((gQ D.B).take (8*left)))
 | .tl sy di last=>match fV sy D.B with
  | .er e=>SR.of D e
  | .ok s B=>if s=256 then .go (ln last B D.W) [] else
   if s<256 then .go ⟨.tl sy di last,B,D.W++ [UInt8.ofNat s]⟩ [UInt8.ofNat s] else
   match iv di s B with
   | .er e=>SR.of D e
   | .ok p B=>if 1≤p.2∧p.2≤min D.W.length 32768 then .go ⟨.tl sy di last,B,cU p.1 D.W p.2⟩ ((cU p.1 D.W p.2).drop D.W.length) else .bad 6
 | .dn=> .wait D []
def St.tf:St→Bool
 | .dn=>true
 |_=>false
noncomputable def runM:Nat→DM→List UInt8 × DM × Int
 |0,D=> ([],D,0)
 |k+1,D=>if D.st.tf then ([],D,0) else match dg D with
  | .go D' o=> (o++ (runM k D').1,(runM k D').2)
  | .wait D' o=> (o,D',0)
  | .bad e=> ([],D,e)
def nN (D:DM):Nat:=2*D.B.length+ (match D.st with| .cp _ _=>1|_=>0)
noncomputable def run (D:DM):List UInt8 × DM × Int:=runM (nN D+1) D
theorem NT {n:Nat} {B:List Bool} {x:Nat} {C:List Bool} (h:dY n B= .ok x C):n≤B.length∧x=gr (B.take n)∧C=B.drop n:=by
 unfold dY at h
 split at h
 ·cases h;exact⟨by assumption,rfl,rfl⟩
 ·cases h
structure Rs.less {α:Type} (r:Rs α) (n:Nat):Prop where
 h:match r with
  | .ok _ C=>C.length≤n
  | .er e=>e≠0
theorem Rs.less.mono {α:Type} {r:Rs α} {n m:Nat} (h:r.less n) (hm:n≤m):r.less m:=by
 cases r with
 |ok a B=>exact⟨agJ h.h hm⟩
 |er e=>exact⟨h.h⟩
theorem Rs.less.seq {α β:Type} {r:Rs α} {f:α→List Bool→Rs β} {n m:Nat} (h:r.less n) (hf: ∀a C,C.length≤n→(f a C).less m): (r.bind f).less m:=by
 cases r with
 |ok a B=>exact hf a B h.h
 |er e=>exact⟨h.h⟩
theorem fW {α:Type} {e:Int} {n:Nat} (h:e≠0): (Rs.er e:Rs α).less n:= ⟨h⟩
theorem gM {α:Type} {x:α} {B:List Bool} {n:Nat} (h:B.length≤n): (Rs.ok x B).less n:= ⟨h⟩
theorem fx {k n:Nat} {B:List Bool} (h:B.length - k≤n): (dY k B).less n:=by
 unfold dY
 split
 ·exact gM (by rw [agl];exact h)
 ·exact fW (by decide)
theorem rO {zs:List Int} {B:List Bool}: (fV zs B).less (B.length - 1):=by
 unfold fV
 split
 ·rename_i hh
  have:=hh.choose_spec;have h1:=this.2.1;exact gM (by rw [agl];omega)
 ·exact fW (by split<;>decide)
theorem Le {s:Nat} {ah:List Int} {B:List Bool}: (uL s ah B).less B.length:=by
 unfold uL
 split
 ·split
  ·exact fW (by decide)
  ·exact(fx (n:=B.length) (by omega)).seq fun a C h=>gM h
 split
 ·exact(fx (n:=B.length) (by omega)).seq fun a C h=>gM h
 split
 ·exact(fx (n:=B.length) (by omega)).seq fun a C h=>gM h
 ·exact gM (aga _)
theorem yN: ∀ (k:Nat) (zs:List Int) (n:Nat) (out:List Int) (B:List Bool),(oo k zs n out B).less B.length
 |0,_,_,_,_=>fW (by decide)
 |k+1,zs,n,out,B=>by
  unfold oo
  split
  ·exact gM (aga _)
  ·refine rO.seq fun s C h=>Le.seq fun r E h2=>?_
   split
   ·exact fW (by decide)
   ·exact(yN k _ _ _ _).mono (by omega)
theorem yO: ∀ (r:List Nat) (l:List Int) (B:List Bool),(pE r l B).less B.length
 | [],_,_=>gM (aga _)
 |s::r,l,B=> (fx (n:=B.length) (by omega)).seq fun v C h=> (yO r _ _).mono h
theorem Lf {B:List Bool}: (CW B).less B.length:=by
 unfold CW;refine(fx (n:=B.length) (by omega)).seq fun v C h=>?_
 split
 ·exact fW (by decide)
 refine((yO _ _ C).mono h).seq fun t E h2=>?_
 split
 ·exact fW (by assumption)
 refine((yN _ _ _ _ E).mono h2).seq fun l F h3=>?_
 split
 ·exact fW (by decide)
 split
 ·exact fW (by assumption)
 split
 ·exact fW (by assumption)
 ·exact gM h3
theorem qs (B:List Bool): (gQ B).length≤B.length∧(gQ B).length=B.length - B.length%8:=by unfold gQ;rw [agl];omega
theorem Ih {B:List Bool}: (iY B).less (B.length - 3):=by
 unfold iY;refine(fx (n:=B.length - 3) (by omega)).seq fun v C h=>?_;have:=qs C
 split
 ·refine(fx (n:=B.length - 3) (by omega)).seq fun x E h2=>?_
  split
  ·exact fW (by decide)
  ·exact gM h2
 split
 ·exact gM h
 split
 ·exact(Lf.mono h).seq fun p E h2=>gM h2
 ·exact fW (by decide)
theorem vP {B:List Bool} {st:St} {C:List Bool} (h:iY B= .ok st C):C.length+3≤B.length:=by
 have h1:=Ih (B:=B);rw [h] at h1;unfold iY dY at h
 split at h
 ·have h1:C.length≤B.length - 3:=h1.h
  omega
 ·cases h
theorem uM {zs:List Int} {B:List Bool} {s:Nat} {C:List Bool} (h:fV zs B= .ok s C):C.length+1≤B.length:=by
 have h1:=rO (zs:=zs) (B:=B);rw [h] at h1;have h1:C.length≤B.length - 1:=h1.h;unfold fV at h
 split at h
 ·rename_i hh
  have g:=hh.choose_spec;have:=CT g;have:=g.2.1;omega
 ·cases h
theorem vQ {di:List Int} {s:Nat} {B:List Bool}: (iv di s B).less B.length:=by
 unfold iv
 split
 ·exact fW (by decide)
 refine(fx (n:=B.length) (by omega)).seq fun x C h=>?_;refine(rO.mono (show C.length - 1≤B.length by omega)).seq fun k E h2=>?_
 split
 ·exact fW (by decide)
 ·exact(fx (n:=B.length) (by omega)).seq fun y F h3=>gM h3
theorem Bx (last:Bool) (B:List Bool) (W:List UInt8):nN (ln last B W)≤2*B.length:=by
 unfold ln nN;have:=qs B
 split<;>simp<;>omega
theorem uN {D D' :DM} {o:List UInt8} (h:dg D= .go D' o):nN D' <nN D:=by
 obtain⟨st,B,W⟩:=D;unfold dg at h
 cases st with
 |hd=>
  dsimp only at h
  split at h
  ·rename_i st C hh
   cases h
   have:=vP hh;unfold nN
   dsimp only
   split<;>omega
  ·unfold SR.of at h;split at h<;>cases h
 |cp left last=>
  dsimp only at h
  split at h
  ·cases h
  ·cases h
   have:=Bx last ((gQ B).drop (8*left)) (W++bG ((gQ B).take (8*left)));have h2:=qs B;rw [agl] at this;unfold nN at this ⊢
   dsimp only at this ⊢
   omega
 |tl sy di last=>
  dsimp only at h
  split at h
  ·unfold SR.of at h;split at h<;>cases h
  ·rename_i s C hh
   have h1:=uM hh
   split at h
   ·cases h
    have:=Bx last C W;unfold nN at this ⊢
    dsimp only at this ⊢
    omega
   split at h
   ·cases h
    unfold nN
    dsimp only
    omega
   ·split at h
    ·unfold SR.of at h;split at h<;>cases h
    ·rename_i p E hm
     have h2:=vQ (di:=di) (s:=s) (B:=C);rw [hm] at h2;have h2:E.length≤C.length:=h2.h
     split at h
     ·cases h
      unfold nN
      dsimp only
      omega
     ·cases h
 |dn=>cases h
theorem E7: ∀ (k:Nat) (D:DM),nN D<k→runM k D=run D:=by
 have key: ∀ (k j:Nat) (D:DM),nN D<k→nN D<j→runM k D=runM j D:=by
  intro k
  induction k with
  |zero=>intro j D h;omega
  |succ k ih=>
   intro j D h hj
   cases j with
   |zero=>omega
   |succ j=>
    unfold runM
    split
    ·rfl
    ·split
     ·rename_i D' o hs
      have:=uN hs;rw [ih j D' (by omega) (by omega)]
     ·rfl
     ·rfl
 exact fun k D h=>key k _ D h (by omega)
theorem NU {D D' :DM} {o:List UInt8} (h:dg D= .go D' o):run D= (o++ (run D').1,(run D').2):=by
 have hn:D.st.tf=false:=by
  obtain⟨st,B,W⟩:=D
  cases st<;>first|rfl|cases h
 have:=uN h
 conv=>lhs;unfold run runM
 rw [hn,h];simp only [ahe,if_false];rw [E7 _ _ this]
theorem NV {D D' :DM} {o:List UInt8} (hn:D.st.tf=false) (h:dg D= .wait D' o):run D= (o,D',0):=by
 conv=>lhs;unfold run runM
 rw [hn,h];rfl
theorem QL {D:DM} {e:Int} (hn:D.st.tf=false) (h:dg D= .bad e):run D= ([],D,e):=by
 conv=>lhs;unfold run runM
 rw [hn,h];rfl
theorem NW {D:DM} (hn:D.st.tf=true):run D= ([],D,0):=by
 conv=>lhs;unfold run runM
 rw [hn];rfl
end
section
variable {α β:Type} {B C:List Bool} {zs:List Int}
structure Rs.Ex (r r' :Rs α) (C:List Bool):Prop where
 h:match r with
  | .ok a B=>r' = .ok a (B++C)
  | .er e=>e=2∨r' = .er e
theorem Rs.Ex.seq {r r' :Rs α} {f g:α→List Bool→Rs β} (h:r.Ex r' C) (hf: ∀a B,(f a B).Ex (g a (B++C)) C): (r.bind f).Ex (r'.bind g) C:=by
 obtain⟨h⟩:=h
 cases r with
 |ok a B=>dsimp only at h;subst h;exact hf a B
 |er e=>
  refine⟨?_⟩;rcases h with h|h
  ·exact .inl h
  ·subst h;exact .inr rfl
def w6 (zs:List Int):Prop:=okZ zs∧shareL (natL zs) 15≤32768
theorem By (hz:w6 zs) {s:Nat} (h:hit (natL zs) B s):fV zs B= .ok s (B.drop ((natL zs).getD s 0)):=by
 have hh: ∃s,hit (natL zs) B s:= ⟨s,h⟩;unfold fV;rw [dif_pos hh,QJ hz.2 (Br hz.1) hh.choose_spec h]
theorem JR {loose:Bool} (h:gJ zs loose=0):w6 zs:=by
 by_cases hz:okZ zs
 ·exact⟨hz,K8 hz h⟩
 ·rw [NF hz] at h;exact absurd h (by decide)
structure Rs.QM (r:Rs α) (P:α→Prop):Prop where
 h:match r with
  | .ok a _=>P a
  | .er _=>True
theorem Rs.QM.bind {r:Rs α} {f:α→List Bool→Rs β} {P:β→Prop} (hf: ∀a B,(f a B).QM P): (r.bind f).QM P:=by
 cases r with
 |ok a B=>exact hf a B
 |er e=>exact⟨trivial⟩
theorem NX {P:α→Prop} {e:Int}: (Rs.er e:Rs α).QM P:= ⟨trivial⟩
theorem Ii {P:α→Prop} {a:α} (h:P a): (Rs.ok a B).QM P:= ⟨h⟩
theorem CX:w6 gw:= ⟨⟨by decide+kernel,by decide+kernel⟩,by decide+kernel⟩
theorem CY:w6 mg:= ⟨⟨by decide+kernel,by decide+kernel⟩,by decide+kernel⟩
def DM.add (D:DM) (C:List Bool):DM:= ⟨D.st,D.B++C,D.W⟩
end
section
variable {H H0:ai} {R:Value→ai→Prop} {v:Value} {zs:List Int} {ls:List Nat} {B:List Bool} {L:List It} {b:Nat} {post:List Value} {t:TypeId}
def Vz (b:Nat) (post:List Value) (t:TypeId) (B:List Bool):jl where
 cN k:=k=b
 holds H:= ∃ (rest:List UInt8) (acc n:Nat),H[b]? =some (.cells (str rest::u64 acc::i64 n::post).toArray t (0,0))∧B=aU acc n++toBits rest∧acc<2 ^ n∧n<40∧B.length≤1152921504606846976
 frame:=fun h hf=>by
  obtain⟨rest,acc,n,h1,h2⟩:=h;exact⟨rest,acc,n,(hf b rfl).trans h1,h2⟩
 lt:=fun h hf=>by subst hf;obtain⟨rest,acc,n,h1,h2⟩:=h;exact bq h1
abbrev lp (b:Nat) (post:List Value) (t:TypeId) (B:List Bool):It:= .aA (Vz b post t B)
theorem pF (o:ar H0 H L) (dz:lp b post t B∈L):Rd H b 0 B:=by
 obtain⟨rest,acc,n,h1,h2,h3,h4,h5⟩:=o.aA dz;refine⟨⟨rest,acc,n,?_,h2,h3,h4⟩,h5⟩;exact(kl.all h1).part (x:= []) (y:= [str rest,u64 acc,i64 n]) (z:=post)
theorem _root_.Go.Vc.ar.rd {H' :ai} {B' :List Bool} {L' :List It} (o:ar H0 H L) (w:Rd H' b 0 B') (c:jB b 0 3 none_ none_ H H') (hr:aV (lp b post t B) (lp b post t B') L L'):ar H0 H' L' :=by
 obtain⟨rest,acc,n,h1,-⟩:=o.aA hr.mem;refine o.eX hr c.size (fun k hk hf=>c.ne k hk hf (fun h=>h)) ?_ (fun k hk=> .inl hk);obtain⟨⟨kq,eS,n',hs,h2,h3,h4⟩,h5⟩:=w;refine⟨kq,eS,n',?_,h2,h3,h4,h5⟩;obtain⟨cs,g1,g2,g3⟩:=c.fZ _ _ _ h1;obtain⟨p,q,t',k1,k2⟩:=hs;have hp:p= []:=by simpa using k1
 subst hp;rw [g1] at k2;simp only [agf,Obj.cells.injEq,agn] at k2;obtain⟨k2,k3,-⟩:=k2;have k2:=xj k2;subst k3;rw [g1,k2];have hq:q=post:=by
  apply agX;intro j;have:=g3 (3+j) (.inr (by omega));rw [k2,agQ (by simp)] at this;simp only [agi,agt,ags,Nat.reduceAdd,aiF] at this;rw [this,show 3+j=j+1+1+1 by omega];simp only [agI]
 rw [hq];rfl
theorem _root_.Go.Vc.ar.pl {K:Value→Prop} {g:Nat} {w:Value} (o:ar H0 H L) (dz:lp b post t B∈L) (h3:3≤g) (hw:post[g - 3]? =some w) (hk:K w):ak H (.pointer (some ⟨b,g,none⟩)) K:=by
 obtain⟨rest,acc,n,h1,-⟩:=o.aA dz;refine gF h1 ?_ hk;obtain⟨j,rfl⟩: ∃j,g=j+1+1+1:= ⟨g - 3,by omega⟩;simp only [agI]
 simpa using hw
theorem _root_.Go.Vc.ar.ps {K:Value→ai→Prop} {g:Nat} {x:Value} {L' :List It} (o:ar H0 H L) (hr:aV (lp b post t B) (lp b (post.set (g - 3) x) t B) L L') (h3:3≤g) (hg:g - 3<post.length) (hx:aK x=true) (hk: ∀H',ar H0 H' L' →H'.size=H.size→K undef H'):aF H (.pointer (some ⟨b,g,none⟩)) x K:=by
 obtain⟨rest,acc,n,h1,h2⟩:=o.aA hr.mem;refine gn h1 (by simp;omega) hx fun H' hs u=>hk H' (o.eX hr u.size (fun k hk df=>u.ne k hk (fun e=>df e)) ?_ (fun k hk=> .inl hk)) hs;refine⟨rest,acc,n,?_,h2⟩;rw [u.at_,aiu];obtain⟨j,rfl⟩: ∃j,g=j+1+1+1:= ⟨g - 3,by omega⟩;simp only [ahp,aif]
 simp
theorem _root_.Go.Vc.ar.p3 {K:Value→Prop} (o:ar H0 H L) (dz:lp b post t B∈L) (hk: ∀ (rest:List UInt8) (acc n:Nat),B=aU acc n++toBits rest→acc<2 ^ n→n<40→B.length≤1152921504606846976→K (.agg #[str rest,u64 acc,i64 n])):aE H 3 (.pointer (some ⟨b,0,none⟩)) K:=by
 obtain⟨rest,acc,n,h1,h2,h3,h4,h5⟩:=o.aA dz;have hs:= (kl.all h1).part (x:= []) (y:= [str rest,u64 acc,i64 n]) (z:=post);have hc:Reads H ⟨b,0,none⟩ [str rest,u64 acc,i64 n]:=fun i v hv=>by
  rw [al];have:=hs.cell (k:=i) hv
  simpa using this
 exact hc.fE (n:=3) rfl (hk rest acc n h2 h3 h4 h5)
theorem _root_.Go.Vc.ar.p3s {K:Value→ai→Prop} {rest:List UInt8} {acc n:Nat} {B' :List Bool} {L' :List It} (o:ar H0 H L) (hr:aV (lp b post t B) (lp b post t B') L L') (h2:B' =aU acc n++toBits rest) (h3:acc<2 ^ n) (h4:n<40) (h5:B'.length≤1152921504606846976)
  (hk: ∀H',ar H0 H' L' →H'.size=H.size→K undef H'):aC H 3 (.pointer (some ⟨b,0,none⟩)) (.agg #[str rest,u64 acc,i64 n]) K:=by
 obtain⟨R3,VA,n0,h1,-⟩:=o.aA hr.mem;have hs:=yb (new:= [str rest,u64 acc,i64 n]) (sp:= []) (l:=str R3::u64 VA::i64 n0::post) (b:=b) (j:=0) (.inl rfl) (by rw [agy];exact h1) rfl (by simp) rfl;rw [agy] at hs;have hp:iI (str R3::u64 VA::i64 n0::post) 0 [str rest,u64 acc,i64 n]=str rest::u64 acc::i64 n::post:=by
  simp [dd,eh]
 rw [hp] at hs;have hb:=bq h1;show aC H 3 _ (.agg [str rest,u64 acc,i64 n].toArray) K;simp only [aC,eV,hs];refine⟨by simp,hk _ (o.eX hr (by simp) (fun k hk df=>cD (fun e=>df e.symm)) ⟨rest,acc,n,bN hb,h2,h3,h4,h5⟩ (fun k hk=> .inl hk)) (by simp)⟩
theorem kN {n:Nat} (hn:n≤32) (o:ar H0 H (lp b post t B::L))
  (gl: ∀x C H',dY n B= .ok x C→x<2 ^ n→ar H0 H' (lp b post t C::L)→R (.tuple #[i64 x,.int .i64 0]) H')
  (lC:dY n B= .er 2→R (.tuple #[.int .i64 0,.int .i64 2]) H):ab 249 #[at_ b 0,i64 n] H R:=by
 refine CG.vc _ _ _ _ ?_;have hr:=pF o (af8)
 by_cases hl:n≤B.length
 ·refine yI (k:=n) hr hn hl fun H1 w c=>?_
  have cF:=sP (B.take n);rw [age,ag2 hl] at cF;have h32:2 ^ n≤2 ^ 32:=agA (by decide) hn;have hx:gr (B.take n)<4294967296:=by omega
  refine ag rfl ?_;refine ag rfl ?_;rw [db,ahn,aj];refine b7 ?_;rw [ba (by omega) (by omega)];exact gl _ _ H1 (by unfold dY;rw [if_pos hl]) cF (o.rd w c aV.here)
 ·refine NR hr (by omega) ?_
  refine ag rfl ?_;refine ag rfl ?_;rw [db,ahG,aD];exact lC (by unfold dY;rw [if_neg hl])
theorem Lg (hle: ∀k∈ls,k≤15) {s:Nat}:hit ls (B.take 15) s↔hit ls B s:=by
 have:=td hle s;unfold hit;rw [aiM,ag2 this]
open Classical in
theorem Ij {cb:Nat} {lv wv sv:Value} (hz:w6 zs) (o:ar H0 H (lp b post t B::L)) (m1:It.box cb (bU lv wv (cj (natL zs)) sv) 285∈L) (m2:It.sl wv 2 (ll (natL zs))∈L) (m3:It.sl sv 1 (lT (j3 (natL zs) 16))∈L)
  (gl: ∀s C H',fV zs B= .ok s C→s<zs.length→ar H0 H' (lp b post t C::L)→R (.tuple #[i64 s,.int .i64 0]) H')
  (lC: ∀e H',fV zs B= .er e→e≠0→ar H0 H' (lp b post t B::L)→R (.tuple #[.int .i64 0,.int .i64 e]) H'):
  ab 255 #[.pointer (some ⟨cb,0,none⟩),at_ b 0] H R:=by
 have hle:=Br hz.1;have ht:= @Lg (natL zs) B hle;have Yu:=td hle;refine wT.vc _ _ _ _ ?_;rw [cB];refine aO ?_;rw [cB];intro _;rw [aj];refine nK (pF o (by repeat(first|exact af8|apply af7))) ?_;rw [iV];obtain⟨n,hn⟩: ∃n,n=min B.length 15:= ⟨_,rfl⟩;rw [show min ((B.length:Nat):Int) 15= (n:Int) by omega];refine Ic (k:=n) (pF o (by repeat(first|exact af8|apply af7))) (by omega) (by omega) fun H1 w1 c1=>?_;have o:=o.rd w1 c1 aV.here;refine ag rfl ?_;refine ag rfl ?_;have hx:=sP (B.take n);have Bb: (B.take n).length=n:=by rw [age];omega
 have hb:aU (gr (B.take n)) n=B.take 15:=by
  have:=rB (B.take n);rw [Bb] at this;rw [this,hn];rcases Nat.le_total B.length 15 with g|g
  ·rw [ag2 g,agx (aga _),agx g]
  ·rw [Nat.min_eq_right g]
 rw [Bb] at hx;generalize gr (B.take n)=x at*;refine find_spec (x:=x) (n:=n) hz.1 hz.2 o (af7 _ m1) (af7 _ m3) hx (by omega) (fun s hh=>?_) (fun nt=>?_)
 ·rw [hb] at hh
  have hh:=ht.1 hh;have gW:=hh.2.1;have hlen:=CT hh;have Ux:=Yu s;refine ag rfl ?_;refine ag rfl ?_;rw [a8,decide_eq_true (by omega),aD];refine yI (k:= (natL zs).getD s 0) (pF o (by repeat(first|exact af8|apply af7))) (by omega) hlen fun H2 w2 c2=>?_;exact gl s _ H2 (By hz hh) (by have:=hh.1;rwa [fF] at this) (o.rd w2 c2 aV.here)
 ·rw [hb] at nt
  refine ag rfl ?_;refine ag rfl ?_;rw [a8,decide_eq_false (by decide),aj];refine K9 (x:=x) (n:=n) hz.1 o (af7 _ m1) (af7 _ m2) hx (by omega) fun H2 o=>?_;rw [hb];have Mz:fV zs B= .er (if more (natL zs) (B.take 15) then 2 else 4):=by
   unfold fV;rw [dif_neg (fun ⟨s,g⟩=>nt s (ht.2 g))]
  by_cases hm:more (natL zs) (B.take 15)
  ·rw [if_pos hm] at Mz
   rw [decide_eq_true hm,aD];exact lC 2 H2 Mz (by decide) o
  ·rw [if_neg hm] at Mz
   rw [decide_eq_false hm,aj];exact lC 4 H2 Mz (by decide) o
end
section
variable {H H0:ai} {R:Value→ai→Prop} {v:Value} {zs:List Int} {ls:List Nat} {B:List Bool} {L:List It} {b:Nat} {post:List Value} {t:TypeId}
theorem yP {l:List Int} {i:Nat} (h:i<l.length): (aH l)[i]? =some (.int .i64 (l.getD i 0)):=by
 rw [bM h,agd,agb h];rfl
theorem nO (l:List Int) (z:Int):aH l++ (Value.int .i64 z).cells.toList=aH (l++ [z]):=by rw [nG];rfl
theorem _root_.Go.Vc.ar.lW {i j:It} (o:ar H0 H (i::j::L)):ar H0 H (i::L):=o.pick (List.Sublist.cons_cons _ (ag_ _ _))
theorem _root_.Go.Vc.ar.swap {i j:It} (o:ar H0 H (i::j::L)):ar H0 H (j::i::L):=o.perm (List.Perm.swap ..)
theorem _root_.Go.Vc.ar.JS {l:List Value} (o:ar H0 H L) (h:It.sl v 1 l∈L):iJ v=some l.length:= (o.sl h).iJ (agh _).symm (by decide)
theorem _root_.Go.Vc.ar.qL {l:List Value} {K:Value→Prop} (o:ar H0 H L) (h:It.sl v 1 l∈L) (hk:K (.int .i64 (l.length:Int))):bV v K:= (o.sl h).len (agh _).symm (by decide) hk
abbrev E8 (n:Nat) (v:Value):Nat:=n - (iJ v).getD 0
theorem E9 {n a c:Nat} {v w:Value} (hv:iJ v=some a) (hw:iJ w=some c) (h:a<c) (hn:a<n):E8 n w<E8 n v:=by
 unfold E8;rw [hv,hw];simp only [ahi];omega
theorem _root_.Go.Vc.ar.mid {M:List It} {i:It} (o:ar H0 H (M++i::L)):ar H0 H (i:: (M++L)):=o.perm aiE.symm
theorem _root_.Go.Vc.ar.Lh (o:ar H0 H L):ar H0 H (.sl (.slice none 0 0) 1 []::L):=
 o.add (Ext.refl H) ⟨by decide,.inl ⟨rfl,rfl⟩⟩ (by intro k hk;exact absurd hk (by simp [It.cN,aS]))
def fe (L:List It) (zs:List Int) (p:Value):Prop:=w6 zs∧∃cb lv wv sv,p= .pointer (some ⟨cb,0,none⟩)∧∀i∈qo zs cb lv wv sv,i∈L
theorem fe.mono {L L' :List It} {p:Value} (h:fe L zs p) (hm: ∀i∈L,i∈L'):fe L' zs p:=by
 obtain⟨h1,cb,lv,wv,sv,h2,h3⟩:=h;exact⟨h1,cb,lv,wv,sv,h2,fun i hi=>hm i (h3 i hi)⟩
theorem fe.cons {i:It} {L:List It} {p:Value} (h:fe L zs p):fe (i::L) zs p:=h.mono fun _=>af7 _
theorem fe.app {M L:List It} {p:Value} (h:fe L zs p):fe (M++L) zs p:=h.mono fun _=>ahY _
theorem fe.l_ {M L:List It} {p:Value} (h:fe M zs p):fe (M++L) zs p:=h.mono fun _=>ahJ _
theorem rP {p:Value} (hc:fe L zs p) (o:ar H0 H (lp b post t B::L))
  (gl: ∀s C H',fV zs B= .ok s C→s<zs.length→ar H0 H' (lp b post t C::L)→R (.tuple #[i64 s,.int .i64 0]) H')
  (lC: ∀e H',fV zs B= .er e→e≠0→ar H0 H' (lp b post t B::L)→R (.tuple #[.int .i64 0,.int .i64 e]) H'):
  ab 255 #[p,at_ b 0] H R:=by
 obtain⟨h1,cb,lv,wv,sv,rfl,h3⟩:=hc;exact Ij h1 o (h3 _ (by repeat(first|exact af8|apply af7))) (h3 _ (by repeat(first|exact af8|apply af7))) (h3 _ (by repeat(first|exact af8|apply af7))) gl lC
theorem fM {loose:Bool} {v:Value} (o:ar H0 H L) (hs:Sl H v 1 (aH zs)) (hlen:zs.length≤1000)
  (nt: ∀H',gJ zs loose≠0→ar H0 H' L→R (.tuple #[.pointer none,.int .i64 (gJ zs loose)]) H')
  (rL: ∀H' M p,gJ zs loose=0→fe M zs p→ar H0 H' (M++L)→R (.tuple #[p,.int .i64 0]) H'):ab 162 #[v,.bool loose] H R:=
 K4 hs (by have:maxLen=9223372036854775807:=rfl;omega) (fun H' hx h=>nt H' h (o.more hx)) (fun H' b lv wv sv c hz h=>rL H' (qo zs b lv wv sv) _ h ⟨JR h,b,lv,wv,sv,rfl,fun i hi=>hi⟩ (o.call c))
theorem fH {K:Value→Prop} (h:K (.bool false)):ea 0 (.int .i64 0) (.int .i64 0) K:=h
theorem j4 {e:Int} {K:Value→Prop} (he:e≠0) (h:K (.bool true)):ea 0 (.int .i64 e) (.int .i64 0) K:=by
 rw [cA,decide_eq_true he];exact h
theorem E_ {e t:TypeId} {K:Value→ai→Prop} {l2:Value} {nv up:Nat} {zs:List Int} (o:ar H0 H (.sl l2 1 (aH zs)::L)) (hz:zs.length≤up) (hup:up≤288)
  (hk: ∀l H',ar H0 H' (.sl l 1 (aH (zs++List.replicate (up - zs.length) (nv:Int)))::L)→K l H'):
  bs H t (.agg #[(.int .i64 0),(.int .i64 0)]) fun x5 Xl=>
  aC Xl 2 x5 (.agg #[i64 nv,i64 up]) fun _ H_5=>
  ∃ (Yv:Value→ai→Prop) (m_7:Value→ai→Nat),Yv l2 H_5∧
  ∀_:Env,∀MF :Value,∀UA:ai,Yv MF UA→
  bV MF fun x19=>
  aa 1 x5 fun x20=>
  ak UA x20 fun Yw=>
  cq x19 Yw fun Yx=>
  ao Yx
  (aa 0 x5 fun VB=>
  ak UA VB fun UB=>
  aY UA e 1 [(.int .i64 0)] [(0,1,UB)] fun Yy H_9=>
  bj H_9 e 1 8 [(.int .i64 0)] MF Yy fun PV QO=>
  Yv PV QO∧m_7 PV QO<m_7 MF UA)
  (K MF UA):=by
 refine o.box fun c H1 o hc=>?_
 change ar H0 H1 (.box c [.int .i64 0,.int .i64 0] t::_) at o
 refine o.br (vs:= [i64 nv,i64 up]) (by repeat(first|exact af8|apply af7)) rfl rfl rfl (by repeat(first|exact aV.here|apply aV.there)) fun H2 o _=>?_;refine⟨fun MF H' => ∃j,zs.length+j≤up∧ar H0 H' (.box c [i64 nv,i64 up] t:: .sl MF 1 (aH (zs++List.replicate j (nv:Int)))::L),fun v _=>E8 1000 v,⟨0,by omega,by simpa using o⟩,?_⟩;rintro _ MF H3 ⟨j,hj,o⟩;have hlen: (aH (zs++List.replicate j (nv:Int))).length=zs.length+j:=by rw [aL,af9,agF]
 have Xm:=o.JS (v:=MF) (by repeat(first|exact af8|apply af7));refine o.qL (v:=MF) (by repeat(first|exact af8|apply af7)) ?_;rw [ae,al];refine o.aw (b:=c) (f:=0+1) (by repeat(first|exact af8|apply af7)) rfl ?_;rw [aN];refine av (fun hc=>?_) (fun hc=>?_)
 ·rw [ae,al]
  refine o.aw (b:=c) (f:=0+0) (by repeat(first|exact af8|apply af7)) rfl ?_;refine o.dj (by decide) rfl rfl fun y H4 o=>?_;refine o.app (v:=MF) (x:=y) (by repeat(first|exact bw.here|apply bw.there)) (o.sl (by repeat(first|exact af8|apply af7))) (by rfl) (by rw [hlen];show 2* (zs.length+j+1)*8≤_;omega) fun y2 H5 o=>?_;rw [nO,agc,←aiP] at o;have NY:=o.JS (v:=y2) (by repeat(first|exact af8|apply af7));rw [aL] at NY;refine⟨⟨j+1,by omega,o.lW.swap⟩,?_⟩;refine E9 Xm NY ?_ ?_<;>rw [hlen]<;>first|omega| (rw [af9,agF];omega)
 ·have:j=up - zs.length:=by omega
  subst this;exact hk MF H3 (o.pick (ag_ _ _))
theorem Fa:gJ gw false=0:=by
 rw [uE CX.1,if_neg (by decide+kernel),if_neg (by decide+kernel)]
theorem Fb:gJ mg false=0:=by
 rw [uE CY.1,if_neg (by decide+kernel),if_neg (by decide+kernel)]
def fixUp:Nat→Nat
 |0=>0|1=>144|2=>256|3=>280|_=>288
def Tl:Nat→Nat
 |0=>8|1=>9|2=>7|_=>8
theorem Fc: ∀i:Fin 4,gw.take (fixUp i.val)++List.replicate (fixUp (i.val+1) - fixUp i.val) (Tl i.val:Int)=gw.take (fixUp (i.val+1))∧(gw.take (fixUp i.val)).length=fixUp i.val∧fixUp i.val≤fixUp (i.val+1)∧fixUp (i.val+1)≤288:=by decide+kernel
theorem Ik (o:ar H0 H L) (h: ∀H' M p q,fe M gw p→fe M mg q→ar H0 H' (M++L)→R (.tuple #[p,q]) H'):ab 251 #[] H R:=by
 refine rE.vc _ _ ?_;refine dm rfl rfl ?_;refine dm rfl rfl ?_;refine dm rfl rfl ?_;refine dm rfl rfl ?_;simp only [eE,bz,eV,dd,eh,ahx,ahp,agi,agt,Nat.reduceAdd,Nat.reduceLeDiff,true_and];refine⟨rfl,rfl,rfl,rfl,?_⟩;refine⟨fun l u H' => ∃i:Nat,u=i64 i∧i≤4∧ar H0 H' (.sl l 1 (aH (gw.take (fixUp i)))::L),fun _ u _=>match u with| .int _ i=> (4 - i).toNat|_=>0,⟨0,rfl,by omega,o.Lh⟩,?_⟩;rintro _ l2 _ H3 ⟨i,rfl,hi,o⟩;rw [aN];refine av (fun hc=>?_) (fun hc=>?_)
 ·have QP:i<4:=by omega
  obtain⟨e1,e2,e3,e4⟩:=Fc ⟨i,QP⟩
  dsimp only at e1 e2 e3 e4
  have hx: ∀K:Value→Prop,K (.agg #[i64 (Tl i),i64 (fixUp (i+1))])→jV 4 2 (.agg [Value.int .i64 8,.int .i64 144,.int .i64 9,.int .i64 256,.int .i64 7,.int .i64 280,.int .i64 8,.int .i64 288].toArray) (i64 i) K:=by
   intro K hK;refine⟨by omega,by omega,?_⟩;rw [af_]
   match i,QP with
   |0,_=>exact hK
   |1,_=>exact hK
   |2,_=>exact hK
   |3,_=>exact hK
  refine hx _ ?_;refine E_ o (by rw [e2];exact e3) e4 fun l H4 o=>?_;rw [e2,e1] at o;rw [az,ba (by omega) (by omega)];exact⟨⟨i+1,rfl,by omega,o⟩,by show (_:Int).toNat< (_:Int).toNat;omega⟩
 have QP:i=4:=by omega
 subst QP;rw [show gw.take (fixUp 4)=gw by decide+kernel] at o;refine⟨fun d u H' => ∃i:Nat,u=i64 i∧i≤32∧ar H0 H' (.sl d 1 (aH (List.replicate i 5)):: .sl l2 1 (aH gw)::L),fun _ u _=>match u with| .int _ i=> (32 - i).toNat|_=>0,⟨0,rfl,by omega,o.Lh⟩,?_⟩;rintro _ d3 _ H4 ⟨i,rfl,hi,o⟩;rw [aN];refine av (fun hc=>?_) (fun hc=>?_)
 ·refine o.dj (by decide) rfl rfl fun y H5 o=>?_
  refine o.app (v:=d3) (x:=y) (by repeat(first|exact bw.here|apply bw.there)) (o.sl (by repeat(first|exact af8|apply af7))) (by rfl) (by rw [aL,agF];show 2* (i+1)*8≤_;omega) fun y2 H6 o=>?_;rw [nO,←aiP] at o;rw [az,ba (by omega) (by omega)];exact⟨⟨i+1,rfl,by omega,o.lW⟩,by show (_:Int).toNat< (_:Int).toNat;omega⟩
 have Tm:i=32:=by omega
 subst Tm;refine fM (zs:=gw) o (o.sl (by repeat(first|exact af8|apply af7))) (by decide+kernel) (fun H5 hw=>absurd Fa hw) fun H5 M p _ hp o=>?_;refine ag rfl ?_;refine ag rfl ?_;have o:=o.pick (ahO (ahq M) (List.Sublist.cons_cons _ (ag_ _ L)));refine fM (zs:=mg) o (o.sl (v:=d3) (ahY _ (by repeat(first|exact af8|apply af7)))) (by decide+kernel) (fun H5 hw=>absurd Fb hw) fun H6 M2 q _ hq o=>?_;refine ag rfl ?_;refine ag rfl ?_;have o:=o.pick (ahO (ahq M2) (ahO (ahq M) (ag_ _ L)));rw [←agc] at o;exact h H6 (M2++M) p q hp.app hq.l_ o
theorem xm {v k:Nat} {m:Int} (hk:k≤62) (hm:m=2 ^ k - 1):bitsOf .and .i64 (v:Int) m= ((v%2 ^ k:Nat):Int):=by
 rw [nx hk hm]
 push_cast
 rfl
theorem Fe {s:Nat} {ah:List Int} {v:Value} (o:ar H0 H (lp b post t B::L)) (hS:Sl H v 1 (aH ah)) (hl:ah.length≤1000)
  (gl: ∀k z C H',uL s ah B= .ok (k,z) C→1≤k→k≤138→ar H0 H' (lp b post t C::L)→R (.tuple #[i64 k,.int .i64 z,.int .i64 0]) H')
  (lC: ∀e x z H',uL s ah B= .er e→e≠0→ar H0 H' (lp b post t B::L)→R (.tuple #[x,z,.int .i64 e]) H'):ab 295 #[at_ b 0,i64 s,v] H R:=by
 refine yp.vc _ _ _ _ _ ?_;refine⟨fun le ex va H' => ∃ (l0 n0:Nat) (z:Int),le=i64 l0∧ex=i64 n0∧va= .int .i64 z∧H' =H∧1≤l0∧l0≤11∧n0≤7∧uL s ah B= (dY n0 B).bind fun n B=> .ok (l0+n,z) B,?_,?_⟩
 ·rintro _ _ _ _ _ ⟨l0,n0,z,rfl,rfl,rfl,rfl,h1,h2,h3,hr⟩
  refine kN (n:=n0) (by omega) o (fun x C H1 hx cF o=>?_) (fun hx=>?_)
  ·refine ag rfl ?_
   refine ag rfl ?_;have h7:2 ^ n0≤2 ^ 7:=agA (by decide) h3;rw [az,show (l0:Int)+ (x:Int)= ((l0+x:Nat):Int) by omega,ba (by omega) (by omega)];rw [hx] at hr;exact gl _ _ C H1 hr (by omega) (by omega) o
  ·refine ag rfl ?_
   refine ag rfl ?_;rw [az];rw [hx] at hr;exact lC 2 _ _ _ hr (by decide) o
 ·rw [bc]
  refine av (fun hc=>?_) (fun hc=>?_)
  ·have hs:s=16:=by omega
   refine hS.len (agh _).symm (by decide) ?_;rw [bc,aL];refine av (fun h0=>?_) (fun h0=>?_)
   ·have:ah= []:=ajy.1 (by omega)
    exact lC 3 _ _ H (by unfold uL;rw [if_pos hs,if_pos this]) (by decide) o
   ·refine hS.len (agh _).symm (by decide) ?_
    rw [aL,aZ,show (ah.length:Int) - 1= ((ah.length - 1:Nat):Int) by omega,ba (by omega) (by omega)];refine hS.at_ (n:=ah.length) (by rw [aL];omega) (by decide) (by omega) (by omega) fun p hp=>?_;refine hp.load hS (w:= .int .i64 (ah.getD (ah.length - 1) 0)) ?_ ?_
    ·rw [af_,agh];exact yP (by omega)
    ·refine⟨3,2,_,rfl,rfl,rfl,rfl,by decide,by decide,by decide,?_⟩
     unfold uL;rw [if_pos hs,if_neg (fun g=>h0 (by rw [g];rfl))]
  rw [bc];refine av (fun f_=>?_) (fun f_=>?_)
  ·refine⟨3,3,0,rfl,rfl,rfl,rfl,by decide,by decide,by decide,?_⟩
   unfold uL;rw [if_neg (by omega),if_pos (by omega)]
  rw [bc];refine av (fun Ar=>?_) (fun Ar=>?_)
  ·refine⟨11,7,0,rfl,rfl,rfl,rfl,by decide,by decide,by decide,?_⟩
   unfold uL;rw [if_neg (by omega),if_neg (by omega),if_pos (by omega)]
  ·exact gl 1 (s:Int) B H (by unfold uL;rw [if_neg (by omega),if_neg (by omega),if_neg (by omega)]) (by decide) (by decide) o
theorem AN {n:Nat} {p:Value} (hn:n≤400) (hc:fe L zs p) (o:ar H0 H (lp b post t B::L))
  (gl: ∀l C v H',oo (n+1) zs n [] B= .ok l C→l.length=n→ar H0 H' (lp b post t C:: .sl v 1 (aH l)::L)→R (.tuple #[v,.int .i64 0]) H')
  (lC: ∀e C H',oo (n+1) zs n [] B= .er e→e≠0→ar H0 H' (lp b post t C::L)→R (.tuple #[.slice none 0 0,.int .i64 e]) H'):ab 276 #[at_ b 0,p,i64 n] H R:=by
 generalize hT:oo (n+1) zs n [] B=T at*;refine wN.vc _ _ _ _ _ ?_;refine⟨fun v H' => ∃k out C,oo k zs n out C=T∧n<k+out.length∧out.length≤n∧ar H0 H' (lp b post t C:: .sl v 1 (aH out)::L),fun v _=>E8 1000 v,⟨n+1,[],B,hT,by simp,by simp,o.Lh.swap⟩,?_⟩;rintro _ NZ H1 ⟨k,out,C,hk,cF,hle,o⟩;have Xm:=o.JS (v:=NZ) (by repeat(first|exact af8|apply af7));rw [aL] at Xm;obtain⟨k,rfl⟩: ∃j,k=j+1:= ⟨k - 1,by omega⟩;unfold oo at hk;refine o.qL (v:=NZ) (by repeat(first|exact af8|apply af7)) ?_;rw [aL,aN];refine av (fun vB=>?_) (fun vB=>?_)
 ·rw [if_neg (by omega)] at hk
  refine rP hc.cons o (fun s C1 H2 hs ik o=>?_) (fun e H2 hs he o=>?_)
  ·rw [hs] at hk
   refine ag rfl ?_;refine ag rfl ?_;refine fH ?_;rw [aj];refine Fe o (o.sl (v:=NZ) (by repeat(first|exact af8|apply af7))) (by omega) (fun k1 z C2 H3 hr h1 h2 o=>?_) (fun e x z H3 hr he o=>?_)
   ·simp only [Rs.bind,hr] at hk
    refine ag rfl ?_;refine ag rfl ?_;refine ag rfl ?_;refine fH ?_;rw [aj];refine o.qL (v:=NZ) (by repeat(first|exact af8|apply af7)) ?_;rw [aL,aZ,show (n:Int) - (out.length:Int)= ((n - out.length:Nat):Int) by omega,ba (by omega) (by omega),a8];refine av (fun f_=>?_) (fun f_=>?_)
    ·rw [if_pos (by omega)] at hk
     exact lC 20 C2 H3 hk.symm (by decide) o.lW
    ·rw [if_neg (by omega)] at hk
     refine⟨fun v u H' => ∃i:Nat,u=i64 i∧i≤k1∧ar H0 H' (lp b post t C2:: .sl v 1 (aH (out++List.replicate i z))::L),fun _ u _=>match u with| .int _ i=> (k1 - i).toNat|_=>0,⟨0,rfl,by omega,by simpa using o⟩,?_⟩;rintro _ v _ H4 ⟨i,rfl,hi,o⟩;rw [aN];refine av (fun Ar=>?_) (fun Ar=>?_)
     ·refine o.dj (by decide) rfl rfl fun y H5 o=>?_
      refine o.app (v:=v) (x:=y) (by repeat(first|exact bw.here|apply bw.there)) (o.sl (by repeat(first|exact af8|apply af7))) (by rfl) (by rw [aL,af9,agF];show 2* (out.length+i+1)*8≤_;omega) fun y2 H6 o=>?_;rw [nO,agc,←aiP] at o;rw [az,ba (by omega) (by omega)];exact⟨⟨i+1,rfl,by omega,o.lW.swap⟩,by show (_:Int).toNat< (_:Int).toNat;omega⟩
     ·have:i=k1:=by omega
      subst this;have NY:=o.JS (v:=v) (by repeat(first|exact af8|apply af7));rw [aL,af9,agF] at NY;refine⟨⟨k,_,C2,hk,by rw [af9,agF];omega,by rw [af9,agF];omega,o⟩,E9 Xm NY (by omega) (by omega)⟩
   ·simp only [Rs.bind,hr] at hk
    refine ag rfl ?_;refine ag rfl ?_;refine ag rfl ?_;refine j4 he ?_;rw [aD];exact lC e C1 H3 hk.symm he o.lW
  ·rw [hs] at hk
   refine ag rfl ?_;refine ag rfl ?_;refine j4 he ?_;rw [aD];exact lC e C H2 hk.symm he o.lW
 ·rw [if_pos (by omega)] at hk
  exact gl out C NZ H1 hk.symm (by omega) o
end
section
variable {H H0 H' :ai} {R:Value→ai→Prop} {L:List It}
theorem iF {b f n:Nat} {cs ws:List Value} {t:TypeId} {fr:Nat × Nat} {K:Value→Prop} (h:H[b]? =some (.cells cs.toArray t fr)) (hw: (cs.drop f).take n=ws) (hf:f+n≤cs.length) (hk:K (.agg ws.toArray)):aE H n (.pointer (some ⟨b,f,none⟩)) K:=by
 simp only [aE,lM (o:=f) (cs:=cs.toArray) (t:=t) (fr:=fr) h n (by simpa using hf)];rw [hw];exact hk
structure uO (s:List UInt8):Prop where
 len:s.length≤100
 ne:s≠ []
 low: ∀x∈s,x.toNat<128
 ok: ∀ (H:ai) (R:Value→ai→Prop),(∀H',Ext H H' →R (.int .i64 0) H')→ab 143 #[str s] H R
structure Hd where
 nm:List UInt8
 t:T6
 p:Nat
 z:Nat
 u:Nat
 a:Nat
 k:Bool
def Hd.cells (h:Hd):List Value:= [str h.nm,.int .i64 h.t.y,.int .i64 h.t.m,.int .i64 h.t.d,.int .i64 h.t.h,.int .i64 h.t.n,.int .i64 h.t.s,.int .u64 (h.p:Int),.int .u64 (h.z:Int),.int .u32 (h.u:Int),.int .u64 (h.a:Int),.bool h.k]
abbrev Hd.v (h:Hd):Value:= .agg h.cells.toArray
structure N2 (h:Hd):Prop where
 nm:uO h.nm
 t:j0 h.t=true
 p:h.p≤1000000
 z:h.z≤1000000
 u:h.u<4294967296
 a:h.a≤100000000
 k:h.k=true→h.p=0∧h.z=0
theorem Il {s:List UInt8} (hl:s.length≤100) (hs: ∀x∈s,x.toNat<128) (h:R (.bool true) H):ab 196 #[str s] H R:=by
 refine HK.vc _ _ _ ?_;refine aJ ?_;refine⟨fun i H' => ∃k:Nat,i= .int .i64 (k:Int)∧k≤s.length∧H=H',fun i _=>match i with| .int _ x=> (s.length - x).toNat|_=>0,⟨0,rfl,by omega,rfl⟩,?_⟩;rintro _ _ _ ⟨k,rfl,hk,rfl⟩;rw [aN];refine av (fun hc=>?_) (fun hc=>?_)
 ·have Kr:k<s.length:=by omega
  rw [cf,bu];refine⟨by omega,by omega,?_⟩;rw [af_,show s.getD k 0=s[k] by rw [agd,agb Kr];rfl];have:=hs _ (agj Kr);rw [dP,decide_eq_false (by omega),aj,az,ba (by omega) (by omega)];exact⟨⟨k+1,rfl,by omega,rfl⟩,by show (_:Int).toNat< (_:Int).toNat;omega⟩
 ·exact h
theorem nP {x:Hd} (g:N2 x) (h: ∀H',Ext H H' →R (.bool true) H'):ab 95 #[x.v] H R:=by
 have g1:=g.p;have g2:=g.z;have g3:=g.a;have g4:=g.k;refine AD.vc _ _ _ ?_;refine(ar.start (H:=H)).box fun b H1 o _=>?_;have o:ar H H1 [.box b x.cells 44]:=o;rw [ae,al];refine o.aw (b:=b) (f:=0+11) (w:= .bool x.k) (by repeat(first|exact af8|apply af7)) rfl ?_;refine dM (d:=false) (fun hk=>?_) ?_
 ·obtain⟨e1,e2⟩:=g4 hk
  rw [ae,al];refine o.aw (b:=b) (f:=0+7) (w:= .int .u64 (x.p:Int)) (by repeat(first|exact af8|apply af7)) rfl ?_;rw [cA,decide_eq_false (by simp [e1])];refine aO ?_;rw [ae,al];refine o.aw (b:=b) (f:=0+8) (w:= .int .u64 (x.z:Int)) (by repeat(first|exact af8|apply af7)) rfl ?_;rw [cA,decide_eq_false (by simp [e2])];intro _;exact⟨rfl,rfl⟩
 intro _;rw [aiQ,aj,ae,al];refine o.aw (b:=b) (f:=0+0) (w:=str x.nm) (by repeat(first|exact af8|apply af7)) rfl ?_;refine g.nm.ok _ _ fun H2 hx=>?_;have o:=o.more hx;rw [bc,decide_eq_true rfl];refine bB ?_;rw [ae,al];refine iF (o.fZ (b:=b) (cs:=x.cells) (t:=44) (by repeat(first|exact af8|apply af7))) (ws:=x.t.cells.toList) (by rfl) (agm rfl) ?_;refine qj (t:=x.t) fun H3 q7=>?_;have o:=o.more q7;rw [g.t];intro _;refine bB ?_;rw [ae,al];refine o.aw (b:=b) (f:=0+7) (w:= .int .u64 (x.p:Int)) (by repeat(first|exact af8|apply af7)) rfl ?_;rw [aN,decide_eq_true (by omega)];intro _;refine bB ?_;rw [ae,al];refine o.aw (b:=b) (f:=0+8) (w:= .int .u64 (x.z:Int)) (by repeat(first|exact af8|apply af7)) rfl ?_;rw [aN,decide_eq_true (by omega)];intro _;refine bB ?_;rw [ae,al];refine o.aw (b:=b) (f:=0+10) (w:= .int .u64 (x.a:Int)) (by repeat(first|exact af8|apply af7)) rfl ?_;rw [aN,decide_eq_true (by omega)];intro _;exact h H3 o.ext
theorem lq {x:Hd} (g:N2 x) (h: ∀H',Ext H H' →R (.bool false) H'):ab 139 #[x.v] H R:=by
 have g1:=g.p;have g2:=g.z;refine CK.vc _ _ _ ?_;refine(ar.start (H:=H)).box fun b H1 o _=>?_;have o:ar H H1 [.box b x.cells 44]:=o;rw [ae,al];refine o.aw (b:=b) (f:=0+8) (w:= .int .u64 (x.z:Int)) (by repeat(first|exact af8|apply af7)) rfl ?_;rw [a8,decide_eq_false (by omega)];refine aO ?_;rw [ae,al];refine o.aw (b:=b) (f:=0+7) (w:= .int .u64 (x.p:Int)) (by repeat(first|exact af8|apply af7)) rfl ?_;rw [a8,decide_eq_false (by omega)];intro _;exact h H1 o.ext
theorem tg (h: ∀H',Ext H H' →R (str (aQ 20 2)) H'):ab 146 #[.bool false] H R:=by
 refine vH.vc _ _ _ ?_;rw [aj];exact bJ (n:=20) (k:=2) (by decide) (by decide) (by decide) h
theorem j5 {n:Nat} (hn:n<18446744073709551616) (h: ∀H',Ext H H' →R (str (aQ n 4)) H'):ab 148 #[.int .u64 (n:Int),.bool false] H R:=by
 refine yz.vc _ _ _ _ ?_;rw [aj];exact bJ (n:=n) (k:=4) hn (by decide) (by decide) h
def oq (t:T6):Nat:= (n8 t).toNat
def ou (t:T6):Nat:= (n9 t).toNat
theorem wrap_u64 (n:Int):0≤IntKind.u64.wrap n∧IntKind.u64.wrap n<18446744073709551616:=by
 have h1:=aio n (show (18446744073709551616:Int)≠0 by decide);have h2:=aiH n (show (0:Int)<18446744073709551616 by decide);exact⟨h1,h2⟩
theorem yQ (t:T6):n8 t= ((oq t:Nat):Int)∧oq t<18446744073709551616:=by
 have h:0≤n8 t∧n8 t<18446744073709551616:=wrap_u64 _;unfold oq;omega
theorem yR (t:T6):n9 t= ((ou t:Nat):Int)∧ou t<18446744073709551616:=by
 have h:0≤n9 t∧n9 t<18446744073709551616:=wrap_u64 _;unfold ou;omega
def Hd.tj (h:Hd):Nat:=if h.k then 0 else 8
def lX (h:Hd):List UInt8:=aQ h.tj 2++aQ h.tj 2++aQ (ou h.t) 2++aQ (oq h.t) 2
theorem j7 (h:Hd): (lX h).length=8:=by unfold lX;simp [ay]
theorem vR {x:Hd} (g:N2 x) (h: ∀H',Ext H H' →R (str (lX x)) H'):ab 147 #[x.v] H R:=by
 obtain⟨d1,d2⟩:=yQ x.t;obtain⟨t1,t2⟩:=yR x.t;refine wO.vc _ _ _ ?_;refine(ar.start (H:=H)).box fun b H1 o _=>?_;have o:ar H H1 [.box b x.cells 44]:=o;refine⟨fun f m H' =>f= .int .u64 ((x.tj:Nat):Int)∧m= .int .u64 ((x.tj:Nat):Int)∧H1=H',?_,?_⟩
 ·rintro _ _ _ _ ⟨rfl,rfl,rfl⟩
  refine⟨fun f H' =>f= .int .u64 ((x.tj:Nat):Int)∧H1=H',?_,?_⟩
  ·rintro _ _ _ ⟨rfl,rfl⟩
   have hm:x.tj<18446744073709551616:=by unfold Hd.tj;split<;>decide
   rw [ae,al];refine iF (o.fZ (b:=b) (cs:=x.cells) (t:=44) (by repeat(first|exact af8|apply af7))) (ws:=x.t.cells.toList) (by rfl) (agm rfl) ?_;refine HE (t:=x.t) fun H2 kO=>?_;rw [if_pos g.t,d1,t1];refine ag (vs:= [_,_,_]) rfl ?_;refine ag (vs:= [_,_,_]) rfl ?_;refine ag (vs:= [_,_,_]) rfl ?_;refine bJ (n:=x.tj) (k:=2) hm (by decide) (by decide) fun H3 q7=>?_;refine bJ (n:=x.tj) (k:=2) hm (by decide) (by decide) fun H4 oQ=>?_;refine aP (by simp [ay]) ?_;refine bJ (n:=ou x.t) (k:=2) t2 (by decide) (by decide) fun H5 uP=>?_;refine aP (by simp [ay]) ?_;refine bJ (n:=oq x.t) (k:=2) d2 (by decide) (by decide) fun H6 vS=>?_;refine aP (by simp [ay]) ?_;exact h H6 (((((o.ext.trans kO).trans q7).trans oQ).trans uP).trans vS)
  ·rw [ae,al]
   refine o.aw (b:=b) (f:=0+0) (w:=str x.nm) (by repeat(first|exact af8|apply af7)) rfl ?_;refine Il g.nm.len g.nm.low ?_;rw [db];show ao (.bool false) _ _;rw [aj];exact⟨rfl,rfl⟩
 ·rw [ae,al]
  refine o.aw (b:=b) (f:=0+11) (w:= .bool x.k) (by repeat(first|exact af8|apply af7)) rfl ?_;unfold Hd.tj
  cases x.k
  ·rw [aj];exact⟨rfl,rfl,rfl⟩
  ·rw [aD];exact⟨rfl,rfl,rfl⟩
def eM (h:Hd):List UInt8:= [80,75,3,4]++aQ 20 2++lX h++List.replicate 12 0++aQ h.nm.length 2++aQ 0 2++h.nm
theorem rQ (h:Hd): (eM h).length=30+h.nm.length:=by unfold eM;simp [ay,j7];omega
theorem yS {c:Nat} (hc:c≤100) (h: ∀H',Ext H H' →R (str (List.replicate c 0)) H'):ab 50 #[str [0],.int .i64 (c:Int)] H R:=by
 refine lP (s:= [0]) (by omega) (by simp;omega) fun H' hx=>?_;rw [lg];exact h H' hx
theorem nQ {x:Hd} (g:N2 x) (h: ∀H',Ext H H' →R (str (eM x)) H'):ab 96 #[x.v] H R:=by
 have PW:=g.nm.len;have dX:=j7 x;refine yx.vc _ _ _ ?_;refine(ar.start (H:=H)).box fun b H1 o _=>?_;have o:ar H H1 [.box b x.cells 44]:=o;refine o.bf (b:=b) (by repeat(first|exact af8|apply af7)) rfl ?_;refine nP g fun H2 kO=>?_;have o:=o.more kO;rw [db];show ao (.bool false) _ _;rw [aj];refine o.bf (b:=b) (by repeat(first|exact af8|apply af7)) rfl ?_;refine o.bf (b:=b) (by repeat(first|exact af8|apply af7)) rfl ?_;refine lq g fun H3 q7=>?_;have o:=o.more q7;refine⟨o.bf (b:=b) (by repeat(first|exact af8|apply af7)) rfl rfl,?_⟩;refine tg fun H4 oQ=>?_;have o:=o.more oQ;refine⟨o.bf (b:=b) (by repeat(first|exact af8|apply af7)) rfl rfl,?_⟩;refine aP (by simp [ay]) ?_;refine vR g fun H5 uP=>?_;have o:=o.more uP;refine aP (by simp [ay,dX]) ?_;refine o.bf (b:=b) (by repeat(first|exact af8|apply af7)) rfl ?_;refine lq g fun H6 vS=>?_;have o:=o.more vS;rw [aj,ae,al];refine o.aw (b:=b) (f:=0+0) (w:=str x.nm) (by repeat(first|exact af8|apply af7)) rfl ?_;refine aJ ?_;refine b7 ?_;rw [cR (by omega) (by omega),ae,al];refine o.aw (b:=b) (f:=0+0) (w:=str x.nm) (by repeat(first|exact af8|apply af7)) rfl ?_;refine yS (c:=12) (by decide) fun H7 QQ=>?_;have o:=o.more QQ;refine⟨o.aw (b:=b) (f:=0+0) (by repeat(first|exact af8|apply af7)) rfl rfl,o.aw (b:=b) (f:=0+0) (by repeat(first|exact af8|apply af7)) rfl rfl,?_⟩;refine aP (by simp [ay,dX]) ?_;refine bJ (n:=x.nm.length) (k:=2) (by omega) (by decide) (by decide) fun H8 N3=>?_;have o:=o.more N3;refine⟨o.aw (b:=b) (f:=0+0) (by repeat(first|exact af8|apply af7)) rfl rfl,?_⟩;refine aP (by simp [ay,dX]) ?_;refine bJ (n:=0) (k:=2) (by decide) (by decide) (by decide) fun H9 VC=>?_;have o:=o.more VC;refine⟨o.aw (b:=b) (f:=0+0) (by repeat(first|exact af8|apply af7)) rfl rfl,?_⟩;refine aP (by simp [ay,dX]) ?_;refine aP (by simp [ay,dX];omega) ?_;exact h H9 o.ext
def dK (h:Hd):List UInt8:=if h.k then [] else [80,75,7,8]++aQ h.u 4++aQ h.p 4++aQ h.z 4
theorem nR {x:Hd} (g:N2 x) (h: ∀H',Ext H H' →R (str (dK x)) H'):ab 97 #[x.v] H R:=by
 have g1:=g.p;have g2:=g.z;have g3:=g.u;refine yy.vc _ _ _ ?_;refine(ar.start (H:=H)).box fun b H1 o _=>?_;have o:ar H H1 [.box b x.cells 44]:=o;refine o.bf (b:=b) (by repeat(first|exact af8|apply af7)) rfl ?_;refine nP g fun H2 kO=>?_;have o:=o.more kO;rw [db];show d_ (.bool false) _ _ _;refine aO ?_;rw [ae,al];refine o.aw (b:=b) (f:=0+11) (w:= .bool x.k) (by repeat(first|exact af8|apply af7)) rfl ?_;intro _;refine cy (fun hk=>?_) (fun hk=>?_)
 ·have e:dK x= []:=by unfold dK;rw [hk];rfl
  rw [e] at h;exact h H2 o.ext
 ·have e:dK x= [80,75,7,8]++aQ x.u 4++aQ x.p 4++aQ x.z 4:=by unfold dK;rw [hk];rfl
  rw [e] at h;refine⟨fun s H' =>s= .int .i64 4∧ar H H' [.box b x.cells 44],?_,?_⟩
  ·clear o
   rintro _ _ H3 ⟨rfl,o⟩;rw [ae,al];refine o.aw (b:=b) (f:=0+9) (w:= .int .u32 (x.u:Int)) (by repeat(first|exact af8|apply af7)) rfl ?_;refine b7 ?_;rw [cR (by omega) (by omega),ae,al];refine o.aw (b:=b) (f:=0+7) (w:= .int .u64 (x.p:Int)) (by repeat(first|exact af8|apply af7)) rfl ?_;rw [ae,al];refine o.aw (b:=b) (f:=0+8) (w:= .int .u64 (x.z:Int)) (by repeat(first|exact af8|apply af7)) rfl ?_;refine bJ (n:=x.u) (k:=4) (by omega) (by decide) (by decide) fun H4 oQ=>?_;have o:=o.more oQ;refine⟨o.aw (b:=b) (f:=0+7) (by repeat(first|exact af8|apply af7)) rfl rfl,o.aw (b:=b) (f:=0+8) (by repeat(first|exact af8|apply af7)) rfl rfl,?_⟩;refine aP (by simp [ay]) ?_;refine bJ (n:=x.p) (k:=4) (by omega) (by decide) (by decide) fun H5 uP=>?_;have o:=o.more uP;refine⟨o.aw (b:=b) (f:=0+8) (by repeat(first|exact af8|apply af7)) rfl rfl,?_⟩;refine aP (by simp [ay]) ?_;refine bJ (n:=x.z) (k:=4) (by omega) (by decide) (by decide) fun H6 vS=>?_;have o:=o.more vS;refine aP (by simp [ay]) ?_;exact h H6 o.ext
  ·refine o.bf (b:=b) (by repeat(first|exact af8|apply af7)) rfl ?_
   refine lq g fun H3 q7=>?_;rw [aj];exact⟨rfl,o.more q7⟩
end
section
variable {H H0 H' :ai} {R:Value→ai→Prop} {L:List It} {s:List UInt8}
theorem Im (hl:s.length≤8) (hs: ∀x∈s,x.toNat<128) (h:R (.bool true) H):ab 192 #[str s] H R:=by
 refine utf8_ValidString.vc _ _ _ ?_;refine⟨fun t H' => ∃k:Nat,t=str (s.drop k)∧k≤s.length∧H=H',fun t _=>match t with| .string b=>b.size|_=>0,⟨0,by simp,by omega,rfl⟩,?_⟩;rintro _ _ _ ⟨k,rfl,hk,rfl⟩;refine aJ ?_;rw [agl,a8];refine av (fun hc=>?_) (fun hc=>?_)
 ·have Kr:k<s.length:=by omega
  rw [cf,bu];refine⟨by decide,by rw [agl];omega,?_⟩;have hx: (s.drop k).getD (0:Int).toNat 0=s[k]:=by
   rw [agd,ag7,show k+ (0:Int).toNat=k from rfl,agb Kr];rfl
  rw [hx];have:=hs _ (agj Kr);rw [aN,decide_eq_true (by omega),aD];refine bg (lo:=1) (hi:= (s.drop k).length) (.inl rfl) (.inr ⟨rfl,rfl⟩) (by rw [agl];omega) (aga _) ?_;rw [ahc,agx (by rw [agl,agl];omega)];refine aJ ?_;rw [agl,a8,decide_eq_false (by omega),cW];intro _;rw [aj];refine⟨⟨k+1,rfl,by omega,rfl⟩,?_⟩;show (ByteArray.mk (s.drop (k+1)).toArray).size< (ByteArray.mk (s.drop k).toArray).size;show (s.drop (k+1)).toArray.size< (s.drop k).toArray.size;rw [ag1,ag1,agl,agl];omega
 ·exact h
def dh (c:UInt8):List UInt8:= [c,47,102,105,108,101]
theorem Li {a b:UInt8} (h:dh a=dh b):a=b:=by
 unfold dh at h
 simpa using h
theorem Ff {c:UInt8} (hc:c≠47): ∀k,k<6→(((dh c).getD k 0).toNat=47↔k=1):=by
 intro k hk;have h0:c.toNat≠47:=fun e=>hc (UInt8.toNat_inj.1 e)
 match k,hk with
 |0,_=>exact⟨fun e=>absurd e h0,fun e=>by omega⟩
 |1,_=>exact⟨fun _=>rfl,fun _=>rfl⟩
 |2,_=>exact⟨fun e=>absurd (show (102:UInt8).toNat=47 from e) (by decide),fun e=>by omega⟩
 |3,_=>exact⟨fun e=>absurd (show (105:UInt8).toNat=47 from e) (by decide),fun e=>by omega⟩
 |4,_=>exact⟨fun e=>absurd (show (108:UInt8).toNat=47 from e) (by decide),fun e=>by omega⟩
 |5,_=>exact⟨fun e=>absurd (show (101:UInt8).toNat=47 from e) (by decide),fun e=>by omega⟩
def mS (r:Nat) (m:List UInt8→Option Value):jl where
 cN k:=k=r
 holds H:=Go.Vc.cZ strKeys H r m
 frame:=fun h hf=>h.sI (hf r rfl)
 lt:=fun h hf=>by obtain rfl:=hf;exact h.lt
def mN (cs:List UInt8):List UInt8→Option Value:=fun k=>if k∈cs.map dh then some (.bool true) else none
def mD (cs:List UInt8):List UInt8→Option Value:=fun k=>if k∈cs.map fun c=> [c] then some (.bool true) else none
theorem N4 {cs:List UInt8} {k:List UInt8} (h:k∉cs.map dh):mN cs k=none:=if_neg h
theorem R4 {cs:List UInt8} {k:List UInt8} (h:k∉cs.map fun c=> [c]):mD cs k=none:=if_neg h
theorem Tn (cs:List UInt8) (c:UInt8):rr strKeys (mN cs) (dh c) (some (.bool true))=mN (cs++ [c]):=by
 funext k
 unfold rr mN
 by_cases h:k=dh c
 ·subst h;simp
 ·rw [if_neg (by simpa using h)]
  congr 1
  simp only [agU,aha,List.map_nil,agv,agH,h,or_false]
theorem To (cs:List UInt8) (c:UInt8):rr strKeys (mD cs) [c] (some (.bool true))=mD (cs++ [c]):=by
 funext k
 unfold rr mD
 by_cases h:k= [c]
 ·subst h;simp
 ·rw [if_neg (by simpa using h)]
  congr 1
  simp only [agU,aha,List.map_nil,agv,agH,h,or_false]
theorem QR {cs:List UInt8} {k:List UInt8} (h:k.length=1):k∉cs.map dh:=fun hm=>by
 obtain⟨c,_,rfl⟩:=agP.1 hm
 simp [dh] at h
theorem QS {cs:List UInt8} {k:List UInt8} (h:k.length=6):k∉cs.map fun c=> [c]:=fun hm=>by
 obtain⟨c,_,rfl⟩:=agP.1 hm
 simp at h
abbrev lY (b r1 r2:Nat) (n d:List UInt8→Option Value) (L:List It):List It:= .box b [.map (some r1),.map (some r2)] 214:: .aA (mS r1 n):: .aA (mS r2 d)::L
theorem Io {b r1 r2:Nat} {cs:List UInt8} {c:UInt8} (hc:c≠47) (hn:c∉cs) (o:ar H0 H (lY b r1 r2 (mN cs) (mD cs) L)) (h:R (.bool false) H):ab 144 #[at_ b 0,str (dh c)] H R:=by
 have Vl:dh c∉cs.map dh:=fun hm=>by
  obtain⟨d,hd,e⟩:=agP.1 hm;exact hn (Li e ▸ hd)
 refine om.vc _ _ _ _ ?_;rw [au,ae,al];refine o.aw (b:=b) (f:=0+0) (w:= .map (some r1)) (by repeat(first|exact af8|apply af7)) rfl ?_;refine Go.Vc.cZ.lookup (κ:=strKeys) (o.aA (T:=mS r1 (mN cs)) (by repeat(first|exact af8|apply af7))) (k:=dh c) ?_;rw [cond_false,N4 Vl];refine aO ?_;rw [au,ae,al];refine o.aw (b:=b) (f:=0+1) (w:= .map (some r2)) (by repeat(first|exact af8|apply af7)) rfl ?_;refine Go.Vc.cZ.lookup (κ:=strKeys) (o.aA (T:=mS r2 (mD cs)) (by repeat(first|exact af8|apply af7))) (k:=dh c) ?_;rw [cond_false,R4 (QS rfl)];intro _;show ao (.bool false) _ _;rw [aj];refine aJ ?_;refine⟨fun i H' => ∃k:Nat,i= .int .i64 (k:Int)∧k≤6∧H=H',fun i _=>match i with| .int _ x=> (6 - x).toNat|_=>0,⟨0,rfl,by omega,rfl⟩,?_⟩;rintro _ _ _ ⟨k,rfl,hk,rfl⟩;have h6: (dh c).length=6:=rfl;rw [aN];refine av (fun f_=>?_) (fun f_=>?_)
 ·have QT:k<6:=by omega
  have x6:=Ff hc k QT;rw [cf,bu];refine⟨by omega,by omega,?_⟩;rw [af_,cf,bu];refine⟨by decide,by decide,?_⟩;rw [bc];refine dM (d:=false) (fun h1=>?_) ?_
  ·have lD:k=1:=x6.1 (by
    have:=of_decide_eq_true h1;show _=47;exact Int.ofNat.inj this)
   subst lD;rw [au,ae,al];refine o.aw (b:=b) (f:=0+0) (w:= .map (some r1)) (by repeat(first|exact af8|apply af7)) rfl ?_;refine bg (lo:=0) (hi:=1) (.inr ⟨rfl,rfl⟩) (.inl rfl) (by decide) (by rw [h6];decide) ?_;refine Go.Vc.cZ.lookup (κ:=strKeys) (o.aA (T:=mS r1 (mN cs)) (by repeat(first|exact af8|apply af7))) (k:= ((dh c).drop 0).take (1 - 0)) ?_;rw [cond_false,N4 (QR rfl)];exact⟨rfl,rfl⟩
  intro _;rw [aiQ,aj,az,ba (by omega) (by omega)];exact⟨⟨k+1,rfl,by omega,rfl⟩,by show (_:Int).toNat< (_:Int).toNat;omega⟩
 ·exact h
theorem N5 {b r1 r2:Nat} {cs:List UInt8} {c:UInt8} (hc:c≠47) (o:ar H0 H (lY b r1 r2 (mN cs) (mD cs) L)) (h: ∀H',ar H0 H' (lY b r1 r2 (mN (cs++ [c])) (mD (cs++ [c])) L)→R (.tuple #[]) H'):ab 145 #[at_ b 0,str (dh c)] H R:=by
 refine qY.vc _ _ _ _ ?_;rw [au,ae,al];refine o.aw (b:=b) (f:=0+0) (w:= .map (some r1)) (by repeat(first|exact af8|apply af7)) rfl ?_;refine Go.Vc.cZ.set (κ:=strKeys) (o.aA (T:=mS r1 (mN cs)) (by repeat(first|exact af8|apply af7))) (k:=dh c) fun H2 hm hs df=>?_;rw [Tn] at hm;have o:ar H0 H2 (lY b r1 r2 (mN (cs++ [c])) (mD cs) L):=o.eX (i:= .aA (mS r1 (mN cs))) (i' := .aA (mS r1 (mN (cs++ [c])))) (by repeat(first|exact aV.here|apply aV.there)) (by omega) (fun k _ hf=>df k hf) hm (fun k hk=> .inl hk);refine aJ ?_;refine⟨fun i H' => ∃k:Nat,i= .int .i64 (k:Int)∧k≤6∧ar H0 H' (lY b r1 r2 (mN (cs++ [c])) (mD (if k≤1 then cs else cs++ [c])) L),fun i _=>match i with| .int _ x=> (6 - x).toNat|_=>0,⟨0,rfl,by omega,o⟩,?_⟩;clear o;rintro _ _ H3 ⟨k,rfl,hk,o⟩;have h6: (dh c).length=6:=rfl;rw [aN];refine av (fun f_=>?_) (fun f_=>?_)
 ·have QT:k<6:=by omega
  have x6:=Ff hc k QT;rw [cf,bu];refine⟨by omega,by omega,?_⟩;rw [af_,cf,bu];refine⟨by decide,by decide,?_⟩;rw [bc];refine av (fun h1=>?_) (fun h1=>?_)
  ·have lD:k=1:=x6.1 (Int.ofNat.inj h1)
   subst lD;rw [if_pos (aga 1)] at o;rw [au,ae,al];refine o.aw (b:=b) (f:=0+1) (w:= .map (some r2)) (by repeat(first|exact af8|apply af7)) rfl ?_;refine bg (lo:=0) (hi:=1) (.inr ⟨rfl,rfl⟩) (.inl rfl) (by decide) (by rw [h6];decide) ?_;refine Go.Vc.cZ.set (κ:=strKeys) (o.aA (T:=mS r2 (mD cs)) (by repeat(first|exact af8|apply af7))) (k:= [c]) fun H4 hm hs df=>?_;rw [To] at hm;have o:ar H0 H4 (lY b r1 r2 (mN (cs++ [c])) (mD (cs++ [c])) L):=o.eX (i:= .aA (mS r2 (mD cs))) (i' := .aA (mS r2 (mD (cs++ [c])))) (by repeat(first|exact aV.here|apply aV.there)) (by omega) (fun k _ hf=>df k hf) hm (fun k hk=> .inl hk);rw [az,ba (by decide) (by decide)];exact⟨⟨2,rfl,by decide,o⟩,by show (_:Int).toNat< (_:Int).toNat;decide⟩
  ·have lD:k≠1:=fun e=>h1 (by have:=x6.2 e;show ((_:Nat):Int)=47;omega)
   rw [az,ba (by omega) (by omega)];refine⟨⟨k+1,rfl,by omega,?_⟩,by show (_:Int).toNat< (_:Int).toNat;omega⟩;have e: (if k+1≤1 then cs else cs++ [c])=if k≤1 then cs else cs++ [c]:=by
    by_cases h0:k=0
    ·subst h0;rfl
    ·rw [if_neg (by omega),if_neg (by omega)]
   rw [e];exact o
 ·have:k=6:=by omega
  subst this;exact h H3 o
theorem tk {v:Value} {cs:List UInt8} (hs:Sl H v 1 (cH (cs.map dh))) (hl:cs.length≤100) (hd:cs.Nodup) (hc: ∀c∈cs,c≠47∧uO (dh c)) (h: ∀H',Ext H H' →R (.tuple #[.int .i64 0,.int .i64 0]) H'):ab 93 #[v] H R:=by
 have dI: (cH (cs.map dh)).length=cs.length*1:=by rw [eY,agw,agh]
 refine ER.vc _ _ _ ?_;refine hs.len dI (by decide) ?_;rw [a8,decide_eq_false (by omega),aj];refine mI strKeys fun H1 UC kr _=>?_;have e1: (fun _=>none)=mN []:=by funext k;exact(N4 (by simp)).symm
 have e2: (fun _=>none)=mD []:=by funext k;exact(R4 (by simp)).symm
 rw [e1] at UC;have o:= (ar.start (H:=H)).add kr (i:= .aA (mS H.size (mN []))) UC (by intro k hk;obtain rfl:k=H.size:=hk;exact aga _);generalize H.size=r1 at o;refine mI strKeys fun H2 Lb kO _=>?_;rw [e2] at Lb;have o:=o.add kO (i:= .aA (mS H1.size (mD []))) Lb (by intro k hk;obtain rfl:k=H1.size:=hk;exact aga _);generalize H1.size=r2 at o;refine aM rfl (by decide) ?_;refine aM rfl (by simp) ?_;rw [bz];refine o.box fun b H3 o _=>?_;have o:ar H H3 (lY b r1 r2 (mN []) (mD []) []):=o.arr (by repeat(first|exact cC.nil|exact bw.here|apply cC.cons|apply bw.there));refine hs.len dI (by decide) ?_;refine⟨fun i H' => ∃k:Nat,i= .int .i64 (k:Int)∧k≤cs.length∧ar H H' (lY b r1 r2 (mN (cs.take k)) (mD (cs.take k)) []),fun i _=>match i with| .int _ x=> (cs.length - x).toNat|_=>0,⟨0,rfl,by omega,o⟩,?_⟩;clear o;rintro _ _ H4 ⟨k,rfl,hk,o⟩;rw [aN];refine av (fun f_=>?_) (fun f_=>?_)
 ·have fG:k<cs.length:=by omega
  have La:=hs.ext o.ext;obtain⟨g1,g2⟩:=hc _ (agj fG);have me:cs.take (k+1)=cs.take k++ [cs[k]]:=by rw [agz,agb fG];rfl
  have SV:cs[k] ∉cs.take k:=fun hm=>by
   obtain⟨j,hj,e⟩:=ahZ hm;rw [age] at hj;rw [ai_] at e;exact ajA.1 hd j k (by omega) fG (by omega) e
  refine La.at_ dI (by decide) (by omega) (by omega) fun p hp=>?_;refine hp.load La (w:=str (dh cs[k])) (by rw [af_,agh,qk (by rw [agw];exact fG),ah0]) ?_;refine g2.ok _ _ fun H5 uP=>?_;have o:=o.more uP;refine fH ?_;rw [aj];refine Io g1 SV o ?_;rw [aj];refine N5 g1 o fun H6 o=>?_;rw [←me] at o;rw [az,ba (by omega) (by omega)];exact⟨⟨k+1,rfl,by omega,o⟩,by show (_:Int).toNat< (_:Int).toNat;omega⟩
 ·exact h H4 o.ext
end
end Go.Proofs.YtpcgccdmmoggmaaGreatDoor
namespace Go.Vc
open Go
section
abbrev j8 (fn:FuncId) (tmps:Array Value) (ps:Array Tmp) (assign body:Code) (d:Nat) (st:LoopState) (pe:Option Code):Loop:= {state:=st,pending:=pe,fn:=fn,tmps:=tmps,params:=ps,assign:=assign,body:=body,defers:=d}
theorem yT {n:Nat} {P:Program} {g:Operand} {ps:Array Tmp} {assign body:Code} {Q:Exit→Act→World→Prop} {a:Act} {w:World} {gf:Nat} {lb:Array Value} (hg:a.eval g= .func (.func gf) #[] lb) (eg: ∀args w,(callFunc gf args).run P w= .ok (.enter gf args) w)
  (h: ∀ (fn:FuncId) (W1:World),W1= (w.alloc (.deferred (some []))).alloc (.loop (j8 fn a.tmps ps assign body w.heap.size .ready none))→
   W1.heap[w.heap.size+1]? =some (.loop (j8 fn a.tmps ps assign body w.heap.size .ready none))→W1.heap[w.heap.size]? =some (.deferred (some []))→Ext w.heap W1.heap→Go.Vc.b0 w W1→
   CallsIn Fence.wide (n - 1) P gf (#[.func (.yield (w.heap.size+1)) #[] #[]]++lb) W1 fun e W' => ∃v st pe,e= .returned v∧W'.heap[w.heap.size+1]? =some (.loop (j8 fn a.tmps ps assign body w.heap.size st pe))∧st≠ .busy∧
    (match pe with
     |none=>Q .normal {a with defers:= {target:= .collected w.heap.size,args:= #[]}::a.defers} (W'.putObj (w.heap.size+1) (.loop (j8 fn a.tmps ps assign body w.heap.size .exhausted none)))
     |some c=>c.wpIn Fence.wide n P Q {a with defers:= {target:= .collected w.heap.size,args:= #[]}::a.defers} (W'.putObj (w.heap.size+1) (.loop (j8 fn a.tmps ps assign body w.heap.size .exhausted (some c)))))):
  (Code.rangeFunc g ps assign body).wpIn Fence.wide n P Q a w:=by
 refine wpIn_rangeFunc ?_;intro fn MG;obtain⟨W1,UD⟩: ∃W1,(w.alloc (.deferred (some []))).alloc (.loop (j8 fn a.tmps ps assign body w.heap.size .ready none))=W1:= ⟨_,rfl⟩;have Yz:W1.heap[w.heap.size+1]? =some (.loop (j8 fn a.tmps ps assign body w.heap.size .ready none)):=by
  rw [←UD];have:=World.alloc_heap_new (w.alloc (.deferred (some []))) (.loop (j8 fn a.tmps ps assign body w.heap.size .ready none));rwa [World.size_alloc] at this
 have hK1:W1.heap[w.heap.size]? =some (.deferred (some [])):=by
  rw [←UD];exact(Go.RowKit.Below.heap_alloc _ _ _ (by simp)).trans (World.alloc_heap_new w _)
 have kr:Ext w.heap W1.heap:=by
  rw [←UD];exact(Ext.refl _).push.push
 have wz:Go.Vc.b0 w W1:=by
  rw [←UD];exact⟨rfl,rfl,rfl,fun _=>aga _⟩
 refine⟨w.heap.size+1,[{target:= .collected w.heap.size,args:= #[]}],W1,{target:= .fn (.func gf) lb,args:= #[.func (.yield (w.heap.size+1)) #[] #[]]},W1,gf,
  #[.func (.yield (w.heap.size+1)) #[] #[]]++lb,W1,?_,?_,?_,?_,fun h=>by simp [Fence.wide] at h,?_⟩
 ·rw [←UD];exact run_enterLoop_outer _ _ _ _ _
 ·simp only [resolve,hg]
  simp [go_sem]
 ·intro f' DX;trivial
 ·simp [invoke,go_sem,eg]
 ·refine(h fn W1 UD.symm Yz hK1 kr wz).mono ?_
  rintro e W' ⟨v,st,pe,rfl,hL,jM,hQ⟩;refine⟨pe,_,run_endLoop hL jM,?_⟩
  cases pe<;>exact hQ
theorem yU {P:Program} {l:Nat} {fn:FuncId} {tmps:Array Value} {ps:Array Tmp} {assign body:Code} {d:Nat} {args:Array Value} {W:World} {R:Ending→World→Prop} (hL:W.heap[l]? =some (.loop (j8 fn tmps ps assign body d .ready none))) (hs:args.size=ps.size)
  (h:assign.wpIn (Fence.wide.inRound l) 0 P (Exit.then (fun a₁ w₁=> ∃w₂,(Instr.beginRound l).run P w₁= .ok () w₂∧body.wpIn (Fence.wide.inRound l) 0 P (roundPost P l R) a₁ w₂) (fun _ _ _=>False))
   {tmps:= (ps.zip args).foldl (fun tmps (t,a)=>tmps.setIfInBounds t a) tmps,defers:= []} W):
  YieldAt Fence.wide 0 P l args W R:=
 ⟨_,_,_,_,run_yield hL hs,roundIn_of_wpIn trivial h⟩
theorem Fg {W:World} {l:Nat} {o o1:Obj} (h:W.heap[l]? =some o): (W.putObj l o1).putObj l o=W:=by
 unfold World.putObj;have e: (W.heap.setIfInBounds l o1).setIfInBounds l o=W.heap:=by
  refine ahS fun i=>?_;rw [aik]
  split
  ·rename_i hi
   subst hi;rw [ai3,if_pos (bq h),h]
  ·rename_i hi
   rw [aik,if_neg hi]
 simp only [e]
theorem Lj {P:Program} {l:Nat} {fn:FuncId} {tmps:Array Value} {ps:Array Tmp} {assign body:Code} {d:Nat} {W:World} (hL:W.heap[l]? =some (.loop (j8 fn tmps ps assign body d .ready none))):
  (Instr.endRound l none).run P (W.putObj l (.loop (j8 fn tmps ps assign body d .busy none)))= .ok (.bool true) W:=by
 have h1: (W.putObj l (.loop (j8 fn tmps ps assign body d .busy none))).heap[l]? =some (.loop (j8 fn tmps ps assign body d .busy none)):=World.putObj_heap_same (bq hL);have:=run_endRound (P:=P) none h1;rw [this];show Result.ok (Value.bool true) ((W.putObj l _).putObj l (.loop (j8 fn tmps ps assign body d .ready none)))=_;rw [Fg hL]
end
end Go.Vc
namespace Go.Proofs.YtpcgccdmmoggmaaGreatDoor
open Go Go.Vc Go.Proofs Go.RowKit Go.Shelf
section
variable {H H0 H' :ai} {R:Value→ai→Prop} {L:List It} {s:List UInt8}
def Ip (x:Nat):Bool:=decide ((x:Int)<32) ||decide ((x:Int)=127) ||decide ((x:Int)=92)
theorem Tp (w:World):PredAt Tryz.prog 194 #[] encR Ip w:=fun W x hb=>by
 show Calls Tryz.prog 194 #[.int .i32 (x:Int)] W _
 go_enter Tryz.func194,Tryz.ntmps194
 go_wp2
 ·go_ret
  rename_i h1 h2
  refine⟨?_,0,rfl⟩;unfold Ip;rw [decide_eq_true h2,Bool.or_true,Bool.true_or]
  rfl
 ·go_ret
  refine⟨rfl,0,rfl⟩
 ·go_ret
  rename_i h1
  refine⟨?_,0,rfl⟩;unfold Ip;rw [decide_eq_true h1,Bool.true_or,Bool.true_or]
  rfl
theorem N6: ∀i:Fin 5,Lib.idxFunc Ip true ⟨(dh (UInt8.ofNat (97+i.val))).toArray⟩= -1:=by decide+kernel
theorem Bz: ∀i:Fin 5,∀x∈dh (UInt8.ofNat (97+i.val)),x.toNat<128:=by decide
theorem N7: ∀i:Fin 5,(⟨(dh (UInt8.ofNat (97+i.val))).toArray⟩:ByteArray).toList.isEmpty=false:=by decide+kernel
theorem AO (hi:Lib.idxFunc Ip true ⟨s.toArray⟩= -1) (h: ∀H',Ext H H' →R (.bool false) H'):ab 193 #[str s,.func (.func 194) #[] #[]] H R:=
 nC (fun w hw=> (Tryz.strings_ContainsFunc 194 #[] (enters_of Tryz.func194 (by kernel_rfl) rfl) Ip ⟨s.toArray⟩ w (Tp w)).mono fun e w' he=> ⟨by rw [he.1,hi];rfl,he.2⟩) h
abbrev CZ (b1 b2 b3:Nat) (s:List UInt8):List It:= [.box b3 [.int .i64 0] 3,.box b2 [str [47]] 9,.box b1 [str s] 9]
theorem Iq (h: ∀H' b1 b2 b3,ar H H' (CZ b1 b2 b3 s)→R (.func (.func 264) #[] #[at_ b2 0,at_ b1 0,at_ b3 0]) H'):ab 195 #[str s,str [47]] H R:=by
 refine uk.vc _ _ _ _ ?_;refine um.vc _ _ _ _ _ ?_;refine(ar.start (H:=H)).box fun b1 H1 o _=>?_;refine o.box fun b2 H2 o _=>?_;refine o.box fun b3 H3 o _=>?_;exact h H3 b1 b2 b3 o
attribute [local go_sem] Oper.semAt_some
theorem index_spec (s:ByteArray) (c:UInt8) (w:World):CallsIn Fence.wide 0 Tryz.prog 266 #[.string s,.string ⟨#[c]⟩] w fun e w' =>e= .returned (.int .i64 (Lib.indexByte s.data.toList c))∧w' =w:=callsIn_wide.2 (Tryz.strings_Index_one s c w)
theorem eZ {W:World} {b:Nat} {v:Value} {t:TypeId} (h:W.heap[b]? =some (.cells #[v] t (0,0))):W.cell? ⟨b,0,none⟩=some v:=by rw [Jx,da h];rfl
theorem Fh {W:World} {b:Nat} {v:Value} {t:TypeId} (h:W.heap[b]? =some (.cells #[v] t (0,0))):W.frozen? ⟨b,0,none⟩=false:=by
 unfold World.frozen?
 simp [h]
def N8 (s:ByteArray):Prop:= ∀ {l b1 b2 b3:Nat} {W:World} {t1 t2 t3:TypeId},W.heap[b1]? =some (.cells #[.string s] t1 (0,0))→W.heap[b2]? =some (.cells #[.string ⟨#[47]⟩] t2 (0,0))→W.heap[b3]? =some (.cells #[.int .i64 0] t3 (0,0))→b2≠b1→b3≠b1→
  (∀ (W' :World) (f:ByteArray),f.toList.isEmpty=false→(f.toList== [46])=false→(f.toList== [46,46])=false→(∀k,k≠b1→W'.heap[k]? =W.heap[k]?)→YieldAt Fence.wide 0 Tryz.prog l #[.string f] W' fun e PX =>e= .returned (.bool true)∧PX =W')→
  CallsIn Fence.wide 0 Tryz.prog 264 #[.func (.yield l) #[] #[],.pointer (some ⟨b2,0,none⟩),.pointer (some ⟨b1,0,none⟩),.pointer (some ⟨b3,0,none⟩)] W fun e W' => ∃v,e= .returned v∧(∀k,k≠b1→W'.heap[k]? =W.heap[k]?)∧W'.heap.size=W.heap.size∧Go.Vc.b0 W W'
theorem Lk {w:World}:Go.Vc.b0 w w:= ⟨rfl,rfl,rfl,fun _=>aga _⟩
theorem N9 {l b1 b2 b3:Nat} {s f1 f2:ByteArray} {W:World} {t1 t2 t3:TypeId} (g1:W.heap[b1]? =some (.cells #[.string s] t1 (0,0))) (g2:W.heap[b2]? =some (.cells #[.string ⟨#[47]⟩] t2 (0,0))) (g3:W.heap[b3]? =some (.cells #[.int .i64 0] t3 (0,0))) (UE:b2≠b1) (UF:b3≠b1)
  (i1:Lib.indexByte s.data.toList 47=1) (i2:Lib.indexByte f2.data.toList 47= -1) (e1:s.extract 0 1=f1) (e2:s.extract 2 6=f2) (hs:s.size=6)
  (Y: ∀ (W' :World) (f:ByteArray),(f=f1∨f=f2)→(W' =W∨W' =W.setCell ⟨b1,0,none⟩ (.string f2))→YieldAt Fence.wide 0 Tryz.prog l #[.string f] W' fun e PX =>e= .returned (.bool true)∧PX =W'):
  CallsIn Fence.wide 0 Tryz.prog 264 #[.func (.yield l) #[] #[],.pointer (some ⟨b2,0,none⟩),.pointer (some ⟨b1,0,none⟩),.pointer (some ⟨b3,0,none⟩)] W fun e W' => ∃v,e= .returned v∧W' =W.setCell ⟨b1,0,none⟩ (.string f2):=by
 have c1:=eZ g1;have c2:=eZ g2;have c3:=eZ g3;have fz:=Fh g1;have d1:=eZ (one_setCell g1 (u:= .string f2));have d2:=eZ ((Go.RowKit.Below.heap_setCell W ⟨b1,0,none⟩ (.string f2) b2 UE).trans g2);have d3:=eZ ((Go.RowKit.Below.heap_setCell W ⟨b1,0,none⟩ (.string f2) b3 UF).trans g3);obtain⟨fn1,tm1,as1,bo1,Xn,R5⟩:=Y W f1 (.inl rfl) (.inl rfl);obtain⟨fn2,tm2,as2,bo2,YA,Xo⟩:=Y (W.setCell ⟨b1,0,none⟩ (.string f2)) f2 (.inr rfl) (.inr rfl);clear Y g1 g2 g3 UE UF;refine callsIn_of_wp Tryz.func264 rfl trivial ?_ rfl;simp only [Tryz.ntmps264,ag1,agi,agt,Nat.reduceAdd,Nat.reduceSub,aiR,aiS,aiT,aiU,agn,ahd]
 gi_wp2
 refine wpIn_loop_rounds 2 ?_;rw [roundsIn_succ]
 gi_wp2_with (first| (refine⟨trivial,rfl,?_⟩;gi_at_call 266;refine(index_spec _ _ _).mono ?_;rintro e _ ⟨rfl,rfl⟩) | (refine⟨rfl,?_⟩;refine R5.mono ?_;clear R5;rintro e _ ⟨rfl,rfl⟩) | (refine⟨rfl,?_⟩;refine Xo.mono ?_;clear Xo;rintro e _ ⟨rfl,rfl⟩))
 rw [roundsIn_succ]
 gi_wp2_with (first| (refine⟨trivial,rfl,?_⟩;gi_at_call 266;refine(index_spec _ _ _).mono ?_;rintro e _ ⟨rfl,rfl⟩) | (refine⟨rfl,?_⟩;refine Xo.mono ?_;clear Xo;rintro e _ ⟨rfl,rfl⟩))
 go_end0
 exact⟨_,rfl,rfl⟩
def JT:ByteArray:= ⟨#[102,105,108,101]⟩
theorem QU: ∀i:Fin 5,Lib.indexByte (dh (UInt8.ofNat (97+i.val))) 47=1:=by decide+kernel
theorem QV: ∀i:Fin 5,((⟨(dh (UInt8.ofNat (97+i.val))).toArray⟩:ByteArray).extract 0 1).data.toList= [UInt8.ofNat (97+i.val)]:=by decide+kernel
theorem QW: ∀i:Fin 5,((⟨(dh (UInt8.ofNat (97+i.val))).toArray⟩:ByteArray).extract 2 6).data.toList= [102,105,108,101]:=by decide+kernel
theorem C0: ∀i:Fin 5,(⟨#[UInt8.ofNat (97+i.val)]⟩:ByteArray).toList.isEmpty=false∧((⟨#[UInt8.ofNat (97+i.val)]⟩:ByteArray).toList== [46])=false∧((⟨#[UInt8.ofNat (97+i.val)]⟩:ByteArray).toList== [46,46])=false:=by decide+kernel
theorem C4:JT.toList.isEmpty=false∧(JT.toList== [46])=false∧(JT.toList== [46,46])=false:=by decide+kernel
theorem R6 {a:ByteArray} {l:List UInt8} (h:a.data.toList=l):a= ⟨l.toArray⟩:=by
 obtain⟨⟨d⟩⟩:=a;simp only at h;rw [h]
theorem QY: ∀i:Fin 5,(((⟨(dh (UInt8.ofNat (97+i.val))).toArray⟩:ByteArray).size:Int)>65535)=False:=fun i=>eq_false (show ¬ ((6:Int)>65535) by decide)
theorem QZ (i:Fin 5):N8 ⟨(dh (UInt8.ofNat (97+i.val))).toArray⟩:=by
 intro l b1 b2 b3 W t1 t2 t3 g1 g2 g3 UE UF Y;refine(N9 (f1:= ⟨#[UInt8.ofNat (97+i.val)]⟩) (f2:=JT) g1 g2 g3 UE UF (QU i) (by decide+kernel) (R6 (QV i)) (R6 (QW i)) rfl (fun W' f hf VD =>?_)).mono ?_
 ·refine Y W' f ?_ ?_ ?_ ?_
  ·rcases hf with rfl|rfl
   ·exact(C0 i).1
   ·exact C4.1
  ·rcases hf with rfl|rfl
   ·exact(C0 i).2.1
   ·exact C4.2.1
  ·rcases hf with rfl|rfl
   ·exact(C0 i).2.2
   ·exact C4.2.2
  ·rcases VD with rfl|rfl
   ·exact fun _ _=>rfl
   ·exact fun k hk=>Go.RowKit.Below.heap_setCell _ _ _ _ hk
 ·rintro e _ ⟨v,rfl,rfl⟩
  exact⟨v,rfl,fun k hk=>Go.RowKit.Below.heap_setCell _ _ _ _ hk,by simp [World.setCell],⟨rfl,rfl,rfl,fun _=>aga _⟩⟩
theorem Q0 {s:ByteArray} (i1:Lib.indexByte s.data.toList 47= -1) (q1:s.toList.isEmpty=false) (q2: (s.toList== [46])=false) (q3: (s.toList== [46,46])=false):N8 s:=by
 intro l b1 b2 b3 W t1 t2 t3 g1 g2 g3 UE UF Y;have c1:=eZ g1;have c2:=eZ g2;have c3:=eZ g3;obtain⟨fn1,tm1,as1,bo1,Xn,R5⟩:=Y W s q1 q2 q3 fun _ _=>rfl;clear Y g1 g2 g3 UE UF;refine callsIn_of_wp Tryz.func264 rfl trivial ?_ rfl;simp only [Tryz.ntmps264,ag1,agi,agt,Nat.reduceAdd,Nat.reduceSub,aiR,aiS,aiT,aiU,agn,ahd]
 gi_wp2
 refine wpIn_loop_rounds 1 ?_;rw [roundsIn_succ]
 gi_wp2_with (first| (refine⟨trivial,rfl,?_⟩;gi_at_call 266;refine(index_spec _ _ _).mono ?_;rintro e _ ⟨rfl,rfl⟩) | (refine⟨rfl,?_⟩;refine R5.mono ?_;clear R5;rintro e _ ⟨rfl,rfl⟩))
 go_end0
 exact⟨_,rfl,fun _ _=>rfl,rfl,Lk⟩
theorem yV {n:List UInt8} (hl:n.length≤8) (Ll: ∀x∈n,x.toNat<128) (YB:Lib.idxFunc Ip true ⟨n.toArray⟩= -1) (df: (⟨n.toArray⟩:ByteArray).toList.isEmpty=false) (kg: (((⟨n.toArray⟩:ByteArray).size:Int)>65535)=False) (VE:N8 ⟨n.toArray⟩) (w:World):CallsIn Fence.wide 0 Tryz.prog 143 #[str n] w fun e w' => ∃v,e= .returned v∧Go.Vc.b0 w w' ∧v= .int .i64 0∧Ext w.heap w'.heap:=by
 obtain⟨s,hs⟩: ∃s,s= (⟨n.toArray⟩:ByteArray):= ⟨_,rfl⟩;have hV: ∀W:World,CallsIn Fence.wide 0 Tryz.prog 192 #[.string s] W fun e W' => ∃v,e= .returned v∧Go.Vc.b0 W W' ∧(v= .bool true∧Ext W.heap W'.heap):=fun W=>by
  rw [hs];exact callsIn_wide.2 (Im (s:=n) (R:=fun v H' =>v= .bool true∧Ext W.heap H') hl Ll ⟨rfl,Ext.refl _⟩ W rfl)
 have hC: ∀W:World,CallsIn Fence.wide 0 Tryz.prog 193 #[.string s,.func (.func 194) #[] #[]] W fun e W' => ∃v,e= .returned v∧Go.Vc.b0 W W' ∧(v= .bool false∧Ext W.heap W'.heap):=fun W=>by
  rw [hs];exact callsIn_wide.2 (AO YB (R:=fun v H' =>v= .bool false∧Ext W.heap H') (fun H' hx=> ⟨rfl,hx⟩) W rfl)
 have hS: ∀W:World,CallsIn Fence.wide 0 Tryz.prog 195 #[.string s,.string ⟨#[47]⟩] W fun e W' => ∃v,e= .returned v∧Go.Vc.b0 W W' ∧(∃b1 b2 b3,v= (.func (.func 264) #[] #[.pointer (some ⟨b2,0,none⟩),.pointer (some ⟨b1,0,none⟩),.pointer (some ⟨b3,0,none⟩)])∧ar W.heap W'.heap (CZ b1 b2 b3 n)):=fun W=>by
  rw [hs];exact callsIn_wide.2 (Iq (s:=n) (H:=W.heap) (R:=fun v H' => ∃b1 b2 b3,v= (.func (.func 264) #[] #[.pointer (some ⟨b2,0,none⟩),.pointer (some ⟨b1,0,none⟩),.pointer (some ⟨b3,0,none⟩)])∧ar W.heap H' (CZ b1 b2 b3 n)) (fun H' b1 b2 b3 o=> ⟨b1,b2,b3,rfl,o⟩) W rfl)
 have X2: ∀b1 b2 b3,CZ b1 b2 b3 n= [.box b3 [.int .i64 0] 3,.box b2 [.string ⟨#[47]⟩] 9,.box b1 [.string s] 9]:=by rw [hs];intro b1 b2 b3;rfl
 rw [←hs] at df kg VE;show CallsIn Fence.wide 0 Tryz.prog 143 #[.string ⟨n.toArray⟩] w _;rw [←hs];clear hs;refine callsIn_of_wp_marks Tryz.func143 rfl trivial ?_ rfl;simp only [Tryz.ntmps143,ag1,agi,agt,Nat.reduceAdd,Nat.reduceSub,aiR,aiS,aiT,aiU,agn,ahd]
 gi_wp2_with (first| (refine⟨trivial,rfl,?_⟩;gi_at_call 192;refine(hV _).mono ?_;rintro e W1 ⟨_,rfl,wz,rfl,kr⟩) | (refine⟨trivial,rfl,?_⟩;gi_at_call 193;refine(hC _).mono ?_;rintro e W2 ⟨_,rfl,Cw,rfl,kO⟩) | (refine⟨trivial,rfl,?_⟩;gi_at_call 195;refine(hS _).mono ?_;rintro e W3 ⟨_,rfl,Us,b1,b2,b3,rfl,o3⟩))
 refine yT (gf:=264) (lb:= #[.pointer (some ⟨b2,0,none⟩),.pointer (some ⟨b1,0,none⟩),.pointer (some ⟨b3,0,none⟩)]) rfl (enters_of Tryz.func264 (by kernel_rfl) rfl) ?_;intro fn W4 YC hL hD oQ Tq;have hY: ∀ (W:World) (f:ByteArray),W.heap[W3.heap.size+1]? =W4.heap[W3.heap.size+1]? →f.toList.isEmpty=false→(f.toList== [46])=false→(f.toList== [46,46])=false→YieldAt Fence.wide 0 Tryz.prog (W3.heap.size+1) #[.string f] W fun e W' =>e= .returned (.bool true)∧W' =W:=by
  intro W f hW hf PY MD;have Tr :=hL;rw [←hW] at Tr;refine yU Tr rfl ?_
  gi_wp2
  refine⟨_,run_beginRound Tr rfl,?_⟩
  gi_wp2
  exact⟨_,_,Lj Tr,rfl,rfl⟩
 rw [X2] at o3;have g1:=o3.fZ (b:=b1) (cs:= [.string s]) (t:=9) (by repeat(first|exact af8|apply af7));have g2:=o3.fZ (b:=b2) (cs:= [.string ⟨#[47]⟩]) (t:=9) (by repeat(first|exact af8|apply af7));have g3:=o3.fZ (b:=b3) (cs:= [.int .i64 0]) (t:=3) (by repeat(first|exact af8|apply af7));have n1:=o3.new (.box b1 [.string s] 9) (by repeat(first|exact af8|apply af7)) b1 rfl;have n12:b2≠b1:=fun e=>by
  have:= (agC.1 (agC.1 o3.D0).2).1 (.box b1 [.string s] 9) (by simp) b1;exact this e rfl
 have n13:b3≠b1:=fun e=>by
  have:= (agC.1 o3.D0).1 (.box b1 [.string s] 9) (by simp) b1;exact this e rfl
 have acE:=bq g1;refine(VE (oQ.fZ g1) (oQ.fZ g2) (oQ.fZ g3) n12 n13 fun W' f q1 q2 q3 VD =>hY W' f (VD _ (show W3.heap.size+1≠b1 by omega)) q1 q2 q3).mono ?_;rintro e W5 ⟨v,rfl,k5,z5,Xp⟩;have VF:W5.heap[W3.heap.size+1]? =W4.heap[W3.heap.size+1]? :=k5 _ (show W3.heap.size+1≠b1 by omega);refine⟨v,.ready,none,rfl,VF.trans hL,by simp,?_⟩;have r0: (w.alloc (.cells #[.int .i64 0] 27)).heap[w.heap.size]? =some (.cells #[.int .i64 0] 27 (0,0)):=World.alloc_heap_new _ _;have acF:=bq r0;have Q1:=kr.trans (kO.trans o3.ext);have hn:w.heap.size≠b1:=by have:= (kr.trans kO).size;omega
 have acG:=Q1.size;have r5:W5.heap[w.heap.size]? =some (.cells #[.int .i64 0] 27 (0,0)):=by
  rw [k5 _ hn];exact oQ.fZ (Q1.fZ r0)
 generalize Ck:Obj.loop _=Ir;have r6: (W5.putObj (W3.heap.size+1) Ir).heap[w.heap.size]? =some (.cells #[.int .i64 0] 27 (0,0)):=by
  rw [World.putObj_heap_other (by omega)];exact r5
 have d5: (W5.putObj (W3.heap.size+1) Ir).heap[W3.heap.size]? =some (.deferred (some [])):=by
  rw [World.putObj_heap_other (by omega),k5 _ (show W3.heap.size≠b1 by omega)];exact hD
 obtain⟨W6,PZ⟩: ∃W6,W6=W5.putObj (W3.heap.size+1) Ir:= ⟨_,rfl⟩;rw [←PZ] at r6 d5 ⊢;have c6:=eZ r6;have z6:=Fh r6;have vS:Ext w.heap W6.heap:= ⟨by
   rw [PZ];have h1:=oQ.size;have h2:w.heap.size≤W3.heap.size:=by omega
   simp only [World.putObj,ai3,z5];omega,fun k hk=>by
  rw [PZ,World.putObj_heap_other (by omega),k5 k (by have:= (kr.trans kO).size;omega),oQ.get k (by omega),Q1.get k (by omega)];exact Go.RowKit.Below.heap_alloc _ _ _ hk⟩
 have YD:Go.Vc.b0 w W6:=by
  have h1:Go.Vc.b0 w (w.alloc (.cells #[.int .i64 0] 27)):= ⟨rfl,rfl,rfl,fun _=>aga _⟩;have h5:Go.Vc.b0 W4 W6:=by rw [PZ];exact Xp.trans ⟨rfl,rfl,rfl,fun _=>aga _⟩
  exact((((h1.trans wz).trans Cw).trans Us).trans Tq).trans h5
 have UG:w.heap.size<W3.heap.size:=by omega
 clear PZ hY hL VF hD YC Ck r5 oQ Tq g1 g2 g3 n1 n12 n13 o3 Q1 wz Cw Us kr kO
 gi_wp2
 generalize hU:W6.setCell ⟨w.heap.size,0,none⟩ (.int .i64 0)=U;have hK:U.heap[W3.heap.size]? =some (.deferred (some [])):=by rw [←hU];exact(Go.RowKit.Below.heap_setCell W6 ⟨w.heap.size,0,none⟩ (.int .i64 0) _ (show W3.heap.size≠w.heap.size by omega)).trans d5
 have rU:U.heap[w.heap.size]? =some (.cells #[.int .i64 0] 27 (0,0)):=by rw [←hU];exact one_setCell r6
 have hxU:Ext w.heap U.heap:=by
  refine⟨by rw [←hU];have:=vS.size;simp [World.setCell];omega,fun k hk=>?_⟩;rw [←hU,Go.RowKit.Below.heap_setCell _ _ _ _ (show k≠(⟨w.heap.size,0,none⟩:Addr).block by show k≠w.heap.size;omega)];exact vS.get k hk
 have hrU:Go.Vc.b0 w U:=by
  rw [←hU];exact YD.trans ⟨rfl,rfl,rfl,fun _=>aga _⟩
 clear hU;refine⟨by simp,.inl ⟨_,_,rfl,run_takeDeferred hK,?_⟩⟩;have rV: (U.putObj W3.heap.size (.deferred none)).heap[w.heap.size]? =some (.cells #[.int .i64 0] 27 (0,0)):=by
  rw [World.putObj_heap_other (by omega)];exact rU
 have cV:=eZ rV;refine⟨.int .i64 0,?_,_,rfl,hrU.trans ⟨rfl,rfl,rfl,fun _=>aga _⟩,rfl,⟨by have:=hxU.size;simp [World.putObj];omega,fun k hk=>?_⟩⟩
 ·have VG: ∀w:World,(isAgg 27).run Tryz.prog w= .ok false w:=fun w=>by
   unfold isAgg;rw [Sem.run_bind,run_underlying (d:= .int .i64) (by kernel_rfl) w]
   rfl
  simp [results,Tryz.func143,asAddr,loadVar,Sem.run_bind,Result.andThen,VG,cV]
 ·rw [World.putObj_heap_other (by omega)];exact hxU.get k hk
theorem yW (i:Fin 5):uO (dh (UInt8.ofNat (97+i.val))) where
 len:=agm rfl
 ne:=by intro h;cases h
 low:=Bz i
 ok:=fun H R h w hw=>by
  refine(callsIn_wide.1 (yV (agm rfl) (Bz i) (N6 i) (N7 i) (QY i) (QZ i) w)).mono ?_;rintro e w' ⟨v,rfl,hr,rfl,hx⟩;exact⟨_,rfl,hr,h _ (by rw [←hw];exact hx)⟩
theorem BA:uO [97] where
 len:=agm rfl
 ne:=by intro h;cases h
 low:=by decide
 ok:=fun H R h w hw=>by
  refine(callsIn_wide.1 (yV (n:= [97]) (agm rfl) (by decide) (by decide+kernel) (by decide+kernel) (eq_false (by decide+kernel)) (Q0 (by decide+kernel) (by decide+kernel) (by decide+kernel) (by decide+kernel)) w)).mono ?_;rintro e w' ⟨v,rfl,hr,rfl,hx⟩;exact⟨_,rfl,hr,h _ (by rw [←hw];exact hx)⟩
end
end Go.Proofs.YtpcgccdmmoggmaaGreatDoor
namespace Go.Proofs.YtpcgccdmmoggmaaGreatDoor
open Go Go.Vc Go.Proofs
section
variable {H H0 H' :ai} {R:Value→ai→Prop} {L:List It} {s:List UInt8}
theorem Q2 {b r1 r2:Nat} {n d:List UInt8→Option Value} (hn:n [97]=none) (hd:d [97]=none) (o:ar H0 H (lY b r1 r2 n d L)) (h:R (.bool false) H):ab 144 #[at_ b 0,str [97]] H R:=by
 refine om.vc _ _ _ _ ?_;rw [au,ae,al];refine o.aw (b:=b) (f:=0+0) (w:= .map (some r1)) (by repeat(first|exact af8|apply af7)) rfl ?_;refine Go.Vc.cZ.lookup (κ:=strKeys) (o.aA (T:=mS r1 n) (by repeat(first|exact af8|apply af7))) (k:= [97]) ?_;rw [cond_false,hn];refine aO ?_;rw [au,ae,al];refine o.aw (b:=b) (f:=0+1) (w:= .map (some r2)) (by repeat(first|exact af8|apply af7)) rfl ?_;refine Go.Vc.cZ.lookup (κ:=strKeys) (o.aA (T:=mS r2 d) (by repeat(first|exact af8|apply af7))) (k:= [97]) ?_;rw [cond_false,hd];intro _;show ao (.bool false) _ _;rw [aj];refine aJ ?_;refine⟨fun i H' => ∃k:Nat,i= .int .i64 (k:Int)∧k≤1∧H=H',fun i _=>match i with| .int _ x=> (1 - x).toNat|_=>0,⟨0,rfl,by omega,rfl⟩,?_⟩;rintro _ _ _ ⟨k,rfl,hk,rfl⟩;rw [aN];refine av (fun f_=>?_) (fun f_=>?_)
 ·have QT:k=0:=by have: (k:Int)<1:=f_;omega
  subst QT;rw [cf,bu];refine⟨by decide,by decide,?_⟩;rw [cf,bu];refine⟨by decide,by decide,?_⟩;rw [bc];refine dM (d:=false) (fun h1=>absurd h1 (by decide)) ?_;intro _;rw [aiQ,aj,az,ba (by decide) (by decide)];exact⟨⟨1,rfl,by omega,rfl⟩,by show (_:Int).toNat< (_:Int).toNat;decide⟩
 ·exact h
theorem VH {b r1 r2:Nat} {n d:List UInt8→Option Value} (o:ar H0 H (lY b r1 r2 n d L)) (h: ∀H',ar H0 H' (lY b r1 r2 (rr strKeys n [97] (some (.bool true))) d L)→R (.tuple #[]) H'):ab 145 #[at_ b 0,str [97]] H R:=by
 refine qY.vc _ _ _ _ ?_;rw [au,ae,al];refine o.aw (b:=b) (f:=0+0) (w:= .map (some r1)) (by repeat(first|exact af8|apply af7)) rfl ?_;refine Go.Vc.cZ.set (κ:=strKeys) (o.aA (T:=mS r1 n) (by repeat(first|exact af8|apply af7))) (k:= [97]) fun H2 hm hs df=>?_;have o:ar H0 H2 (lY b r1 r2 (rr strKeys n [97] (some (.bool true))) d L):=o.eX (i:= .aA (mS r1 n)) (i' := .aA (mS r1 (rr strKeys n [97] (some (.bool true))))) (by repeat(first|exact aV.here|apply aV.there)) (by omega) (fun k _ hf=>df k hf) hm (fun k hk=> .inl hk);refine aJ ?_;refine⟨fun i H' => ∃k:Nat,i= .int .i64 (k:Int)∧k≤1∧H2=H',fun i _=>match i with| .int _ x=> (1 - x).toNat|_=>0,⟨0,rfl,by omega,rfl⟩,?_⟩;rintro _ _ _ ⟨k,rfl,hk,rfl⟩;rw [aN];refine av (fun f_=>?_) (fun f_=>?_)
 ·have QT:k=0:=by have: (k:Int)<1:=f_;omega
  subst QT;rw [cf,bu];refine⟨by decide,by decide,?_⟩;rw [cf,bu];refine⟨by decide,by decide,?_⟩;rw [bc];refine av (fun h1=>absurd h1 (by decide)) fun _=>?_;rw [az,ba (by decide) (by decide)];exact⟨⟨1,rfl,by omega,rfl⟩,by show (_:Int).toNat< (_:Int).toNat;decide⟩
 ·exact h _ o
theorem VI {v:Value} (hs:Sl H v 1 (cH [[97]])) (h: ∀H',Ext H H' →R (.tuple #[.int .i64 0,.int .i64 0]) H'):ab 93 #[v] H R:=by
 have dI: (cH [[97]]).length=1*1:=rfl;refine ER.vc _ _ _ ?_;refine hs.len dI (by decide) ?_;rw [a8,decide_eq_false (by decide),aj];refine mI strKeys fun H1 UC kr _=>?_;have o:= (ar.start (H:=H)).add kr (i:= .aA (mS H.size (fun _=>none))) UC (by intro k hk;obtain rfl:k=H.size:=hk;exact aga _);generalize H.size=r1 at o;refine mI strKeys fun H2 Lb kO _=>?_;have o:=o.add kO (i:= .aA (mS H1.size (fun _=>none))) Lb (by intro k hk;obtain rfl:k=H1.size:=hk;exact aga _);generalize H1.size=r2 at o;refine aM rfl (by decide) ?_;refine aM rfl (by simp) ?_;rw [bz];refine o.box fun b H3 o _=>?_;have o:ar H H3 (lY b r1 r2 (fun _=>none) (fun _=>none) []):=o.arr (by repeat(first|exact cC.nil|exact bw.here|apply cC.cons|apply bw.there));refine hs.len dI (by decide) ?_;refine⟨fun i H' => ∃k:Nat,i= .int .i64 (k:Int)∧k≤1∧Ext H H' ∧(k=0→ar H H' (lY b r1 r2 (fun _=>none) (fun _=>none) [])),fun i _=>match i with| .int _ x=> (1 - x).toNat|_=>0,⟨0,rfl,by omega,o.ext,fun _=>o⟩,?_⟩;clear o;rintro _ _ H4 ⟨k,rfl,hk,hx,o⟩;rw [aN];refine av (fun f_=>?_) (fun f_=>?_)
 ·have QT:k=0:=by have: (k:Int)<1:=f_;omega
  subst QT;have o:=o rfl;have La:=hs.ext o.ext;refine La.at_ dI (by decide) (by omega) (by omega) fun p hp=>?_;refine hp.load La (w:=str [97]) rfl ?_;refine BA.ok _ _ fun H5 uP=>?_;have o:=o.more uP;refine fH ?_;rw [aj];refine Q2 rfl rfl o ?_;rw [aj];refine VH o fun H6 o=>?_;rw [az,ba (by decide) (by decide)];exact⟨⟨1,rfl,by omega,o.ext,fun e=>by omega⟩,by show (_:Int).toNat< (_:Int).toNat;decide⟩
 ·exact h H4 hx
structure BC (ns:List (List UInt8)):Prop where
 len:ns.length≤5
 nm: ∀n∈ns,uO n
 all: ∀ (k:Nat) (H:ai) (v:Value) (R:Value→ai→Prop),Sl H v 1 (cH (ns.take k))→(∀H',Ext H H' →R (.tuple #[.int .i64 0,.int .i64 0]) H')→ab 93 #[v] H R
def jQ (m:Nat):List UInt8:= (List.range m).map fun i=>UInt8.ofNat (97+i)
theorem AP: ∀m:Fin 6,(jQ m.val).Nodup∧∀c∈jQ m.val,c≠47∧∃i:Fin 5,c=UInt8.ofNat (97+i.val):=by decide
theorem Fi (m:Nat) (hm:m≤5):BC ((jQ m).map dh):=by
 obtain⟨f1,f2⟩:=AP ⟨m,by omega⟩;have hl: (jQ m).length=m:=by unfold jQ;simp
 refine⟨by rw [agw];omega,fun n hn=>?_,fun k H v R hs h=>?_⟩
 ·obtain⟨c,hc,rfl⟩:=agP.1 hn
  obtain⟨_,i,rfl⟩:=f2 c hc;exact yW i
 ·rw [←ai0] at hs
  refine tk hs (by rw [age];omega) (f1.sublist (List.take_sublist _ _)) (fun c hc=>?_) h;obtain⟨h1,i,rfl⟩:=f2 c (ag3 hc);exact⟨h1,yW i⟩
theorem VJ:BC [[97]]:=by
 refine⟨by decide,fun n hn=>?_,fun k H v R hs h=>?_⟩
 ·obtain rfl:=agH.1 hn
  exact BA
 ·match k with
  |0=>exact tk (cs:= []) hs (by decide) ah_ (fun c hc=>by cases hc) h
  |k+1=>exact VI (by simpa using hs) h
end
section
variable {B C E:List Bool} {W:List UInt8} {l:Bool}
inductive Steps:DM→List UInt8→DM→Prop
 |refl {D:DM}:Steps D [] D
 |step {D D1 D2:DM} {o1 o2:List UInt8}:dg D= .go D1 o1→Steps D1 o2 D2→Steps D (o1++o2) D2
theorem Steps.one {D D1:DM} {o:List UInt8} (h:dg D= .go D1 o):Steps D o D1:=by
 have:=Steps.step h Steps.refl
 rwa [agy] at this
theorem Steps.trans {D D1 D2:DM} {o1 o2:List UInt8} (h:Steps D o1 D1) (k:Steps D1 o2 D2):Steps D (o1++o2) D2:=by
 induction h with
 |refl=>exact k
 |step hs _ ih=>rw [agc];exact .step hs (ih k)
theorem Steps.run {D D' :DM} {o:List UInt8} (h:Steps D o D'):run D= (o++ (run D').1,(run D').2):=by
 induction h with
 |refl=>simp
 |step hs _ ih=>rw [NU hs,ih];simp only [agc]
theorem Steps.fin {D D' :DM} {o:List UInt8} (h:Steps D o D') (hd:D'.st.tf=true):Go.Proofs.YtpcgccdmmoggmaaGreatDoor.run D= (o,D',0):=by
 rw [h.run,NW hd];simp
theorem N_ {a b c:Bool}:dY 3 (a::b::c::C)= .ok (gr [a,b,c]) C:=by
 unfold dY;rw [if_pos (by simp)]
 rfl
theorem Iu:dg ⟨.hd,l::true::false::C,W⟩= .go ⟨.tl gw mg l,C,W⟩ []:=by
 have:iY (l::true::false::C)= .ok (.tl gw mg l) C:=by
  unfold iY;rw [N_]
  cases l<;>rfl
 show (match iY (l::true::false::C) with| .ok st B=>SR.go ⟨st,B,W⟩ [] | .er e=>SR.of _ e)=_;rw [this]
theorem Oa {n:Nat} (h:n<65536):n ^^^ (65535 - n)=65535:=by
 apply ajB;intro i;rw [aje,show 65535 - n=2 ^ 16 - (n+1) by omega,ajR (by simpa using h),show (65535:Nat)=2 ^ 16 - 1 from rfl,ajS]
 by_cases hi:i<16
 ·simp [hi]
 ·have:n.testBit i=false:=Nat.testBit_lt_two_pow (ahj h (agA (n:=2) (i:=16) (by decide) (by omega)))
  simp [hi,this]
theorem Fj {n:Nat} (hn:n<65536) (h:gQ C=aU n 16++aU (65535 - n) 16++E):dg ⟨.hd,l::false::false::C,W⟩= .go ⟨.cp n l,E,W⟩ []:=by
 have SU:dY 32 (gQ C)= .ok (n+2 ^ 16* (65535 - n)) E:=by
  unfold dY;have hl: (aU n 16++aU (65535 - n) 16).length=32:=by rw [af9,aR,aR]
  rw [h,if_pos (by rw [af9,hl];omega)];rw [←hl,ahl (aga _),agr,ahk (aga _),ahM,agn,vG,gu,gu,aR,agp (by simpa using hn),agp (by omega)]
 have:iY (l::false::false::C)= .ok (.cp n l) E:=by
  unfold iY;rw [N_]
  dsimp only [Rs.bind]
  have h0:gr [l,false,false] /2=0:=by cases l<;>rfl
  have h1:decide (gr [l,false,false] %2=1)=l:=by cases l<;>rfl
  rw [if_pos h0,SU]
  dsimp only
  have e1: (n+2 ^ 16* (65535 - n)) %65536=n:=by omega
  have e2: (n+2 ^ 16* (65535 - n)) /65536=65535 - n:=by omega
  rw [e1,e2,h1,if_neg (fun g=>g (Oa hn))]
 show (match iY (l::false::false::C) with| .ok st B=>SR.go ⟨st,B,W⟩ [] | .er e=>SR.of _ e)=_;rw [this]
theorem Lm {s:List UInt8} (hE:E.length%8=0):dg ⟨.cp s.length l,toBits s++E,W⟩= .go (ln l E (W++s)) s:=by
 have hl:=bA s;have Cx:gQ (toBits s++E)=toBits s++E:=by
  unfold gQ;rw [af9,hl,show (8*s.length+E.length) %8=0 by omega];rfl
 have e1:dg ⟨.cp s.length l,toBits s++E,W⟩=if min s.length ((gQ (toBits s++E)).length/8)<s.length then .wait ⟨.cp (s.length - min s.length ((gQ (toBits s++E)).length/8)) l,(gQ (toBits s++E)).drop (8*min s.length ((gQ (toBits s++E)).length/8)),W++bG ((gQ (toBits s++E)).take (8*min s.length ((gQ (toBits s++E)).length/8)))⟩ (bG ((gQ (toBits s++E)).take (8*min s.length ((gQ (toBits s++E)).length/8))))
   else .go (ln l ((gQ (toBits s++E)).drop (8*s.length)) (W++bG ((gQ (toBits s++E)).take (8*s.length)))) (bG ((gQ (toBits s++E)).take (8*s.length))):=rfl
 rw [e1,Cx,if_neg (by rw [af9,hl];omega),←hl,ahl (aga _),agr,ahk (aga _),ahM,agn,oh]
theorem C5 {zs zd:List Int} {s:Nat} (hn:fV zs B= .ok s C):dg ⟨.tl zs zd l,B,W⟩=if s=256 then .go (ln l C W) [] else if s<256 then .go ⟨.tl zs zd l,C,W++ [UInt8.ofNat s]⟩ [UInt8.ofNat s] else match iv zd s C with
  | .er e=>SR.of ⟨.tl zs zd l,B,W⟩ e
  | .ok p B2=>if 1≤p.2∧p.2≤min W.length 32768 then .go ⟨.tl zs zd l,B2,cU p.1 W p.2⟩ ((cU p.1 W p.2).drop W.length) else .bad 6:=by
 have e1:dg ⟨.tl zs zd l,B,W⟩=match fV zs B with
  | .er e=>SR.of ⟨.tl zs zd l,B,W⟩ e
  | .ok s C=>if s=256 then .go (ln l C W) [] else if s<256 then .go ⟨.tl zs zd l,C,W++ [UInt8.ofNat s]⟩ [UInt8.ofNat s] else match iv zd s C with
   | .er e=>SR.of ⟨.tl zs zd l,B,W⟩ e
   | .ok p B2=>if 1≤p.2∧p.2≤min W.length 32768 then .go ⟨.tl zs zd l,B2,cU p.1 W p.2⟩ ((cU p.1 W p.2).drop W.length) else .bad 6:=rfl
 rw [e1,hn]
theorem Ob {zs zd:List Int} {x:UInt8} (hn:fV zs B= .ok x.toNat C):dg ⟨.tl zs zd l,B,W⟩= .go ⟨.tl zs zd l,C,W++ [x]⟩ [x]:=by
 have:=x.toNat_lt;rw [C5 hn,if_neg (by omega),if_pos (by omega)]
 simp
theorem step_end {zs zd:List Int} (hn:fV zs B= .ok 256 C):dg ⟨.tl zs zd l,B,W⟩= .go (ln l C W) []:=by
 rw [C5 hn,if_pos rfl]
theorem Ln {zs:List Int} (hz:w6 zs) {s:Nat} (hs:s<zs.length) (h1:1≤(natL zs).getD s 0):fV zs (dQ (natL zs) s++C)= .ok s C:=by
 have hl:=uH (natL zs) s;rw [By hz (s:=s) ⟨by rw [fF];exact hs,h1,by rw [←hl,ahl (aga _),agr]⟩];rw [←hl,ahk (aga _),ahM,agn]
def Fk (v n:Nat):List Bool:= (List.range n).map fun i=>v.testBit (n - 1 - i)
def Q3 (s:Nat):List Bool:=if s<144 then Fk (48+s) 8 else if s<256 then Fk (400+s - 144) 9 else if s<280 then Fk (s - 256) 7 else Fk (192+s - 280) 8
theorem Lo: ∀s:Fin 288,dQ (natL gw) s.val=Q3 s.val∧1≤(natL gw).getD s.val 0:=by decide+kernel
theorem Iv: ∀s:Fin 32,dQ (natL mg) s.val=Fk s.val 5∧1≤(natL mg).getD s.val 0:=by decide+kernel
end
section
theorem iw {v k:Nat} {C:List Bool} (h:v<2 ^ k):dY k (aU v k++C)= .ok v C:=by
 unfold dY;have hl:=aR v k;rw [if_pos (by rw [af9,hl];omega)]
 conv=>lhs;rw [←hl,ahl (by rw [hl,hl];exact aga _),ahk (by rw [hl,hl];exact aga _)]
 rw [hl,agx (by rw [hl];exact aga _),ahN (by rw [hl];exact aga _),gu,agp h,agn]
def nS (zs:List Int) (s:Nat):Prop:=s<zs.length∧1≤(natL zs).getD s 0
theorem pG {zs:List Int} (hz:w6 zs) {s:Nat} (h:nS zs s) {C:List Bool}:fV zs (dQ (natL zs) s++C)= .ok s C:=Ln hz h.1 h.2
def Iw (t:Tok) (W:List UInt8):List UInt8:=cU t.n.toNat (if t.n=0 then W++ [t.b] else W) t.d.toNat
def JU (n:Int):List Bool:=aU (n - (lenOf (g_ n)).1).toNat (lenOf (g_ n)).2.toNat
def JV (d:Int):List Bool:=aU (d - (bH (iu d)).1).toNat (bH (iu d)).2.toNat
def oM (sy di:List Int) (t:Tok):List Bool:=if t.n=0 then dQ (natL sy) t.b.toNat else dQ (natL sy) (g_ t.n).toNat++ (JU t.n++ (dQ (natL di) (iu t.d).toNat++JV t.d))
def tp (sy di:List Int) (t:Tok):Prop:=if t.n=0 then nS sy t.b.toNat else nS sy (g_ t.n).toNat∧nS di (iu t.d).toNat
theorem JW: ∀k:Fin 29,0≤(lenOf (257+ ((k.val:Nat):Int))).1:=by decide+kernel
theorem Fm: ∀k:Fin 30,0≤(bH ((k.val:Nat):Int)).1:=by decide+kernel
theorem Ix {sy di:List Int} (w7:w6 sy) (Bc:w6 di) {t:Tok} {W:List UInt8} {C:List Bool} {l:Bool} (hg:eH t=true) (hd:t.d≤(W.length:Int)) (hh:tp sy di t):
  ∃o,Steps ⟨.tl sy di l,oM sy di t++C,W⟩ o ⟨.tl sy di l,C,Iw t W⟩:=by
 unfold oM Iw;unfold tp at hh
 by_cases h0:t.n=0
 ·rw [if_pos h0] at hh
  rw [if_pos h0,if_pos h0,h0];exact⟨_,Steps.one (Ob (x:=t.b) (pG w7 hh))⟩
 ·rw [if_neg h0] at hh
  rw [if_neg h0,if_neg h0];rcases iE hg with ⟨h,_⟩ | ⟨h1,h2,h3,h4⟩
  ·exact absurd h h0
  obtain⟨n,hn⟩: ∃n:Nat,t.n=n:= ⟨t.n.toNat,by omega⟩;obtain⟨d,Nf⟩: ∃d:Nat,t.d=d:= ⟨t.d.toNat,by omega⟩;rw [hn,Nf] at hh;rw [hn,Nf,af_,af_];rw [hn] at h1 h2;rw [Nf] at h3 h4 hd;obtain⟨f1,f2,f3,f4,f5,f6⟩:=nL (n:= (n:Int)) h1 h2;obtain⟨g1,g2,g3,g4,g5,g6⟩:=nM (n:= (d:Int)) h3 h4;obtain⟨s,hs⟩: ∃s:Nat,g_ (n:Int)=s:= ⟨(g_ n).toNat,by omega⟩;obtain⟨k,hk⟩: ∃k:Nat,iu (d:Int)=k:= ⟨(iu d).toNat,by omega⟩;unfold JU JV;rw [hs,hk] at hh ⊢;rw [af_,af_] at hh ⊢;rw [hs] at f1 f2 f3 f4 f5 f6;rw [hk] at g1 g2 g3 g4 g5 g6;have Iy: ((2 ^ (lenOf (s:Int)).2.toNat:Nat):Int)=2 ^ (lenOf (s:Int)).2.toNat:=by push_cast;rfl
  have Aq: ((2 ^ (bH (k:Int)).2.toNat:Nat):Int)=2 ^ (bH (k:Int)).2.toNat:=by push_cast;rfl
  rw [←Iy] at f4;rw [←Aq] at g4;have l0:0≤(lenOf (s:Int)).1:=by
   have:=JW ⟨s - 257,by omega⟩
   dsimp only at this
   rwa [show (257:Int)+ ((s - 257:Nat):Int)= (s:Int) by omega] at this
  have d0:0≤(bH (k:Int)).1:=Fm ⟨k,by omega⟩;have hnx:fV sy (dQ (natL sy) s++ (aU ((n:Int) - (lenOf (s:Int)).1).toNat (lenOf (s:Int)).2.toNat++ (dQ (natL di) k++aU ((d:Int) - (bH (k:Int)).1).toNat (bH (k:Int)).2.toNat))++C)= .ok s (aU ((n:Int) - (lenOf (s:Int)).1).toNat (lenOf (s:Int)).2.toNat++ (dQ (natL di) k++aU ((d:Int) - (bH (k:Int)).1).toNat (bH (k:Int)).2.toNat)++C):=by
   rw [agc,pG w7 hh.1]
  have hm:iv di s (aU ((n:Int) - (lenOf (s:Int)).1).toNat (lenOf (s:Int)).2.toNat++ (dQ (natL di) k++aU ((d:Int) - (bH (k:Int)).1).toNat (bH (k:Int)).2.toNat)++C)= .ok (n,d) C:=by
   unfold iv;rw [if_neg (by omega),agc,iw (by omega)]
   dsimp only [Rs.bind]
   rw [agc,pG Bc hh.2]
   dsimp only
   rw [if_neg (by omega),iw (by omega)]
   dsimp only
   rw [show (lenOf (s:Int)).1.toNat+ ((n:Int) - (lenOf (s:Int)).1).toNat=n by omega,show (bH (k:Int)).1.toNat+ ((d:Int) - (bH (k:Int)).1).toNat=d by omega]
  refine⟨(cU n W d).drop W.length,Steps.one ?_⟩;rw [C5 hnx,if_neg (by omega),if_neg (by omega),hm]
  dsimp only
  rw [if_pos (by omega)]
def nT:List Tok→List UInt8→List UInt8→Prop
 | [],W,V=>W=V
 |t::G,W,V=> (eH t=true∧t.d≤(W.length:Int))∧nT G (Iw t W) V
def eO (sy di:List Int) (G:List Tok):List Bool:=G.flatMap (oM sy di)++dQ (natL sy) 256
theorem lZ {sy di:List Int} (w7:w6 sy) (Bc:w6 di) (he:nS sy 256) {C:List Bool} {l:Bool}: ∀ {G:List Tok} {W V:List UInt8},nT G W V→(∀t∈G,tp sy di t)→
  ∃o,Steps ⟨.tl sy di l,eO sy di G++C,W⟩ o (ln l C V)
 | [],W,V,h,hh=>by
  cases h
  exact⟨_,Steps.one (step_end (by unfold eO;rw [List.flatMap_nil,agn];exact pG w7 he))⟩
 |t::G,W,V,h,hh=>by
  obtain⟨o1,s1⟩:=Ix w7 Bc (l:=l) (C:=eO sy di G++C) h.1.1 h.1.2 (hh t (by simp));obtain⟨o2,s2⟩:=lZ w7 Bc he (C:=C) (l:=l) h.2 fun u hu=>hh u (by simp [hu]);have e:eO sy di (t::G)++C=oM sy di t++ (eO sy di G++C):=by unfold eO;rw [ahL];simp
  rw [e];exact⟨_,s1.trans s2⟩
abbrev Ex:=Nat × Nat × Nat
def Fo (out:List Int) (e:Ex):Nat × Int:=if e.1=16 then (3+e.2.2,out.getD (out.length - 1) 0) else if e.1=17 then (3+e.2.2,0) else if e.1=18 then (11+e.2.2,0) else (1,(e.1:Int))
def uQ (out:List Int) (e:Ex):List Int:=out++List.replicate (Fo out e).1 (Fo out e).2
def Fq (out:List Int) (e:Ex):Prop:= (e.1<16∧e.2.1=0∧e.2.2=0)∨(e.1=16∧out≠ []∧e.2.1=2∧e.2.2<4)∨(e.1=17∧e.2.1=3∧e.2.2<8)∨(e.1=18∧e.2.1=7∧e.2.2<128)
def Told:List Int→List Ex→List Int→Prop
 |out,[],l=>out=l
 |out,e::es,l=>Fq out e∧Told (uQ out e) es l
theorem Told.snoc: ∀ {es:List Ex} {out l:List Int} {e:Ex},Told out es l→Fq l e→Told out (es++ [e]) (uQ l e)
 | [],out,l,e,h,hv=>by cases h;exact⟨hv,rfl⟩
 |_::es,out,l,e,h,hv=> ⟨h.1,h.2.snoc hv⟩
theorem Fs {out:List Int} {e:Ex}:out.length< (uQ out e).length:=by
 unfold uQ Fo;rw [af9,agF]
 split
 ·simp;omega
 split
 ·simp;omega
 split
 ·simp;omega
 ·simp
theorem Told.len: ∀ {es:List Ex} {out l:List Int},Told out es l→out.length+es.length≤l.length
 | [],out,l,h=>by cases h;simp
 |e::es,out,l,h=>by have:=h.2.len;have:=Fs (out:=out) (e:=e);rw [agi];omega
def w8 (t:List Int) (e:Ex):List Bool:=dQ (natL t) e.1++aU e.2.2 e.2.1
theorem Oc {out:List Int} {e:Ex} (h:Fq out e) {C:List Bool}:uL e.1 out (aU e.2.2 e.2.1++C)= .ok (Fo out e) C:=by
 unfold uL Fo;rcases h with ⟨h1,h2,h3⟩ | ⟨h1,h2,h3,h4⟩ | ⟨h1,h2,h3⟩ | ⟨h1,h2,h3⟩
 ·rw [if_neg (by omega),if_neg (by omega),if_neg (by omega),if_neg (by omega),if_neg (by omega),if_neg (by omega),h2,h3];rfl
 ·rw [if_pos h1,if_neg h2,if_pos h1,h3,iw h4];rfl
 ·rw [if_neg (by omega),if_pos h1,if_neg (by omega),if_pos h1,h2,iw h3];rfl
 ·rw [if_neg (by omega),if_neg (by omega),if_pos h1,if_neg (by omega),if_neg (by omega),if_pos h1,h2,iw h3];rfl
theorem BD {t:List Int} (ht:w6 t) {C:List Bool}: ∀ {es:List Ex} {out l:List Int} {k:Nat},Told out es l→(∀e∈es,nS t e.1)→es.length<k→oo k t l.length out (es.flatMap (w8 t)++C)= .ok l C
 | [],out,l,0,h,hh,hk=>by simp at hk
 |_::_,out,l,0,h,hh,hk=>by simp at hk
 | [],out,l,k+1,h,hh,hk=>by
  cases h
  rw [oo,if_pos (aga _)];rfl
 |e::es,out,l,k+1,h,hh,hk=>by
  have h1:=h.2.len;have h2:=Fs (out:=out) (e:=e);rw [oo,if_neg (by omega),ahL];unfold w8;rw [agc,agc,pG ht (hh e (by simp))]
  dsimp only [Rs.bind]
  rw [Oc h.1]
  dsimp only
  have h3: (uQ out e).length=out.length+ (Fo out e).1:=by unfold uQ;simp
  rw [if_neg (by omega)];have:=BD ht (C:=C) (k:=k) h.2 (fun u hu=>hh u (by simp [hu])) (by simpa using hk);exact this
def l3 (z:List Int) (o:List Nat):List Bool:=o.flatMap fun s=>aU (z.getD s 0).toNat 3
theorem Ft {z:List Int} (hz: ∀s,0≤z.getD s 0∧z.getD s 0≤7) {C:List Bool}: ∀ (o:List Nat) (l:List Int),pE o l (l3 z o++C)= .ok (o.foldl (fun l s=>l.set s (z.getD s 0)) l) C
 | [],l=>rfl
 |s::o,l=>by
  have h:=hz s;unfold l3;rw [ahL,agc,pE,iw (by omega)]
  dsimp only [Rs.bind]
  rw [show ((z.getD s 0).toNat:Int)=z.getD s 0 by omega];exact Ft hz o _
theorem Fu {z:List Int}: ∀ (o:List Nat) (l:List Int) (i:Nat),i<l.length→(o.foldl (fun l s=>l.set s (z.getD s 0)) l).getD i 0=if i∈o then z.getD i 0 else l.getD i 0
 | [],l,i,h=>by simp
 |s::o,l,i,h=>by
  rw [ah3,Fu o _ i (by rw [ag8];exact h)]
  by_cases h1:i∈o
  ·rw [if_pos h1,if_pos (by simp [h1])]
  ·rw [if_neg h1]
   by_cases h2:i=s
   ·subst h2
    rw [if_pos (by simp),agd,ahC h];rfl
   ·rw [if_neg (by simp [h1,h2]),agd,aiv (fun e=>h2 e.symm),←agd]
theorem Fv {z:List Int}: ∀ (o:List Nat) (l:List Int),(o.foldl (fun l s=>l.set s (z.getD s 0)) l).length=l.length
 | [],l=>rfl
 |s::o,l=>by rw [ah3,Fv o];simp
theorem Lp: ∀i:Fin 19,i.val∈bI:=by decide
theorem Od {z:List Int} {c:Nat} (hl:z.length=19) (h0: ∀j,c≤j→j<19→z.getD (bI.getD j 0) 0=0): (bI.take c).foldl (fun l s=>l.set s (z.getD s 0)) (List.replicate 19 0)=z:=by
 refine ahF (by rw [Fv,hl];simp) fun i h1 h2=>?_;have hi:i<19:=by omega
 have e:=Fu (z:=z) (bI.take c) (List.replicate 19 0) i (by simpa using hi);rw [agd,agb h1,ahi] at e;rw [e];have hz:z.getD i 0=z[i]:=by rw [agd,agb h2];rfl
 by_cases hm:i∈bI.take c
 ·rw [if_pos hm,hz]
 ·rw [if_neg hm,←hz]
  obtain⟨j,hj,PN⟩:=ahZ (Lp ⟨i,hi⟩);have YE:j<19:=hj;have hc:c≤j:=Nat.le_of_not_lt fun h=>hm (by
   rw [←show bI[j]=i from PN];exact List.mem_take_iff_getElem.2 ⟨j,by omega,rfl⟩)
  have:=h0 j hc YE;rw [agd (l:=bI),agb hj,ahi,show bI[j]=i from PN] at this;rw [this,agd,aie,if_pos hi];rfl
structure vT (x y z:List Int) (es:List Ex) (c:Nat):Prop where
 a1:257≤x.length
 a2:x.length≤286
 b1:1≤y.length
 b2:y.length≤30
 c1:4≤c
 c2:c≤19
 zl:z.length=19
 z7: ∀s,0≤z.getD s 0∧z.getD s 0≤7
 z0: ∀j,c≤j→j<19→z.getD (bI.getD j 0) 0=0
 zw:gJ z false=0
 zok:w6 z
 told:Told [] es (x++y)
 has: ∀e∈es,nS z e.1
 xe:x.getD 256 0≠0
 xw:gJ x false=0
 yw:gJ y true=0
def pH (x y z:List Int) (es:List Ex) (c:Nat):List Bool:=aU (x.length - 257+32* (y.length - 1)+1024* (c - 4)) 14++ (l3 z (bI.take c)++es.flatMap (w8 z))
theorem BE {x y z:List Int} {es:List Ex} {c:Nat} (d:vT x y z es c) {C:List Bool}:CW (pH x y z es c++C)= .ok (x,y) C:=by
 have a1:=d.a1;have a2:=d.a2;have b1:=d.b1;have b2:=d.b2;have c1:=d.c1;have c2:=d.c2;unfold CW pH;rw [agc,iw (by omega)]
 dsimp only [Rs.bind]
 rw [show (x.length - 257+32* (y.length - 1)+1024* (c - 4)) %32+257=x.length by omega,show (x.length - 257+32* (y.length - 1)+1024* (c - 4)) /32%32+1=y.length by omega,show (x.length - 257+32* (y.length - 1)+1024* (c - 4)) /1024+4=c by omega];rw [if_neg (by omega),agc,Ft d.z7]
 dsimp only
 rw [Od d.zl d.z0,if_neg (by rw [d.zw];decide)];have hlen: (x++y).length=x.length+y.length:=af9;have Lq:=d.told.len;have:=BD d.zok (C:=C) (k:=x.length+y.length+1) d.told d.has (by simp at Lq;omega);rw [hlen] at this;rw [this]
 dsimp only
 have e1: (x++y).take x.length=x:=ajf rfl;have e2: (x++y).drop x.length=y:=ajg rfl;have e3: (x++y).getD 256 0=x.getD 256 0:=by rw [agd,agM (by omega),←agd]
 rw [e1,e2,e3,if_neg d.xe,if_neg (by rw [d.xw];decide),if_neg (by rw [d.yw];decide)]
theorem Fw {x y z:List Int} {es:List Ex} {c:Nat} (d:vT x y z es c) {C:List Bool} {l:Bool} {W:List UInt8}:dg ⟨.hd,l::false::true:: (pH x y z es c++C),W⟩= .go ⟨.tl x y l,C,W⟩ []:=by
 unfold dg iY
 dsimp only
 rw [N_]
 dsimp only [Rs.bind]
 cases l
 ·rw [show gr [false,false,true]=4 from rfl,if_neg (by decide),if_neg (by decide),if_pos (by decide),BE d];rfl
 ·rw [show gr [true,false,true]=5 from rfl,if_neg (by decide),if_neg (by decide),if_pos (by decide),BE d];rfl
end
end Go.Proofs.YtpcgccdmmoggmaaGreatDoor

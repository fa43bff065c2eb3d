/- Texts of this claim, laid together. No conditions. -/
import Derived.Test.YtnhkikebfinejaaGreatDoorMRickMany6
import Derived.Test.YtnhkikebfinejaaGreatDoorMRickMany8
import Derived.Test.YtnhkikebfinejaaGreatDoorMRickMany11
set_option linter.unusedVariables false
set_option linter.unusedSimpArgs false
set_option maxRecDepth 100000
set_option maxHeartbeats 16000000
namespace Go.Proofs.YtnhkikebfinejaaGreatDoor.Z
open Go Go.RowKit Go.Proofs.YtnhkikebfinejaaGreatDoorW.PrintWords Go.Proofs.YtnhkikebfinejaaGreatDoorW.PrintLast Go.Proofs.YtnhkikebfinejaaGreatDoorW.PrintMore Go.Proofs.YtnhkikebfinejaaGreatDoor.S Go.Proofs.YtnhkikebfinejaaGreatDoor.X
attribute [local go_sem ↓] Go.wp_at_zero Go.wp_at_succ loadKey_eq loadEn_eq storeKey_eq storeEn_eq loadNd_eq storeNd_eq loadMap_eq storeMap_eq loadTab_eq
theorem st_mapnew [Inhabited Sanct] {N:Nat} {m:List Bool} (hm:m.length=512) (W:World) (Z:Array Value) (hz:Z.size=513):(storeMapI (.pointer (some ⟨W.heap.size,0,none⟩)) (.agg (mapA N m))).run Tryz.prog (W.alloc (Obj.cells Z 120)) = .ok () (W.alloc (Obj.cells (mapA N m) 120)):=by
 have:=st_map (g:=W.heap.size) (N:=N) hm hz (W.alloc (Obj.cells Z 120)) (newb rfl)
 rw [World.setRow_alloc_new] at this
 exact this
theorem vgive_calls [Inhabited Sanct] {w:World} {v d N gen:Nat} {m o:List Bool} (h:ViewAt w v d N gen m o) (hm:MapOk N m) (ho:o.length=512) (a:Nat) (ha:2≤a) (haN:a+1≤N) (hu:m[a]?=some true) (gv:sB≤v:=by assumption) :
  Calls Tryz.prog 207 #[.pointer (some ⟨v,0,none⟩),.int .i64 (a:Int)] w fun e w'=>e = .returned (.int .i64 0)∧ViewAt w' v d N gen (setN false m a 1) o∧FrT [246] w w':=by
 obtain ⟨Z0,hZ0⟩:∃ Z,mapA 0 (List.replicate 512 false)=Z:=⟨_,rfl⟩
 have hsz:Z0.size=513:=by rw [← hZ0];exact mapA_len _ (by rw [List.length_replicate])
 have hz:=zero_map
 rw [hZ0] at hz
 have HG:Aside0 (∀ W,Calls Tryz.prog 105 #[.agg (mapA N m),.int .i64 (a:Int),.int .i64 1] W fun e w'=>e = .returned (.tuple #[.agg (mapA N (setN false m a 1)),.int .i64 0])∧Below W.heap.size W w'):=⟨fun W=>give_calls hm a 1 ha haN (fun i h1 h2=>by rw [show i=a by omega];exact hu)⟩
 have hl2:(setN false m a 1).length=512:=by rw [setN_len,hm.len]
 have hlm:=ldv_m (v:=v) (d:=d) (N:=N) (gen:=gen) (o:=o) hm.len
 have hst1:=fun W=>st_mapnew (N:=N) (m:=setN false m a 1) hl2 W Z0 hsz
 have hl1:=fun g=>ld_map (g:=g) (N:=N) hl2
 have hst2:=stv_m (v:=v) (d:=d) (N:=N) (gen:=gen) (o:=o) hm.len hl2 ho
 have HV:=Aside0.mk h
 obtain ⟨M2,hM2⟩:∃ M,setN false m a 1=M:=⟨_,rfl⟩
 rw [hM2] at HG hl2 hst1 hl1 hst2 ⊢
 clear hZ0 hM2 hm ho
 go_enter Tryz.func207,Tryz.ntmps207
 go_wp2_with (go_at_call 105;(with_reducible refine (HG.out _).mono ?_);rintro r w2 ⟨rfl,hb⟩;have hv2:ViewAt w2 v d N gen m o:=blkb hb HV.out;have hv3:ViewAt (w2.alloc (Obj.cells (mapA N M2) 120)) v d N gen m o:=blk_alloc hv2 _;have hx3:(w2.alloc (Obj.cells (mapA N M2) 120)).heap[w2.heap.size]?=some (Obj.cells (mapA N M2) 120):=newb rfl;have hl3:=hl1 _ _ hx3;have HB2:=Aside0.mk hb;have HV3:=Aside0.mk hv3;clear hb)
 go_ret
 exact ⟨rfl,setRow_heap _ _ _ _ _ _ HV3.out,((FrT.of_below HB2.out _).alloc _).setRow HV3.out (by simp) _⟩
end Go.Proofs.YtnhkikebfinejaaGreatDoor.Z
